/- The program's ClientTake returns what the reference's returns, for all arguments, leaves its arguments unmodified and returns memory that it shares with nothing. Text 5 of 6. -/
import Derived.Test.YtccdklkcfjmchaaGreatDoorCtD
import Derived.Shelf.Strconv.AtoiAll
import Derived.Shelf.Strings.OnBuilder
import Derived.Shelf.Strings.Replace
import Derived.ChangeArms
import Derived.DataReads
import Derived.ChangeOld
import Derived.Test.YtccdklkcfjmchaaGreatDoorRows
import Derived.ProofKit
import Derived.OpenShut
import Derived.JoinedOf
import Derived.JoinedAt
import Derived.ChangeVars
import Derived.ChangeMaps5
import Derived.Test.YtccdklkcfjmchaaGreatDoorTie
import Derived.Test.YtccdklkcfjmchaaGreatDoorCards
import Derived.IntWalk
import Derived.Lib.ItoaLen
import Derived.Lib.AtoiAllCases
set_option linter.unusedVariables false
set_option maxRecDepth 100000
set_option linter.unusedSimpArgs false
section
namespace Go.Proofs
open Go.Shelf
def Tryz.laysC172_ren:Go.Shelf.Ren:=⟨fun|172=>87|244=>123|245=>124|247=>144|279=>145|280=>146|281=>147|282=>148|287=>176|316=>177|171=>128|205=>178|321=>197|322=>198|243=>159|246=>183|283=>203|284=>204|285=>205|286=>206|129=>219|317=>218|318=>220|319=>221|320=>222|337=>231|338=>232|n=>n,fun|9=>9|3=>3|75=>121|76=>122|4=>4|5=>5|167=>160|37=>139|0=>0|85=>161|2=>2|168=>163|53=>177|175=>178|46=>157|210=>181|127=>198|145=>201|143=>199|21=>21|171=>205|173=>208|212=>216|51=>174|20=>20|213=>217|232=>229|233=>230|80=>166|n=>n,fun|15=>1|16=>2|17=>3|18=>6|19=>7|n=>n⟩
theorem Tryz.laysC172:Go.Proofs.LaysC.n172 Tryz.prog Tryz.laysC172_ren:={
 mixed:=by kernel_rfl
 f129:=Tryz.func219.trans (congrArg some (by kernel_rfl))
 f171:=Tryz.func128.trans (congrArg some (by kernel_rfl))
 f172:=Tryz.func87.trans (congrArg some (by kernel_rfl))
 f205:=Tryz.func178.trans (congrArg some (by kernel_rfl))
 f243:=Tryz.func159.trans (congrArg some (by kernel_rfl))
 f244:=Tryz.func123.trans (congrArg some (by kernel_rfl))
 f245:=Tryz.func124.trans (congrArg some (by kernel_rfl))
 f246:=Tryz.func183.trans (congrArg some (by kernel_rfl))
 f247:=Tryz.func144.trans (congrArg some (by kernel_rfl))
 f279:=Tryz.func145.trans (congrArg some (by kernel_rfl))
 f280:=Tryz.func146.trans (congrArg some (by kernel_rfl))
 f281:=Tryz.func147.trans (congrArg some (by kernel_rfl))
 f282:=Tryz.func148.trans (congrArg some (by kernel_rfl))
 f283:=Tryz.func203.trans (congrArg some (by kernel_rfl))
 f284:=Tryz.func204.trans (congrArg some (by kernel_rfl))
 f285:=Tryz.func205.trans (congrArg some (by kernel_rfl))
 f286:=Tryz.func206.trans (congrArg some (by kernel_rfl))
 f287:=Tryz.func176.trans (congrArg some (by kernel_rfl))
 f316:=Tryz.func177.trans (congrArg some (by kernel_rfl))
 f317:=Tryz.func218.trans (congrArg some (by kernel_rfl))
 f318:=Tryz.func220.trans (congrArg some (by kernel_rfl))
 f319:=Tryz.func221.trans (congrArg some (by kernel_rfl))
 f320:=Tryz.func222.trans (congrArg some (by kernel_rfl))
 f321:=Tryz.func197.trans (congrArg some (by kernel_rfl))
 f322:=Tryz.func198.trans (congrArg some (by kernel_rfl))
 f337:=Tryz.func231.trans (congrArg some (by kernel_rfl))
 f338:=Tryz.func232.trans (congrArg some (by kernel_rfl))
 t0:=Tryz.underlying0
 a0:=Tryz.isAgg0
 z0:=Tryz.sizeOf0
 v0:=Tryz.zeroValue0
 t2:=Tryz.underlying2
 a2:=Tryz.isAgg2
 z2:=Tryz.sizeOf2
 v2:=Tryz.zeroValue2
 t3:=Tryz.underlying3
 a3:=Tryz.isAgg3
 z3:=Tryz.sizeOf3
 v3:=Tryz.zeroValue3
 t4:=Tryz.underlying4
 a4:=Tryz.isAgg4
 z4:=Tryz.sizeOf4
 v4:=Tryz.zeroValue4
 t5:=Tryz.underlying5
 a5:=Tryz.isAgg5
 z5:=Tryz.sizeOf5
 v5:=Tryz.zeroValue5
 t9:=Tryz.underlying9
 a9:=Tryz.isAgg9
 z9:=Tryz.sizeOf9
 v9:=Tryz.zeroValue9
 t20:=Tryz.underlying20
 a20:=Tryz.isAgg20
 z20:=Tryz.sizeOf20
 v20:=Tryz.zeroValue20
 t21:=Tryz.underlying21
 a21:=Tryz.isAgg21
 z21:=Tryz.sizeOf21
 v21:=Tryz.zeroValue21
 t37:=Tryz.underlying139
 a37:=Tryz.isAgg139
 z37:=Tryz.sizeOf139
 v37:=Tryz.zeroValue139
 t46:=Tryz.underlying157
 a46:=Tryz.isAgg157
 z46:=Tryz.sizeOf157
 v46:=Tryz.zeroValue157
 t51:=Tryz.underlying174
 a51:=Tryz.isAgg174
 z51:=Tryz.sizeOf174
 v51:=Tryz.zeroValue174
 t53:=Tryz.underlying177
 a53:=Tryz.isAgg177
 z53:=Tryz.sizeOf177
 v53:=Tryz.zeroValue177
 t75:=Tryz.underlying121
 a75:=Tryz.isAgg121
 z75:=Tryz.sizeOf121
 v75:=Tryz.zeroValue121
 t76:=Tryz.underlying122
 a76:=Tryz.isAgg122
 z76:=Tryz.sizeOf122
 v76:=Tryz.zeroValue122
 t85:=Tryz.underlying161
 a85:=Tryz.isAgg161
 z85:=Tryz.sizeOf161
 v85:=Tryz.zeroValue161
 t127:=Tryz.underlying198
 a127:=Tryz.isAgg198
 z127:=Tryz.sizeOf198
 v127:=Tryz.zeroValue198
 t143:=Tryz.underlying199
 a143:=Tryz.isAgg199
 z143:=Tryz.sizeOf199
 v143:=Tryz.zeroValue199
 t145:=Tryz.underlying201
 a145:=Tryz.isAgg201
 z145:=Tryz.sizeOf201
 v145:=Tryz.zeroValue201
 t167:=Tryz.underlying160
 a167:=Tryz.isAgg160
 z167:=Tryz.sizeOf160
 v167:=Tryz.zeroValue160
 t168:=Tryz.underlying163
 a168:=Tryz.isAgg163
 z168:=Tryz.sizeOf163
 v168:=Tryz.zeroValue163
 t171:=Tryz.underlying205
 a171:=Tryz.isAgg205
 z171:=Tryz.sizeOf205
 v171:=Tryz.zeroValue205
 t173:=Tryz.underlying208
 a173:=Tryz.isAgg208
 z173:=Tryz.sizeOf208
 v173:=Tryz.zeroValue208
 t175:=Tryz.underlying178
 a175:=Tryz.isAgg178
 z175:=Tryz.sizeOf178
 v175:=Tryz.zeroValue178
 t210:=Tryz.underlying181
 a210:=Tryz.isAgg181
 z210:=Tryz.sizeOf181
 v210:=Tryz.zeroValue181
 t212:=Tryz.underlying216
 a212:=Tryz.isAgg216
 z212:=Tryz.sizeOf216
 v212:=Tryz.zeroValue216
 t213:=Tryz.underlying217
 a213:=Tryz.isAgg217
 z213:=Tryz.sizeOf217
 t232:=Tryz.underlying229
 a232:=Tryz.isAgg229
 z232:=Tryz.sizeOf229
 v232:=Tryz.zeroValue229
 t233:=Tryz.underlying230
 a233:=Tryz.isAgg230
 z233:=Tryz.sizeOf230
 v233:=Tryz.zeroValue230
 g15:=by kernel_rfl
 g16:=by kernel_rfl
 g17:=by kernel_rfl
 g18:=by kernel_rfl
 g19:=by kernel_rfl
 t80:=Tryz.underlying166
 a80:=Tryz.isAgg166
 z80:=Tryz.sizeOf166
 v80:=Tryz.zeroValue166
 i0:=by kernel_rfl
 i2:=by kernel_rfl
 i3:=by kernel_rfl
 i4:=by kernel_rfl
 i5:=by kernel_rfl
 i9:=by kernel_rfl
 i20:=by kernel_rfl
 i21:=by kernel_rfl
 i37:=by kernel_rfl
 i46:=by kernel_rfl
 i51:=by kernel_rfl
 i53:=by kernel_rfl
 i75:=by kernel_rfl
 i76:=by kernel_rfl
 i80:=by kernel_rfl
 i85:=by kernel_rfl
 i127:=by kernel_rfl
 i143:=by kernel_rfl
 i145:=by kernel_rfl
 i167:=by kernel_rfl
 i168:=by kernel_rfl
 i171:=by kernel_rfl
 i173:=by kernel_rfl
 i175:=by kernel_rfl
 i210:=by kernel_rfl
 i212:=by kernel_rfl
 i232:=by kernel_rfl
 i233:=by kernel_rfl
 m15:=by kernel_rfl
 m16:=by kernel_rfl
 m17:=by kernel_rfl
 m18:=by kernel_rfl
 m19:=by kernel_rfl
 c0:=by kernel_rfl
 c2:=by kernel_rfl
 c3:=by kernel_rfl
 c4:=by kernel_rfl
 c5:=by kernel_rfl
 c9:=by kernel_rfl
 c20:=by kernel_rfl
 c21:=by kernel_rfl
 c37:=by kernel_rfl
 c46:=by kernel_rfl
 c51:=by kernel_rfl
 c53:=by kernel_rfl
 c75:=by kernel_rfl
 c76:=by kernel_rfl
 c80:=by kernel_rfl
 c85:=by kernel_rfl
 c127:=by kernel_rfl
 c143:=by kernel_rfl
 c145:=by kernel_rfl
 c167:=by kernel_rfl
 c168:=by kernel_rfl
 c171:=by kernel_rfl
 c173:=by kernel_rfl
 c175:=by kernel_rfl
 c210:=by kernel_rfl
 c212:=by kernel_rfl
 c213:=by kernel_rfl
 c232:=by kernel_rfl
 c233:=by kernel_rfl }
end Go.Proofs
namespace Go.Pi
open Go.Proofs
theorem atoiM:AtoiM E.P 87 1 2 5:=⟨fun s v w h1 h2=>Any.strconv_Atoi_ok Tryz.laysC172 s h1 v h2 w,fun s ev w h1 h2 h3 h4=>by
 cases ha:Lib.atoiAll s.data.toList
 · rename_i v;exact absurd ha (h2.1 v)
 · exact (Any.strconv_Atoi_syntax Tryz.laysC172 s h1 ha ev w h3 h4).mono fun e w' ⟨N,he,_,_,hb⟩=>⟨⟨_,_,he⟩,hb⟩
 · exact absurd ha h2.2,fun s ev w h1 h2 h3 h4=>(Any.strconv_Atoi_range Tryz.laysC172 s h1 h2 ev w h3 h4).mono fun e w' ⟨N,he,_,_,hb⟩=>⟨⟨_,_,he⟩,hb⟩⟩
end Go.Pi
namespace Go.Pi
open Go.Proofs
theorem ca_.ok (n:Nat) (_:CxOk E (cx n ca_.d.nt)) (_:KPar (cx n ca_.d.nt)):ca_.d.Ok E (ca_.F (n+1)):=fun _ _ h=>nAtoi_ok atoiM (.tail _ (.tail _ (.head _))) (.tail _ (.tail _ (.tail _ (.head _)))) h
end Go.Pi
end
section
namespace Go.Proofs
open Go.Shelf
def Tryz.laysM171_ren:Go.Shelf.Ren:=⟨fun|171=>128|243=>159|246=>183|283=>203|284=>204|285=>205|286=>206|129=>219|317=>218|318=>220|319=>221|320=>222|337=>231|338=>232|n=>n,fun|3=>3|9=>9|2=>2|4=>4|171=>205|0=>0|53=>177|37=>139|5=>5|173=>208|212=>216|51=>174|20=>20|213=>217|46=>157|232=>229|233=>230|n=>n,fun|17=>3|18=>6|19=>7|n=>n⟩
theorem Tryz.laysM171:Go.Proofs.LaysM.n171 Tryz.prog Tryz.laysM171_ren:={
 mixed:=by kernel_rfl
 f129:=Tryz.func219.trans (congrArg some (by kernel_rfl))
 f171:=Tryz.func128.trans (congrArg some (by kernel_rfl))
 f243:=Tryz.func159.trans (congrArg some (by kernel_rfl))
 f246:=Tryz.func183.trans (congrArg some (by kernel_rfl))
 f283:=Tryz.func203.trans (congrArg some (by kernel_rfl))
 f284:=Tryz.func204.trans (congrArg some (by kernel_rfl))
 f285:=Tryz.func205.trans (congrArg some (by kernel_rfl))
 f286:=Tryz.func206.trans (congrArg some (by kernel_rfl))
 f317:=Tryz.func218.trans (congrArg some (by kernel_rfl))
 f318:=Tryz.func220.trans (congrArg some (by kernel_rfl))
 f319:=Tryz.func221.trans (congrArg some (by kernel_rfl))
 f320:=Tryz.func222.trans (congrArg some (by kernel_rfl))
 f337:=Tryz.func231.trans (congrArg some (by kernel_rfl))
 f338:=Tryz.func232.trans (congrArg some (by kernel_rfl))
 t0:=Tryz.underlying0
 a0:=Tryz.isAgg0
 z0:=Tryz.sizeOf0
 v0:=Tryz.zeroValue0
 t2:=Tryz.underlying2
 a2:=Tryz.isAgg2
 z2:=Tryz.sizeOf2
 v2:=Tryz.zeroValue2
 t3:=Tryz.underlying3
 a3:=Tryz.isAgg3
 z3:=Tryz.sizeOf3
 v3:=Tryz.zeroValue3
 t4:=Tryz.underlying4
 a4:=Tryz.isAgg4
 z4:=Tryz.sizeOf4
 v4:=Tryz.zeroValue4
 t5:=Tryz.underlying5
 a5:=Tryz.isAgg5
 z5:=Tryz.sizeOf5
 v5:=Tryz.zeroValue5
 t9:=Tryz.underlying9
 a9:=Tryz.isAgg9
 z9:=Tryz.sizeOf9
 v9:=Tryz.zeroValue9
 t20:=Tryz.underlying20
 a20:=Tryz.isAgg20
 z20:=Tryz.sizeOf20
 v20:=Tryz.zeroValue20
 t37:=Tryz.underlying139
 a37:=Tryz.isAgg139
 z37:=Tryz.sizeOf139
 v37:=Tryz.zeroValue139
 t46:=Tryz.underlying157
 a46:=Tryz.isAgg157
 z46:=Tryz.sizeOf157
 v46:=Tryz.zeroValue157
 t51:=Tryz.underlying174
 a51:=Tryz.isAgg174
 z51:=Tryz.sizeOf174
 v51:=Tryz.zeroValue174
 t53:=Tryz.underlying177
 a53:=Tryz.isAgg177
 z53:=Tryz.sizeOf177
 v53:=Tryz.zeroValue177
 t171:=Tryz.underlying205
 a171:=Tryz.isAgg205
 z171:=Tryz.sizeOf205
 v171:=Tryz.zeroValue205
 t173:=Tryz.underlying208
 a173:=Tryz.isAgg208
 z173:=Tryz.sizeOf208
 v173:=Tryz.zeroValue208
 t212:=Tryz.underlying216
 a212:=Tryz.isAgg216
 z212:=Tryz.sizeOf216
 v212:=Tryz.zeroValue216
 t213:=Tryz.underlying217
 a213:=Tryz.isAgg217
 z213:=Tryz.sizeOf217
 t232:=Tryz.underlying229
 a232:=Tryz.isAgg229
 z232:=Tryz.sizeOf229
 v232:=Tryz.zeroValue229
 t233:=Tryz.underlying230
 a233:=Tryz.isAgg230
 z233:=Tryz.sizeOf230
 v233:=Tryz.zeroValue230
 g17:=by kernel_rfl
 g18:=by kernel_rfl
 g19:=by kernel_rfl
 i0:=by kernel_rfl
 i2:=by kernel_rfl
 i3:=by kernel_rfl
 i4:=by kernel_rfl
 i5:=by kernel_rfl
 i9:=by kernel_rfl
 i20:=by kernel_rfl
 i37:=by kernel_rfl
 i46:=by kernel_rfl
 i51:=by kernel_rfl
 i53:=by kernel_rfl
 i171:=by kernel_rfl
 i173:=by kernel_rfl
 i212:=by kernel_rfl
 i232:=by kernel_rfl
 i233:=by kernel_rfl
 m17:=by kernel_rfl
 m18:=by kernel_rfl
 m19:=by kernel_rfl }
open Go.RowKit Go.Sort Go.Lib in
theorem Tryz.strconv_Itoa (n:Int) (h0 : -9223372036854775808≤n) (h1:n≤9223372036854775807) (w:World) (htab:Lib.TabIs Tryz.prog w "internal/strconv.uint64pow10" .u64 Lib.pow10Tab) :
  Calls Tryz.prog 128 #[.int .i64 n] w fun e w'=>e = .returned (.string ⟨(Lib.itoa n).toArray⟩)∧∃ k os,w'=grow (w.drewN k) os:=Any.strconv_Itoa Tryz.laysM171 n h0 h1 w htab
end Go.Proofs
namespace Go.Pi
open Go.Proofs
theorem hy_:E.P.globalNamed "internal/strconv.uint64pow10" = some 3:=by kernel_rfl
theorem strconv_Itoa.ok (n:Nat) (_:CxOk E (cx n strconv_Itoa.d.nt)) (_:KPar (cx n strconv_Itoa.d.nt)):strconv_Itoa.d.Ok E (strconv_Itoa.F (n+1)):=fun _ _ h=>nItoa_ok (fun n h0 h1 w ht=>Tryz.strconv_Itoa n h0 h1 w ht) (.head _) hy_ h
end Go.Pi
end
section
namespace Go.Proofs
open Go.Shelf
def Tryz.lays156_ren:Go.Shelf.Ren:=⟨fun|156=>161|165=>184|166=>185|169=>186|240=>207|241=>208|276=>223|277=>224|n=>n,fun|31=>23|9=>9|3=>3|4=>4|0=>0|20=>20|72=>189|76=>122|70=>187|37=>139|75=>121|127=>198|164=>219|5=>5|80=>166|n=>n,fun|n=>n⟩
theorem Tryz.lays156:Go.Proofs.Lays.n156 Tryz.prog Tryz.lays156_ren:={
 mixed:=by kernel_rfl
 f156:=Tryz.func161.trans (congrArg some (by kernel_rfl))
 f165:=Tryz.func184.trans (congrArg some (by kernel_rfl))
 f166:=Tryz.func185.trans (congrArg some (by kernel_rfl))
 f169:=Tryz.func186.trans (congrArg some (by kernel_rfl))
 f240:=Tryz.func207.trans (congrArg some (by kernel_rfl))
 f241:=Tryz.func208.trans (congrArg some (by kernel_rfl))
 f276:=Tryz.func223.trans (congrArg some (by kernel_rfl))
 f277:=Tryz.func224.trans (congrArg some (by kernel_rfl))
 t0:=Tryz.underlying0
 a0:=Tryz.isAgg0
 z0:=Tryz.sizeOf0
 v0:=Tryz.zeroValue0
 t3:=Tryz.underlying3
 a3:=Tryz.isAgg3
 z3:=Tryz.sizeOf3
 v3:=Tryz.zeroValue3
 t4:=Tryz.underlying4
 a4:=Tryz.isAgg4
 z4:=Tryz.sizeOf4
 v4:=Tryz.zeroValue4
 t9:=Tryz.underlying9
 a9:=Tryz.isAgg9
 z9:=Tryz.sizeOf9
 v9:=Tryz.zeroValue9
 t20:=Tryz.underlying20
 a20:=Tryz.isAgg20
 z20:=Tryz.sizeOf20
 v20:=Tryz.zeroValue20
 t31:=Tryz.underlying23
 a31:=Tryz.isAgg23
 z31:=Tryz.sizeOf23
 v31:=Tryz.zeroValue23
 t37:=Tryz.underlying139
 a37:=Tryz.isAgg139
 z37:=Tryz.sizeOf139
 v37:=Tryz.zeroValue139
 t70:=Tryz.underlying187
 a70:=Tryz.isAgg187
 z70:=Tryz.sizeOf187
 v70:=Tryz.zeroValue187
 t72:=Tryz.underlying189
 a72:=Tryz.isAgg189
 z72:=Tryz.sizeOf189
 v72:=Tryz.zeroValue189
 t75:=Tryz.underlying121
 a75:=Tryz.isAgg121
 z75:=Tryz.sizeOf121
 v75:=Tryz.zeroValue121
 t76:=Tryz.underlying122
 a76:=Tryz.isAgg122
 z76:=Tryz.sizeOf122
 v76:=Tryz.zeroValue122
 t127:=Tryz.underlying198
 a127:=Tryz.isAgg198
 z127:=Tryz.sizeOf198
 v127:=Tryz.zeroValue198
 t164:=Tryz.underlying219
 a164:=Tryz.isAgg219
 z164:=Tryz.sizeOf219
 v164:=Tryz.zeroValue219 }
theorem Tryz.Builder_Extra_156:Builder.Extra Tryz.prog Tryz.lays156_ren:={
 sizeBuilder:=by kernel_rfl
 liesBuilder:=by kernel_rfl
 t5:=Tryz.underlying5
 a5:=Tryz.isAgg5
 z5:=Tryz.sizeOf5
 v5:=Tryz.zeroValue5
 infoByte:=by kernel_rfl
 cellsByte:=by kernel_rfl
 sizeByte:=by kernel_rfl
 neB5:=by decide }
open Go.RowKit Go.Sort Go.Lib in
theorem Tryz.strings_Join_none (a:Option Addr) (c:Nat) (sep:ByteArray) (w:World) :
  Calls Tryz.prog 161 #[.slice a 0 c,.string sep] w fun e w'=>e = .returned (.string ⟨#[]⟩)∧w'=w:=Any.strings_Join_none Tryz.lays156 Tryz.Builder_Extra_156 a c sep w
open Go.RowKit Go.Sort Go.Lib in
theorem Tryz.strings_Join (bk o c:Nat) (xs:List ByteArray) (sep:ByteArray) (w:World) (hcells:∀ (j:Nat) x,xs[j]?=some x→w.cell? ⟨bk,o+j,none⟩=some (.string x)) (hbk:bk<w.heap.size) (hN:xs.length≤140737488355328) (hcap:xs.length≤c) (hlen:(Lib.join (xs.map (·.data.toList)) sep.data.toList).length≤140737488355328) :
  Calls Tryz.prog 161 #[.slice (some ⟨bk,o,none⟩) xs.length c,.string sep] w fun e w'=>e = .returned (.string ⟨(Lib.join (xs.map (·.data.toList)) sep.data.toList).toArray⟩)∧Below w.heap.size w w':=Any.strings_Join Tryz.lays156 Tryz.Builder_Extra_156 bk o c xs sep w hcells hbk hN hcap hlen
end Go.Proofs
namespace Go.Pi
open Go.Proofs
theorem strings_Join.ok (n:Nat) (_:CxOk E (cx n strings_Join.d.nt)) (_:KPar (cx n strings_Join.d.nt)):strings_Join.d.Ok E (strings_Join.F (n+1)):=fun _ _ h=>nJoin_ok ⟨fun a c sep w=>Tryz.strings_Join_none a c sep w,fun bk o c xs sep w h1 h2 h3 h4 h5=>Tryz.strings_Join bk o c xs sep w h1 h2 h3 h4 h5⟩ (fun _=>rfl) h
end Go.Pi
end
section
namespace Go.Proofs
open Go.Shelf
def Tryz.lays155_ren:Go.Shelf.Ren:=⟨fun|155=>181|154=>200|138=>216|165=>184|143=>72|166=>185|197=>217|169=>186|195=>228|218=>229|240=>207|241=>208|219=>111|260=>230|276=>223|277=>224|217=>136|225=>137|224=>138|267=>139|266=>174|314=>175|n=>n,fun|9=>9|3=>3|4=>4|72=>189|0=>0|76=>122|105=>213|21=>21|5=>5|70=>187|20=>20|37=>139|75=>121|127=>198|164=>219|46=>157|119=>225|139=>228|138=>227|146=>175|51=>174|80=>166|n=>n,fun|1=>0|3=>4|4=>5|n=>n⟩
theorem Tryz.lays155:Go.Proofs.Lays.n155 Tryz.prog Tryz.lays155_ren:={
 mixed:=by kernel_rfl
 f138:=Tryz.func216.trans (congrArg some (by kernel_rfl))
 f143:=Tryz.func72.trans (congrArg some (by kernel_rfl))
 f154:=Tryz.func200.trans (congrArg some (by kernel_rfl))
 f155:=Tryz.func181.trans (congrArg some (by kernel_rfl))
 f165:=Tryz.func184.trans (congrArg some (by kernel_rfl))
 f166:=Tryz.func185.trans (congrArg some (by kernel_rfl))
 f169:=Tryz.func186.trans (congrArg some (by kernel_rfl))
 f195:=Tryz.func228.trans (congrArg some (by kernel_rfl))
 f197:=Tryz.func217.trans (congrArg some (by kernel_rfl))
 f217:=Tryz.func136.trans (congrArg some (by kernel_rfl))
 f218:=Tryz.func229.trans (congrArg some (by kernel_rfl))
 f219:=Tryz.func111.trans (congrArg some (by kernel_rfl))
 f224:=Tryz.func138.trans (congrArg some (by kernel_rfl))
 f225:=Tryz.func137.trans (congrArg some (by kernel_rfl))
 f240:=Tryz.func207.trans (congrArg some (by kernel_rfl))
 f241:=Tryz.func208.trans (congrArg some (by kernel_rfl))
 f260:=Tryz.func230.trans (congrArg some (by kernel_rfl))
 f266:=Tryz.func174.trans (congrArg some (by kernel_rfl))
 f267:=Tryz.func139.trans (congrArg some (by kernel_rfl))
 f276:=Tryz.func223.trans (congrArg some (by kernel_rfl))
 f277:=Tryz.func224.trans (congrArg some (by kernel_rfl))
 f314:=Tryz.func175.trans (congrArg some (by kernel_rfl))
 t0:=Tryz.underlying0
 a0:=Tryz.isAgg0
 z0:=Tryz.sizeOf0
 v0:=Tryz.zeroValue0
 t3:=Tryz.underlying3
 a3:=Tryz.isAgg3
 z3:=Tryz.sizeOf3
 v3:=Tryz.zeroValue3
 t4:=Tryz.underlying4
 a4:=Tryz.isAgg4
 z4:=Tryz.sizeOf4
 v4:=Tryz.zeroValue4
 t5:=Tryz.underlying5
 a5:=Tryz.isAgg5
 z5:=Tryz.sizeOf5
 v5:=Tryz.zeroValue5
 t9:=Tryz.underlying9
 a9:=Tryz.isAgg9
 z9:=Tryz.sizeOf9
 v9:=Tryz.zeroValue9
 t20:=Tryz.underlying20
 a20:=Tryz.isAgg20
 z20:=Tryz.sizeOf20
 v20:=Tryz.zeroValue20
 t21:=Tryz.underlying21
 a21:=Tryz.isAgg21
 z21:=Tryz.sizeOf21
 v21:=Tryz.zeroValue21
 t37:=Tryz.underlying139
 a37:=Tryz.isAgg139
 z37:=Tryz.sizeOf139
 v37:=Tryz.zeroValue139
 t46:=Tryz.underlying157
 a46:=Tryz.isAgg157
 z46:=Tryz.sizeOf157
 v46:=Tryz.zeroValue157
 t51:=Tryz.underlying174
 a51:=Tryz.isAgg174
 z51:=Tryz.sizeOf174
 v51:=Tryz.zeroValue174
 t70:=Tryz.underlying187
 a70:=Tryz.isAgg187
 z70:=Tryz.sizeOf187
 v70:=Tryz.zeroValue187
 t72:=Tryz.underlying189
 a72:=Tryz.isAgg189
 z72:=Tryz.sizeOf189
 v72:=Tryz.zeroValue189
 t75:=Tryz.underlying121
 a75:=Tryz.isAgg121
 z75:=Tryz.sizeOf121
 v75:=Tryz.zeroValue121
 t76:=Tryz.underlying122
 a76:=Tryz.isAgg122
 z76:=Tryz.sizeOf122
 v76:=Tryz.zeroValue122
 t105:=Tryz.underlying213
 a105:=Tryz.isAgg213
 z105:=Tryz.sizeOf213
 v105:=Tryz.zeroValue213
 t119:=Tryz.underlying225
 a119:=Tryz.isAgg225
 z119:=Tryz.sizeOf225
 t127:=Tryz.underlying198
 a127:=Tryz.isAgg198
 z127:=Tryz.sizeOf198
 v127:=Tryz.zeroValue198
 t138:=Tryz.underlying227
 a138:=Tryz.isAgg227
 z138:=Tryz.sizeOf227
 v138:=Tryz.zeroValue227
 t139:=Tryz.underlying228
 a139:=Tryz.isAgg228
 z139:=Tryz.sizeOf228
 v139:=Tryz.zeroValue228
 t146:=Tryz.underlying175
 a146:=Tryz.isAgg175
 z146:=Tryz.sizeOf175
 v146:=Tryz.zeroValue175
 t164:=Tryz.underlying219
 a164:=Tryz.isAgg219
 z164:=Tryz.sizeOf219
 v164:=Tryz.zeroValue219
 g1:=by kernel_rfl
 g3:=by kernel_rfl
 g4:=by kernel_rfl }
theorem Tryz.Builder_Extra_155:Builder.Extra Tryz.prog Tryz.lays155_ren:={
 sizeBuilder:=by kernel_rfl
 liesBuilder:=by kernel_rfl
 t5:=Tryz.underlying5
 a5:=Tryz.isAgg5
 z5:=Tryz.sizeOf5
 v5:=Tryz.zeroValue5
 infoByte:=by kernel_rfl
 cellsByte:=by kernel_rfl
 sizeByte:=by kernel_rfl
 neB5:=by decide }
open Go.RowKit Go.Sort Go.Lib in
theorem Tryz.strings_ReplaceAll (s old new:ByteArray) (m:Int) (w:World) (hs:s.size<4294967281) (hm:w.cell? ⟨0,0,none⟩=some (.int .i64 m)) (h1:1≤old.size) (hlen:s.size+Lib.countB s old*new.size≤140737488355328) :
  Calls Tryz.prog 181 #[.string s,.string old,.string new] w fun e w'=>
   e = .returned (.string ⟨(Lib.replaceAll s.data.toList old.data.toList new.data.toList).toArray⟩)∧Below w.heap.size w w':=Any.strings_ReplaceAll Tryz.lays155 Tryz.Builder_Extra_155 s old new m w hs hm h1 hlen
end Go.Proofs
namespace Go.Pi
open Go.Proofs
theorem strings_ReplaceAll.ok (n:Nat) (_:CxOk E (cx n strings_ReplaceAll.d.nt)) (_:KPar (cx n strings_ReplaceAll.d.nt)):strings_ReplaceAll.d.Ok E (strings_ReplaceAll.F (n+1)):=fun _ _ h=>nRepl_ok (g:=0) (fun s old new m w h1 h2 h3 h4=>Tryz.strings_ReplaceAll s old new m w h1 h2 h3 h4) (.tail _ (.head _)) h
end Go.Pi
end
section
namespace Go.Proofs
open Go.Shelf Go.RowKit Go.Lib Go.Pi
section
variable {P:Program}
theorem l8_ (TS TE:TypeId) (TI:TypeId) (Z:Value) (i0:TypeInfo) (uS:P.underlying TS=some (.slice TE)) (uI:P.underlying TI=some (.int .i64)) (hi0:P.info? TE=some i0) (hz2:i0.zero=some Z) (hz0:i0.size=1) (hz1:i0.bytes=16) (hZK:Z.cells.size=1)
  (w:World) (g n c i:Nat) (cur:Array Value) (hg:w.heap[g]?=some (.cells cur TE (0,0))) (hs:cur.size=c) (hnc:n≤c) (hi:i<n)
  (gv m vc:Nat) (curv:Array Value) (Tv:TypeId) (hgv:w.heap[gv]?=some (.cells curv Tv (0,0))) (hmv:m≤curv.size) (us:List Value) (hul:us=curv.toList.take (m)) (h1u:∀ v ∈ us,v.oneCell'=true) (hm:0<m) (hroom:c<n+m)
  (hbig:(n+m)*16≤140737488355328) (h1:∀ v ∈ cur.toList.take (n),v.oneCell'=true) :
  ∃ G N W1 R1 W2 A,Hid (N=w.heap.size)∧n+m≤G∧G≤maxLen ∧
    (∀ ty,(Builtin.append_ #[TS,TI] ty #[.slice (some ⟨g,0,none⟩) i c,.int .i64 ((n:Int)+(m:Int) - (i:Int))]).run P w = .ok (.slice (some ⟨N,0,none⟩) (n+m) G) W1) ∧
    (∀ ty dc,(Builtin.copy_ #[TS,TS] ty #[.slice (some ⟨N,i,none⟩) (n+m - i) dc,.slice (some ⟨gv,0,none⟩) m vc]).run P W1 = .ok (goInt m) (W1.setRow N R1)) ∧
    (W1.setRow N R1).drew=W2 ∧
    (∀ ty dc sc,(Builtin.copy_ #[TS,TS] ty #[.slice (some ⟨N,(i+m),none⟩) (n+m - (i+m)) dc,.slice (some ⟨g,i,none⟩) (n - i) sc]).run P W2 = .ok (goInt (n - i)) (W2.setRow N A)) ∧
    Hid (n+m≤G∧G≤maxLen∧(W2.setRow N A).heap[w.heap.size]?=some (.cells A TE (0,0))∧A.size=G∧A.toList.take ((n+m))=(cur.toList.take (n)).take (i)++us++(cur.toList.take (n)).drop (i)∧w.grownBy (W2.setRow N A) none):=by
 have hul2:us.length=m:=by rw [hul,List.length_take,Array.length_toList];omega
 have hsz:(P.info? TE).map (·.size)=some 1:=by rw [hi0];simp [hz0]
 have hgd:w.drew.heap[g]?=some (.cells cur TE (0,0)):=hg
 have hgl:g<w.heap.size:=(Array.getElem?_eq_some_iff.1 hg).1
 have hgvl:gv<w.heap.size:=(Array.getElem?_eq_some_iff.1 hgv).1
 obtain ⟨olds,holds⟩:∃ olds,olds=(cur.toList.take (n)).take (i):=⟨_,rfl⟩
 have hol:olds.length=i:=by rw [holds];simp [hs];omega
 obtain ⟨G,hG⟩:∃ G,G=grownCap w (n+m) c TE:=⟨_,rfl⟩
 have hGn:n+m≤G:=by rw [hG];exact grownCap_ge w _ _ _
 have hGm:G≤maxLen:=by rw [hG];exact grownCap_le_maxLen w (n+m) c TE (by unfold maxLen;omega)
 obtain ⟨ROW,hROW⟩:∃ ROW:Array Value,ROW=olds.toArray++Builtin.zeroCells Z.cells (n+m - i)++Builtin.zeroCells Z.cells (G - (n+m)):=⟨_,rfl⟩
 have hRl:ROW.size=G:=by rw [hROW];simp [Builtin.zeroCells,hol,hZK];omega
 have hRt:ROW.toList.take (i)=olds:=by
  rw [hROW];simp only [Array.toList_append,List.append_assoc]
  rw [List.take_append_of_le_length (by simp [hol]),List.take_of_length_le (by simp [hol])]
 have hkk:(n:Int)+(m:Int) - (i:Int)=((n+m - i:Nat):Int):=by omega
 have hrz:∀ ty,(Builtin.append_ #[TS,TI] ty #[.slice (some ⟨g,0,none⟩) i c,.int .i64 ((n:Int)+(m:Int) - (i:Int))]).run P w =
   .ok (.slice (some ⟨w.heap.size,0,none⟩) (n+m) G) (w.drew.alloc (.cells ROW TE)):=fun ty=>by
  have h:=Lib.run_append_grow_zeros (P:=P) w TS TI ty TE i0 _ .i64 .i64 uS uI hi0 hz2 (some ⟨g,0,none⟩) i c olds (by
   rw [hz0]
   exact run_firstCells_some w.drew 1 i ⟨g,0,none⟩ i c olds (by rw [Nat.mul_one];exact hol) (fun j v hj=>by
    have hj2:=(List.getElem?_eq_some_iff.1 hj).1
    rw [holds,List.getElem?_take_of_lt (by omega),List.getElem?_take_of_lt (by omega),Array.getElem?_toList] at hj
    rw [Addr.add_lit,Nat.zero_add]
    simp only [World.cell?,hgd]
    exact hj)) (n+m - i) (by omega) (by omega) (by omega) (by omega) (by rw [hz1];omega) (by rw [hz1,show i+(n+m - i)=n+m by omega];exact growslice_fits hroom hbig)
  rw [show i+(n+m - i)=n+m by omega,←hG,←hROW] at h
  rw [hkk]
  exact h
 obtain ⟨N,hN⟩:∃ N,N=w.heap.size:=⟨_,rfl⟩
 rw [←hN] at hrz
 obtain ⟨W1,hW1⟩:∃ W1,W1=w.drew.alloc (.cells ROW TE):=⟨_,rfl⟩
 rw [←hW1] at hrz
 have hN1:W1.heap[N]?=some (.cells ROW TE (0,0)):=by rw [hW1,hN];exact heap_alloc_new w.drew _
 have hold:∀ b,b<w.heap.size→W1.heap[b]?=w.heap[b]?:=fun b hb=>by rw [hW1];exact heap_alloc_old w.drew _ hb
 have hgr1:w.grownBy W1 none:=by rw [hW1];exact ⟨rfl,rfl,rfl,by simp,fun k hk _=>heap_alloc_old w.drew _ hk⟩
 obtain ⟨R1,hR1⟩:∃ R1,R1=(ROW.toList.take (i)++us++ROW.toList.drop (i+us.length)).toArray:=⟨_,rfl⟩
 have hR1s:R1.size=G:=by rw [hR1];simp [hul2,hRl];omega
 have hcp1:∀ ty dc,(Builtin.copy_ #[TS,TS] ty #[.slice (some ⟨N,i,none⟩) (n+m - i) dc,.slice (some ⟨gv,0,none⟩) m vc]).run P W1 = .ok (goInt m) (W1.setRow N R1):=fun ty dc=>by
  have:=cO_ (P:=P) W1 TS TS ty TE 1 N (i) (n+m - i) dc ⟨gv,0,none⟩ m vc ROW TE us uS hsz hN1 (by rw [hul2];simp only [Nat.min_def];split<;>omega)
   (fun j v hj=>by
     have hj2:=(List.getElem?_eq_some_iff.1 hj).1
     rw [hul,List.getElem?_take_of_lt (by omega),Array.getElem?_toList] at hj
     rw [Addr.add_lit,Nat.zero_add]
     simp only [World.cell?,hold gv hgvl,hgv]
     exact hj) (by rw [hul2,hRl];omega) h1u
  rw [this,hR1]
  congr 2
  simp only [Nat.min_def];split<;>omega
 obtain ⟨W2,hW2⟩:∃ W2,W2=(W1.setRow N R1).drew:=⟨_,rfl⟩
 have hN2:W2.heap[N]?=some (.cells R1 TE (0,0)):=by rw [hW2];exact setRow_heap _ _ _ _ _ _ hN1
 have hg2:W2.heap[g]?=some (.cells cur TE (0,0)):=by
  rw [hW2];show (W1.setRow N R1).heap[g]?=_
  rw [setRow_other _ _ _ _ (by omega),hold g hgl];exact hg
 obtain ⟨mv,hmv2⟩:∃ mv,mv=(cur.toList.take (n)).drop (i):=⟨_,rfl⟩
 have hml:mv.length=(n - i):=by rw [hmv2];simp [hs];omega
 obtain ⟨A,hA⟩:∃ A,A=(R1.toList.take ((i+m))++mv++R1.toList.drop ((i+m)+mv.length)).toArray:=⟨_,rfl⟩
 have hcp2:∀ ty dc sc,(Builtin.copy_ #[TS,TS] ty #[.slice (some ⟨N,(i+m),none⟩) (n+m - (i+m)) dc,.slice (some ⟨g,i,none⟩) (n - i) sc]).run P W2 = .ok (goInt (n - i)) (W2.setRow N A):=fun ty dc sc=>by
  have:=cO_ (P:=P) W2 TS TS ty TE 1 N ((i+m)) (n+m - (i+m)) dc ⟨g,i,none⟩ (n - i) sc R1 TE mv uS hsz hN2 (by rw [hml];simp only [Nat.min_def];split<;>omega)
   (fun j v hj=>by
     have hj2:=(List.getElem?_eq_some_iff.1 hj).1
     rw [hmv2,List.getElem?_drop,List.getElem?_take_of_lt (by omega),Array.getElem?_toList] at hj
     rw [Addr.add_lit]
     simp only [World.cell?,hg2]
     exact hj) (by rw [hml,hR1s];omega) (fun v hv=>h1 v (by rw [hmv2] at hv;exact List.mem_of_mem_drop hv))
  rw [this,hA]
  congr 2
  simp only [Nat.min_def];split<;>omega
 have kA:Hid (n+m≤G∧G≤maxLen∧(W2.setRow N A).heap[w.heap.size]?=some (.cells A TE (0,0))∧A.size=G∧A.toList.take ((n+m))=(cur.toList.take (n)).take (i)++us++(cur.toList.take (n)).drop (i)∧w.grownBy (W2.setRow N A) none):=by
  refine ⟨hGn,hGm,by rw [←hN];exact setRow_heap _ _ _ _ _ _ hN2,by rw [hA];simp [hml,hR1s];omega,?_,?_⟩
  · have e1:R1.toList.take ((i+m))=olds++us:=by
     rw [hR1];simp only [List.toList_toArray]
     rw [List.take_append_of_le_length (by simp [hul2,hRl];omega),List.take_of_length_le (by simp [hul2,hRl];omega),hRt]
    rw [hA];simp only [List.toList_toArray]
    rw [e1,List.take_append_of_le_length (by simp [hol,hul2,hml];omega),List.take_of_length_le (by simp [hol,hul2,hml];omega),holds,hmv2]
  · refine ⟨by rw [hW2];exact hgr1.os,by rw [hW2];exact hgr1.tape,by rw [hW2];exact hgr1.output,?_,fun k hk hne => ?_⟩
    · have:(W2.setRow N A).heap.size=W1.heap.size:=by rw [hW2];simp [World.setRow,World.drew]
      rw [this];exact hgr1.size
    · rw [setRow_other _ _ _ _ (by omega),hW2]
      show (W1.setRow N R1).heap[k]?=_
      rw [setRow_other _ _ _ _ (by omega)];exact hold k hk
 exact ⟨G,N,W1,R1,W2,A,hN,hGn,hGm,hrz,hcp1,hW2.symm,hcp2,kA⟩
end
set_option maxRecDepth 1000000 in
theorem InsEnd192 (w:World) (S:Value) (n:Nat) (vals:List Value) (hS:w.ownsRow 0 9 1 S n vals) (gv m vc:Nat) (us:List Value) (hul:us.length=m) (hus:∀ j u,us[j]?=some u→w.cell? ⟨gv,j,none⟩=some u) (h1u:∀ v ∈ us,v.oneCell'=true) (hm:0<m) (hb:(n+m)*16≤140737488355328) :
  Calls Tryz.prog 192 #[S,.int .i64 n,.slice (some ⟨gv,0,none⟩) m vc] w fun e w'=>∃ R,e = .returned R∧w'.ownsRow 0 9 1 R (n+m) (vals++us)∧gu_ w w' (fun b=>b9_ S b≠0) ∧
   ∀ b,b9_ R b≠0→(w.heap.size≤b∨b9_ S b≠0)∧b<w'.heap.size:=by
 obtain ⟨i0,hi0⟩:=Option.isSome_iff_exists.1 (show (Tryz.prog.info? 9).isSome=true by kernel_rfl)
 have hz0:i0.size=1:=by
  have:(Tryz.prog.info? 9).map (·.size)=some 1:=by kernel_rfl
  rw [hi0] at this;simpa using this
 have hz1:i0.bytes=16:=by
  have:(Tryz.prog.info? 9).map (·.bytes)=some 16:=by kernel_rfl
  rw [hi0] at this;simpa using this
 have hz2:i0.zero=some (.string ByteArray.empty):=by
  have:(Tryz.prog.info? 9).bind (·.zero)=some (.string ByteArray.empty):=by kernel_rfl
  rw [hi0] at this;simpa using this
 have hz3:¬ ((m:Int)=0):=by omega
 have mixed:Tryz.prog.follows .mixedOrders=true:=by kernel_rfl
 have key:∀ ty,∃ v' w',(Builtin.append_ #[23,23] ty #[S,.slice (some ⟨gv,0,none⟩) m vc]).run Tryz.prog w = .ok v' w'∧w'.ownsRow 0 9 1 v' (n+m) (vals++us)∧gu_ w w' (fun b=>b9_ S b≠0) ∧
   ∀ b,b9_ v' b≠0→(w.heap.size≤b∨b9_ S b≠0)∧b<w'.heap.size:=fun ty=>by
  have:=dF_ (P:=Tryz.prog) w 23 ty 9 i0 _ Tryz.underlying23 hi0 hz2 (by rw [hz0];rfl) (by rw [hz0];decide) S n vals (by rw [hz0];exact hS) (.slice (some ⟨gv,0,none⟩) m vc) m us (by rw [hz0,Nat.mul_one];exact hul) (.inl ⟨_,_,rfl,fun j u h=>by rw [Addr.add_lit,Nat.zero_add];exact hus j u h⟩) h1u (by unfold maxLen;omega) (by rw [hz1];exact hb)
  rw [hz0] at this
  exact this
 obtain ⟨v',w',k1,k2,k3⟩:=key 23
 rcases (cP_.1 hS).2 with ⟨rfl,rfl⟩|⟨g,c,cur,rfl,-,hg,hnc,hcm,hcs,htake⟩
 · clear key hS hus hz2 hi0 hz0 hz1
   go_enter Tryz.func192,Tryz.ntmps192
   go_wp2_with (at_builtin;refine Lib.wpList_append_run _ rfl _ _ 23 23 rfl _ _ rfl rfl _ _ k1 ?_)
   go_ret
   exact ⟨_,rfl,k2,k3⟩
 · clear key hS hus hz2 hg htake hcs hi0 hz0 hz1
   unfold maxLen at hcm
   go_enter Tryz.func192,Tryz.ntmps192
   go_wp2_with (at_builtin;refine Lib.wpList_append_run _ rfl _ _ 23 23 rfl _ _ rfl rfl _ _ k1 ?_)
   all_goals (go_ret;exact ⟨_,rfl,k2,k3⟩)
set_option maxRecDepth 1000000 in
theorem ms_ (w:World) (S:Value) (n i:Nat) (vals:List Value) (hS:w.ownsRow 0 9 1 S n vals) (U:Value) (us:List Value) (hU:w.ownsRow 0 9 1 U 0 us) (hi:i≤n) :
  Calls Tryz.prog 192 #[S,.int .i64 i,U] w fun e w'=>e = .returned S∧w'=w:=by
 rcases (cP_.1 hS).2 with ⟨rfl,rfl⟩|⟨g,c,cur,rfl,-,hg,hnc,hcm,hcs,htake⟩
 · have hi0:i=0:=by omega
   subst hi0
   rcases (cP_.1 hU).2 with ⟨rfl,-⟩|⟨gv,vc,curv,rfl,-,hgv,hmc,hcm,hcs,htake⟩
   · clear hS hU
     go_enter Tryz.func192,Tryz.ntmps192
     go_wp2_with fail
     go_ret
     exact ⟨rfl,rfl⟩
   · clear hS hU hgv hcs htake
     go_enter Tryz.func192,Tryz.ntmps192
     go_wp2_with fail
     go_ret
     exact ⟨rfl,rfl⟩
 · unfold maxLen at hcm
   have hic:i≤c:=by omega
   rcases (cP_.1 hU).2 with ⟨rfl,-⟩|⟨gv,vc,curv,rfl,-,hgv,hmc,hcm2,hcs2,htake2⟩
   · clear hS hU hg hcs htake
     go_enter Tryz.func192,Tryz.ntmps192
     go_wp2_with fail
     all_goals (go_ret;exact ⟨rfl,rfl⟩)
   · clear hS hU hg hcs htake hgv hcs2 htake2
     go_enter Tryz.func192,Tryz.ntmps192
     go_wp2_with fail
     all_goals (go_ret;exact ⟨rfl,rfl⟩)
set_option maxRecDepth 1000000 in
theorem kU_ (w:World) (g n c i:Nat) (cur:Array Value) (hg:w.heap[g]?=some (.cells cur 9 (0,0))) (hs:cur.size=c) (hc:c≤9223372036854775807) (hi:i<n)
  (gv m vc:Nat) (curv:Array Value) (Tv:TypeId) (hgv:w.heap[gv]?=some (.cells curv Tv (0,0))) (hmv:m≤curv.size) (hne:gv≠g) (us:List Value) (hul:us=curv.toList.take (m)) (h1u:∀ v ∈ us,v.oneCell'=true) (hm:0<m) (hroom:n+m≤c)
  (h1:∀ v ∈ cur.toList.take (n),v.oneCell'=true) :
  Calls Tryz.prog 192 #[.slice (some ⟨g,0,none⟩) n c,.int .i64 i,.slice (some ⟨gv,0,none⟩) m vc] w fun e w'=>e = .returned (.slice (some ⟨g,0,none⟩) (n+m) c) ∧
   ∃ A,w'=w.drew.setRow g A∧A.size=cur.size∧A.toList.take ((n+m))=(cur.toList.take (n)).take (i)++us++(cur.toList.take (n)).drop (i):=by
 have hsz:(Tryz.prog.info? 9).map (·.size)=some 1:=by kernel_rfl
 have hul2:us.length=m:=by rw [hul,List.length_take,Array.length_toList];omega
 have hov:∀ lb cb,(callFunc 211 #[.slice (some ⟨gv,0,none⟩) m vc,.slice (some ⟨g,(i+m),none⟩) lb cb]).run Tryz.prog w = .ok (.value (.bool false)) w:=fun lb cb=>by
  rw [run_callFunc_extern Tryz.func211 (by kernel_rfl) (by kernel_rfl) (by kernel_rfl) (e:=Extern.SlicesOverlaps.overlaps #[23,23] #[4]) (by kernel_rfl),
   Lib.run_overlaps_apart w 23 4 9 Tryz.underlying23 1 Tryz.sizeOf9 ⟨gv,0,none⟩ ⟨g,(i+m),none⟩ m vc lb cb hne Tv 9 curv.size cur.size (by simp [World.shape?,hgv]) (by simp [World.shape?,hg]) (by omega) (by simp [World.frozen?,hgv]) (by simp [World.frozen?,hgv])]
  rfl
 obtain ⟨mv,hmv2⟩:∃ mv,mv=(cur.toList.take (n)).drop (i):=⟨_,rfl⟩
 have hml:mv.length=(n - i):=by rw [hmv2];simp [hs];omega
 have hgd:w.drew.heap[g]?=some (.cells cur 9 (0,0)):=hg
 obtain ⟨B,hB⟩:∃ B,B=(cur.toList.take ((i+m))++mv++cur.toList.drop ((i+m)+mv.length)).toArray:=⟨_,rfl⟩
 have hcp1:∀ ty dc sc,(Builtin.copy_ #[23,23] ty #[.slice (some ⟨g,(i+m),none⟩) (n+m - (i+m)) dc,.slice (some ⟨g,i,none⟩) (n+m - i) sc]).run Tryz.prog w.drew = .ok (goInt (n - i)) (w.drew.setRow g B):=fun ty dc sc=>by
  have:=cO_ (P:=Tryz.prog) w.drew 23 23 ty 9 1 g ((i+m)) (n+m - (i+m)) dc ⟨g,i,none⟩ (n+m - i) sc cur 9 mv Tryz.underlying23 hsz hgd (by rw [hml];simp only [Nat.min_def];split<;>omega)
   (fun j v hj=>by
     have hj2:=(List.getElem?_eq_some_iff.1 hj).1
     rw [hmv2,List.getElem?_drop,List.getElem?_take_of_lt (by omega),Array.getElem?_toList] at hj
     rw [Addr.add_lit]
     simp only [World.cell?,hgd]
     exact hj) (by rw [hml,hs];omega) (fun v hv=>h1 v (by rw [hmv2] at hv;exact List.mem_of_mem_drop hv))
  rw [this,hB]
  congr 2
  simp only [Nat.min_def];split<;>omega
 have hBs:B.size=cur.size:=by rw [hB];simp [hml,hs];omega
 have hgB:(w.drew.setRow g B).heap[g]?=some (.cells B 9 (0,0)):=setRow_heap _ _ _ _ _ _ hgd
 obtain ⟨A,hA⟩:∃ A,A=(B.toList.take (i)++us++B.toList.drop (i+us.length)).toArray:=⟨_,rfl⟩
 have hcp2:∀ ty dc,(Builtin.copy_ #[23,23] ty #[.slice (some ⟨g,i,none⟩) (n+m - i) dc,.slice (some ⟨gv,0,none⟩) m vc]).run Tryz.prog (w.drew.setRow g B) = .ok (goInt m) (w.drew.setRow g A):=fun ty dc=>by
  have:=cO_ (P:=Tryz.prog) (w.drew.setRow g B) 23 23 ty 9 1 g (i) (n+m - i) dc ⟨gv,0,none⟩ m vc B 9 us Tryz.underlying23 hsz hgB (by rw [hul2];simp only [Nat.min_def];split<;>omega)
   (fun j v hj=>by
     have hj2:=(List.getElem?_eq_some_iff.1 hj).1
     rw [hul,List.getElem?_take_of_lt (by omega),Array.getElem?_toList] at hj
     rw [Addr.add_lit,Nat.zero_add]
     have e:(w.drew.setRow g B).heap[gv]?=some (.cells curv Tv (0,0)):=by rw [setRow_other _ _ _ _ hne];exact hgv
     simp only [World.cell?,e]
     exact hj) (by rw [hul2,hBs,hs];omega) h1u
  rw [this,hA,setRow_setRow]
  congr 2
  simp only [Nat.min_def];split<;>omega
 have kA:Hid (A.size=cur.size∧A.toList.take ((n+m))=(cur.toList.take (n)).take (i)++us++mv):=by
  have e1:B.toList.take (i)=(cur.toList.take (n)).take (i):=by
   rw [hB];simp only [List.toList_toArray,List.append_assoc]
   rw [List.take_append_of_le_length (by simp [hs];omega),List.take_take,List.take_take]
   congr 1;omega
  have e2:(B.toList.drop (i+us.length)).take mv.length=mv:=by
   rw [hB];simp only [List.toList_toArray,List.append_assoc]
   rw [List.drop_append,List.drop_eq_nil_of_le (by simp [hul2,hs];omega),List.nil_append,List.length_take,show i+us.length - min ((i+m)) cur.toList.length=0 by simp [hul2,hs];omega,List.drop_zero,List.take_append_of_le_length (Nat.le_refl _),List.take_of_length_le (Nat.le_refl _)]
  refine ⟨by rw [hA];simp [hul2,hBs,hs];omega,?_⟩
  rw [hA];simp only [List.toList_toArray]
  rw [List.take_append,List.take_of_length_le (by simp [hul2,hBs,hs];omega),e1]
  congr 1
  rw [show (n+m) - (List.take (i) (List.take (n) cur.toList)++us).length=mv.length by simp [hul2,hml,hs];omega]
  exact e2
 rw [hmv2] at kA
 have hnc:n≤c:=by omega
 have hic:i≤c:=by omega
 have hz1:¬ ((m:Int)=0):=by omega
 have hz2:¬ ((i:Int)=(n:Int)):=by omega
 have mixed:Tryz.prog.follows .mixedOrders=true:=by kernel_rfl
 have hw1:IntKind.i64.wrap ((i:Int)+(m:Int))=(i:Int)+(m:Int):=by rw [IntKind.wrap_i64];omega
 have hb1:(0:Int)≤(i:Int)+(m:Int):=by omega
 have hin:i≤n:=by omega
 have htn:((i:Int)+(m:Int)).toNat=i+m:=by omega
 have hb2:¬ (c=i+m):=by omega
 have hb3:(i:Int)≤(n:Int)+(m:Int):=by omega
 have hb4:¬ (c=i):=by omega
 clear hB hBs hgB hA hmv2 hml hgd hg hgv hul hul2 h1 h1u hsz hs hmv
 go_enter Tryz.func192,Tryz.ntmps192
 go_wp2_with (simp only [hov])
 go_region_law_o (refine dp_ rfl _ _ 23 23 rfl _ _ (by simp [Act.eval,Act.put]) (by simp [Act.eval,Act.put]) (hcp1 _ _ _) ?_)
 go_wp2_with (at_builtin;refine eu_ _ rfl _ _ 23 23 rfl _ _ rfl rfl (hcp2 _ _) ?_)
 go_ret
 exact ⟨rfl,A,rfl,kA.out.1,kA.out.2⟩
set_option maxRecDepth 1000000 in
theorem mu_ (w:World) (g n c i:Nat) (cur:Array Value) (hg:w.heap[g]?=some (.cells cur 9 (0,0))) (hs:cur.size=c) (hnc:n≤c) (hi:i<n)
  (gv m vc:Nat) (curv:Array Value) (Tv:TypeId) (hgv:w.heap[gv]?=some (.cells curv Tv (0,0))) (hmv:m≤curv.size) (us:List Value) (hul:us=curv.toList.take (m)) (h1u:∀ v ∈ us,v.oneCell'=true) (hm:0<m) (hroom:c<n+m)
  (hbig:(n+m)*16≤140737488355328) (h1:∀ v ∈ cur.toList.take (n),v.oneCell'=true) :
  Calls Tryz.prog 192 #[.slice (some ⟨g,0,none⟩) n c,.int .i64 i,.slice (some ⟨gv,0,none⟩) m vc] w fun e w'=>∃ C A,e = .returned (.slice (some ⟨w.heap.size,0,none⟩) (n+m) C)∧n+m≤C∧C≤maxLen ∧
   w'.heap[w.heap.size]?=some (.cells A 9 (0,0))∧A.size=C∧A.toList.take ((n+m))=(cur.toList.take (n)).take (i)++us++(cur.toList.take (n)).drop (i)∧w.grownBy w' none:=by
 obtain ⟨i0,hi0⟩:=Option.isSome_iff_exists.1 (show (Tryz.prog.info? 9).isSome=true by kernel_rfl)
 have hz0:i0.size=1:=by
  have:(Tryz.prog.info? 9).map (·.size)=some 1:=by kernel_rfl
  rw [hi0] at this;simpa using this
 have hz1:i0.bytes=16:=by
  have:(Tryz.prog.info? 9).map (·.bytes)=some 16:=by kernel_rfl
  rw [hi0] at this;simpa using this
 have hz2:i0.zero=some (.string ByteArray.empty):=by
  have:(Tryz.prog.info? 9).bind (·.zero)=some (.string ByteArray.empty):=by kernel_rfl
  rw [hi0] at this;simpa using this
 obtain ⟨G,N,W1,R1,W2,A,hNN,hGn,hGm,hrz,hcp1,hW2',hcp2,kA⟩:=l8_ 23 9 3 _ i0 Tryz.underlying23 Tryz.underlying3 hi0 hz2 hz0 hz1 rfl w g n c i cur hg hs hnc hi gv m vc curv Tv hgv hmv us hul h1u hm hroom hbig h1
 have hic:i≤c:=by omega
 have hz3:¬ ((m:Int)=0):=by omega
 have hz4:¬ ((i:Int)=(n:Int)):=by omega
 have hz5:(c:Int)<(n:Int)+(m:Int):=by omega
 have mixed:Tryz.prog.follows .mixedOrders=true:=by kernel_rfl
 have hG63:G≤9223372036854775807:=by unfold maxLen at hGm;omega
 have hw1:IntKind.i64.wrap ((n:Int)+(m:Int))=(n:Int)+(m:Int):=by rw [IntKind.wrap_i64];omega
 have hw2:IntKind.i64.wrap ((n:Int)+(m:Int) - (i:Int))=(n:Int)+(m:Int) - (i:Int):=by rw [IntKind.wrap_i64];omega
 have hw3:IntKind.i64.wrap ((i:Int)+(m:Int))=(i:Int)+(m:Int):=by rw [IntKind.wrap_i64];omega
 have hb1:(0:Int)≤(i:Int)+(m:Int):=by omega
 have htn:((i:Int)+(m:Int)).toNat=i+m:=by omega
 have hGi:¬ (G=i):=by omega
 have hGim:¬ (G=i+m):=by omega
 have hb3:(i:Int)≤(n:Int)+(m:Int):=by omega
 have hb4:¬ (c=i):=by omega
 have hinm:i≤n+m:=by omega
 have himn:i+m≤n+m:=by omega
 have hin:i≤n:=by omega
 clear hul h1 h1u hg hgv hs hmv hz0 hz1 hz2 hi0 hbig
 go_enter Tryz.func192,Tryz.ntmps192
 go_wp2_with (at_builtin;refine Lib.wpList_append_run _ rfl _ _ 23 3 rfl _ _ rfl rfl _ _ (hrz _) ?_)
 go_region_law_o (simp only [hW2'];refine dp_ rfl _ _ 23 23 rfl _ _ (by simp [Act.eval,Act.put]) (by simp [Act.eval,Act.put]) (hcp2 _ _ _) ?_)
 go_wp2_with fail
 go_ret
 exact ⟨G,A,by rw [hNN.out];rfl,kA.out⟩
theorem insM192:InsM Tryz.prog 192 9 1 16:=by
 intro w S n vals U m us i hS hU hdis hi h1 h1u hb
 simp only [Nat.mul_one]
 have hvl:=(cP_.1 hS).1
 by_cases hm:m=0
 · subst hm
   have hus:us=[]:=by have:=(cP_.1 hU).1;(try rw [Nat.zero_mul] at this);exact List.eq_nil_of_length_eq_zero this
   subst hus
   refine (ms_ w S n i vals hS U [] hU hi).mono ?_
   rintro e w' ⟨rfl,rfl⟩
   refine ⟨S,rfl,by rw [List.append_nil,List.take_append_drop];exact hS,⟨rfl,rfl,rfl,Nat.le_refl _,fun _ _ _=>rfl⟩,fun b hb=>⟨.inr hb,iK_ hS b hb⟩⟩
 · rcases (cP_.1 hU).2 with ⟨rfl,h0⟩|⟨gv,vc,curv,rfl,-,hgv,hmc,hcm,hcs,htake⟩
   · exact absurd h0 hm
   · by_cases hin:i=n
     · subst hin
       rw [List.take_of_length_le (by omega),List.drop_eq_nil_of_le (by omega),List.append_nil]
       exact InsEnd192 w S i vals hS gv m vc us (cP_.1 hU).1 (fun j u h=>by have:=hU.cells (g:=gv) rfl j u h;rwa [Addr.add_lit,Nat.zero_add] at this) h1u (by omega) hb
     · rcases (cP_.1 hS).2 with ⟨rfl,h0⟩|⟨g,c,cur,rfl,-,hg,hnc,hcm',hcs',htake'⟩
       · omega
       · have hne:gv≠g:=fun e=>by subst e;have:=hdis gv (by simp [b9_]);simp [b9_] at this
         have hmv:m≤curv.size:=by rw [hcs];exact hmc
         by_cases hroom:n+m≤c
         · refine (kU_ w g n c i cur hg hcs' (by unfold maxLen at hcm';omega) (by omega) gv m vc curv 9 hgv hmv hne us htake.symm h1u (by omega) hroom (by rw [htake'];exact h1)).mono ?_
           rintro e w' ⟨rfl,A,rfl,hA,ht⟩
           rw [htake'] at ht
           have hgd:w.drew.heap[g]?=some (.cells cur 9 (0,0)):=hg
           have hA2:=setRow_heap w.drew g cur A _ _ hgd
           refine ⟨_,rfl,cP_.2 ⟨by rw [←ht];simp [hA,hcs'];omega,.inr ⟨g,c,A,rfl,Nat.zero_le _,hA2,hroom,hcm',by rw [hA,hcs'],ht⟩⟩,⟨rfl,rfl,rfl,f4_ w g A,fun b _ hn => ?_⟩,fun b hb=>⟨.inr hb,?_⟩⟩
           · rw [setRow_other _ _ _ _ (fun e=>hn (by subst e;simp [b9_]))];rfl
           · have:g=b:=by simp only [b9_] at hb;exact Classical.byContradiction fun h=>hb (if_neg h)
             subst this
             exact (Array.getElem?_eq_some_iff.1 hA2).1
         · refine (mu_ w g n c i cur hg hcs' hnc (by omega) gv m vc curv 9 hgv hmv us htake.symm h1u (by omega) (by omega) hb (by rw [htake'];exact h1)).mono ?_
           rintro e w' ⟨C,A,rfl,hC,hCm,hN,hA,ht,hgr⟩
           rw [htake'] at ht
           refine ⟨_,rfl,cP_.2 ⟨by rw [←ht];simp [hA];omega,.inr ⟨_,C,A,rfl,Nat.zero_le _,hN,hC,hCm,hA,ht⟩⟩,⟨hgr.os,hgr.tape,hgr.output,hgr.size,fun b hb _=>hgr.block b hb (by simp)⟩,fun b hb => ?_⟩
           have:w.heap.size=b:=by simp only [b9_] at hb;exact Classical.byContradiction fun h=>hb (if_neg h)
           subst this
           exact ⟨.inl (Nat.le_refl _),(Array.getElem?_eq_some_iff.1 hN).1⟩
end Go.Proofs
namespace Go.Pi
open Go.Proofs
theorem a5_.ok (n:Nat) (_:CxOk E (cx n a5_.d.nt)) (_:KPar (cx n a5_.d.nt)):a5_.d.Ok E (a5_.F (n+1)):=fun _ _ h=>nIns_ok (t:=.str) (m1:=.d) (m2:=.d) (by decide) (by decide) insM192 h
end Go.Pi
end
section
namespace Go.Proofs
open Go.Shelf Go.RowKit Go.Lib Go.Pi
section
variable {P:Program}
theorem l7_ (TS TE:TypeId) (TI:TypeId) (Z:Value) (i0:TypeInfo) (uS:P.underlying TS=some (.slice TE)) (uI:P.underlying TI=some (.int .i64)) (hi0:P.info? TE=some i0) (hz2:i0.zero=some Z) (hz0:i0.size=5) (hz1:i0.bytes=80) (hZK:Z.cells.size=5)
  (w:World) (g n c i:Nat) (cur:Array Value) (hg:w.heap[g]?=some (.cells cur TE (0,0))) (hs:cur.size=c*5) (hnc:n≤c) (hi:i<n)
  (gv m vc:Nat) (curv:Array Value) (Tv:TypeId) (hgv:w.heap[gv]?=some (.cells curv Tv (0,0))) (hmv:m*5≤curv.size) (us:List Value) (hul:us=curv.toList.take (m*5)) (h1u:∀ v ∈ us,v.oneCell'=true) (hm:0<m) (hroom:c<n+m)
  (hbig:(n+m)*80≤140737488355328) (h1:∀ v ∈ cur.toList.take (n*5),v.oneCell'=true) :
  ∃ G N W1 R1 W2 A,Hid (N=w.heap.size)∧n+m≤G∧G≤maxLen ∧
    (∀ ty,(Builtin.append_ #[TS,TI] ty #[.slice (some ⟨g,0,none⟩) i c,.int .i64 ((n:Int)+(m:Int) - (i:Int))]).run P w = .ok (.slice (some ⟨N,0,none⟩) (n+m) G) W1) ∧
    (∀ ty dc,(Builtin.copy_ #[TS,TS] ty #[.slice (some ⟨N,i*5,none⟩) (n+m - i) dc,.slice (some ⟨gv,0,none⟩) m vc]).run P W1 = .ok (goInt m) (W1.setRow N R1)) ∧
    (W1.setRow N R1).drew=W2 ∧
    (∀ ty dc sc,(Builtin.copy_ #[TS,TS] ty #[.slice (some ⟨N,(i+m)*5,none⟩) (n+m - (i+m)) dc,.slice (some ⟨g,i*5,none⟩) (n - i) sc]).run P W2 = .ok (goInt (n - i)) (W2.setRow N A)) ∧
    Hid (n+m≤G∧G≤maxLen∧(W2.setRow N A).heap[w.heap.size]?=some (.cells A TE (0,0))∧A.size=G*5∧A.toList.take ((n+m)*5)=(cur.toList.take (n*5)).take (i*5)++us++(cur.toList.take (n*5)).drop (i*5)∧w.grownBy (W2.setRow N A) none):=by
 have hul2:us.length=m*5:=by rw [hul,List.length_take,Array.length_toList];omega
 have hsz:(P.info? TE).map (·.size)=some 5:=by rw [hi0];simp [hz0]
 have hgd:w.drew.heap[g]?=some (.cells cur TE (0,0)):=hg
 have hgl:g<w.heap.size:=(Array.getElem?_eq_some_iff.1 hg).1
 have hgvl:gv<w.heap.size:=(Array.getElem?_eq_some_iff.1 hgv).1
 obtain ⟨olds,holds⟩:∃ olds,olds=(cur.toList.take (n*5)).take (i*5):=⟨_,rfl⟩
 have hol:olds.length=i*5:=by rw [holds];simp [hs];omega
 obtain ⟨G,hG⟩:∃ G,G=grownCap w (n+m) c TE:=⟨_,rfl⟩
 have hGn:n+m≤G:=by rw [hG];exact grownCap_ge w _ _ _
 have hGm:G≤maxLen:=by rw [hG];exact grownCap_le_maxLen w (n+m) c TE (by unfold maxLen;omega)
 obtain ⟨ROW,hROW⟩:∃ ROW:Array Value,ROW=olds.toArray++Builtin.zeroCells Z.cells (n+m - i)++Builtin.zeroCells Z.cells (G - (n+m)):=⟨_,rfl⟩
 have hRl:ROW.size=G*5:=by rw [hROW];simp [Builtin.zeroCells,hol,hZK];omega
 have hRt:ROW.toList.take (i*5)=olds:=by
  rw [hROW];simp only [Array.toList_append,List.append_assoc]
  rw [List.take_append_of_le_length (by simp [hol]),List.take_of_length_le (by simp [hol])]
 have hkk:(n:Int)+(m:Int) - (i:Int)=((n+m - i:Nat):Int):=by omega
 have hrz:∀ ty,(Builtin.append_ #[TS,TI] ty #[.slice (some ⟨g,0,none⟩) i c,.int .i64 ((n:Int)+(m:Int) - (i:Int))]).run P w =
   .ok (.slice (some ⟨w.heap.size,0,none⟩) (n+m) G) (w.drew.alloc (.cells ROW TE)):=fun ty=>by
  have h:=Lib.run_append_grow_zeros (P:=P) w TS TI ty TE i0 _ .i64 .i64 uS uI hi0 hz2 (some ⟨g,0,none⟩) i c olds (by
   rw [hz0]
   exact run_firstCells_some w.drew 5 i ⟨g,0,none⟩ i c olds hol (fun j v hj=>by
    have hj2:=(List.getElem?_eq_some_iff.1 hj).1
    rw [holds,List.getElem?_take_of_lt (by omega),List.getElem?_take_of_lt (by omega),Array.getElem?_toList] at hj
    rw [Addr.add_lit,Nat.zero_add]
    simp only [World.cell?,hgd]
    exact hj)) (n+m - i) (by omega) (by omega) (by omega) (by omega) (by rw [hz1];omega) (by rw [hz1,show i+(n+m - i)=n+m by omega];exact growslice_fits hroom hbig)
  rw [show i+(n+m - i)=n+m by omega,←hG,←hROW] at h
  rw [hkk]
  exact h
 obtain ⟨N,hN⟩:∃ N,N=w.heap.size:=⟨_,rfl⟩
 rw [←hN] at hrz
 obtain ⟨W1,hW1⟩:∃ W1,W1=w.drew.alloc (.cells ROW TE):=⟨_,rfl⟩
 rw [←hW1] at hrz
 have hN1:W1.heap[N]?=some (.cells ROW TE (0,0)):=by rw [hW1,hN];exact heap_alloc_new w.drew _
 have hold:∀ b,b<w.heap.size→W1.heap[b]?=w.heap[b]?:=fun b hb=>by rw [hW1];exact heap_alloc_old w.drew _ hb
 have hgr1:w.grownBy W1 none:=by rw [hW1];exact ⟨rfl,rfl,rfl,by simp,fun k hk _=>heap_alloc_old w.drew _ hk⟩
 obtain ⟨R1,hR1⟩:∃ R1,R1=(ROW.toList.take (i*5)++us++ROW.toList.drop (i*5+us.length)).toArray:=⟨_,rfl⟩
 have hR1s:R1.size=G*5:=by rw [hR1];simp [hul2,hRl];omega
 have hcp1:∀ ty dc,(Builtin.copy_ #[TS,TS] ty #[.slice (some ⟨N,i*5,none⟩) (n+m - i) dc,.slice (some ⟨gv,0,none⟩) m vc]).run P W1 = .ok (goInt m) (W1.setRow N R1):=fun ty dc=>by
  have:=cO_ (P:=P) W1 TS TS ty TE 5 N (i*5) (n+m - i) dc ⟨gv,0,none⟩ m vc ROW TE us uS hsz hN1 (by rw [hul2];simp only [Nat.min_def];split<;>omega)
   (fun j v hj=>by
     have hj2:=(List.getElem?_eq_some_iff.1 hj).1
     rw [hul,List.getElem?_take_of_lt (by omega),Array.getElem?_toList] at hj
     rw [Addr.add_lit,Nat.zero_add]
     simp only [World.cell?,hold gv hgvl,hgv]
     exact hj) (by rw [hul2,hRl];omega) h1u
  rw [this,hR1]
  congr 2
  simp only [Nat.min_def];split<;>omega
 obtain ⟨W2,hW2⟩:∃ W2,W2=(W1.setRow N R1).drew:=⟨_,rfl⟩
 have hN2:W2.heap[N]?=some (.cells R1 TE (0,0)):=by rw [hW2];exact setRow_heap _ _ _ _ _ _ hN1
 have hg2:W2.heap[g]?=some (.cells cur TE (0,0)):=by
  rw [hW2];show (W1.setRow N R1).heap[g]?=_
  rw [setRow_other _ _ _ _ (by omega),hold g hgl];exact hg
 obtain ⟨mv,hmv2⟩:∃ mv,mv=(cur.toList.take (n*5)).drop (i*5):=⟨_,rfl⟩
 have hml:mv.length=(n - i)*5:=by rw [hmv2];simp [hs];omega
 obtain ⟨A,hA⟩:∃ A,A=(R1.toList.take ((i+m)*5)++mv++R1.toList.drop ((i+m)*5+mv.length)).toArray:=⟨_,rfl⟩
 have hcp2:∀ ty dc sc,(Builtin.copy_ #[TS,TS] ty #[.slice (some ⟨N,(i+m)*5,none⟩) (n+m - (i+m)) dc,.slice (some ⟨g,i*5,none⟩) (n - i) sc]).run P W2 = .ok (goInt (n - i)) (W2.setRow N A):=fun ty dc sc=>by
  have:=cO_ (P:=P) W2 TS TS ty TE 5 N ((i+m)*5) (n+m - (i+m)) dc ⟨g,i*5,none⟩ (n - i) sc R1 TE mv uS hsz hN2 (by rw [hml];simp only [Nat.min_def];split<;>omega)
   (fun j v hj=>by
     have hj2:=(List.getElem?_eq_some_iff.1 hj).1
     rw [hmv2,List.getElem?_drop,List.getElem?_take_of_lt (by omega),Array.getElem?_toList] at hj
     rw [Addr.add_lit]
     simp only [World.cell?,hg2]
     exact hj) (by rw [hml,hR1s];omega) (fun v hv=>h1 v (by rw [hmv2] at hv;exact List.mem_of_mem_drop hv))
  rw [this,hA]
  congr 2
  simp only [Nat.min_def];split<;>omega
 have kA:Hid (n+m≤G∧G≤maxLen∧(W2.setRow N A).heap[w.heap.size]?=some (.cells A TE (0,0))∧A.size=G*5∧A.toList.take ((n+m)*5)=(cur.toList.take (n*5)).take (i*5)++us++(cur.toList.take (n*5)).drop (i*5)∧w.grownBy (W2.setRow N A) none):=by
  refine ⟨hGn,hGm,by rw [←hN];exact setRow_heap _ _ _ _ _ _ hN2,by rw [hA];simp [hml,hR1s];omega,?_,?_⟩
  · have e1:R1.toList.take ((i+m)*5)=olds++us:=by
     rw [hR1];simp only [List.toList_toArray]
     rw [List.take_append_of_le_length (by simp [hul2,hRl];omega),List.take_of_length_le (by simp [hul2,hRl];omega),hRt]
    rw [hA];simp only [List.toList_toArray]
    rw [e1,List.take_append_of_le_length (by simp [hol,hul2,hml];omega),List.take_of_length_le (by simp [hol,hul2,hml];omega),holds,hmv2]
  · refine ⟨by rw [hW2];exact hgr1.os,by rw [hW2];exact hgr1.tape,by rw [hW2];exact hgr1.output,?_,fun k hk hne => ?_⟩
    · have:(W2.setRow N A).heap.size=W1.heap.size:=by rw [hW2];simp [World.setRow,World.drew]
      rw [this];exact hgr1.size
    · rw [setRow_other _ _ _ _ (by omega),hW2]
      show (W1.setRow N R1).heap[k]?=_
      rw [setRow_other _ _ _ _ (by omega)];exact hold k hk
 exact ⟨G,N,W1,R1,W2,A,hN,hGn,hGm,hrz,hcp1,hW2.symm,hcp2,kA⟩
end
set_option maxRecDepth 1000000 in
theorem InsEnd193 (w:World) (S:Value) (n:Nat) (vals:List Value) (hS:w.ownsRow 0 25 5 S n vals) (gv m vc:Nat) (us:List Value) (hul:us.length=m*5) (hus:∀ j u,us[j]?=some u→w.cell? ⟨gv,j,none⟩=some u) (h1u:∀ v ∈ us,v.oneCell'=true) (hm:0<m) (hb:(n+m)*80≤140737488355328) :
  Calls Tryz.prog 193 #[S,.int .i64 n,.slice (some ⟨gv,0,none⟩) m vc] w fun e w'=>∃ R,e = .returned R∧w'.ownsRow 0 25 5 R (n+m) (vals++us)∧gu_ w w' (fun b=>b9_ S b≠0) ∧
   ∀ b,b9_ R b≠0→(w.heap.size≤b∨b9_ S b≠0)∧b<w'.heap.size:=by
 obtain ⟨i0,hi0⟩:=Option.isSome_iff_exists.1 (show (Tryz.prog.info? 25).isSome=true by kernel_rfl)
 have hz0:i0.size=5:=by
  have:(Tryz.prog.info? 25).map (·.size)=some 5:=by kernel_rfl
  rw [hi0] at this;simpa using this
 have hz1:i0.bytes=80:=by
  have:(Tryz.prog.info? 25).map (·.bytes)=some 80:=by kernel_rfl
  rw [hi0] at this;simpa using this
 have hz2:i0.zero=some (.agg #[.int .i64 0,.int .i64 0,.string ByteArray.empty,.slice none 0 0,.slice none 0 0]):=by
  have:(Tryz.prog.info? 25).bind (·.zero)=some (.agg #[.int .i64 0,.int .i64 0,.string ByteArray.empty,.slice none 0 0,.slice none 0 0]):=by kernel_rfl
  rw [hi0] at this;simpa using this
 have hz3:¬ ((m:Int)=0):=by omega
 have mixed:Tryz.prog.follows .mixedOrders=true:=by kernel_rfl
 have key:∀ ty,∃ v' w',(Builtin.append_ #[22,22] ty #[S,.slice (some ⟨gv,0,none⟩) m vc]).run Tryz.prog w = .ok v' w'∧w'.ownsRow 0 25 5 v' (n+m) (vals++us)∧gu_ w w' (fun b=>b9_ S b≠0) ∧
   ∀ b,b9_ v' b≠0→(w.heap.size≤b∨b9_ S b≠0)∧b<w'.heap.size:=fun ty=>by
  have:=dF_ (P:=Tryz.prog) w 22 ty 25 i0 _ Tryz.underlying22 hi0 hz2 (by rw [hz0];rfl) (by rw [hz0];decide) S n vals (by rw [hz0];exact hS) (.slice (some ⟨gv,0,none⟩) m vc) m us (by rw [hz0];exact hul) (.inl ⟨_,_,rfl,fun j u h=>by rw [Addr.add_lit,Nat.zero_add];exact hus j u h⟩) h1u (by unfold maxLen;omega) (by rw [hz1];exact hb)
  rw [hz0] at this
  exact this
 obtain ⟨v',w',k1,k2,k3⟩:=key 22
 rcases hS.2 with ⟨rfl,rfl⟩|⟨g,c,cur,rfl,-,hg,hnc,hcm,hcs,htake⟩
 · clear key hS hus hz2 hi0 hz0 hz1
   go_enter Tryz.func193,Tryz.ntmps193
   go_wp2_with (at_builtin;refine Lib.wpList_append_run _ rfl _ _ 22 22 rfl _ _ rfl rfl _ _ k1 ?_)
   go_ret
   exact ⟨_,rfl,k2,k3⟩
 · clear key hS hus hz2 hg htake hcs hi0 hz0 hz1
   unfold maxLen at hcm
   go_enter Tryz.func193,Tryz.ntmps193
   go_wp2_with (at_builtin;refine Lib.wpList_append_run _ rfl _ _ 22 22 rfl _ _ rfl rfl _ _ k1 ?_)
   all_goals (go_ret;exact ⟨_,rfl,k2,k3⟩)
set_option maxRecDepth 1000000 in
theorem mr_ (w:World) (S:Value) (n i:Nat) (vals:List Value) (hS:w.ownsRow 0 25 5 S n vals) (U:Value) (us:List Value) (hU:w.ownsRow 0 25 5 U 0 us) (hi:i≤n) :
  Calls Tryz.prog 193 #[S,.int .i64 i,U] w fun e w'=>e = .returned S∧w'=w:=by
 rcases hS.2 with ⟨rfl,rfl⟩|⟨g,c,cur,rfl,-,hg,hnc,hcm,hcs,htake⟩
 · have hi0:i=0:=by omega
   subst hi0
   rcases hU.2 with ⟨rfl,-⟩|⟨gv,vc,curv,rfl,-,hgv,hmc,hcm,hcs,htake⟩
   · clear hS hU
     go_enter Tryz.func193,Tryz.ntmps193
     go_wp2_with fail
     go_ret
     exact ⟨rfl,rfl⟩
   · clear hS hU hgv hcs htake
     go_enter Tryz.func193,Tryz.ntmps193
     go_wp2_with fail
     go_ret
     exact ⟨rfl,rfl⟩
 · unfold maxLen at hcm
   have hic:i≤c:=by omega
   rcases hU.2 with ⟨rfl,-⟩|⟨gv,vc,curv,rfl,-,hgv,hmc,hcm2,hcs2,htake2⟩
   · clear hS hU hg hcs htake
     go_enter Tryz.func193,Tryz.ntmps193
     go_wp2_with fail
     all_goals (go_ret;exact ⟨rfl,rfl⟩)
   · clear hS hU hg hcs htake hgv hcs2 htake2
     go_enter Tryz.func193,Tryz.ntmps193
     go_wp2_with fail
     all_goals (go_ret;exact ⟨rfl,rfl⟩)
set_option maxRecDepth 1000000 in
theorem kT_ (w:World) (g n c i:Nat) (cur:Array Value) (hg:w.heap[g]?=some (.cells cur 25 (0,0))) (hs:cur.size=c*5) (hc:c≤9223372036854775807) (hi:i<n)
  (gv m vc:Nat) (curv:Array Value) (Tv:TypeId) (hgv:w.heap[gv]?=some (.cells curv Tv (0,0))) (hmv:m*5≤curv.size) (hne:gv≠g) (us:List Value) (hul:us=curv.toList.take (m*5)) (h1u:∀ v ∈ us,v.oneCell'=true) (hm:0<m) (hroom:n+m≤c)
  (h1:∀ v ∈ cur.toList.take (n*5),v.oneCell'=true) :
  Calls Tryz.prog 193 #[.slice (some ⟨g,0,none⟩) n c,.int .i64 i,.slice (some ⟨gv,0,none⟩) m vc] w fun e w'=>e = .returned (.slice (some ⟨g,0,none⟩) (n+m) c) ∧
   ∃ A,w'=w.drew.setRow g A∧A.size=cur.size∧A.toList.take ((n+m)*5)=(cur.toList.take (n*5)).take (i*5)++us++(cur.toList.take (n*5)).drop (i*5):=by
 have hsz:(Tryz.prog.info? 25).map (·.size)=some 5:=by kernel_rfl
 have hul2:us.length=m*5:=by rw [hul,List.length_take,Array.length_toList];omega
 have hov:∀ lb cb,(callFunc 213 #[.slice (some ⟨gv,0,none⟩) m vc,.slice (some ⟨g,(i+m)*5,none⟩) lb cb]).run Tryz.prog w = .ok (.value (.bool false)) w:=fun lb cb=>by
  rw [run_callFunc_extern Tryz.func213 (by kernel_rfl) (by kernel_rfl) (by kernel_rfl) (e:=Extern.SlicesOverlaps.overlaps #[22,22] #[4]) (by kernel_rfl),
   Lib.run_overlaps_apart w 22 4 25 Tryz.underlying22 5 Tryz.sizeOf25 ⟨gv,0,none⟩ ⟨g,(i+m)*5,none⟩ m vc lb cb hne Tv 25 curv.size cur.size (by simp [World.shape?,hgv]) (by simp [World.shape?,hg]) (by omega) (by simp [World.frozen?,hgv]) (by simp [World.frozen?,hgv])]
  rfl
 obtain ⟨mv,hmv2⟩:∃ mv,mv=(cur.toList.take (n*5)).drop (i*5):=⟨_,rfl⟩
 have hml:mv.length=(n - i)*5:=by rw [hmv2];simp [hs];omega
 have hgd:w.drew.heap[g]?=some (.cells cur 25 (0,0)):=hg
 obtain ⟨B,hB⟩:∃ B,B=(cur.toList.take ((i+m)*5)++mv++cur.toList.drop ((i+m)*5+mv.length)).toArray:=⟨_,rfl⟩
 have hcp1:∀ ty dc sc,(Builtin.copy_ #[22,22] ty #[.slice (some ⟨g,(i+m)*5,none⟩) (n+m - (i+m)) dc,.slice (some ⟨g,i*5,none⟩) (n+m - i) sc]).run Tryz.prog w.drew = .ok (goInt (n - i)) (w.drew.setRow g B):=fun ty dc sc=>by
  have:=cO_ (P:=Tryz.prog) w.drew 22 22 ty 25 5 g ((i+m)*5) (n+m - (i+m)) dc ⟨g,i*5,none⟩ (n+m - i) sc cur 25 mv Tryz.underlying22 hsz hgd (by rw [hml];simp only [Nat.min_def];split<;>omega)
   (fun j v hj=>by
     have hj2:=(List.getElem?_eq_some_iff.1 hj).1
     rw [hmv2,List.getElem?_drop,List.getElem?_take_of_lt (by omega),Array.getElem?_toList] at hj
     rw [Addr.add_lit]
     simp only [World.cell?,hgd]
     exact hj) (by rw [hml,hs];omega) (fun v hv=>h1 v (by rw [hmv2] at hv;exact List.mem_of_mem_drop hv))
  rw [this,hB]
  congr 2
  simp only [Nat.min_def];split<;>omega
 have hBs:B.size=cur.size:=by rw [hB];simp [hml,hs];omega
 have hgB:(w.drew.setRow g B).heap[g]?=some (.cells B 25 (0,0)):=setRow_heap _ _ _ _ _ _ hgd
 obtain ⟨A,hA⟩:∃ A,A=(B.toList.take (i*5)++us++B.toList.drop (i*5+us.length)).toArray:=⟨_,rfl⟩
 have hcp2:∀ ty dc,(Builtin.copy_ #[22,22] ty #[.slice (some ⟨g,i*5,none⟩) (n+m - i) dc,.slice (some ⟨gv,0,none⟩) m vc]).run Tryz.prog (w.drew.setRow g B) = .ok (goInt m) (w.drew.setRow g A):=fun ty dc=>by
  have:=cO_ (P:=Tryz.prog) (w.drew.setRow g B) 22 22 ty 25 5 g (i*5) (n+m - i) dc ⟨gv,0,none⟩ m vc B 25 us Tryz.underlying22 hsz hgB (by rw [hul2];simp only [Nat.min_def];split<;>omega)
   (fun j v hj=>by
     have hj2:=(List.getElem?_eq_some_iff.1 hj).1
     rw [hul,List.getElem?_take_of_lt (by omega),Array.getElem?_toList] at hj
     rw [Addr.add_lit,Nat.zero_add]
     have e:(w.drew.setRow g B).heap[gv]?=some (.cells curv Tv (0,0)):=by rw [setRow_other _ _ _ _ hne];exact hgv
     simp only [World.cell?,e]
     exact hj) (by rw [hul2,hBs,hs];omega) h1u
  rw [this,hA,setRow_setRow]
  congr 2
  simp only [Nat.min_def];split<;>omega
 have kA:Hid (A.size=cur.size∧A.toList.take ((n+m)*5)=(cur.toList.take (n*5)).take (i*5)++us++mv):=by
  have e1:B.toList.take (i*5)=(cur.toList.take (n*5)).take (i*5):=by
   rw [hB];simp only [List.toList_toArray,List.append_assoc]
   rw [List.take_append_of_le_length (by simp [hs];omega),List.take_take,List.take_take]
   congr 1;omega
  have e2:(B.toList.drop (i*5+us.length)).take mv.length=mv:=by
   rw [hB];simp only [List.toList_toArray,List.append_assoc]
   rw [List.drop_append,List.drop_eq_nil_of_le (by simp [hul2,hs];omega),List.nil_append,List.length_take,show i*5+us.length - min ((i+m)*5) cur.toList.length=0 by simp [hul2,hs];omega,List.drop_zero,List.take_append_of_le_length (Nat.le_refl _),List.take_of_length_le (Nat.le_refl _)]
  refine ⟨by rw [hA];simp [hul2,hBs,hs];omega,?_⟩
  rw [hA];simp only [List.toList_toArray]
  rw [List.take_append,List.take_of_length_le (by simp [hul2,hBs,hs];omega),e1]
  congr 1
  rw [show (n+m)*5 - (List.take (i*5) (List.take (n*5) cur.toList)++us).length=mv.length by simp [hul2,hml,hs];omega]
  exact e2
 rw [hmv2] at kA
 have hnc:n≤c:=by omega
 have hic:i≤c:=by omega
 have hz1:¬ ((m:Int)=0):=by omega
 have hz2:¬ ((i:Int)=(n:Int)):=by omega
 have mixed:Tryz.prog.follows .mixedOrders=true:=by kernel_rfl
 have hw1:IntKind.i64.wrap ((i:Int)+(m:Int))=(i:Int)+(m:Int):=by rw [IntKind.wrap_i64];omega
 have hb1:(0:Int)≤(i:Int)+(m:Int):=by omega
 have hin:i≤n:=by omega
 have htn:((i:Int)+(m:Int)).toNat=i+m:=by omega
 have hb2:¬ (c=i+m):=by omega
 have hb3:(i:Int)≤(n:Int)+(m:Int):=by omega
 have hb4:¬ (c=i):=by omega
 clear hB hBs hgB hA hmv2 hml hgd hg hgv hul hul2 h1 h1u hsz hs hmv
 go_enter Tryz.func193,Tryz.ntmps193
 go_wp2_with (simp only [hov])
 go_region_law_o (refine dp_ rfl _ _ 22 22 rfl _ _ (by simp [Act.eval,Act.put]) (by simp [Act.eval,Act.put]) (hcp1 _ _ _) ?_)
 go_wp2_with (at_builtin;refine eu_ _ rfl _ _ 22 22 rfl _ _ rfl rfl (hcp2 _ _) ?_)
 go_ret
 exact ⟨rfl,A,rfl,kA.out.1,kA.out.2⟩
set_option maxRecDepth 1000000 in
theorem mt_ (w:World) (g n c i:Nat) (cur:Array Value) (hg:w.heap[g]?=some (.cells cur 25 (0,0))) (hs:cur.size=c*5) (hnc:n≤c) (hi:i<n)
  (gv m vc:Nat) (curv:Array Value) (Tv:TypeId) (hgv:w.heap[gv]?=some (.cells curv Tv (0,0))) (hmv:m*5≤curv.size) (us:List Value) (hul:us=curv.toList.take (m*5)) (h1u:∀ v ∈ us,v.oneCell'=true) (hm:0<m) (hroom:c<n+m)
  (hbig:(n+m)*80≤140737488355328) (h1:∀ v ∈ cur.toList.take (n*5),v.oneCell'=true) :
  Calls Tryz.prog 193 #[.slice (some ⟨g,0,none⟩) n c,.int .i64 i,.slice (some ⟨gv,0,none⟩) m vc] w fun e w'=>∃ C A,e = .returned (.slice (some ⟨w.heap.size,0,none⟩) (n+m) C)∧n+m≤C∧C≤maxLen ∧
   w'.heap[w.heap.size]?=some (.cells A 25 (0,0))∧A.size=C*5∧A.toList.take ((n+m)*5)=(cur.toList.take (n*5)).take (i*5)++us++(cur.toList.take (n*5)).drop (i*5)∧w.grownBy w' none:=by
 obtain ⟨i0,hi0⟩:=Option.isSome_iff_exists.1 (show (Tryz.prog.info? 25).isSome=true by kernel_rfl)
 have hz0:i0.size=5:=by
  have:(Tryz.prog.info? 25).map (·.size)=some 5:=by kernel_rfl
  rw [hi0] at this;simpa using this
 have hz1:i0.bytes=80:=by
  have:(Tryz.prog.info? 25).map (·.bytes)=some 80:=by kernel_rfl
  rw [hi0] at this;simpa using this
 have hz2:i0.zero=some (.agg #[.int .i64 0,.int .i64 0,.string ByteArray.empty,.slice none 0 0,.slice none 0 0]):=by
  have:(Tryz.prog.info? 25).bind (·.zero)=some (.agg #[.int .i64 0,.int .i64 0,.string ByteArray.empty,.slice none 0 0,.slice none 0 0]):=by kernel_rfl
  rw [hi0] at this;simpa using this
 obtain ⟨G,N,W1,R1,W2,A,hNN,hGn,hGm,hrz,hcp1,hW2',hcp2,kA⟩:=l7_ 22 25 3 _ i0 Tryz.underlying22 Tryz.underlying3 hi0 hz2 hz0 hz1 rfl w g n c i cur hg hs hnc hi gv m vc curv Tv hgv hmv us hul h1u hm hroom hbig h1
 have hic:i≤c:=by omega
 have hz3:¬ ((m:Int)=0):=by omega
 have hz4:¬ ((i:Int)=(n:Int)):=by omega
 have hz5:(c:Int)<(n:Int)+(m:Int):=by omega
 have mixed:Tryz.prog.follows .mixedOrders=true:=by kernel_rfl
 have hG63:G≤9223372036854775807:=by unfold maxLen at hGm;omega
 have hw1:IntKind.i64.wrap ((n:Int)+(m:Int))=(n:Int)+(m:Int):=by rw [IntKind.wrap_i64];omega
 have hw2:IntKind.i64.wrap ((n:Int)+(m:Int) - (i:Int))=(n:Int)+(m:Int) - (i:Int):=by rw [IntKind.wrap_i64];omega
 have hw3:IntKind.i64.wrap ((i:Int)+(m:Int))=(i:Int)+(m:Int):=by rw [IntKind.wrap_i64];omega
 have hb1:(0:Int)≤(i:Int)+(m:Int):=by omega
 have htn:((i:Int)+(m:Int)).toNat=i+m:=by omega
 have hGi:¬ (G=i):=by omega
 have hGim:¬ (G=i+m):=by omega
 have hb3:(i:Int)≤(n:Int)+(m:Int):=by omega
 have hb4:¬ (c=i):=by omega
 have hinm:i≤n+m:=by omega
 have himn:i+m≤n+m:=by omega
 have hin:i≤n:=by omega
 clear hul h1 h1u hg hgv hs hmv hz0 hz1 hz2 hi0 hbig
 go_enter Tryz.func193,Tryz.ntmps193
 go_wp2_with (at_builtin;refine Lib.wpList_append_run _ rfl _ _ 22 3 rfl _ _ rfl rfl _ _ (hrz _) ?_)
 go_region_law_o (simp only [hW2'];refine dp_ rfl _ _ 22 22 rfl _ _ (by simp [Act.eval,Act.put]) (by simp [Act.eval,Act.put]) (hcp2 _ _ _) ?_)
 go_wp2_with fail
 go_ret
 exact ⟨G,A,by rw [hNN.out];rfl,kA.out⟩
theorem insM193:InsM Tryz.prog 193 25 5 80:=by
 intro w S n vals U m us i hS hU hdis hi h1 h1u hb
 have hvl:=hS.1
 by_cases hm:m=0
 · subst hm
   have hus:us=[]:=by have:=hU.1;rw [Nat.zero_mul] at this;exact List.eq_nil_of_length_eq_zero this
   subst hus
   refine (mr_ w S n i vals hS U [] hU hi).mono ?_
   rintro e w' ⟨rfl,rfl⟩
   refine ⟨S,rfl,by rw [List.append_nil,List.take_append_drop];exact hS,⟨rfl,rfl,rfl,Nat.le_refl _,fun _ _ _=>rfl⟩,fun b hb=>⟨.inr hb,iK_ hS b hb⟩⟩
 · rcases hU.2 with ⟨rfl,h0⟩|⟨gv,vc,curv,rfl,-,hgv,hmc,hcm,hcs,htake⟩
   · exact absurd h0 hm
   · by_cases hin:i=n
     · subst hin
       rw [List.take_of_length_le (by omega),List.drop_eq_nil_of_le (by omega),List.append_nil]
       exact InsEnd193 w S i vals hS gv m vc us hU.1 (fun j u h=>by have:=hU.cells (g:=gv) rfl j u h;rwa [Addr.add_lit,Nat.zero_add] at this) h1u (by omega) hb
     · rcases hS.2 with ⟨rfl,h0⟩|⟨g,c,cur,rfl,-,hg,hnc,hcm',hcs',htake'⟩
       · omega
       · have hne:gv≠g:=fun e=>by subst e;have:=hdis gv (by simp [b9_]);simp [b9_] at this
         have hmv:m*5≤curv.size:=by rw [hcs];exact Nat.mul_le_mul_right _ hmc
         by_cases hroom:n+m≤c
         · refine (kT_ w g n c i cur hg hcs' (by unfold maxLen at hcm';omega) (by omega) gv m vc curv 25 hgv hmv hne us htake.symm h1u (by omega) hroom (by rw [htake'];exact h1)).mono ?_
           rintro e w' ⟨rfl,A,rfl,hA,ht⟩
           rw [htake'] at ht
           have hgd:w.drew.heap[g]?=some (.cells cur 25 (0,0)):=hg
           have hA2:=setRow_heap w.drew g cur A _ _ hgd
           refine ⟨_,rfl,⟨by rw [←ht];simp [hA,hcs'];omega,.inr ⟨g,c,A,rfl,Nat.zero_le _,hA2,hroom,hcm',by rw [hA,hcs'],ht⟩⟩,⟨rfl,rfl,rfl,f4_ w g A,fun b _ hn => ?_⟩,fun b hb=>⟨.inr hb,?_⟩⟩
           · rw [setRow_other _ _ _ _ (fun e=>hn (by subst e;simp [b9_]))];rfl
           · have:g=b:=by simp only [b9_] at hb;exact Classical.byContradiction fun h=>hb (if_neg h)
             subst this
             exact (Array.getElem?_eq_some_iff.1 hA2).1
         · refine (mt_ w g n c i cur hg hcs' hnc (by omega) gv m vc curv 25 hgv hmv us htake.symm h1u (by omega) (by omega) hb (by rw [htake'];exact h1)).mono ?_
           rintro e w' ⟨C,A,rfl,hC,hCm,hN,hA,ht,hgr⟩
           rw [htake'] at ht
           refine ⟨_,rfl,⟨by rw [←ht];simp [hA];omega,.inr ⟨_,C,A,rfl,Nat.zero_le _,hN,hC,hCm,hA,ht⟩⟩,⟨hgr.os,hgr.tape,hgr.output,hgr.size,fun b hb _=>hgr.block b hb (by simp)⟩,fun b hb => ?_⟩
           have:w.heap.size=b:=by simp only [b9_] at hb;exact Classical.byContradiction fun h=>hb (if_neg h)
           subst this
           exact ⟨.inl (Nat.le_refl _),(Array.getElem?_eq_some_iff.1 hN).1⟩
end Go.Proofs
namespace Go.Pi
open Go.Proofs
theorem a8_.ok (n:Nat) (_:CxOk E (cx n a8_.d.nt)) (_:KPar (cx n a8_.d.nt)):a8_.d.Ok E (a8_.F (n+1)):=fun _ _ h=>nIns_ok (t:=.iJson) (m1:=.d) (m2:=.d) (by decide) (by decide) insM193 h
end Go.Pi
end
section
namespace Go.Proofs
open Go.Shelf Go.RowKit Go.Lib Go.Pi
set_option maxRecDepth 1000000 in
theorem Delete195 (w:World) (g n c i j:Nat) (cur:Array Value) (hg:w.heap[g]?=some (.cells cur 25 (0,0))) (hs:cur.size=c*5) (hn:n≤c) (hc:c≤9223372036854775807) (hij:i<j) (hj:j≤n)
  (h1:∀ v ∈ cur.toList.take (n*5),v.oneCell'=true) :
  Calls Tryz.prog 195 #[.slice (some ⟨g,0,none⟩) n c,.int .i64 i,.int .i64 j] w fun e w'=>e = .returned (.slice (some ⟨g,0,none⟩) (n - (j - i)) c) ∧
   ∃ A,w'=w.drew.setRow g A∧A.size=cur.size∧A.toList.take ((n - (j - i))*5)=(cur.toList.take (n*5)).take (i*5)++(cur.toList.take (n*5)).drop (j*5):=by
 have hic:i≤c:=by omega
 have hjc:j≤c:=by omega
 obtain ⟨news,hnews⟩:∃ news,news=(cur.toList.take (n*5)).drop (j*5):=⟨_,rfl⟩
 have hlen:news.length=(n - j)*5:=by rw [hnews,List.length_drop,List.length_take,Array.length_toList,hs];omega
 have hgd:w.drew.heap[g]?=some (.cells cur 25 (0,0)):=hg
 obtain ⟨A,hA,hsrc⟩:∃ A:Addr,(if c=j then some (⟨g,0,none⟩:Addr) else some ⟨g,j*5,none⟩)=some A∧Hid (∀ t u,news[t]?=some u→w.drew.cell? (A.add t)=some u):=by
  by_cases h:c=j
  · refine ⟨⟨g,0,none⟩,by simp [h],fun t u hu => ?_⟩
    have h0:news.length=0:=by rw [hlen];omega
    rw [List.length_eq_zero_iff.1 h0] at hu
    simp at hu
  · refine ⟨⟨g,j*5,none⟩,by simp [h],fun t u hu => ?_⟩
    have ht:=(List.getElem?_eq_some_iff.1 hu).1
    rw [hlen] at ht
    rw [hnews,List.getElem?_drop,List.getElem?_take_of_lt (by omega),Array.getElem?_toList] at hu
    rw [Addr.add_lit]
    simp only [World.cell?,hgd]
    exact hu
 obtain ⟨i0,hi0⟩:=Option.isSome_iff_exists.1 (show (Tryz.prog.info? 25).isSome=true by kernel_rfl)
 have hz0:i0.size=5:=by
  have:(Tryz.prog.info? 25).map (·.size)=some 5:=by kernel_rfl
  rw [hi0] at this
  simpa using this
 have hr1:∀ ty,(Builtin.append_ #[22,22] ty #[.slice (some ⟨g,0,none⟩) i c,.slice (some A) (n - j) (c - j)]).run Tryz.prog w.drew = .ok (.slice (some ⟨g,0,none⟩) (i+(n - j)) c) (w.drew.setRow g (cur.toList.take (i*5)++news++cur.toList.drop (i*5+news.length)).toArray):=fun ty=>by
  have:=run_append_room (P:=Tryz.prog) w.drew 22 ty 25 i0 Tryz.underlying22 hi0 g i c cur hgd A (n - j) (c - j) news (by rw [hlen,hz0];try rw [Nat.mul_one]) hsrc.out (fun u hu=>h1 u (by rw [hnews] at hu;exact List.mem_of_mem_drop hu)) (by omega) (by rw [hz0,hlen,hs];omega)
  rw [hz0] at this
  first|exact this|(rw [Nat.mul_one] at this;exact this)
 obtain ⟨B,hB⟩:∃ B,B=(cur.toList.take (i*5)++news++cur.toList.drop (i*5+news.length)).toArray:=⟨_,rfl⟩
 have hBs:B.size=cur.size:=by rw [hB];simp [hlen,hs];omega
 have hBt:B.toList.take ((i+(n - j))*5)=(cur.toList.take (n*5)).take (i*5)++news:=by
  rw [hB]
  simp only [List.toList_toArray]
  rw [List.take_append_of_le_length (by simp [hlen,hs];omega),List.take_of_length_le (by simp [hlen,hs];omega),List.take_take,Nat.min_eq_left (by omega)]
 have hgB:(w.drew.setRow g B).heap[g]?=some (.cells B 25 (0,0)):=setRow_heap _ _ _ _ _ _ hgd
 obtain ⟨Z,hZ⟩:∃ Z,Z=(Builtin.zeroCells (Value.agg #[.int .i64 0,.int .i64 0,.string ByteArray.empty,.slice none 0 0,.slice none 0 0]).cells (n - (i+(n - j)))).toList:=⟨_,rfl⟩
 have hZl:Z.length=(n - (i+(n - j)))*5:=by rw [hZ];simp [Builtin.zeroCells,Value.cells]
 have hcl:∀ ty,(Builtin.clear_ #[22] ty #[.slice (some ⟨g,(i+(n - j))*5,none⟩) (n - (i+(n - j))) (c - (i+(n - j)))]).run Tryz.prog (w.drew.setRow g B) = .ok (.tuple #[]) ((w.drew.setRow g B).setRow g (B.toList.take ((i+(n - j))*5)++Z++B.toList.drop ((i+(n - j))*5+Z.length)).toArray):=fun ty=>by
  rw [hZ]
  refine hh_ _ 22 25 ty _ Tryz.underlying22 Tryz.zeroValue25 g _ _ _ (by omega) B 25 hgB (by
   have e:=hZl
   rw [hZ] at e
   exact Nat.le_trans (Nat.le_of_eq (congrArg (fun q=>(i+(n - j))*5+q) e)) (by first|(rw [hBs,hs,←Nat.add_mul];exact Nat.mul_le_mul_right _ (by omega))|(rw [hBs,hs];omega))) (fun v hv => ?_)
  exact zc_one _ (by kernel_rfl) _ v hv
 rw [←hB] at hr1
 obtain ⟨Z',hZ'⟩:∃ Z',Z'=(B.toList.take ((i+(n - j))*5)++Z++B.toList.drop ((i+(n - j))*5+Z.length)).toArray:=⟨_,rfl⟩
 have kZ:Hid (Z'.size=cur.size∧Z'.toList.take ((i+(n - j))*5)=(cur.toList.take (n*5)).take (i*5)++(cur.toList.take (n*5)).drop (j*5)):=by
  refine ⟨by rw [hZ'];simp [hZl,hBs,hs];omega,?_⟩
  rw [hZ',←hnews,←hBt]
  simp only [List.toList_toArray,List.append_assoc]
  rw [List.take_append_of_le_length (by simp [hBs,hs];omega),List.take_take,Nat.min_self]
 rw [←hZ'] at hcl
 clear hsrc h1 hB hBs hBt hgB hZ hZl hZ' hnews hlen hgd hg
 have hw1:¬ ((i:Int)=(j:Int)):=by omega
 have mixed:Tryz.prog.follows .mixedOrders=true:=by kernel_rfl
 go_enter Tryz.func195,Tryz.ntmps195
 go_wp2_with fail
 go_region_law_o (refine ev_ rfl (.tmp 22) (.tmp 25) 22 22 rfl _ _ (by simp [Act.eval,Act.put]) (by simp [Act.eval,Act.put,hA]) (hr1 _) ?_)
 go_wp2_with fail
 go_ret
 exact ⟨by rw [show n - (j - i)=i+(n - j) by omega];rfl,Z',by rw [setRow_setRow],kZ.out.1,by rw [show n - (j - i)=i+(n - j) by omega];exact kZ.out.2⟩
set_option maxRecDepth 1000000 in
theorem mw_ (w:World) (S:Value) (n i:Nat) (vals:List Value) (hS:w.ownsRow 0 25 5 S n vals) (hi:i≤n) :
  Calls Tryz.prog 195 #[S,.int .i64 i,.int .i64 i] w fun e w'=>e = .returned S∧w'=w:=by
 rcases hS.2 with ⟨rfl,rfl⟩|⟨g,c,cur,rfl,-,hg,hnc,hcm,hcs,htake⟩
 · have hi0:i=0:=by omega
   subst hi0
   clear hS
   go_enter Tryz.func195,Tryz.ntmps195
   go_wp2_with fail
   all_goals (go_ret;exact ⟨rfl,rfl⟩)
 · unfold maxLen at hcm
   have hic:i≤c:=by omega
   clear hS hg hcs htake
   go_enter Tryz.func195,Tryz.ntmps195
   go_wp2_with fail
   all_goals (go_ret;exact ⟨rfl,rfl⟩)
theorem delM195:DelM Tryz.prog 195 25 5:=by
 intro w S n vals i j hS hij hj h1
 by_cases e:i=j
 · subst e
   refine (mw_ w S n i vals hS hj).mono ?_
   rintro e w' ⟨rfl,rfl⟩
   refine ⟨S,rfl,by rw [Nat.sub_self,Nat.sub_zero,List.take_append_drop];exact hS,⟨rfl,rfl,rfl,Nat.le_refl _,fun _ _ _=>rfl⟩,fun b hb=>⟨.inr hb,iK_ hS b hb⟩⟩
 · rcases hS.2 with ⟨rfl,rfl⟩|⟨g,c,cur,rfl,-,hg,hnc,hcm,hcs,htake⟩
   · omega
   · refine (Delete195 w g n c i j cur hg hcs hnc (by unfold maxLen at hcm;omega) (by omega) hj (by rw [htake];exact h1)).mono ?_
     rintro e w' ⟨rfl,A,rfl,hA,ht⟩
     rw [htake] at ht
     have hgd:w.drew.heap[g]?=some (.cells cur 25 (0,0)):=hg
     have hA2:=setRow_heap w.drew g cur A _ _ hgd
     refine ⟨_,rfl,⟨by rw [←ht];simp [hA,hcs];omega,.inr ⟨g,c,A,rfl,Nat.zero_le _,hA2,by omega,hcm,by rw [hA,hcs],ht⟩⟩,⟨rfl,rfl,rfl,f4_ w g A,fun b _ hn => ?_⟩,fun b hb=>⟨.inr hb,?_⟩⟩
     · rw [setRow_other _ _ _ _ (fun e=>hn (by subst e;simp [b9_]))];rfl
     · have:g=b:=by simp only [b9_] at hb;exact Classical.byContradiction fun h=>hb (if_neg h)
       subst this
       exact (Array.getElem?_eq_some_iff.1 hA2).1
end Go.Proofs
namespace Go.Pi
open Go.Proofs
theorem bf_.ok (n:Nat) (_:CxOk E (cx n bf_.d.nt)) (_:KPar (cx n bf_.d.nt)):bf_.d.Ok E (bf_.F (n+1)):=fun _ _ h=>nDel_ok (t:=.iJson) (m:=.d) (by decide) delM195 h
end Go.Pi
end
section
namespace Go.Proofs
open Go.Shelf Go.RowKit Go.Lib Go.Pi
set_option maxRecDepth 1000000 in
theorem Delete196 (w:World) (g n c i j:Nat) (cur:Array Value) (hg:w.heap[g]?=some (.cells cur 9 (0,0))) (hs:cur.size=c) (hn:n≤c) (hc:c≤9223372036854775807) (hij:i<j) (hj:j≤n)
  (h1:∀ v ∈ cur.toList.take (n),v.oneCell'=true) :
  Calls Tryz.prog 196 #[.slice (some ⟨g,0,none⟩) n c,.int .i64 i,.int .i64 j] w fun e w'=>e = .returned (.slice (some ⟨g,0,none⟩) (n - (j - i)) c) ∧
   ∃ A,w'=w.drew.setRow g A∧A.size=cur.size∧A.toList.take ((n - (j - i)))=(cur.toList.take (n)).take (i)++(cur.toList.take (n)).drop (j):=by
 have hic:i≤c:=by omega
 have hjc:j≤c:=by omega
 obtain ⟨news,hnews⟩:∃ news,news=(cur.toList.take (n)).drop (j):=⟨_,rfl⟩
 have hlen:news.length=(n - j):=by rw [hnews,List.length_drop,List.length_take,Array.length_toList,hs];omega
 have hgd:w.drew.heap[g]?=some (.cells cur 9 (0,0)):=hg
 obtain ⟨A,hA,hsrc⟩:∃ A:Addr,(if c=j then some (⟨g,0,none⟩:Addr) else some ⟨g,j,none⟩)=some A∧Hid (∀ t u,news[t]?=some u→w.drew.cell? (A.add t)=some u):=by
  by_cases h:c=j
  · refine ⟨⟨g,0,none⟩,by simp [h],fun t u hu => ?_⟩
    have h0:news.length=0:=by rw [hlen];omega
    rw [List.length_eq_zero_iff.1 h0] at hu
    simp at hu
  · refine ⟨⟨g,j,none⟩,by simp [h],fun t u hu => ?_⟩
    have ht:=(List.getElem?_eq_some_iff.1 hu).1
    rw [hlen] at ht
    rw [hnews,List.getElem?_drop,List.getElem?_take_of_lt (by omega),Array.getElem?_toList] at hu
    rw [Addr.add_lit]
    simp only [World.cell?,hgd]
    exact hu
 obtain ⟨i0,hi0⟩:=Option.isSome_iff_exists.1 (show (Tryz.prog.info? 9).isSome=true by kernel_rfl)
 have hz0:i0.size=1:=by
  have:(Tryz.prog.info? 9).map (·.size)=some 1:=by kernel_rfl
  rw [hi0] at this
  simpa using this
 have hr1:∀ ty,(Builtin.append_ #[23,23] ty #[.slice (some ⟨g,0,none⟩) i c,.slice (some A) (n - j) (c - j)]).run Tryz.prog w.drew = .ok (.slice (some ⟨g,0,none⟩) (i+(n - j)) c) (w.drew.setRow g (cur.toList.take (i)++news++cur.toList.drop (i+news.length)).toArray):=fun ty=>by
  have:=run_append_room (P:=Tryz.prog) w.drew 23 ty 9 i0 Tryz.underlying23 hi0 g i c cur hgd A (n - j) (c - j) news (by rw [hlen,hz0];try rw [Nat.mul_one]) hsrc.out (fun u hu=>h1 u (by rw [hnews] at hu;exact List.mem_of_mem_drop hu)) (by omega) (by rw [hz0,hlen,hs];omega)
  rw [hz0] at this
  first|exact this|(rw [Nat.mul_one] at this;exact this)
 obtain ⟨B,hB⟩:∃ B,B=(cur.toList.take (i)++news++cur.toList.drop (i+news.length)).toArray:=⟨_,rfl⟩
 have hBs:B.size=cur.size:=by rw [hB];simp [hlen,hs];omega
 have hBt:B.toList.take ((i+(n - j)))=(cur.toList.take (n)).take (i)++news:=by
  rw [hB]
  simp only [List.toList_toArray]
  rw [List.take_append_of_le_length (by simp [hlen,hs];omega),List.take_of_length_le (by simp [hlen,hs];omega),List.take_take,Nat.min_eq_left (by omega)]
 have hgB:(w.drew.setRow g B).heap[g]?=some (.cells B 9 (0,0)):=setRow_heap _ _ _ _ _ _ hgd
 obtain ⟨Z,hZ⟩:∃ Z,Z=(Builtin.zeroCells (Value.string ByteArray.empty).cells (n - (i+(n - j)))).toList:=⟨_,rfl⟩
 have hZl:Z.length=(n - (i+(n - j))):=by rw [hZ];simp [Builtin.zeroCells,Value.cells]
 have hcl:∀ ty,(Builtin.clear_ #[23] ty #[.slice (some ⟨g,(i+(n - j)),none⟩) (n - (i+(n - j))) (c - (i+(n - j)))]).run Tryz.prog (w.drew.setRow g B) = .ok (.tuple #[]) ((w.drew.setRow g B).setRow g (B.toList.take ((i+(n - j)))++Z++B.toList.drop ((i+(n - j))+Z.length)).toArray):=fun ty=>by
  rw [hZ]
  refine hh_ _ 23 9 ty _ Tryz.underlying23 Tryz.zeroValue9 g _ _ _ (by omega) B 9 hgB (by
   have e:=hZl
   rw [hZ] at e
   exact Nat.le_trans (Nat.le_of_eq (congrArg (fun q=>(i+(n - j))+q) e)) (by first|(rw [hBs,hs,←Nat.add_mul];exact Nat.mul_le_mul_right _ (by omega))|(rw [hBs,hs];omega))) (fun v hv => ?_)
  exact zc_one _ (by kernel_rfl) _ v hv
 rw [←hB] at hr1
 obtain ⟨Z',hZ'⟩:∃ Z',Z'=(B.toList.take ((i+(n - j)))++Z++B.toList.drop ((i+(n - j))+Z.length)).toArray:=⟨_,rfl⟩
 have kZ:Hid (Z'.size=cur.size∧Z'.toList.take ((i+(n - j)))=(cur.toList.take (n)).take (i)++(cur.toList.take (n)).drop (j)):=by
  refine ⟨by rw [hZ'];simp [hZl,hBs,hs];omega,?_⟩
  rw [hZ',←hnews,←hBt]
  simp only [List.toList_toArray,List.append_assoc]
  rw [List.take_append_of_le_length (by simp [hBs,hs];omega),List.take_take,Nat.min_self]
 rw [←hZ'] at hcl
 clear hsrc h1 hB hBs hBt hgB hZ hZl hZ' hnews hlen hgd hg
 have hw1:¬ ((i:Int)=(j:Int)):=by omega
 have mixed:Tryz.prog.follows .mixedOrders=true:=by kernel_rfl
 go_enter Tryz.func196,Tryz.ntmps196
 go_wp2_with fail
 go_region_law_o (refine ev_ rfl (.tmp 22) (.tmp 25) 23 23 rfl _ _ (by simp [Act.eval,Act.put]) (by simp [Act.eval,Act.put,hA]) (hr1 _) ?_)
 go_wp2_with fail
 go_ret
 exact ⟨by rw [show n - (j - i)=i+(n - j) by omega];rfl,Z',by rw [setRow_setRow],kZ.out.1,by rw [show n - (j - i)=i+(n - j) by omega];exact kZ.out.2⟩
set_option maxRecDepth 1000000 in
theorem mv_ (w:World) (S:Value) (n i:Nat) (vals:List Value) (hS:w.ownsRow 0 9 1 S n vals) (hi:i≤n) :
  Calls Tryz.prog 196 #[S,.int .i64 i,.int .i64 i] w fun e w'=>e = .returned S∧w'=w:=by
 rcases (cP_.1 hS).2 with ⟨rfl,rfl⟩|⟨g,c,cur,rfl,-,hg,hnc,hcm,hcs,htake⟩
 · have hi0:i=0:=by omega
   subst hi0
   clear hS
   go_enter Tryz.func196,Tryz.ntmps196
   go_wp2_with fail
   all_goals (go_ret;exact ⟨rfl,rfl⟩)
 · unfold maxLen at hcm
   have hic:i≤c:=by omega
   clear hS hg hcs htake
   go_enter Tryz.func196,Tryz.ntmps196
   go_wp2_with fail
   all_goals (go_ret;exact ⟨rfl,rfl⟩)
theorem delM196:DelM Tryz.prog 196 9 1:=by
 intro w S n vals i j hS hij hj h1
 simp only [Nat.mul_one]
 by_cases e:i=j
 · subst e
   refine (mv_ w S n i vals hS hj).mono ?_
   rintro e w' ⟨rfl,rfl⟩
   refine ⟨S,rfl,by rw [Nat.sub_self,Nat.sub_zero,List.take_append_drop];exact hS,⟨rfl,rfl,rfl,Nat.le_refl _,fun _ _ _=>rfl⟩,fun b hb=>⟨.inr hb,iK_ hS b hb⟩⟩
 · rcases (cP_.1 hS).2 with ⟨rfl,rfl⟩|⟨g,c,cur,rfl,-,hg,hnc,hcm,hcs,htake⟩
   · omega
   · refine (Delete196 w g n c i j cur hg hcs hnc (by unfold maxLen at hcm;omega) (by omega) hj (by rw [htake];exact h1)).mono ?_
     rintro e w' ⟨rfl,A,rfl,hA,ht⟩
     rw [htake] at ht
     have hgd:w.drew.heap[g]?=some (.cells cur 9 (0,0)):=hg
     have hA2:=setRow_heap w.drew g cur A _ _ hgd
     refine ⟨_,rfl,cP_.2 ⟨by rw [←ht];simp [hA,hcs];omega,.inr ⟨g,c,A,rfl,Nat.zero_le _,hA2,by omega,hcm,by rw [hA,hcs],ht⟩⟩,⟨rfl,rfl,rfl,f4_ w g A,fun b _ hn => ?_⟩,fun b hb=>⟨.inr hb,?_⟩⟩
     · rw [setRow_other _ _ _ _ (fun e=>hn (by subst e;simp [b9_]))];rfl
     · have:g=b:=by simp only [b9_] at hb;exact Classical.byContradiction fun h=>hb (if_neg h)
       subst this
       exact (Array.getElem?_eq_some_iff.1 hA2).1
end Go.Proofs
namespace Go.Pi
open Go.Proofs
theorem a6_.ok (n:Nat) (_:CxOk E (cx n a6_.d.nt)) (_:KPar (cx n a6_.d.nt)):a6_.d.Ok E (a6_.F (n+1)):=fun _ _ h=>nDel_ok (t:=.str) (m:=.d) (by decide) delM196 h
end Go.Pi
end
section
namespace Go.Pi
open Go.Proofs
theorem kpar (n nt:Nat):KPar (cx n nt):=KH_par (l:=KL n) ⟨FD.kp,FD.kp,FD.kp,FD.kp,FD.kp,FD.kp,FD.kp,FD.kp,FD.kp,FD.kp,FD.kp,FD.kp,FD.kp,FD.kp,FD.kp,FD.kp,FD.kp,FD.kp,FD.kp,FD.kp,FD.kp,FD.kp,FD.kp,FD.kp,FD.kp,FD.kp,FD.kp,FD.kp,FD.kp,FD.kp,FD.kp,FD.kp,FD.kp,FD.kp,FD.kp,FD.kp,FD.kp,FD.kp,FD.kp,FD.kp,FD.kp,FD.kp,FD.kp,FD.kp,FD.kp,FD.kp,FD.kp,FD.kp,FD.kp,FD.kp,FD.kp,FD.kp,FD.kp,FD.kp,FD.kp,FD.kp,FD.kp,FD.kp,FD.kp,FD.kp,FD.kp,FD.kp,FD.kp,FD.kp,FD.kp,FD.kp,FD.kp,FD.kp,FD.kp,FD.kp,FD.kp,FD.kp,FD.kp,FD.kp,FD.kp,FD.kp,FD.kp,FD.kp,FD.kp,FD.kp,FD.kp,FD.kp,FD.kp,FD.kp,FD.kp,FD.kp,FD.kp,FD.kp,FD.kp,FD.kp,FD.kp,FD.kp,FD.kp,FD.kp,FD.kp,FD.kp,FD.kp,FD.kp,FD.kp,FD.kp,FD.kp,FD.kp,FD.kp,FD.kp,FD.kp,FD.kp,FD.kp,FD.kp,FD.kp,FD.kp,trivial⟩
structure AllOk (n:Nat):Prop where
 h0:aJ_.d.Ok E (aJ_.F n)
 h1:aw_.d.Ok E (aw_.F n)
 h2:bi_.d.Ok E (bi_.F n)
 h3:bF_.d.Ok E (bF_.F n)
 h4:ct_.d.Ok E (ct_.F n)
 h5:a0_.d.Ok E (a0_.F n)
 h6:bQ_.d.Ok E (bQ_.F n)
 h7:aK_.d.Ok E (aK_.F n)
 h8:az_.d.Ok E (az_.F n)
 h9:bn_.d.Ok E (bn_.F n)
 h10:bu_.d.Ok E (bu_.F n)
 h11:cs_.d.Ok E (cs_.F n)
 h12:a2_.d.Ok E (a2_.F n)
 h13:bC_.d.Ok E (bC_.F n)
 h14:aA_.d.Ok E (aA_.F n)
 h15:bO_.d.Ok E (bO_.F n)
 h16:cb_.d.Ok E (cb_.F n)
 h17:aT_.d.Ok E (aT_.F n)
 h18:ad_.d.Ok E (ad_.F n)
 h19:ax_.d.Ok E (ax_.F n)
 h20:bD_.d.Ok E (bD_.F n)
 h21:aD_.d.Ok E (aD_.F n)
 h22:aL_.d.Ok E (aL_.F n)
 h23:av_.d.Ok E (av_.F n)
 h24:bW_.d.Ok E (bW_.F n)
 h25:ae_.d.Ok E (ae_.F n)
 h26:bb_.d.Ok E (bb_.F n)
 h27:bN_.d.Ok E (bN_.F n)
 h28:am_.d.Ok E (am_.F n)
 h29:a1_.d.Ok E (a1_.F n)
 h30:b6_.d.Ok E (b6_.F n)
 h31:aU_.d.Ok E (aU_.F n)
 h32:bP_.d.Ok E (bP_.F n)
 h33:bM_.d.Ok E (bM_.F n)
 h34:bd_.d.Ok E (bd_.F n)
 h35:aM_.d.Ok E (aM_.F n)
 h36:cq_.d.Ok E (cq_.F n)
 h37:cg_.d.Ok E (cg_.F n)
 h38:ba_.d.Ok E (ba_.F n)
 h39:bB_.d.Ok E (bB_.F n)
 h40:ch_.d.Ok E (ch_.F n)
 h41:aI_.d.Ok E (aI_.F n)
 h42:bo_.d.Ok E (bo_.F n)
 h43:bq_.d.Ok E (bq_.F n)
 h44:ak_.d.Ok E (ak_.F n)
 h45:bp_.d.Ok E (bp_.F n)
 h46:aE_.d.Ok E (aE_.F n)
 h47:bs_.d.Ok E (bs_.F n)
 h48:aY_.d.Ok E (aY_.F n)
 h49:an_.d.Ok E (an_.F n)
 h50:aj_.d.Ok E (aj_.F n)
 h51:cj_.d.Ok E (cj_.F n)
 h52:aO_.d.Ok E (aO_.F n)
 h53:bE_.d.Ok E (bE_.F n)
 h54:aW_.d.Ok E (aW_.F n)
 h55:strconv_Itoa.d.Ok E (strconv_Itoa.F n)
 h56:strings_Join.d.Ok E (strings_Join.F n)
 h57:aG_.d.Ok E (aG_.F n)
 h58:b2_.d.Ok E (b2_.F n)
 h59:bX_.d.Ok E (bX_.F n)
 h60:bc_.d.Ok E (bc_.F n)
 h61:bS_.d.Ok E (bS_.F n)
 h62:strings_ReplaceAll.d.Ok E (strings_ReplaceAll.F n)
 h63:aR_.d.Ok E (aR_.F n)
 h64:b1_.d.Ok E (b1_.F n)
 h65:b7_.d.Ok E (b7_.F n)
 h66:aN_.d.Ok E (aN_.F n)
 h67:bx_.d.Ok E (bx_.F n)
 h68:bU_.d.Ok E (bU_.F n)
 h69:ah_.d.Ok E (ah_.F n)
 h70:ab_.d.Ok E (ab_.F n)
 h71:bY_.d.Ok E (bY_.F n)
 h72:ci_.d.Ok E (ci_.F n)
 h73:a7_.d.Ok E (a7_.F n)
 h74:bg_.d.Ok E (bg_.F n)
 h75:aV_.d.Ok E (aV_.F n)
 h76:ac_.d.Ok E (ac_.F n)
 h77:a5_.d.Ok E (a5_.F n)
 h78:a8_.d.Ok E (a8_.F n)
 h79:ca_.d.Ok E (ca_.F n)
 h80:bK_.d.Ok E (bK_.F n)
 h81:bT_.d.Ok E (bT_.F n)
 h82:ag_.d.Ok E (ag_.F n)
 h83:bJ_.d.Ok E (bJ_.F n)
 h84:bf_.d.Ok E (bf_.F n)
 h85:a6_.d.Ok E (a6_.F n)
 h86:bz_.d.Ok E (bz_.F n)
 h87:bt_.d.Ok E (bt_.F n)
 h88:ck_.d.Ok E (ck_.F n)
 h89:aH_.d.Ok E (aH_.F n)
 h90:bl_.d.Ok E (bl_.F n)
 h91:aQ_.d.Ok E (aQ_.F n)
 h92:aC_.d.Ok E (aC_.F n)
 h93:br_.d.Ok E (br_.F n)
 h94:bv_.d.Ok E (bv_.F n)
 h95:cu_.d.Ok E (cu_.F n)
 h96:a3_.d.Ok E (a3_.F n)
 h97:bR_.d.Ok E (bR_.F n)
 h98:aB_.d.Ok E (aB_.F n)
 h99:al_.d.Ok E (al_.F n)
 h100:ap_.d.Ok E (ap_.F n)
 h101:by_.d.Ok E (by_.F n)
 h102:bj_.d.Ok E (bj_.F n)
 h103:aP_.d.Ok E (aP_.F n)
 h104:bw_.d.Ok E (bw_.F n)
 h105:ao_.d.Ok E (ao_.F n)
 h106:aq_.d.Ok E (aq_.F n)
 h107:bG_.d.Ok E (bG_.F n)
 h108:bk_.d.Ok E (bk_.F n)
 h109:laws_FnExactClientTake.d.Ok E (laws_FnExactClientTake.F n)
theorem kok (n nt:Nat) (a:AllOk n):KOk E (cx n nt):=KH_ok (l:=KL n) ⟨FD.kf (d:=laws_FnExactClientTake.d) Tryz.func4 (by kernel_rfl) (by kernel_rfl) (by kernel_rfl) a.h109,FD.kf (d:=bR_.d) Tryz.func11 (by kernel_rfl) (by kernel_rfl) (by kernel_rfl) a.h97,FD.kf (d:=bw_.d) Tryz.func12 (by kernel_rfl) (by kernel_rfl) (by kernel_rfl) a.h104,FD.kf (d:=bF_.d) Tryz.func14 (by kernel_rfl) (by kernel_rfl) (by kernel_rfl) a.h3,FD.kf (d:=bQ_.d) Tryz.func15 (by kernel_rfl) (by kernel_rfl) (by kernel_rfl) a.h6,FD.kf (d:=bo_.d) Tryz.func16 (by kernel_rfl) (by kernel_rfl) (by kernel_rfl) a.h42,FD.kf (d:=bu_.d) Tryz.func17 (by kernel_rfl) (by kernel_rfl) (by kernel_rfl) a.h10,FD.kf (d:=bC_.d) Tryz.func18 (by kernel_rfl) (by kernel_rfl) (by kernel_rfl) a.h13,FD.kf (d:=bl_.d) Tryz.func19 (by kernel_rfl) (by kernel_rfl) (by kernel_rfl) a.h90,FD.kf (d:=bv_.d) Tryz.func20 (by kernel_rfl) (by kernel_rfl) (by kernel_rfl) a.h94,FD.kf (d:=bj_.d) Tryz.func21 (by kernel_rfl) (by kernel_rfl) (by kernel_rfl) a.h102,FD.kf (d:=bk_.d) Tryz.func22 (by kernel_rfl) (by kernel_rfl) (by kernel_rfl) a.h108,FD.kf (d:=aw_.d) Tryz.func35 (by kernel_rfl) (by kernel_rfl) (by kernel_rfl) a.h1,FD.kf (d:=az_.d) Tryz.func37 (by kernel_rfl) (by kernel_rfl) (by kernel_rfl) a.h8,FD.kf (d:=aC_.d) Tryz.func39 (by kernel_rfl) (by kernel_rfl) (by kernel_rfl) a.h92,FD.kf (d:=al_.d) Tryz.func40 (by kernel_rfl) (by kernel_rfl) (by kernel_rfl) a.h99,FD.kf (d:=br_.d) Tryz.func51 (by kernel_rfl) (by kernel_rfl) (by kernel_rfl) a.h93,FD.kf (d:=a3_.d) Tryz.func52 (by kernel_rfl) (by kernel_rfl) (by kernel_rfl) a.h96,FD.kf (d:=by_.d) Tryz.func53 (by kernel_rfl) (by kernel_rfl) (by kernel_rfl) a.h101,FD.kf (d:=aP_.d) Tryz.func54 (by kernel_rfl) (by kernel_rfl) (by kernel_rfl) a.h103,FD.kf (d:=bG_.d) Tryz.func55 (by kernel_rfl) (by kernel_rfl) (by kernel_rfl) a.h107,FD.kf (d:=bi_.d) Tryz.func57 (by kernel_rfl) (by kernel_rfl) (by kernel_rfl) a.h2,FD.kf (d:=a0_.d) Tryz.func58 (by kernel_rfl) (by kernel_rfl) (by kernel_rfl) a.h5,FD.kf (d:=bO_.d) Tryz.func59 (by kernel_rfl) (by kernel_rfl) (by kernel_rfl) a.h15,FD.kf (d:=bP_.d) Tryz.func60 (by kernel_rfl) (by kernel_rfl) (by kernel_rfl) a.h32,FD.kf (d:=aA_.d) Tryz.func61 (by kernel_rfl) (by kernel_rfl) (by kernel_rfl) a.h14,FD.kf (d:=aI_.d) Tryz.func62 (by kernel_rfl) (by kernel_rfl) (by kernel_rfl) a.h41,FD.kf (d:=bn_.d) Tryz.func63 (by kernel_rfl) (by kernel_rfl) (by kernel_rfl) a.h9,FD.kf (d:=a2_.d) Tryz.func64 (by kernel_rfl) (by kernel_rfl) (by kernel_rfl) a.h12,FD.kf (d:=bp_.d) Tryz.func65 (by kernel_rfl) (by kernel_rfl) (by kernel_rfl) a.h45,FD.kf (d:=bU_.d) Tryz.func66 (by kernel_rfl) (by kernel_rfl) (by kernel_rfl) a.h68,FD.kf (d:=ak_.d) Tryz.func67 (by kernel_rfl) (by kernel_rfl) (by kernel_rfl) a.h44,FD.kf (d:=aH_.d) Tryz.func68 (by kernel_rfl) (by kernel_rfl) (by kernel_rfl) a.h89,FD.kf (d:=aB_.d) Tryz.func69 (by kernel_rfl) (by kernel_rfl) (by kernel_rfl) a.h98,FD.kf (d:=ap_.d) Tryz.func70 (by kernel_rfl) (by kernel_rfl) (by kernel_rfl) a.h100,FD.kf (d:=aq_.d) Tryz.func73 (by kernel_rfl) (by kernel_rfl) (by kernel_rfl) a.h106,FD.kf (d:=ao_.d) Tryz.func74 (by kernel_rfl) (by kernel_rfl) (by kernel_rfl) a.h105,FD.kf (d:=aD_.d) Tryz.func76 (by kernel_rfl) (by kernel_rfl) (by kernel_rfl) a.h21,FD.kf (d:=bW_.d) Tryz.func78 (by kernel_rfl) (by kernel_rfl) (by kernel_rfl) a.h24,FD.kf (d:=bN_.d) Tryz.func80 (by kernel_rfl) (by kernel_rfl) (by kernel_rfl) a.h27,FD.kf (d:=b6_.d) Tryz.func83 (by kernel_rfl) (by kernel_rfl) (by kernel_rfl) a.h30,FD.kf (d:=aU_.d) Tryz.func84 (by kernel_rfl) (by kernel_rfl) (by kernel_rfl) a.h31,FD.kf (d:=ca_.d) Tryz.func87 (by kernel_rfl) (by kernel_rfl) (by kernel_rfl) a.h79,FD.kf (d:=b2_.d) Tryz.func92 (by kernel_rfl) (by kernel_rfl) (by kernel_rfl) a.h58,FD.kf (d:=aN_.d) Tryz.func93 (by kernel_rfl) (by kernel_rfl) (by kernel_rfl) a.h66,FD.kf (d:=aQ_.d) Tryz.func94 (by kernel_rfl) (by kernel_rfl) (by kernel_rfl) a.h91,FD.kf (d:=cu_.d) Tryz.func95 (by kernel_rfl) (by kernel_rfl) (by kernel_rfl) a.h95,FD.kf (d:=aJ_.d) Tryz.func96 (by kernel_rfl) (by kernel_rfl) (by kernel_rfl) a.h0,FD.kf (d:=ct_.d) Tryz.func97 (by kernel_rfl) (by kernel_rfl) (by kernel_rfl) a.h4,FD.kf (d:=cb_.d) Tryz.func98 (by kernel_rfl) (by kernel_rfl) (by kernel_rfl) a.h16,FD.kf (d:=ae_.d) Tryz.func99 (by kernel_rfl) (by kernel_rfl) (by kernel_rfl) a.h25,FD.kf (d:=bD_.d) Tryz.func100 (by kernel_rfl) (by kernel_rfl) (by kernel_rfl) a.h20,FD.kf (d:=ch_.d) Tryz.func101 (by kernel_rfl) (by kernel_rfl) (by kernel_rfl) a.h40,FD.kf (d:=aK_.d) Tryz.func102 (by kernel_rfl) (by kernel_rfl) (by kernel_rfl) a.h7,FD.kf (d:=cs_.d) Tryz.func103 (by kernel_rfl) (by kernel_rfl) (by kernel_rfl) a.h11,FD.kf (d:=bs_.d) Tryz.func104 (by kernel_rfl) (by kernel_rfl) (by kernel_rfl) a.h47,FD.kf (d:=aE_.d) Tryz.func105 (by kernel_rfl) (by kernel_rfl) (by kernel_rfl) a.h46,FD.kf (d:=bX_.d) Tryz.func106 (by kernel_rfl) (by kernel_rfl) (by kernel_rfl) a.h59,FD.kf (d:=bx_.d) Tryz.func107 (by kernel_rfl) (by kernel_rfl) (by kernel_rfl) a.h67,FD.kf (d:=bq_.d) Tryz.func108 (by kernel_rfl) (by kernel_rfl) (by kernel_rfl) a.h43,FD.kf (d:=bE_.d) Tryz.func109 (by kernel_rfl) (by kernel_rfl) (by kernel_rfl) a.h53,FD.kf (d:=ck_.d) Tryz.func110 (by kernel_rfl) (by kernel_rfl) (by kernel_rfl) a.h88,FD.kf (d:=av_.d) Tryz.func116 (by kernel_rfl) (by kernel_rfl) (by kernel_rfl) a.h23,FD.kf (d:=bd_.d) Tryz.func117 (by kernel_rfl) (by kernel_rfl) (by kernel_rfl) a.h34,FD.kf (d:=bb_.d) Tryz.func118 (by kernel_rfl) (by kernel_rfl) (by kernel_rfl) a.h26,FD.kf (d:=am_.d) Tryz.func119 (by kernel_rfl) (by kernel_rfl) (by kernel_rfl) a.h28,FD.kf (d:=a1_.d) Tryz.func120 (by kernel_rfl) (by kernel_rfl) (by kernel_rfl) a.h29,FD.kf (d:=strconv_Itoa.d) Tryz.func128 (by kernel_rfl) (by kernel_rfl) (by kernel_rfl) a.h55,FD.kf (d:=aG_.d) Tryz.func129 (by kernel_rfl) (by kernel_rfl) (by kernel_rfl) a.h57,FD.kf (d:=b7_.d) Tryz.func130 (by kernel_rfl) (by kernel_rfl) (by kernel_rfl) a.h65,FD.kf (d:=ax_.d) Tryz.func131 (by kernel_rfl) (by kernel_rfl) (by kernel_rfl) a.h19,FD.kf (d:=bB_.d) Tryz.func132 (by kernel_rfl) (by kernel_rfl) (by kernel_rfl) a.h39,FD.kf (d:=aO_.d) Tryz.func133 (by kernel_rfl) (by kernel_rfl) (by kernel_rfl) a.h52,FD.kf (d:=bc_.d) Tryz.func134 (by kernel_rfl) (by kernel_rfl) (by kernel_rfl) a.h60,FD.kf (d:=bt_.d) Tryz.func135 (by kernel_rfl) (by kernel_rfl) (by kernel_rfl) a.h87,FD.kf (d:=aL_.d) Tryz.func140 (by kernel_rfl) (by kernel_rfl) (by kernel_rfl) a.h22,FD.kf (d:=aT_.d) Tryz.func141 (by kernel_rfl) (by kernel_rfl) (by kernel_rfl) a.h17,FD.kf (d:=ag_.d) Tryz.func156 (by kernel_rfl) (by kernel_rfl) (by kernel_rfl) a.h82,FD.kf (d:=bS_.d) Tryz.func157 (by kernel_rfl) (by kernel_rfl) (by kernel_rfl) a.h61,FD.kf (d:=aW_.d) Tryz.func160 (by kernel_rfl) (by kernel_rfl) (by kernel_rfl) a.h54,FD.kf (d:=strings_Join.d) Tryz.func161 (by kernel_rfl) (by kernel_rfl) (by kernel_rfl) a.h56,FD.kf (d:=aR_.d) Tryz.func162 (by kernel_rfl) (by kernel_rfl) (by kernel_rfl) a.h63,FD.kf (d:=b1_.d) Tryz.func163 (by kernel_rfl) (by kernel_rfl) (by kernel_rfl) a.h64,FD.kf (d:=ad_.d) Tryz.func164 (by kernel_rfl) (by kernel_rfl) (by kernel_rfl) a.h18,FD.kf (d:=bM_.d) Tryz.func165 (by kernel_rfl) (by kernel_rfl) (by kernel_rfl) a.h33,FD.kf (d:=ba_.d) Tryz.func166 (by kernel_rfl) (by kernel_rfl) (by kernel_rfl) a.h38,FD.kf (d:=cq_.d) Tryz.func167 (by kernel_rfl) (by kernel_rfl) (by kernel_rfl) a.h36,FD.kf (d:=cj_.d) Tryz.func168 (by kernel_rfl) (by kernel_rfl) (by kernel_rfl) a.h51,FD.kf (d:=an_.d) Tryz.func169 (by kernel_rfl) (by kernel_rfl) (by kernel_rfl) a.h49,FD.kf (d:=ci_.d) Tryz.func170 (by kernel_rfl) (by kernel_rfl) (by kernel_rfl) a.h72,FD.kf (d:=bT_.d) Tryz.func171 (by kernel_rfl) (by kernel_rfl) (by kernel_rfl) a.h81,FD.kf (d:=bJ_.d) Tryz.func172 (by kernel_rfl) (by kernel_rfl) (by kernel_rfl) a.h83,FD.kf (d:=bz_.d) Tryz.func173 (by kernel_rfl) (by kernel_rfl) (by kernel_rfl) a.h86,FD.kf (d:=strings_ReplaceAll.d) Tryz.func181 (by kernel_rfl) (by kernel_rfl) (by kernel_rfl) a.h62,FD.kf (d:=bY_.d) Tryz.func182 (by kernel_rfl) (by kernel_rfl) (by kernel_rfl) a.h71,FD.kf (d:=cg_.d) Tryz.func187 (by kernel_rfl) (by kernel_rfl) (by kernel_rfl) a.h37,FD.kf (d:=aM_.d) Tryz.func188 (by kernel_rfl) (by kernel_rfl) (by kernel_rfl) a.h35,FD.kf (d:=aY_.d) Tryz.func189 (by kernel_rfl) (by kernel_rfl) (by kernel_rfl) a.h48,FD.kf (d:=aj_.d) Tryz.func190 (by kernel_rfl) (by kernel_rfl) (by kernel_rfl) a.h50,FD.kf (d:=ac_.d) Tryz.func191 (by kernel_rfl) (by kernel_rfl) (by kernel_rfl) a.h76,FD.kf (d:=a5_.d) Tryz.func192 (by kernel_rfl) (by kernel_rfl) (by kernel_rfl) a.h77,FD.kf (d:=a8_.d) Tryz.func193 (by kernel_rfl) (by kernel_rfl) (by kernel_rfl) a.h78,FD.kf (d:=bK_.d) Tryz.func194 (by kernel_rfl) (by kernel_rfl) (by kernel_rfl) a.h80,FD.kf (d:=bf_.d) Tryz.func195 (by kernel_rfl) (by kernel_rfl) (by kernel_rfl) a.h84,FD.kf (d:=a6_.d) Tryz.func196 (by kernel_rfl) (by kernel_rfl) (by kernel_rfl) a.h85,FD.kf (d:=ah_.d) Tryz.func201 (by kernel_rfl) (by kernel_rfl) (by kernel_rfl) a.h69,FD.kf (d:=ab_.d) Tryz.func202 (by kernel_rfl) (by kernel_rfl) (by kernel_rfl) a.h70,FD.kf (d:=bg_.d) Tryz.func209 (by kernel_rfl) (by kernel_rfl) (by kernel_rfl) a.h74,FD.kf (d:=aV_.d) Tryz.func210 (by kernel_rfl) (by kernel_rfl) (by kernel_rfl) a.h75,FD.kf (d:=a7_.d) Tryz.func225 (by kernel_rfl) (by kernel_rfl) (by kernel_rfl) a.h73,trivial⟩
theorem cy_ (n nt:Nat) (a:AllOk n):CxOk E (cx n nt):=⟨ttOk,tcOk,u8Ok,kok n nt a⟩
theorem bI_:∀ n,AllOk n
 |0=>⟨fun _ _ h=>(by cases h),fun _ _ h=>(by cases h),fun _ _ h=>(by cases h),fun _ _ h=>(by cases h),fun _ _ h=>(by cases h),fun _ _ h=>(by cases h),fun _ _ h=>(by cases h),fun _ _ h=>(by cases h),fun _ _ h=>(by cases h),fun _ _ h=>(by cases h),fun _ _ h=>(by cases h),fun _ _ h=>(by cases h),fun _ _ h=>(by cases h),fun _ _ h=>(by cases h),fun _ _ h=>(by cases h),fun _ _ h=>(by cases h),fun _ _ h=>(by cases h),fun _ _ h=>(by cases h),fun _ _ h=>(by cases h),fun _ _ h=>(by cases h),fun _ _ h=>(by cases h),fun _ _ h=>(by cases h),fun _ _ h=>(by cases h),fun _ _ h=>(by cases h),fun _ _ h=>(by cases h),fun _ _ h=>(by cases h),fun _ _ h=>(by cases h),fun _ _ h=>(by cases h),fun _ _ h=>(by cases h),fun _ _ h=>(by cases h),fun _ _ h=>(by cases h),fun _ _ h=>(by cases h),fun _ _ h=>(by cases h),fun _ _ h=>(by cases h),fun _ _ h=>(by cases h),fun _ _ h=>(by cases h),fun _ _ h=>(by cases h),fun _ _ h=>(by cases h),fun _ _ h=>(by cases h),fun _ _ h=>(by cases h),fun _ _ h=>(by cases h),fun _ _ h=>(by cases h),fun _ _ h=>(by cases h),fun _ _ h=>(by cases h),fun _ _ h=>(by cases h),fun _ _ h=>(by cases h),fun _ _ h=>(by cases h),fun _ _ h=>(by cases h),fun _ _ h=>(by cases h),fun _ _ h=>(by cases h),fun _ _ h=>(by cases h),fun _ _ h=>(by cases h),fun _ _ h=>(by cases h),fun _ _ h=>(by cases h),fun _ _ h=>(by cases h),fun _ _ h=>(by cases h),fun _ _ h=>(by cases h),fun _ _ h=>(by cases h),fun _ _ h=>(by cases h),fun _ _ h=>(by cases h),fun _ _ h=>(by cases h),fun _ _ h=>(by cases h),fun _ _ h=>(by cases h),fun _ _ h=>(by cases h),fun _ _ h=>(by cases h),fun _ _ h=>(by cases h),fun _ _ h=>(by cases h),fun _ _ h=>(by cases h),fun _ _ h=>(by cases h),fun _ _ h=>(by cases h),fun _ _ h=>(by cases h),fun _ _ h=>(by cases h),fun _ _ h=>(by cases h),fun _ _ h=>(by cases h),fun _ _ h=>(by cases h),fun _ _ h=>(by cases h),fun _ _ h=>(by cases h),fun _ _ h=>(by cases h),fun _ _ h=>(by cases h),fun _ _ h=>(by cases h),fun _ _ h=>(by cases h),fun _ _ h=>(by cases h),fun _ _ h=>(by cases h),fun _ _ h=>(by cases h),fun _ _ h=>(by cases h),fun _ _ h=>(by cases h),fun _ _ h=>(by cases h),fun _ _ h=>(by cases h),fun _ _ h=>(by cases h),fun _ _ h=>(by cases h),fun _ _ h=>(by cases h),fun _ _ h=>(by cases h),fun _ _ h=>(by cases h),fun _ _ h=>(by cases h),fun _ _ h=>(by cases h),fun _ _ h=>(by cases h),fun _ _ h=>(by cases h),fun _ _ h=>(by cases h),fun _ _ h=>(by cases h),fun _ _ h=>(by cases h),fun _ _ h=>(by cases h),fun _ _ h=>(by cases h),fun _ _ h=>(by cases h),fun _ _ h=>(by cases h),fun _ _ h=>(by cases h),fun _ _ h=>(by cases h),fun _ _ h=>(by cases h),fun _ _ h=>(by cases h),fun _ _ h=>(by cases h),fun _ _ h=>(by cases h)⟩
 |n+1=>⟨aJ_.ok n (cy_ n _ (bI_ n)) (kpar n _),aw_.ok n (cy_ n _ (bI_ n)) (kpar n _),bi_.ok n (cy_ n _ (bI_ n)) (kpar n _),bF_.ok n (cy_ n _ (bI_ n)) (kpar n _),ct_.ok n (cy_ n _ (bI_ n)) (kpar n _),a0_.ok n (cy_ n _ (bI_ n)) (kpar n _),bQ_.ok n (cy_ n _ (bI_ n)) (kpar n _),aK_.ok n (cy_ n _ (bI_ n)) (kpar n _),az_.ok n (cy_ n _ (bI_ n)) (kpar n _),bn_.ok n (cy_ n _ (bI_ n)) (kpar n _),bu_.ok n (cy_ n _ (bI_ n)) (kpar n _),cs_.ok n (cy_ n _ (bI_ n)) (kpar n _),a2_.ok n (cy_ n _ (bI_ n)) (kpar n _),bC_.ok n (cy_ n _ (bI_ n)) (kpar n _),aA_.ok n (cy_ n _ (bI_ n)) (kpar n _),bO_.ok n (cy_ n _ (bI_ n)) (kpar n _),cb_.ok n (cy_ n _ (bI_ n)) (kpar n _),aT_.ok n (cy_ n _ (bI_ n)) (kpar n _),ad_.ok n (cy_ n _ (bI_ n)) (kpar n _),ax_.ok n (cy_ n _ (bI_ n)) (kpar n _),bD_.ok n (cy_ n _ (bI_ n)) (kpar n _),aD_.ok n (cy_ n _ (bI_ n)) (kpar n _),aL_.ok n (cy_ n _ (bI_ n)) (kpar n _),av_.ok n (cy_ n _ (bI_ n)) (kpar n _),bW_.ok n (cy_ n _ (bI_ n)) (kpar n _),ae_.ok n (cy_ n _ (bI_ n)) (kpar n _),bb_.ok n (cy_ n _ (bI_ n)) (kpar n _),bN_.ok n (cy_ n _ (bI_ n)) (kpar n _),am_.ok n (cy_ n _ (bI_ n)) (kpar n _),a1_.ok n (cy_ n _ (bI_ n)) (kpar n _),b6_.ok n (cy_ n _ (bI_ n)) (kpar n _),aU_.ok n (cy_ n _ (bI_ n)) (kpar n _),bP_.ok n (cy_ n _ (bI_ n)) (kpar n _),bM_.ok n (cy_ n _ (bI_ n)) (kpar n _),bd_.ok n (cy_ n _ (bI_ n)) (kpar n _),aM_.ok n (cy_ n _ (bI_ n)) (kpar n _),cq_.ok n (cy_ n _ (bI_ n)) (kpar n _),cg_.ok n (cy_ n _ (bI_ n)) (kpar n _),ba_.ok n (cy_ n _ (bI_ n)) (kpar n _),bB_.ok n (cy_ n _ (bI_ n)) (kpar n _),ch_.ok n (cy_ n _ (bI_ n)) (kpar n _),aI_.ok n (cy_ n _ (bI_ n)) (kpar n _),bo_.ok n (cy_ n _ (bI_ n)) (kpar n _),bq_.ok n (cy_ n _ (bI_ n)) (kpar n _),ak_.ok n (cy_ n _ (bI_ n)) (kpar n _),bp_.ok n (cy_ n _ (bI_ n)) (kpar n _),aE_.ok n (cy_ n _ (bI_ n)) (kpar n _),bs_.ok n (cy_ n _ (bI_ n)) (kpar n _),aY_.ok n (cy_ n _ (bI_ n)) (kpar n _),an_.ok n (cy_ n _ (bI_ n)) (kpar n _),aj_.ok n (cy_ n _ (bI_ n)) (kpar n _),cj_.ok n (cy_ n _ (bI_ n)) (kpar n _),aO_.ok n (cy_ n _ (bI_ n)) (kpar n _),bE_.ok n (cy_ n _ (bI_ n)) (kpar n _),aW_.ok n (cy_ n _ (bI_ n)) (kpar n _),strconv_Itoa.ok n (cy_ n _ (bI_ n)) (kpar n _),strings_Join.ok n (cy_ n _ (bI_ n)) (kpar n _),aG_.ok n (cy_ n _ (bI_ n)) (kpar n _),b2_.ok n (cy_ n _ (bI_ n)) (kpar n _),bX_.ok n (cy_ n _ (bI_ n)) (kpar n _),bc_.ok n (cy_ n _ (bI_ n)) (kpar n _),bS_.ok n (cy_ n _ (bI_ n)) (kpar n _),strings_ReplaceAll.ok n (cy_ n _ (bI_ n)) (kpar n _),aR_.ok n (cy_ n _ (bI_ n)) (kpar n _),b1_.ok n (cy_ n _ (bI_ n)) (kpar n _),b7_.ok n (cy_ n _ (bI_ n)) (kpar n _),aN_.ok n (cy_ n _ (bI_ n)) (kpar n _),bx_.ok n (cy_ n _ (bI_ n)) (kpar n _),bU_.ok n (cy_ n _ (bI_ n)) (kpar n _),ah_.ok n (cy_ n _ (bI_ n)) (kpar n _),ab_.ok n (cy_ n _ (bI_ n)) (kpar n _),bY_.ok n (cy_ n _ (bI_ n)) (kpar n _),ci_.ok n (cy_ n _ (bI_ n)) (kpar n _),a7_.ok n (cy_ n _ (bI_ n)) (kpar n _),bg_.ok n (cy_ n _ (bI_ n)) (kpar n _),aV_.ok n (cy_ n _ (bI_ n)) (kpar n _),ac_.ok n (cy_ n _ (bI_ n)) (kpar n _),a5_.ok n (cy_ n _ (bI_ n)) (kpar n _),a8_.ok n (cy_ n _ (bI_ n)) (kpar n _),ca_.ok n (cy_ n _ (bI_ n)) (kpar n _),bK_.ok n (cy_ n _ (bI_ n)) (kpar n _),bT_.ok n (cy_ n _ (bI_ n)) (kpar n _),ag_.ok n (cy_ n _ (bI_ n)) (kpar n _),bJ_.ok n (cy_ n _ (bI_ n)) (kpar n _),bf_.ok n (cy_ n _ (bI_ n)) (kpar n _),a6_.ok n (cy_ n _ (bI_ n)) (kpar n _),bz_.ok n (cy_ n _ (bI_ n)) (kpar n _),bt_.ok n (cy_ n _ (bI_ n)) (kpar n _),ck_.ok n (cy_ n _ (bI_ n)) (kpar n _),aH_.ok n (cy_ n _ (bI_ n)) (kpar n _),bl_.ok n (cy_ n _ (bI_ n)) (kpar n _),aQ_.ok n (cy_ n _ (bI_ n)) (kpar n _),aC_.ok n (cy_ n _ (bI_ n)) (kpar n _),br_.ok n (cy_ n _ (bI_ n)) (kpar n _),bv_.ok n (cy_ n _ (bI_ n)) (kpar n _),cu_.ok n (cy_ n _ (bI_ n)) (kpar n _),a3_.ok n (cy_ n _ (bI_ n)) (kpar n _),bR_.ok n (cy_ n _ (bI_ n)) (kpar n _),aB_.ok n (cy_ n _ (bI_ n)) (kpar n _),al_.ok n (cy_ n _ (bI_ n)) (kpar n _),ap_.ok n (cy_ n _ (bI_ n)) (kpar n _),by_.ok n (cy_ n _ (bI_ n)) (kpar n _),bj_.ok n (cy_ n _ (bI_ n)) (kpar n _),aP_.ok n (cy_ n _ (bI_ n)) (kpar n _),bw_.ok n (cy_ n _ (bI_ n)) (kpar n _),ao_.ok n (cy_ n _ (bI_ n)) (kpar n _),aq_.ok n (cy_ n _ (bI_ n)) (kpar n _),bG_.ok n (cy_ n _ (bI_ n)) (kpar n _),bk_.ok n (cy_ n _ (bI_ n)) (kpar n _),laws_FnExactClientTake.ok n (cy_ n _ (bI_ n)) (kpar n _)⟩
end Go.Pi
end
section
namespace Go.Pi
inductive Kd where
 |i (k:IntKind)
 |b
 |s
 |sl (t:TC)
def kdsL (P:Program) (rec_:TypeId→Option (List Kd)):List Field→Nat→Option (List Kd)
 |[],_=>some []
 |f::fs,off=>cond (Nat.beq f.offset off) (match rec_ f.type with
  |some ks=>cond (Nat.beq (P.cellsOf f.type) ks.length) (match kdsL P rec_ fs (off+ks.length) with
   |some r=>some (ks++r)
   |none=>none) none
  |none=>none) none
def kds (P:Program) (gI_:TypeId→Option TC):Nat→TypeId→Option (List Kd)
 |0,_=>none
 |d+1,T=>match P.underlying T with
  |some (.int k)=>some [.i k]
  |some .bool=>some [.b]
  |some .string=>some [.s]
  |some (.slice e)=>match gI_ e with
   |some t=>some [.sl t]
   |none=>none
  |some (.struct fs)=>match kdsL P (kds P gI_ d) fs.toList 0 with
   |some ks=>cond (Nat.beq (P.cellsOf T) ks.length) (some ks) none
   |none=>none
  |_=>none
inductive Good [af_]:AV→Prop
 |i (k n):(Lit.int k n).wf=true→Good (.i k n)
 |b (q):Good (.b q)
 |s (l):l.length≤maxLen→Good (.s l)
 |sl (t xs):xs.length≤maxLen→(∀ x ∈ xs,∀ c ∈ af_.enc .v t x,Good c)→Good (.sl .v t xs)
def KindOk:Kd→AV→Prop
 |.i k,a=>∃ n,a = .i k n
 |.b,a=>∃ q,a = .b q
 |.s,a=>∃ l,a = .s l
 |.sl t,a=>∃ xs,a = .sl .v t xs
def gJ_:List Kd→List AV→Prop
 |[],[]=>True
 |k::ks,a::l=>KindOk k a∧gJ_ ks l
 |_,_=>False
section
variable {H:Type} {enc:TypeId × Value→H} {P:Program} {w:World} {spare:Nat→Bool}
def kd_ (enc:TypeId × Value→H) (P:Program) (w:World) (spare:Nat→Bool) (eid:TC→TypeId) (F:Nat):Kd→Value→Prop
 |.i k,v=>∃ n,v = .int k n∧(Lit.int k n).wf=true
 |.b,v=>∃ q,v = .bool q
 |.s,v=>∃ s:ByteArray,v = .string s∧s.size≤maxLen
 |.sl t,v=>v = .slice none 0 0∨∃ (a:Addr) (len cap N:Nat),v = .slice (some a) len cap∧len≤cap∧cap≤maxLen∧N<F ∧
   ∀ i,i<len→∃ cs x,w.cells? 0 (a.add (i*P.cellsOf (eid t))) (P.cellsOf (eid t))=some cs∧DataW.trod enc P w 0 spare true N (eid t) cs=some x
def dh_ (enc:TypeId × Value→H) (P:Program) (w:World) (spare:Nat→Bool) (eid:TC→TypeId) (F:Nat):List Kd→List Value→Prop
 |[],[]=>True
 |k::ks,v::vs=>kd_ enc P w spare eid F k v∧dh_ enc P w spare eid F ks vs
 |_,_=>False
theorem kd_.mono {eid:TC→TypeId} {F F':Nat} (hF:F≤F') {k:Kd} {v:Value} (h:kd_ enc P w spare eid F k v):kd_ enc P w spare eid F' k v:=by
 cases k with
 |sl t=>
  rcases h with h|⟨a,len,cap,N,h1,h2,h3,h4,h5⟩
  · exact .inl h
  · exact .inr ⟨a,len,cap,N,h1,h2,h3,Nat.lt_of_lt_of_le h4 hF,h5⟩
 |_=>exact h
theorem dh_.mono {eid:TC→TypeId} {F F':Nat} (hF:F≤F'):∀ {ks:List Kd} {vs:List Value},dh_ enc P w spare eid F ks vs→dh_ enc P w spare eid F' ks vs
 |[],[],_=>trivial
 |k::ks,v::vs,h=>⟨h.1.mono hF,dh_.mono hF h.2⟩
 |[],_::_,h=>h.elim
 |_::_,[],h=>h.elim
theorem dh_.append {eid:TC→TypeId} {F:Nat}:∀ {ks:List Kd} {vs:List Value} {ks':List Kd} {vs':List Value},dh_ enc P w spare eid F ks vs→dh_ enc P w spare eid F ks' vs'→dh_ enc P w spare eid F (ks++ks') (vs++vs')
 |[],[],_,_,_,h=>h
 |k::ks,v::vs,_,_,h,h'=>⟨h.1,dh_.append h.2 h'⟩
 |[],_::_,_,_,h,_=>h.elim
 |_::_,[],_,_,h,_=>h.elim
theorem ir_ {gI_:TypeId→Option TC} {eid:TC→TypeId} {n:Nat} {rec_:TypeId→Option (List Kd)} {cs:List Value} (hrec:∀ T ks cs x,rec_ T=some ks→DataW.trod enc P w 0 spare true n T cs=some x→dh_ enc P w spare eid n ks cs) :
  ∀ (fs:List Field) (off:Nat) (ks:List Kd),kdsL P rec_ fs off=some ks→(∀ f ∈ fs,∃ x,DataW.trod enc P w 0 spare true n f.type ((cs.drop f.offset).take (P.cellsOf f.type))=some x)→off+ks.length=cs.length→dh_ enc P w spare eid n ks (cs.drop off)
 |[],off,ks,h,_,hl=>by
  simp only [kdsL,Option.some.injEq] at h
  subst h
  rw [List.drop_eq_nil_of_le (by simp at hl;omega)]
  trivial
 |f::fs,off,ks,h,hx,hl=>by
  simp only [kdsL] at h
  obtain ⟨h1,h2⟩:=bL_ h
  have h1:=cr_.1 h1
  cases hr:rec_ f.type with
  |none=>rw [hr] at h2;cases h2
  |some k1=>
   rw [hr] at h2
   obtain ⟨h3,h4⟩:=bL_ h2
   have h3:=cr_.1 h3
   cases hk:kdsL P rec_ fs (off+k1.length) with
   |none=>rw [hk] at h4;cases h4
   |some r=>
    rw [hk] at h4
    simp only [Option.some.injEq] at h4
    subst h4
    obtain ⟨x,hx1⟩:=hx f (List.mem_cons_self ..)
    have h5:=hrec _ _ _ _ hr hx1
    have h6:=ir_ (gI_:=gI_) hrec fs (off+k1.length) r hk (fun g hg=>hx g (List.mem_cons_of_mem _ hg)) (by simp at hl;omega)
    rw [h1,h3] at h5
    have:cs.drop off=(cs.drop off).take k1.length++cs.drop (off+k1.length):=by rw [←List.drop_drop,List.take_append_drop]
    rw [this]
    exact h5.append h6
theorem iA_ {gI_:TypeId→Option TC} {eid:TC→TypeId} (hcode:∀ e t,gI_ e=some t→eid t=e):∀ (d F:Nat) (T:TypeId) (ks:List Kd) (cs:List Value) (x:DataW H × List MemPlace),kds P gI_ d T=some ks→DataW.trod enc P w 0 spare true F T cs=some x→dh_ enc P w spare eid F ks cs
 |0,F,T,ks,cs,x,hk,h=>by cases hk
 |d+1,F,T,ks,cs,x,hk,h=>by
  simp only [kds] at hk
  cases hu:P.underlying T with
  |none=>rw [hu] at hk;cases hk
  |some u=>
   rw [hu] at hk
   cases u<;>simp only at hk<;>(try (cases hk;done))
   case bool=>
    cases hk
    obtain ⟨q,rfl,_⟩:=DataW.trod_bool hu h
    exact ⟨⟨q,rfl⟩,trivial⟩
   case int k=>
    cases hk
    obtain ⟨n,rfl,_,hw⟩:=DataW.trod_int hu h
    exact ⟨⟨n,rfl,hw⟩,trivial⟩
   case string=>
    cases hk
    obtain ⟨s,rfl,_,hs⟩:=DataW.trod_string hu h
    exact ⟨⟨s,rfl,hs⟩,trivial⟩
   case slice e=>
    cases hc:gI_ e with
    |none=>rw [hc] at hk;cases hk
    |some t=>
     rw [hc] at hk
     cases hk
     have he:=hcode e t hc
     rcases DataW.trod_slice hu h with ⟨rfl,_⟩|⟨a,len,cap,elems,eH_,n,hF,rfl,_,_,hl,hm,hlen,hel,_,_⟩
     · exact ⟨.inl rfl,trivial⟩
     · refine ⟨.inr ⟨a,len,cap,n,rfl,hl,hm,by omega,fun i hi => ?_⟩,trivial⟩
       have h1:=hel i hi
       rw [List.getElem?_eq_getElem (by omega)] at h1
       rw [Option.bind_eq_some_iff] at h1
       obtain ⟨cs,k1,k2⟩:=h1
       exact ⟨cs,_,by rw [he];exact k1,by rw [he];exact k2⟩
   case struct fs=>
    obtain ⟨xs,n,hF,_,hcl,hxl,hx⟩:=DataW.trod_struct hu h
    cases hks:kdsL P (kds P gI_ d) fs.toList 0 with
    |none=>rw [hks] at hk;cases hk
    |some ks'=>
     rw [hks] at hk
     obtain ⟨h1,h2⟩:=bL_ hk
     have h1:=cr_.1 h1
     cases h2
     subst hF
     have:=ir_ (gI_:=gI_) (eid:=eid) (n:=n) (cs:=cs) (fun T ks cs x k1 k2=>iA_ hcode d n T ks cs x k1 k2) fs.toList 0 ks hks (fun f hf=>by
      obtain ⟨i,hi⟩:=List.getElem?_of_mem hf
      have hi':fs[i]?=some f:=by simpa using hi
      have h3:=hx i f hi'
      have hlt:i<xs.length:=by rw [hxl];exact (Array.getElem?_eq_some_iff.1 hi').1
      rw [List.getElem?_eq_getElem hlt] at h3
      exact ⟨_,h3⟩) (by omega)
     exact (this.mono (Nat.le_succ n))
end
end Go.Pi
end
section
namespace Go.Pi
variable [af_]
open af_
variable {H:Type} {enc':TypeId × Value→H} {E:Env} {w:World} {spare:Nat→Bool}
abbrev NoF:Nat→Prop:=fun _=>False
omit [af_] in
theorem hd_:∀ {ks:List Kd} {l c:List AV},gJ_ ks l→sims .v l c→c=l
 |[],[],[],_,_=>rfl
 |k::ks,a::l,b::c,h,hs=>by
  have e:=hd_ h.2 hs.2
  subst e
  have h1:=h.1
  have h2:=hs.1
  cases k<;>obtain ⟨x,rfl⟩:=h1<;>simp only [AV.sim] at h2<;>rw [h2]
 |[],[],_::_,_,h=>h.elim
 |[],_::_,_,h,_=>h.elim
 |_::_,[],_,h,_=>h.elim
 |_::_,_::_,[],_,h=>h.elim
structure hM_ (E:Env) (gI_:TypeId→Option TC) (kinds:TC→List Kd) (d:Nat):Prop where
 codeOk:∀ e t,gI_ e=some t→E.eid t=e
 kdsOk:∀ t,kds E.P gI_ d (E.eid t)=some (kinds t)
 dec:∀ t l,gJ_ (kinds t) l→∃ y,dec t l=some y
 cells:∀ t,E.P.cellsOf (E.eid t)=t.width
theorem jt_ [ai_] {t:TC} {N:Nat} (hel:∀ cs x,DataW.trod enc' E.P w 0 spare true N (E.eid t) cs=some x→∃ y:El t,RL E w NoF (enc .v t y) cs (fun _=>0)∧∀ c ∈ enc .v t y,Good c) {b o:Nat} (hW:E.P.cellsOf (E.eid t)=t.width) :
  ∀ len,(∀ i,i<len→∃ cs x,w.cells? 0 ((⟨b,o,none⟩:Addr).add (i*E.P.cellsOf (E.eid t))) (E.P.cellsOf (E.eid t))=some cs∧DataW.trod enc' E.P w 0 spare true N (E.eid t) cs=some x) →
  ∃ (xs:List (El t)) (vals:List Value),xs.length=len∧vals.length=len*t.width∧RL E w NoF (aZ_ .v t xs) vals (fun _=>0)∧w.rangeAt b o vals∧∀ x ∈ xs,∀ c ∈ enc .v t x,Good c
 |0,_=>⟨[],[],rfl,by simp,RL.nil (fun _=>0) fun _=>rfl,fun j v h=>by simp at h,fun x hx=>by cases hx⟩
 |len+1,h=>by
  obtain ⟨xs,vals,h1,h2,h3,h4,h5⟩:=jt_ hel hW len fun i hi=>h i (by omega)
  obtain ⟨cs,x,k1,k2⟩:=h len (Nat.lt_succ_self _)
  obtain ⟨y,j1,j2⟩:=hel cs x k2
  obtain ⟨_,hl,hc⟩:=World.cells?_some k1
  rw [hW] at hl hc
  refine ⟨xs++[y],vals++cs,by simp [h1],by rw [List.length_append,h2,hl];exact (Nat.succ_mul _ _).symm,?_,fun j v hj => ?_,fun x hx => ?_⟩
  · rw [cc_]
    refine RL.append h3 (φ':=fun _=>0) ?_ (fun b=>rfl)
    simpa [aZ_] using j1
  · by_cases hlt:j<vals.length
    · rw [List.getElem?_append_left hlt] at hj
      exact h4 j v hj
    · rw [List.getElem?_append_right (by omega)] at hj
      have hjl:j - vals.length<t.width:=by rw [←hl];exact (List.getElem?_eq_some_iff.1 hj).1
      have:=hc (j - vals.length) hjl
      rw [Addr.add_mid,Addr.add_mid,hj] at this
      rw [←this]
      congr 2
      omega
  · rcases List.mem_append.1 hx with hx|hx
    · exact h5 x hx
    · rw [List.mem_singleton] at hx;subst hx;exact j2
theorem cell_open [ai_] {gI_:TypeId→Option TC} {kinds:TC→List Kd} {d:Nat} (hk:hM_ E gI_ kinds d) {F:Nat} (ih:∀ N,N<F→∀ t cs x,DataW.trod enc' E.P w 0 spare true N (E.eid t) cs=some x→∃ y:El t,RL E w NoF (enc .v t y) cs (fun _=>0)∧∀ c ∈ enc .v t y,Good c) {k:Kd} {v:Value} (h:kd_ enc' E.P w spare E.eid F k v) :
  ∃ a,KindOk k a∧RL E w NoF [a] [v] (fun _=>0)∧Good a:=by
 cases k with
 |i k=>obtain ⟨n,rfl,hw⟩:=h;exact ⟨.i k n,⟨n,rfl⟩,.scal _ _ _ _ _ rfl (.nil _ fun _=>rfl),.i _ _ hw⟩
 |b=>obtain ⟨q,rfl⟩:=h;exact ⟨.b q,⟨q,rfl⟩,.scal _ _ _ _ _ rfl (.nil _ fun _=>rfl),.b _⟩
 |s=>
  obtain ⟨s,rfl,hs⟩:=h
  refine ⟨.s s.data.toList,⟨_,rfl⟩,.scal _ _ _ _ _ ?_ (.nil _ fun _=>rfl),.s _ ?_⟩
  · show Value.string s = .string ⟨s.data.toList.toArray⟩
    simp
  · rw [Array.length_toList];exact hs
 |sl t=>
  rcases h with rfl|⟨a,len,cap,N,rfl,hl,hm,hN,hel⟩
  · exact ⟨.sl .v t [],⟨_,rfl⟩,.view t [] none 0 0 [] (fun _=>0) _ _ _ ⟨rfl,Nat.le_refl _⟩ (.nil _ fun _=>rfl) (fun _=>rfl) (fun hp=>by omega) (.nil _ fun _=>rfl),.sl _ _ (Nat.zero_le _) (fun x hx=>by cases hx)⟩
  · cases len with
    |zero=>exact ⟨.sl .v t [],⟨_,rfl⟩,.view t [] (some a) 0 cap [] (fun _=>0) _ _ _ ⟨rfl,hl⟩ (.nil _ fun _=>rfl) (fun _=>rfl) (fun hp=>by omega) (.nil _ fun _=>rfl),.sl _ _ (Nat.zero_le _) (fun x hx=>by cases hx)⟩
    |succ len=>
     have hW:=hk.cells t
     have hpos:0<t.width:=ai_.pos t
     obtain ⟨cs0,x0,k1,_⟩:=hel 0 (Nat.succ_pos _)
     obtain ⟨_,hl0,hc0⟩:=World.cells?_some k1
     have hcell:=hc0 0 (by rw [hW];exact hpos)
     rw [List.getElem?_eq_getElem (by rw [hl0,hW];exact hpos)] at hcell
     have ha:a.spot=none:=by
      have h0:(a.add (0*E.P.cellsOf (E.eid t))).add 0=a:=by simp [Addr.add]
      rw [h0] at hcell
      unfold World.cell? at hcell
      split at hcell
      · cases hs:a.spot with
        |none=>rfl
        |some q=>simp [hs] at hcell
      · cases hcell
     obtain ⟨b,o,sp⟩:=a
     simp only at ha
     subst ha
     have hb:b<w.heap.size:=World.cells?_block k1 (by rw [hW];exact hpos) |> fun h=>by simpa [Addr.add] using h
     obtain ⟨xs,vals,e1,e2,e3,e4,e5⟩:=jt_ (ih N hN t) hW (len+1) hel
     refine ⟨.sl .v t xs,⟨_,rfl⟩,?_,.sl _ _ (by omega) e5⟩
     exact .view t xs (some ⟨b,o,none⟩) (len+1) cap vals (fun _=>0) _ _ _ ⟨e1.symm,hl⟩ e3 (fun _=>rfl) (fun _=>⟨b,o,rfl,e4,hb,fun h=>h⟩) (.nil _ fun _=>rfl)
theorem gt_ [ai_] {gI_:TypeId→Option TC} {kinds:TC→List Kd} {d:Nat} (hk:hM_ E gI_ kinds d) {F:Nat} (ih:∀ N,N<F→∀ t cs x,DataW.trod enc' E.P w 0 spare true N (E.eid t) cs=some x→∃ y:El t,RL E w NoF (enc .v t y) cs (fun _=>0)∧∀ c ∈ enc .v t y,Good c) :
  ∀ {ks:List Kd} {vs:List Value},dh_ enc' E.P w spare E.eid F ks vs→∃ l,gJ_ ks l∧RL E w NoF l vs (fun _=>0)∧∀ c ∈ l,Good c
 |[],[],_=>⟨[],trivial,.nil _ fun _=>rfl,fun c hc=>by cases hc⟩
 |k::ks,v::vs,h=>by
  obtain ⟨a,h1,h2,h3⟩:=cell_open hk ih h.1
  obtain ⟨l,k1,k2,k3⟩:=gt_ hk ih h.2
  refine ⟨a::l,⟨h1,k1⟩,RL.cons h2 k2 (fun b=>rfl),fun c hc => ?_⟩
  rcases List.mem_cons.1 hc with rfl|hc
  · exact h3
  · exact k3 c hc
 |[],_::_,h=>h.elim
 |_::_,[],h=>h.elim
theorem el_open [ai_] {gI_:TypeId→Option TC} {kinds:TC→List Kd} {d:Nat} (hk:hM_ E gI_ kinds d):∀ (F:Nat) (t:TC) (cs:List Value) (x:DataW H × List MemPlace),DataW.trod enc' E.P w 0 spare true F (E.eid t) cs=some x →
  ∃ y:El t,RL E w NoF (enc .v t y) cs (fun _=>0)∧∀ c ∈ enc .v t y,Good c:=by
 intro F
 induction F using Nat.strongRecOn with
 |_ F ih=>
  intro t cs x h
  have h1:=iA_ hk.codeOk d F _ _ _ _ (hk.kdsOk t) h
  obtain ⟨l,h2,h3,h4⟩:=gt_ hk ih h1
  obtain ⟨y,hy⟩:=hk.dec t l h2
  have h5:=ai_.dec .v t l y hy
  have h6:=hd_ h2 h5
  exact ⟨y,by rw [h6];exact h3,by rw [h6];exact h4⟩
theorem lK_ [ai_] {gI_:TypeId→Option TC} {kinds:TC→List Kd} {d:Nat} (hk:hM_ E gI_ kinds d) {T:TypeId} {ks:List Kd} (hT:kds E.P gI_ d T=some ks) {v:Value} {dd:DataW H} {ps:List MemPlace} (h:DataW.Trod enc' E.P w 0 spare true T v dd ps) :
  ∃ l,gJ_ ks l∧RL E w NoF l v.cells.toList (fun _=>0)∧∀ c ∈ l,Good c:=by
 obtain ⟨F,hF⟩:=h
 exact gt_ hk (fun N _=>el_open hk N) (iA_ hk.codeOk d F T ks _ _ hT hF)
end Go.Pi
end
section
namespace Go.Pi
open Go.RowKit
variable [af_]
open af_
omit [af_] in
theorem b0_ {k:Kd} {ks:List Kd} {l:List AV} (h:gJ_ (k::ks) l):∃ a l',l=a::l'∧KindOk k a∧gJ_ ks l':=by
 cases l with
 |nil=>exact h.elim
 |cons a l=>exact ⟨a,l,rfl,h.1,h.2⟩
omit [af_] in
theorem dd_ {l:List AV} (h:gJ_ [] l):l=[]:=by
 cases l with
 |nil=>rfl
 |cons a l=>exact h.elim
def codeL (eid:TC→TypeId):List TC→TypeId→Option TC
 |[],_=>none
 |t::ts,e=>cond (Nat.beq (eid t) e) (some t) (codeL eid ts e)
omit [af_] in
theorem lF_ {eid:TC→TypeId} {e:TypeId} {t:TC}:∀ ts,codeL eid ts e=some t→eid t=e
 |[],h=>by cases h
 |u::ts,h=>by
  simp only [codeL] at h
  cases hb:Nat.beq (eid u) e with
  |true=>rw [hb] at h;cases h;exact cr_.1 hb
  |false=>rw [hb] at h;exact lF_ ts h
theorem law_true [ai_] {E:Env} {f:FuncId} {avs:List AV} {outs:List AV} {ps:List PS} (h:c2_ E f avs (.b true) outs ps) {w:World} (hgl:Glob E w NoF) {Vs:List Value} (hr:RL E w NoF avs Vs (fun _=>0)) :
  Calls E.P f Vs.toArray w fun e W'=>e = .returned (.bool true)∧Below w.heap.size w W':=by
 refine (h w NoF Vs _ hr (fun _=>Nat.zero_le _) (fun b hb=>hb.elim) hgl).mono fun e W' ⟨V,φ',he,h1,_,_,e1,e2,e3,e4,e5⟩=>⟨?_,e1,e2,e3,e4,fun k hk=>e5 k hk rfl⟩
 cases h1 with
 |scal a v l vs φ hs _=>rw [he,show V = .bool true from hs]
theorem ag_open {E:Env} {w:World} {l:List AV} {cs:Array Value} (h:RL E w NoF l (Value.agg cs).cells.toList (fun _=>0)) {l':List AV} {vs:List Value} (h':RL E w NoF l' vs (fun _=>0)) :
  RL E w NoF (.ag l::l') (.agg cs::vs) (fun _=>0):=by
 have:=RL.ag (E:=E) (w:=w) (F:=NoF) l cs.toList (fun _=>0) l' vs (fun _=>0) (fun _=>0) h h' (fun b=>rfl)
 simpa using this
end Go.Pi
end
section
namespace Go.Pi
open Go.Proofs Go.Proofs.YtccdklkcfjmchaaGreatDoor
open Go.ChangeShapes Go.WideShapes Go.ChangeAt Go.RowKit
def gI_:TypeId→Option TC:=codeL eid [.str,.u8,.lJson,.lOp,.iJson,.iOp]
def kinds:TC→List Kd
 |.str=>[.s]
 |.u8=>[.i .u8]
 |.lJson=>[.i .i64,.i .i64,.s,.sl .lJson,.sl .str]
 |.lOp=>[.i .i64,.sl .str,.i .i64,.i .i64,.s,.sl .lJson,.sl .str]
 |.iJson=>[.i .i64,.i .i64,.s,.sl .iJson,.sl .str]
 |.iOp=>[.i .i64,.sl .str,.i .i64,.i .i64,.s,.sl .iJson,.sl .str]
theorem kindsOk:hM_ E gI_ kinds 12 where
 codeOk:=fun e t h=>lF_ _ h
 kdsOk:=by intro t;cases t<;>kernel_rfl
 cells:=by intro t;cases t<;>kernel_rfl
 dec:=by
  intro t l h
  cases t with
  |str=>
   iterate 1 (replace h:=b0_ h;obtain ⟨_,_,rfl,⟨_,rfl⟩,h⟩:=h)
   replace h:=dd_ h;subst h;exact ⟨_,rfl⟩
  |u8=>
   iterate 1 (replace h:=b0_ h;obtain ⟨_,_,rfl,⟨_,rfl⟩,h⟩:=h)
   replace h:=dd_ h;subst h;exact ⟨_,rfl⟩
  |lJson=>
   iterate 5 (replace h:=b0_ h;obtain ⟨_,_,rfl,⟨_,rfl⟩,h⟩:=h)
   replace h:=dd_ h;subst h;exact ⟨_,rfl⟩
  |lOp=>
   iterate 7 (replace h:=b0_ h;obtain ⟨_,_,rfl,⟨_,rfl⟩,h⟩:=h)
   replace h:=dd_ h;subst h;exact ⟨_,rfl⟩
  |iJson=>
   iterate 5 (replace h:=b0_ h;obtain ⟨_,_,rfl,⟨_,rfl⟩,h⟩:=h)
   replace h:=dd_ h;subst h;exact ⟨_,rfl⟩
  |iOp=>
   iterate 7 (replace h:=b0_ h;obtain ⟨_,_,rfl,⟨_,rfl⟩,h⟩:=h)
   replace h:=dd_ h;subst h;exact ⟨_,rfl⟩
namespace laws_FnExactClientTake
theorem own:ownKnob Tryz.prog.godebug=none:=by kernel_rfl
theorem laidOut:laidOutB Tryz.prog=true:=by kernel_rfl
def lT_:DataW Unit→ByteArray
 |.iface _ (.ptr (.agg [.lit (.string l)]))=>⟨l.toArray⟩
 |_=>ByteArray.empty
def tab1:DataW Unit→List Value
 |.lit (.int k n)=>[Value.int k n]
 |_=>[]
def tab2:DataW Unit→List Value
 |.agg l=>l.flatMap tab1
 |d=>tab1 d
def tabOf:DataW Unit→Array Value
 |.agg l=>(l.flatMap tab2).toArray
 |_ => #[]
def Pure:Prop:=∀ (o:aF_) (append:be_),(∀ c ∈ ([.i .i64 o.doc.kind,.i .i64 o.doc.n_,.s o.doc.s,.sl .v .lJson o.doc.list,.sl .v .str o.doc.names,.i .i64 o.version,.b o.began,.b o.bad]:List AV),Good c)→(∀ c ∈ ([.i .i64 append.kind,.i .i64 append.version,.i .i64 append.base,.i .i64 append.doc.kind,.i .i64 append.doc.n_,.s append.doc.s,.sl .v .lJson append.doc.list,.sl .v .str append.doc.names,.sl .v .lOp append.ops]:List AV),Good c)→∃ n,Go.Pi.laws_FnExactClientTake n o append=some true
noncomputable def low:Nat:=(World.holding Tryz.prog default ⟨#[],#[],[]⟩).heap.size
noncomputable def jI_ (os:Os):World :=
 let w0:=World.holding Tryz.prog os ⟨#[.cells #[.string (lT_ Rows.laid_strconv_ErrRange)] 201,.cells #[.string (lT_ Rows.laid_strconv_ErrSyntax)] 201],#[],[]⟩
 let put:=fun (h:Array Obj) (g:Nat) (cs:Array Value)=>h.modify g fun
  |.cells _ t frozen=>.cells cs t frozen
  |o=>o
 { w0 with heap:=put (put (put (put (put (put (put (w0.heap) 6 (tabOf Rows.laid_math_bits_deBruijn32tab)) 7 (tabOf Rows.laid_math_bits_deBruijn64tab)) 3 (tabOf Rows.laid_internal_strconv_uint64pow10)) 5 (tabOf Rows.laid_unicode_utf8_acceptRanges)) 2 (#[.iface 199 (.pointer (some ⟨low+0,0,none⟩))])) 1 (#[.iface 199 (.pointer (some ⟨low+1,0,none⟩))])) 4 (tabOf Rows.laid_unicode_utf8_first) }
theorem iU_ (os:Os) (args:Array Value):laidMet Tryz.prog Rows.fnExactClientTakeRow.laid ((jI_ os).forCall (fun _ _=>0) ⟨#[],args,[]⟩).memory :=
 laidMet_of_run' 8 (by kernel_rfl) (by kernel_rfl)
theorem lifted (hp:Pure) (os:Os) (started:os.Started) (H:Type) (enc:TypeId × Value→H) :
  ReturnsInHanded {} Tryz.checked os 4 .any (fun w args=>(Rows.fnExactClientTakeSpec.pre enc Tryz.prog Tryz.f4 Rows.fnExactClientTakeRow.domain false w args∧laidMet Tryz.prog Rows.fnExactClientTakeRow.laid w)∧sizedMet enc Tryz.prog Tryz.f4 (OpenSpec.ofChange Rows.fnExactClientTakeSpec) false w args) (Rows.fnExactClientTakeSpec.post enc Tryz.prog Tryz.f4 false true false false):=by
 refine returnsInHanded_of_calls own started (by kernel_rfl) (ChangeSpec.witness_at (enc:=enc) (C:=Tryz.checked) (os:=os) (X:=fun w _=>laidMet Tryz.prog Rows.fnExactClientTakeRow.laid w) false (jI_ os) #[.agg #[.int .i64 0,.int .i64 0,.string ByteArray.empty,.slice none 0 0,.slice none 0 0,.int .i64 0,.bool false,.bool false],.agg #[.int .i64 0,.int .i64 0,.int .i64 0,.int .i64 0,.int .i64 0,.string ByteArray.empty,.slice none 0 0,.slice none 0 0,.slice none 0 0]] 8 rfl (by kernel_rfl) (by kernel_rfl) (by kernel_rfl) (by kernel_rfl) (by kernel_rfl) (iU_ os _)) ?_
 intro w0 tape inp _ hsh _ hok hpre _
 obtain ⟨_,_,_,fn',hfn',_,_,_,_,hval0⟩:=hok
 obtain rfl:fn'=Tryz.f4:=Option.some.inj (hfn'.symm.trans Tryz.func4)
 obtain ⟨⟨⟨ds,gs,before,hw0,hcnd⟩,hL0⟩,hz⟩:=hpre
 have hW:=DataW.Whole.of_heap (w':=w0.forCall tape inp) (by rfl) hw0
 have hL:laidMet Tryz.prog Rows.fnExactClientTakeRow.laid (w0.forCall tape inp):=hL0.of_heap (by rfl)
 clear hw0 hL0 hz hfn' hcnd
 generalize w0.forCall tape inp=W at hsh hval0 hW hL ⊢
 generalize inp.args=args at hval0 hW ⊢
 generalize w0.heap.size=base at hval0
 suffices hgo:Calls Tryz.prog 4 args W fun e W'=>∃ v,e = .returned v∧Rows.fnExactClientTakeSpec.post enc Tryz.prog Tryz.f4 false true false false W args v W' from hgo.mono fun e W' ⟨v,he,hp⟩=>by subst he;exact ChangeSpec.post_blind hp
 have hval:∀ (j:Nat) t v,Tryz.f4.params[j]?=some t→args[j]?=some v→Value.okWide Tryz.prog W .any base t v:=hval0
 have hW':=hW
 obtain ⟨p,q,hA0,hV,rfl,hfz,hnd⟩:=hW
 have hA:DataW.TrodAll enc Tryz.prog W 0 (fun _=>true) true Tryz.f4.params.toList args.toList ds p:=hA0
 rw [Tryz.params4] at hA hval
 obtain ⟨v0,vs0,d0,ds0,p0,q0,hargs,rfl,rfl,h0,r0⟩:=trodAll_cons hA
 obtain ⟨v1,vs1,d1,ds1,p1,q1,rfl,rfl,rfl,h1,r1⟩:=trodAll_cons r0
 obtain ⟨rfl,rfl,rfl⟩:=trodAll_nil r1
 obtain rfl:args = #[v0,v1]:=by cases args;simp_all
 obtain ⟨rfl,rfl⟩:=trodVars_none hV
 obtain ⟨c0,rfl,-⟩:=okWide_struct Tryz.underlying38 (hval 0 38 v0 rfl rfl)
 have lt0:∀ x ∈ p0,x.block<W.heap.size:=by obtain ⟨m,hm⟩:=h0;exact DataW.trod_lt m _ _ _ hm
 obtain ⟨l0,k0,e0,g0⟩:=lK_ kindsOk (T:=38) (ks:=[.i .i64,.i .i64,.s,.sl .lJson,.sl .str,.i .i64,.b,.b]) (by kernel_rfl) h0
 obtain ⟨c1,rfl,-⟩:=okWide_struct Tryz.underlying41 (hval 1 41 v1 rfl rfl)
 have lt1:∀ x ∈ p1,x.block<W.heap.size:=by obtain ⟨m,hm⟩:=h1;exact DataW.trod_lt m _ _ _ hm
 obtain ⟨l1,k1,e1,g1⟩:=lK_ kindsOk (T:=41) (ks:=[.i .i64,.i .i64,.i .i64,.i .i64,.i .i64,.s,.sl .lJson,.sl .str,.sl .lOp]) (by kernel_rfl) h1
 replace k0:=b0_ k0;obtain ⟨_,_,rfl,⟨z0,rfl⟩,k0⟩:=k0
 replace k0:=b0_ k0;obtain ⟨_,_,rfl,⟨z1,rfl⟩,k0⟩:=k0
 replace k0:=b0_ k0;obtain ⟨_,_,rfl,⟨z2,rfl⟩,k0⟩:=k0
 replace k0:=b0_ k0;obtain ⟨_,_,rfl,⟨z3,rfl⟩,k0⟩:=k0
 replace k0:=b0_ k0;obtain ⟨_,_,rfl,⟨z4,rfl⟩,k0⟩:=k0
 replace k0:=b0_ k0;obtain ⟨_,_,rfl,⟨z5,rfl⟩,k0⟩:=k0
 replace k0:=b0_ k0;obtain ⟨_,_,rfl,⟨z6,rfl⟩,k0⟩:=k0
 replace k0:=b0_ k0;obtain ⟨_,_,rfl,⟨z7,rfl⟩,k0⟩:=k0
 replace k0:=dd_ k0;subst k0
 replace k1:=b0_ k1;obtain ⟨_,_,rfl,⟨z8,rfl⟩,k1⟩:=k1
 replace k1:=b0_ k1;obtain ⟨_,_,rfl,⟨z9,rfl⟩,k1⟩:=k1
 replace k1:=b0_ k1;obtain ⟨_,_,rfl,⟨z10,rfl⟩,k1⟩:=k1
 replace k1:=b0_ k1;obtain ⟨_,_,rfl,⟨z11,rfl⟩,k1⟩:=k1
 replace k1:=b0_ k1;obtain ⟨_,_,rfl,⟨z12,rfl⟩,k1⟩:=k1
 replace k1:=b0_ k1;obtain ⟨_,_,rfl,⟨z13,rfl⟩,k1⟩:=k1
 replace k1:=b0_ k1;obtain ⟨_,_,rfl,⟨z14,rfl⟩,k1⟩:=k1
 replace k1:=b0_ k1;obtain ⟨_,_,rfl,⟨z15,rfl⟩,k1⟩:=k1
 replace k1:=b0_ k1;obtain ⟨_,_,rfl,⟨z16,rfl⟩,k1⟩:=k1
 replace k1:=dd_ k1;subst k1
 have hT:Lib.TabIs Tryz.prog W "internal/strconv.uint64pow10" .u64 Lib.pow10Tab:=Lib.tabIs_of_head (t:=216) (e:=177) (n:=20) hy_ (by kernel_rfl) (by kernel_rfl) (by kernel_rfl) (by kernel_rfl) (by kernel_rfl) (show laidMet Tryz.prog ((_,Lib.tabData .u64 Lib.pow10Tab)::_) W from hL.tail.tail)
 obtain ⟨mx,hmx⟩:=cell_of_shapedOpen_int (g:=0) (t:=3) (k:=.i64) (zero:=#[.int .i64 0]) hsh (by decide +kernel) (by kernel_rfl) rfl (by kernel_rfl) (by kernel_rfl) (by kernel_rfl)
 have hgl:Glob E W NoF:=fun p hp=>by
  rcases List.mem_cons.1 hp with rfl|hp
  · obtain ⟨T,fr,h⟩:=tab_glob hT hy_;exact ⟨⟨_,T,fr,h,rfl⟩,fun h=>h.elim⟩
  rcases List.mem_cons.1 hp with rfl|hp
  · exact ⟨int_glob hmx,fun h=>h.elim⟩
  rcases List.mem_cons.1 hp with rfl|hp
  · exact ⟨lz_ (d:=.ptr (.agg [.lit (.string (lT_ Rows.laid_strconv_ErrSyntax).data.toList)])) (show laidMet Tryz.prog (("strconv.ErrSyntax", .iface "*errors.errorString" (.ptr (.agg [.lit (.string (lT_ Rows.laid_strconv_ErrSyntax).data.toList)])))::_) W from hL.tail.tail.tail.tail.tail) (by kernel_rfl) (by kernel_rfl),fun h=>h.elim⟩
  rcases List.mem_singleton.1 hp with rfl
  exact ⟨lz_ (d:=.ptr (.agg [.lit (.string (lT_ Rows.laid_strconv_ErrRange).data.toList)])) (show laidMet Tryz.prog (("strconv.ErrRange", .iface "*errors.errorString" (.ptr (.agg [.lit (.string (lT_ Rows.laid_strconv_ErrRange).data.toList)])))::_) W from hL.tail.tail.tail.tail) (by kernel_rfl) (by kernel_rfl),fun h=>h.elim⟩
 obtain ⟨n,hn⟩:=hp (aF_.mk (aa_.mk z0 z1 z2 z3 z4) z5 z6 z7) (be_.mk z8 z9 z10 (aa_.mk z11 z12 z13 z14 z15) z16) g0 g1
 refine (law_true ((bI_ n).h109 ((z0,z1,z2,z3,z4,z5,z6,z7,()),(z8,z9,z10,z11,z12,z13,z14,z15,z16,()),()) _ hn) hgl (ag_open e0 (ag_open e1 (.nil _ fun _=>rfl)))).mono fun e W' ⟨he,bel⟩ => ?_
 subst he
 exact ⟨_,rfl,_,_,_,[],_,[],hW',trodAll_mk1 (shut_bool Tryz.underlying4 _),(trodAll_cons_mk (Below.trod laidOut (by kernel_rfl) (of_decide_eq_true (by kernel_rfl)) h0 bel lt0) (trodAll_cons_mk (Below.trod laidOut (by kernel_rfl) (of_decide_eq_true (by kernel_rfl)) h1 bel lt1) trodAll_mk0)),rfl,bel.frame _,fun h=>by cases h⟩
theorem jf0:(Rows.fnExactClientTakeRow.wf (OpenSpec.ofChange Rows.fnExactClientTakeSpec))=true:=by kernel_rfl
theorem jf1:(laidOutB Tryz.prog)=true:=by kernel_rfl
theorem jf2:(mapsRowed Tryz.prog)=true:=by kernel_rfl
theorem jf3:(Tryz.f4.params.all (Tryz.prog.readableRec ·))=true:=by kernel_rfl
theorem jf4:(namedTie Tryz.prog Rows.fnExactClientTakeRow.named Rows.fnExactClientTakeSpec.vars)=true:=by kernel_rfl
theorem jf5:((Rows.fnExactClientTakeRow.stops == []))=true:=by kernel_rfl
theorem jf6:((Tryz.prog.stops == []))=true:=by kernel_rfl
theorem jf7:((Rows.fnExactClientTakeRow.knobs == []))=true:=by kernel_rfl
theorem jf8:((Tryz.prog.stopKnobs == []))=true:=by kernel_rfl
theorem jf9:((Rows.fnExactClientTakeRow.inPlace == Tryz.prog.inPlace 4))=true:=by kernel_rfl
theorem jf10:((Rows.fnExactClientTakeRow.unfollowed == Tryz.prog.unfollowed 4))=true:=by kernel_rfl
theorem jf11:((Rows.fnExactClientTakeRow.recurses == Tryz.prog.recurses 4))=true:=by kernel_rfl
theorem jf12:((Rows.fnExactClientTakeRow.named == Tryz.prog.varsNamed 4))=true:=by kernel_rfl
theorem jf13:((Rows.fnExactClientTakeRow.maps == (Tryz.f4.params.toList++Rows.fnExactClientTakeSpec.plain.varTypes Tryz.prog).any (Tryz.prog.mapsRec ·)))=true:=by kernel_rfl
theorem jf14:((Rows.fnExactClientTakeRow.ifaces == (Tryz.f4.params.toList++Rows.fnExactClientTakeSpec.plain.varTypes Tryz.prog).any (Tryz.prog.ifacesRec ·)))=true:=by kernel_rfl
theorem jf15:((Rows.fnExactClientTakeRow.mapsOut == Tryz.prog.mapsAmong Tryz.f4.resultTypes.toList))=true:=by kernel_rfl
theorem jf16:((Rows.fnExactClientTakeRow.loops == (Tryz.f4.params.toList++Rows.fnExactClientTakeSpec.plain.varTypes Tryz.prog).any (Tryz.prog.loopsFrom ·)))=true:=by kernel_rfl
theorem jf17:((Rows.fnExactClientTakeRow.wideKeys == (Tryz.f4.params.toList++Rows.fnExactClientTakeSpec.plain.varTypes Tryz.prog++Tryz.f4.resultTypes.toList).any (Tryz.prog.wideKeysFrom ·)))=true:=by kernel_rfl
theorem jf18:(Rows.fnExactClientTakeSpec.vars.all (Tryz.prog.varReadable ·))=true:=by kernel_rfl
theorem jf19:(Tryz.f4.resultTypes.all (fun t=>Tryz.prog.readableRec t&&decide (t<Tryz.prog.types.size)))=true:=by kernel_rfl
theorem jf20:((Rows.fnExactClientTakeRow.ifacesOut == Tryz.f4.resultTypes.toList.any (Tryz.prog.ifacesRec ·)))=true:=by kernel_rfl
theorem jf21:((Rows.fnExactClientTakeRow.loopsOut == Tryz.f4.resultTypes.toList.any (Tryz.prog.loopsFrom ·)))=true:=by kernel_rfl
theorem jf22:((Rows.fnExactClientTakeRow.plainKeys == Tryz.prog.plainKeys))=true:=by kernel_rfl
theorem jf23:(Rows.fnExactClientTakeRow.shortTexts.isNone)=true:=by kernel_rfl
theorem jf24:(Tryz.prog.stopsHeard)=true:=by kernel_rfl
theorem jf25:(Tryz.prog.mayEnter)=true:=by kernel_rfl
theorem jf26:((Rows.fnExactClientTakeRow.lifted == Tryz.prog.liftsFinal))=true:=by kernel_rfl
theorem jf27:((Tryz.prog.make == some Rows.fnExactClientTakeRow.make))=true:=by kernel_rfl
theorem jf28:((Rows.fnExactClientTakeRow.kinds == (if Rows.fnExactClientTakeRow.domain.isEmpty then [] else Tryz.f4.params.toList.map fun t=>match Tryz.prog.underlying t with|some (.int k)=>some k|_=>none)))=true:=by kernel_rfl
theorem jf29:((Rows.fnExactClientTakeRow.pinned == Rows.fnExactClientTakeRow.pinnedBy))=true:=by kernel_rfl
theorem jf30:((Rows.fnExactClientTakeRow.veiled == (Tryz.f4.params.toList++Rows.fnExactClientTakeSpec.plain.varTypes Tryz.prog++Tryz.f4.resultTypes.toList).any (Tryz.prog.veiledRec ·)))=true:=by kernel_rfl
theorem jf31:(Rows.fnExactClientTakeRow.veiledFits Tryz.prog Tryz.f4.params.toList (Tryz.f4.params.toList++Rows.fnExactClientTakeSpec.plain.varTypes Tryz.prog++Tryz.f4.resultTypes.toList))=true:=by kernel_rfl
theorem fG_ {a b:Bool} (h:a=true) (k:b=true):(a&&b)=true:=by rw [h,k];rfl
theorem facts:joinedFacts Tryz.pinned.checked.prog 4 Tryz.f4 Rows.fnExactClientTakeSpec Rows.fnExactClientTakeRow=true:=(fG_ (fG_ (fG_ (fG_ (fG_ (fG_ (fG_ (fG_ (fG_ (fG_ (fG_ (fG_ (fG_ (fG_ (fG_ (fG_ (fG_ (fG_ (fG_ (fG_ (fG_ (fG_ (fG_ (fG_ (fG_ (fG_ (fG_ (fG_ (fG_ (fG_ (fG_ jf0 jf1) jf2) jf3) jf4) jf5) jf6) jf7) jf8) jf9) jf10) jf11) jf12) jf13) jf14) jf15) jf16) jf17) jf18) jf19) jf20) jf21) jf22) jf23) jf24) jf25) jf26) jf27) jf28) jf29) jf30) jf31)
theorem over (hp:Pure):Rows.fnExactClientTakeRow.holds Tryz.pinned (OpenSpec.ofChange Rows.fnExactClientTakeSpec) :=
 OpenClaim.holds_of_wide 4 Tryz.f4 rfl rfl rfl rfl rfl rfl rfl ⟨rfl,rfl,rfl,rfl,rfl⟩ rfl rfl rfl rfl rfl (by kernel_rfl) Tryz.func4 facts
  (of_decide_eq_true (by kernel_rfl)) (by unfold Func.isWrapper;first|(rw [if_pos (by decide +kernel)];kernel_rfl)|(rw [if_neg (by decide +kernel)];exact ⟨rfl,rfl⟩))
  (fun os started H enc _=>lifted hp os started H enc)
end laws_FnExactClientTake
theorem laws_FnExactClientTake.card (hp:laws_FnExactClientTake.Pure):Rows.FnExactClientTakeCardSaid :=
 Claim7.holds_tied_plain_at .later [] [.data,.data,.data,.data,.sentinel,.sentinel,.pinned] true (true, "eb8428fd810aea7f5a51b1307ca0e5a40614afabd133ac955bae0ee68fce9228") true
  (laws_FnExactClientTake.over hp) (fun _ h=>by cases h) (by kernel_rfl) (fun _ h=>by cases h) fnExactClientTake_row_tie rfl ⟨rfl,rfl⟩ (by kernel_rfl) rfl
  (fun f fn hf hfn=>by
    obtain rfl:f=4:=Option.some.inj ((show Tryz.prog.funcNamed "loop.example/g00198/laws.FnExactClientTake" = some 4 by kernel_rfl).symm.trans hf) |>.symm
    obtain rfl:fn=Tryz.f4:=(Option.some.inj (Tryz.func4.symm.trans hfn)).symm
    exact ⟨by kernel_rfl,fun j t ht=>by
     rw [Tryz.params4] at ht
     have hm:t ∈ ([38,41]:List TypeId):=List.mem_of_getElem? (show ([38,41]:List TypeId)[j]?=some t by simpa using ht)
     have:=List.all_eq_true.1 (show ([38,41]:List TypeId).all (fun t => !Tryz.prog.wantsStandIn t)=true by kernel_rfl) t hm
     exact (by simpa using this:Tryz.prog.wantsStandIn t=false)⟩)
  (by kernel_rfl)
end Go.Pi
end
section
namespace Go.Pi
section
variable {α β:Type}
def Ev (f:Nat→Nat→Option α) (v:α):Prop:=∃ M,∀ n N,M≤n→M≤N→f n N=some v
theorem as_ {v w:α}:Ev (fun _ _=>some v) w↔v=w :=
 ⟨fun ⟨M,h⟩=>Option.some.inj (h M M (Nat.le_refl _) (Nat.le_refl _)),fun h=>⟨0,fun _ _ _ _=>by rw [h]⟩⟩
theorem dv_ {f:Nat→Nat→Option α} {v w:α} (h:Ev f v):Ev f w↔v=w:=by
 constructor
 · rintro ⟨M',h'⟩
   obtain ⟨M,h⟩:=h
   have a:=h (max M M') (max M M') (by omega) (by omega)
   have b:=h' (max M M') (max M M') (by omega) (by omega)
   rw [a] at b
   exact Option.some.inj b
 · rintro rfl;exact h
theorem ar_ {f:Nat→Nat→Option α} {a:α} (h:Ev f a) {g:Nat→Nat→α→Option β} {v:β}:Ev (fun n N=>(f n N).bind (g n N)) v↔Ev (fun n N=>g n N a) v:=by
 obtain ⟨M,h⟩:=h
 constructor
 · rintro ⟨M',h'⟩
   refine ⟨max M M',fun n N h1 h2 => ?_⟩
   have:=h' n N (by omega) (by omega)
   simp only [h n N (by omega) (by omega),Option.bind_some] at this
   exact this
 · rintro ⟨M',h'⟩
   refine ⟨max M M',fun n N h1 h2 => ?_⟩
   simp only [h n N (by omega) (by omega),Option.bind_some]
   exact h' n N (by omega) (by omega)
theorem cx_ {v:α}:Ev (fun _ _=>none) v↔False:=by
 simp only [iff_false]
 rintro ⟨M,h⟩
 cases h M M (Nat.le_refl _) (Nat.le_refl _)
theorem ay_ {c:Bool} {f g:Nat→Nat→Option α} {v:α}:Ev (fun n N=>cond c (f n N) (g n N)) v↔(c=true→Ev f v)∧(c=false→Ev g v):=by
 cases c<;>simp
theorem cf_ {i:Int} {len:Nat} {f:Nat→Nat→Option α} {v:α}:Ev (fun n N=>inB i len (f n N)) v↔(0≤i∧i<(len:Int))∧Ev f v:=by
 unfold inB
 rw [ay_,ay_]
 by_cases h1:0≤i<;>by_cases h2:i<(len:Int)<;>simp [h1,h2,cx_]
theorem aS_ {f:Nat→Nat→Option α} {v:α} (h:Ev (fun n N=>f (n+1) N) v):Ev f v:=by
 obtain ⟨M,h⟩:=h
 refine ⟨M+1,fun n N h1 h2 => ?_⟩
 obtain ⟨m,rfl⟩:∃ m,n=m+1:=⟨n - 1,by omega⟩
 exact h m N (by omega) (by omega)
theorem c1_ {f:Nat→Nat→Option α} {v:α} (h:Ev f v):Ev (fun n _=>f n n) v:=by
 obtain ⟨M,h⟩:=h
 exact ⟨M,fun n N h1 h2=>h n n h1 h1⟩
theorem b3_ {f:Nat→Nat→Option α} {v:α} (h:Ev (fun n N=>f n (N+1)) v):Ev f v:=by
 obtain ⟨M,h⟩:=h
 refine ⟨M+1,fun n N h1 h2 => ?_⟩
 obtain ⟨m,rfl⟩:∃ m,N=m+1:=⟨N - 1,by omega⟩
 exact h n m (by omega) (by omega)
theorem ev_ex {f:Nat→Option α} {v:α} (h:Ev (fun n _=>f n) v):∃ n,f n=some v:=by
 obtain ⟨M,h⟩:=h
 exact ⟨M,h M M (Nat.le_refl _) (Nat.le_refl _)⟩
theorem ev_up {σ:Type} (L:Nat→Nat→Nat→σ→Option α) (F:Nat→σ→α) (I:Nat→σ→Prop) (len:Nat)
  (h:∀ i s,I i s→i≤len→(∀ s',I (i+1) s'→i<len→Ev (fun n N=>L n N (i+1) s') (F (i+1) s'))→Ev (fun n N=>L n (N+1) i s) (F i s)) :
  ∀ s,I 0 s→Ev (fun n _=>L n n 0 s) (F 0 s):=by
 have key:∀ d i s,d+i=len→I i s→Ev (fun n N=>L n N i s) (F i s):=by
  intro d
  induction d with
  |zero=>exact fun i s hd hI=>b3_ (h i s hI (by omega) fun s' _ hl=>absurd hl (by omega))
  |succ d ih=>exact fun i s hd hI=>b3_ (h i s hI (by omega) fun s' hI' _=>ih (i+1) s' (by omega) hI')
 exact fun s hI=>c1_ (f:=fun n N=>L n N 0 s) (key len 0 s (by omega) hI)
theorem ev_up1 (L:Nat→Nat→Nat→Option α) (F:Nat→α) (len:Nat)
  (h:∀ i,i≤len→(i<len→Ev (fun n N=>L n N (i+1)) (F (i+1)))→Ev (fun n N=>L n (N+1) i) (F i)) :
  Ev (fun n _=>L n n 0) (F 0) :=
 ev_up (σ:=Unit) (fun n N i _=>L n N i) (fun i _=>F i) (fun _ _=>True) len (fun i s _ hi k=>h i hi fun hl=>k () trivial hl) () trivial
end
abbrev co_:Nat:=9223372036854775807
theorem W_id {n:Int} (h : -9223372036854775808≤n) (h':n<9223372036854775808):W n=n:=by
 show IntKind.i64.wrap n=n
 rw [IntKind.wrap_i64];omega
theorem W_up {i:Nat} {len:Nat} (h:i<len) (hl:len≤co_):W ((i:Int)+1)=((i+1:Nat):Int):=by
 rw [W_id (by omega) (by simp only [co_] at hl;omega)];omega
theorem e0_ {α:Type} (d:α) {a:List α} {i:Nat} (h:i<a.length):a.drop i=a.getD i d::a.drop (i+1):=by
 rw [List.drop_eq_getElem_cons h,List.getD_eq_getElem?_getD,List.getElem?_eq_getElem h];rfl
theorem drop_end {α:Type} {a:List α} {i:Nat} (h:a.length≤i):a.drop i=[]:=List.drop_eq_nil_of_le h
theorem ce_ {α:Type} (d:α) {a:List α} {i:Nat} (h:i<a.length):a.getD i d ∈ a:=by
 rw [List.getD_eq_getElem?_getD,List.getElem?_eq_getElem h];exact List.getElem_mem h
end Go.Pi
end
section
namespace Go.Pi
abbrev aw_.K7:Type:=Int→Option Int
theorem aw_.turn7 {n N:Nat} {k:Int→Option Int} {x0 x1 x2}:aw_.loop7 n k (N+1) x0 x1 x2=aw_.step7 n k (aw_.loop7 n k N) x0 x1 x2:=rfl
abbrev aJ_.K7_1:Type:=Int→Option Int
theorem aJ_.turn7 {n N:Nat} {k0:aa_→Int→Option Int} {k1:Int→Option Int} {x0 x1 x2}:aJ_.loop7 n k0 k1 (N+1) x0 x1 x2=aJ_.step7 n k0 k1 (aJ_.loop7 n k0 k1 N) x0 x1 x2:=rfl
abbrev a0_.K7:Type:=Int→Option Int
theorem a0_.turn7 {n N:Nat} {k:Int→Option Int} {x0 x1 x2}:a0_.loop7 n k (N+1) x0 x1 x2=a0_.step7 n k (a0_.loop7 n k N) x0 x1 x2:=rfl
abbrev az_.K4:Type:=(List Bs)→Option (List Bs)
theorem az_.turn4 {n N:Nat} {k:(List Bs)→Option (List Bs)} {x0 x1 x2}:az_.loop4 n k (N+1) x0 x1 x2=az_.step4 n k (az_.loop4 n k N) x0 x1 x2:=rfl
abbrev aK_.K4_1:Type:=(List aa_)→Option (List aa_)
theorem aK_.turn4 {n N:Nat} {k0:aa_→Option aa_} {k1:(List aa_)→Option (List aa_)} {x0 x1 x2}:aK_.loop4 n k0 k1 (N+1) x0 x1 x2=aK_.step4 n k0 k1 (aK_.loop4 n k0 k1 N) x0 x1 x2:=rfl
abbrev a2_.K4:Type:=(List TOp)→Option (List TOp)
theorem a2_.turn4 {n N:Nat} {k:(List TOp)→Option (List TOp)} {x0 x1 x2}:a2_.loop4 n k (N+1) x0 x1 x2=a2_.step4 n k (a2_.loop4 n k N) x0 x1 x2:=rfl
abbrev aA_.K4_1:Type:=Int→Int→Bs→Int→Int→Bs→(List aa_)→(List Bs)→Option aa_
theorem aA_.turn4 {n N:Nat} {k0:aa_→Option aa_} {k1:Int→Int→Bs→Int→Int→Bs→(List aa_)→(List Bs)→Option aa_} {x0 x1 x2 x3 x4 x5 x6 x7 x8 x9 x10 x11 x12 x13}:aA_.loop4 n k0 k1 (N+1) x0 x1 x2 x3 x4 x5 x6 x7 x8 x9 x10 x11 x12 x13=aA_.step4 n k0 k1 (aA_.loop4 n k0 k1 N) x0 x1 x2 x3 x4 x5 x6 x7 x8 x9 x10 x11 x12 x13:=rfl
abbrev aT_.K3:Type:=Bs→Option Bool
theorem aT_.turn3 {n N:Nat} {k:Bs→Option Bool} {x0 x1}:aT_.loop3 n k (N+1) x0 x1=aT_.step3 n k (aT_.loop3 n k N) x0 x1:=rfl
abbrev ad_.K6:Type:=Int→Int→Bs→(List aa_)→(List Bs)→Option Bool
theorem ad_.turn6 {n N:Nat} {k:Int→Int→Bs→(List aa_)→(List Bs)→Option Bool} {x0 x1 x2 x3 x4 x5}:ad_.loop6 n k (N+1) x0 x1 x2 x3 x4 x5=ad_.step6 n k (ad_.loop6 n k N) x0 x1 x2 x3 x4 x5:=rfl
abbrev ax_.K23_1:Type:=Int→Int→Int→Int→Bs→(List aa_)→(List Bs)→Option Int
theorem ax_.turn23 {n N:Nat} {k0:aa_→Int→Option Int} {k1:Int→Int→Int→Int→Bs→(List aa_)→(List Bs)→Option Int} {x0 x1 x2 x3 x4 x5 x6 x7 x8}:ax_.loop23 n k0 k1 (N+1) x0 x1 x2 x3 x4 x5 x6 x7 x8=ax_.step23 n k0 k1 (ax_.loop23 n k0 k1 N) x0 x1 x2 x3 x4 x5 x6 x7 x8:=rfl
abbrev aD_.K7:Type:=Bool→Bs→Option Bs
theorem aD_.turn7 {n N:Nat} {k:Bool→Bs→Option Bs} {x0 x1 x2}:aD_.loop7 n k (N+1) x0 x1 x2=aD_.step7 n k (aD_.loop7 n k N) x0 x1 x2:=rfl
abbrev aL_.K4:Type:=(List Int)→Option Bs
theorem aL_.turn4 {n N:Nat} {k:(List Int)→Option Bs} {x0 x1 x2}:aL_.loop4 n k (N+1) x0 x1 x2=aL_.step4 n k (aL_.loop4 n k N) x0 x1 x2:=rfl
abbrev av_.K17_1:Type:=Bs→Int→Int→Bs→(List aa_)→(List Bs)→Option Bs
theorem av_.turn17 {n N:Nat} {k0:aa_→Option Bs} {k1:Bs→Int→Int→Bs→(List aa_)→(List Bs)→Option Bs} {x0 x1 x2 x3 x4 x5 x6}:av_.loop17 n k0 k1 (N+1) x0 x1 x2 x3 x4 x5 x6=av_.step17 n k0 k1 (av_.loop17 n k0 k1 N) x0 x1 x2 x3 x4 x5 x6:=rfl
abbrev ae_.K6_1:Type:=Int→Int→Bs→(List aa_)→(List Bs)→Int→Int→Bs→(List aa_)→(List Bs)→Option Bool
theorem ae_.turn6 {n N:Nat} {k0:aa_→aa_→Option Bool} {k1:Int→Int→Bs→(List aa_)→(List Bs)→Int→Int→Bs→(List aa_)→(List Bs)→Option Bool} {x0 x1 x2 x3 x4 x5 x6 x7 x8 x9 x10}:ae_.loop6 n k0 k1 (N+1) x0 x1 x2 x3 x4 x5 x6 x7 x8 x9 x10=ae_.step6 n k0 k1 (ae_.loop6 n k0 k1 N) x0 x1 x2 x3 x4 x5 x6 x7 x8 x9 x10:=rfl
abbrev ae_.K14_1:Type:=Option Bool
theorem ae_.turn14 {n N:Nat} {k0:aa_→aa_→Option Bool} {k1:Option Bool} {x0 x1 x2 x3 x4 x5 x6 x7 x8 x9 x10}:ae_.loop14 n k0 k1 (N+1) x0 x1 x2 x3 x4 x5 x6 x7 x8 x9 x10=ae_.step14 n k0 k1 (ae_.loop14 n k0 k1 N) x0 x1 x2 x3 x4 x5 x6 x7 x8 x9 x10:=rfl
abbrev bb_.K6:Type:=Int→(List Bs)→Int→Int→Bs→(List aa_)→(List Bs)→Option Bool
theorem bb_.turn6 {n N:Nat} {k:Int→(List Bs)→Int→Int→Bs→(List aa_)→(List Bs)→Option Bool} {x0 x1 x2 x3 x4 x5 x6 x7}:bb_.loop6 n k (N+1) x0 x1 x2 x3 x4 x5 x6 x7=bb_.step6 n k (bb_.loop6 n k N) x0 x1 x2 x3 x4 x5 x6 x7:=rfl
abbrev am_.K10:Type:=(List Bs)→Int→(List Int)→Option Bs
theorem am_.turn10 {n N:Nat} {k:(List Bs)→Int→(List Int)→Option Bs} {x0 x1 x2 x3}:am_.loop10 n k (N+1) x0 x1 x2 x3=am_.step10 n k (am_.loop10 n k N) x0 x1 x2 x3:=rfl
abbrev am_.K4:Type:=(List Int)→Option Bs
theorem am_.turn4 {n N:Nat} {k:(List Int)→Option Bs} {x0 x1 x2}:am_.loop4 n k (N+1) x0 x1 x2=am_.step4 n k (am_.loop4 n k N) x0 x1 x2:=rfl
abbrev a1_.K5:Type:=Bs→Bool→Int→Int→Bs→(List aa_)→(List Bs)→Int→Int→Bs→Int→Int→Bs→(List aa_)→(List Bs)→Option aa_
theorem a1_.turn5 {n N:Nat} {k:Bs→Bool→Int→Int→Bs→(List aa_)→(List Bs)→Int→Int→Bs→Int→Int→Bs→(List aa_)→(List Bs)→Option aa_} {x0 x1 x2 x3 x4 x5 x6 x7 x8 x9 x10 x11 x12 x13 x14 x15 x16 x17 x18 x19 x20}:a1_.loop5 n k (N+1) x0 x1 x2 x3 x4 x5 x6 x7 x8 x9 x10 x11 x12 x13 x14 x15 x16 x17 x18 x19 x20=a1_.step5 n k (a1_.loop5 n k N) x0 x1 x2 x3 x4 x5 x6 x7 x8 x9 x10 x11 x12 x13 x14 x15 x16 x17 x18 x19 x20:=rfl
abbrev aU_.K4:Type:=(List TOp)→Int→Int→Bs→Int→Int→Bs→(List aa_)→Option (aa_ × Bool)
theorem aU_.turn4 {n N:Nat} {k:(List TOp)→Int→Int→Bs→Int→Int→Bs→(List aa_)→Option (aa_ × Bool)} {x0 x1 x2 x3 x4 x5 x6 x7 x8}:aU_.loop4 n k (N+1) x0 x1 x2 x3 x4 x5 x6 x7 x8=aU_.step4 n k (aU_.loop4 n k N) x0 x1 x2 x3 x4 x5 x6 x7 x8:=rfl
abbrev bd_.K3:Type:=Option Int
theorem bd_.turn3 {n N:Nat} {k:Option Int} {x0 x1 x2 x3 x4 x5 x6}:bd_.loop3 n k (N+1) x0 x1 x2 x3 x4 x5 x6=bd_.step3 n k (bd_.loop3 n k N) x0 x1 x2 x3 x4 x5 x6:=rfl
abbrev aM_.K7:Type:=Bs→Int→Option Int
theorem aM_.turn7 {n N:Nat} {k:Bs→Int→Option Int} {x0 x1 x2}:aM_.loop7 n k (N+1) x0 x1 x2=aM_.step7 n k (aM_.loop7 n k N) x0 x1 x2:=rfl
abbrev aI_.K7:Type:=Int→Int→Bs→Int→Int→Bs→(List Bs)→(List aa_)→Option (aa_ × Bool)
theorem aI_.turn7 {n N:Nat} {k:Int→Int→Bs→Int→Int→Bs→(List Bs)→(List aa_)→Option (aa_ × Bool)} {x0 x1 x2 x3 x4 x5 x6 x7 x8 x9}:aI_.loop7 n k (N+1) x0 x1 x2 x3 x4 x5 x6 x7 x8 x9=aI_.step7 n k (aI_.loop7 n k N) x0 x1 x2 x3 x4 x5 x6 x7 x8 x9:=rfl
abbrev ak_.K4_1:Type:=Int→Int→Bs→Int→Int→Bs→(List aa_)→(List Bs)→Option aa_
theorem ak_.turn4 {n N:Nat} {k0:aa_→Option aa_} {k1:Int→Int→Bs→Int→Int→Bs→(List aa_)→(List Bs)→Option aa_} {x0 x1 x2 x3 x4 x5 x6 x7 x8 x9 x10}:ak_.loop4 n k0 k1 (N+1) x0 x1 x2 x3 x4 x5 x6 x7 x8 x9 x10=ak_.step4 n k0 k1 (ak_.loop4 n k0 k1 N) x0 x1 x2 x3 x4 x5 x6 x7 x8 x9 x10:=rfl
abbrev an_.K3:Type:=Bs→Option Bool
theorem an_.turn3 {n N:Nat} {k:Bs→Option Bool} {x0 x1 x2}:an_.loop3 n k (N+1) x0 x1 x2=an_.step3 n k (an_.loop3 n k N) x0 x1 x2:=rfl
abbrev aj_.K3:Type:=Option Bool
theorem aj_.turn3 {n N:Nat} {k:Option Bool} {x0 x1 x2 x3}:aj_.loop3 n k (N+1) x0 x1 x2 x3=aj_.step3 n k (aj_.loop3 n k N) x0 x1 x2 x3:=rfl
abbrev aO_.K7_1:Type:=Int→Option Int
theorem aO_.turn7 {n N:Nat} {k0:aa_→Int→Option Int} {k1:Int→Option Int} {x0 x1 x2 x3 x4}:aO_.loop7 n k0 k1 (N+1) x0 x1 x2 x3 x4=aO_.step7 n k0 k1 (aO_.loop7 n k0 k1 N) x0 x1 x2 x3 x4:=rfl
abbrev aW_.K4:Type:=(List Int)→Option Bs
theorem aW_.turn4 {n N:Nat} {k:(List Int)→Option Bs} {x0 x1 x2 x3}:aW_.loop4 n k (N+1) x0 x1 x2 x3=aW_.step4 n k (aW_.loop4 n k N) x0 x1 x2 x3:=rfl
abbrev aG_.K4_1:Type:=Int→Int→Bs→(List aa_)→(List Bs)→(List Bs)→Option Bs
theorem aG_.turn4 {n N:Nat} {k0:aa_→Option Bs} {k1:Int→Int→Bs→(List aa_)→(List Bs)→(List Bs)→Option Bs} {x0 x1 x2 x3 x4 x5 x6 x7 x8}:aG_.loop4 n k0 k1 (N+1) x0 x1 x2 x3 x4 x5 x6 x7 x8=aG_.step4 n k0 k1 (aG_.loop4 n k0 k1 N) x0 x1 x2 x3 x4 x5 x6 x7 x8:=rfl
abbrev bc_.K3:Type:=Int→(List Bs)→Int→Int→Bs→(List aa_)→(List Bs)→Option Bool
theorem bc_.turn3 {n N:Nat} {k:Int→(List Bs)→Int→Int→Bs→(List aa_)→(List Bs)→Option Bool} {x0 x1 x2 x3 x4 x5 x6 x7 x8 x9}:bc_.loop3 n k (N+1) x0 x1 x2 x3 x4 x5 x6 x7 x8 x9=bc_.step3 n k (bc_.loop3 n k N) x0 x1 x2 x3 x4 x5 x6 x7 x8 x9:=rfl
abbrev aR_.K4:Type:=Bs→Option Bs
theorem aR_.turn4 {n N:Nat} {k:Bs→Option Bs} {x0 x1 x2 x3}:aR_.loop4 n k (N+1) x0 x1 x2 x3=aR_.step4 n k (aR_.loop4 n k N) x0 x1 x2 x3:=rfl
abbrev aN_.K4:Type:=Int→Int→Bs→Int→Int→Bs→(List aa_)→Option (aa_ × Bool)
theorem aN_.turn4 {n N:Nat} {k:Int→Int→Bs→Int→Int→Bs→(List aa_)→Option (aa_ × Bool)} {x0 x1 x2 x3 x4 x5 x6 x7 x8 x9}:aN_.loop4 n k (N+1) x0 x1 x2 x3 x4 x5 x6 x7 x8 x9=aN_.step4 n k (aN_.loop4 n k N) x0 x1 x2 x3 x4 x5 x6 x7 x8 x9:=rfl
abbrev ah_.K6:Type:=Option Bool
theorem ah_.turn6 {n N:Nat} {k:Option Bool} {x0 x1 x2 x3}:ah_.loop6 n k (N+1) x0 x1 x2 x3=ah_.step6 n k (ah_.loop6 n k N) x0 x1 x2 x3:=rfl
abbrev ab_.K6_1:Type:=Option Bool
theorem ab_.turn6 {n N:Nat} {k0:aa_→aa_→Option Bool} {k1:Option Bool} {x0 x1 x2 x3}:ab_.loop6 n k0 k1 (N+1) x0 x1 x2 x3=ab_.step6 n k0 k1 (ab_.loop6 n k0 k1 N) x0 x1 x2 x3:=rfl
abbrev ac_.K4:Type:=(List Bs)→Bs→Int→Int→Option (Int × Bool)
theorem ac_.turn4 {n N:Nat} {k:(List Bs)→Bs→Int→Int→Option (Int × Bool)} {x0 x1 x2 x3 x4}:ac_.loop4 n k (N+1) x0 x1 x2 x3 x4=ac_.step4 n k (ac_.loop4 n k N) x0 x1 x2 x3 x4:=rfl
abbrev ag_.K3:Type:=Option Int
theorem ag_.turn3 {n N:Nat} {k:Option Int} {x0 x1 x2 x3}:ag_.loop3 n k (N+1) x0 x1 x2 x3=ag_.step3 n k (ag_.loop3 n k N) x0 x1 x2 x3:=rfl
abbrev aH_.K7:Type:=Int→Int→Bs→Int→Int→Bs→(List aa_)→(List Bs)→Option (aa_ × Bool)
theorem aH_.turn7 {n N:Nat} {k:Int→Int→Bs→Int→Int→Bs→(List aa_)→(List Bs)→Option (aa_ × Bool)} {x0 x1 x2 x3 x4 x5 x6 x7 x8 x9 x10}:aH_.loop7 n k (N+1) x0 x1 x2 x3 x4 x5 x6 x7 x8 x9 x10=aH_.step7 n k (aH_.loop7 n k N) x0 x1 x2 x3 x4 x5 x6 x7 x8 x9 x10:=rfl
abbrev aC_.K6:Type:=Option Bool
theorem aC_.turn6 {n N:Nat} {k:Option Bool} {x0 x1 x2}:aC_.loop6 n k (N+1) x0 x1 x2=aC_.step6 n k (aC_.loop6 n k N) x0 x1 x2:=rfl
abbrev aQ_.K6_1:Type:=Option Bool
theorem aQ_.turn6 {n N:Nat} {k0:aa_→aa_→Option Bool} {k1:Option Bool} {x0 x1 x2}:aQ_.loop6 n k0 k1 (N+1) x0 x1 x2=aQ_.step6 n k0 k1 (aQ_.loop6 n k0 k1 N) x0 x1 x2:=rfl
abbrev a3_.K6:Type:=Option Bool
theorem a3_.turn6 {n N:Nat} {k:Option Bool} {x0 x1 x2}:a3_.loop6 n k (N+1) x0 x1 x2=a3_.step6 n k (a3_.loop6 n k N) x0 x1 x2:=rfl
abbrev aB_.K6:Type:=Bs→Option Bs
theorem aB_.turn6 {n N:Nat} {k:Bs→Option Bs} {x0 x1}:aB_.loop6 n k (N+1) x0 x1=aB_.step6 n k (aB_.loop6 n k N) x0 x1:=rfl
abbrev al_.K3:Type:=Int→(List Bs)→Option (Int × (List Bs))
theorem al_.turn3 {n N:Nat} {k:Int→(List Bs)→Option (Int × (List Bs))} {x0 x1 x2}:al_.loop3 n k (N+1) x0 x1 x2=al_.step3 n k (al_.loop3 n k N) x0 x1 x2:=rfl
abbrev ap_.K3_1:Type:=Int→(List aa_)→Option (Int × (List aa_))
theorem ap_.turn3 {n N:Nat} {k0:(List aa_)→Int→Option (Int × (List aa_))} {k1:Int→(List aa_)→Option (Int × (List aa_))} {x0 x1 x2}:ap_.loop3 n k0 k1 (N+1) x0 x1 x2=ap_.step3 n k0 k1 (ap_.loop3 n k0 k1 N) x0 x1 x2:=rfl
abbrev aP_.K3:Type:=Int→(List TOp)→Option (Int × (List TOp))
theorem aP_.turn3 {n N:Nat} {k:Int→(List TOp)→Option (Int × (List TOp))} {x0 x1 x2}:aP_.loop3 n k (N+1) x0 x1 x2=aP_.step3 n k (aP_.loop3 n k N) x0 x1 x2:=rfl
abbrev ao_.K3:Type:=Int→Option Int
theorem ao_.turn3 {n N:Nat} {k:Int→Option Int} {x0 x1 x2}:ao_.loop3 n k (N+1) x0 x1 x2=ao_.step3 n k (ao_.loop3 n k N) x0 x1 x2:=rfl
abbrev aq_.K3_1:Type:=Int→Option Int
theorem aq_.turn3 {n N:Nat} {k0:(List aa_)→Int→Option Int} {k1:Int→Option Int} {x0 x1 x2}:aq_.loop3 n k0 k1 (N+1) x0 x1 x2=aq_.step3 n k0 k1 (aq_.loop3 n k0 k1 N) x0 x1 x2:=rfl
end Go.Pi
end
section
namespace Go.Pi
def e2_ (p:Nat→Bool):Nat→Nat→Bool
 |0,_=>true
 |d+1,i=>p i&&e2_ p d (i+1)
def kO_ (p:Nat→Bool) (len:Nat):Bool:=e2_ p len 0
theorem ft_ (L:Nat→Nat→Nat→Option Bool) (p:Nat→Bool) {len:Nat} {v:Bool}
  (h:∀ i w,i<len→Ev (fun n N=>L n N (i+1)) w→Ev (fun n N=>L n (N+1) i) (p i&&w)) (h2:Ev (fun n N=>L n (N+1) len) v) :
  Ev (fun n _=>L n n 0) (kO_ p len&&v):=by
 have key:∀ d i,d+i=len→Ev (fun n N=>L n N i) (e2_ p d i&&v):=by
  intro d
  induction d with
  |zero=>intro i hd;obtain rfl:i=len:=by omega
         simpa [e2_] using b3_ (f:=fun n N=>L n N i) h2
  |succ d ih=>intro i hd
              have:=h i _ (by omega) (ih (i+1) (by omega))
              rw [←Bool.and_assoc] at this
              exact b3_ (f:=fun n N=>L n N i) this
 exact c1_ (f:=fun n N=>L n N 0) (key len 0 (by omega))
theorem g0_ {α:Type} {f:Nat→Nat→Option α} {v w:α} (h:Ev f v) (e:v=w):Ev f w:=e ▸ h
def inn (x lo hi:Int):Bool:=decide (lo≤x)&&decide (x≤hi)
theorem iX_ {x lo hi:Int}:inn x lo hi=true↔lo≤x∧x≤hi:=by simp [inn]
theorem l1In_ev {x lo hi:Int}:Ev (fun n _=>cb_ n x lo hi) (inn x lo hi):=by
 refine aS_ ?_
 simp only [cb_,ay_,as_,inn]
 grind
theorem fI_ {x lo hi:Int}:Ev (fun n _=>aE_ n x lo hi) (inn x lo hi):=by
 refine aS_ ?_
 simp only [aE_,ay_,as_,inn]
 grind
section
variable {β:Type} {x lo hi:Int} {g:Nat→Nat→Bool→Option β} {v:β}
theorem l1In_b:Ev (fun n N=>(cb_ n x lo hi).bind (g n N)) v↔Ev (fun n N=>g n N (inn x lo hi)) v:=ar_ l1In_ev
theorem e6_:Ev (fun n N=>(aE_ n x lo hi).bind (g n N)) v↔Ev (fun n N=>g n N (inn x lo hi)) v:=ar_ fI_
theorem isNum_b:Ev (fun n N=>(aY_ n x).bind (g n N)) v↔Ev (fun n N=>g n N (inn x (-1000000000) 1000000000)) v :=
 ar_ (aS_ (by simp only [aY_,e6_,as_]))
end
theorem cW_ {i len:Nat} (h:i<len):decide ((i:Int)<(len:Int))=true:=by simp;omega
theorem cH_ {len:Nat}:decide ((len:Int)<(len:Int))=false:=by simp
theorem cJ_ {i len:Nat} (h:i<len):((0:Int)≤(i:Int)∧(i:Int)<(len:Int))↔True:=by simp;omega
end Go.Pi
end
section
namespace Go.Pi
abbrev cap:Nat:=1048576
def dK_ {α:Type} (f:α→Nat):List α→Nat
 |[]=>0
 |x::xs=>f x+dK_ f xs
def cF_ {α:Type} (f:α→Nat) (l:List α):Nat:=l.length+dK_ f l
def lenL {α:Type} (P:α→Prop) (l:List α):Prop:=l.length≤co_∧∀ x ∈ l,P x
def szB (s:Bs):Nat:=s.length
def lenB (s:Bs):Prop:=s.length≤co_
theorem eK_ {α:Type} (f:α→Nat) (d:α) {a:List α} {i:Nat} (h:i<a.length):dK_ f (a.drop i)=f (a.getD i d)+dK_ f (a.drop (i+1)):=by
 rw [e0_ d h];rfl
theorem fL_ {α:Type} (f:α→Nat) (x:α):∀ (a:List α) (i:Nat),dK_ f ((a.set i x).drop (i+1))=dK_ f (a.drop (i+1))
 |[],_=>rfl
 |_::_,0=>rfl
 |_::a,i+1=>by simpa using fL_ f x a i
theorem eJ_ {α:Type} (f:α→Nat) {a:List α} {x:α} (h:x ∈ a):f x≤dK_ f a:=by
 induction a with
 |nil=>cases h
 |cons y a ih=>
  simp only [dK_]
  rcases List.mem_cons.1 h with rfl|h
  · omega
  · have:=ih h;omega
theorem e8_ {α:Type} (f:α→Nat) {a:List α} {x:α} (h:x ∈ a):1+f x≤cF_ f a:=by
 unfold cF_
 have:=eJ_ f h
 have:=List.length_pos_of_mem h
 omega
theorem cG_ {α:Type} (f:α→Nat) (a:List α):a.length≤cF_ f a:=by unfold cF_;omega
theorem take_set {α:Type} (d:α) {a s:List α} {i:Nat} (h:i<a.length) (hs:s.length=a.length) (ht:s.take i=a.take i):(s.set i (a.getD i d)).take (i+1)=a.take (i+1):=by
 rw [List.take_add_one,List.take_add_one,List.take_set_of_le (Nat.le_refl i),ht,List.getElem?_set_self (by omega),List.getD_eq_getElem?_getD,List.getElem?_eq_getElem h]
 rfl
theorem i3_ {α:Type} (d:α) {a:List α} {i:Nat} (h:i<a.length) (x:α):(a.set i x).getD i d=x:=by
 rw [List.getD_eq_getElem?_getD,List.getElem?_set_self h];rfl
def ed_ (l:Int) (s:Nat):Int:=if (s:Int)≤l then l - s else -1
theorem jl_ {l:Int} (h:0≤l):ed_ l 0=l:=by unfold ed_;rw [if_pos (by omega)];omega
theorem iB_ {l:Int} {s t:Nat} (h0:0≤l):(ed_ l s<0→ed_ l (s+t) = -1)∧(¬ ed_ l s<0→(0≤ed_ l s∧ed_ l s≤l)∧ed_ (ed_ l s) t=ed_ l (s+t)):=by
 unfold ed_
 constructor<;>intro h
 · split at h
   · omega
   · rw [if_neg (by omega)]
 · split at h
   · rename_i h1
     rw [if_pos h1]
     refine ⟨by omega,?_⟩
     by_cases h2:(t:Int)≤l - s
     · rw [if_pos h2,if_pos (by omega)];omega
     · rw [if_neg h2,if_neg (by omega)]
   · omega
theorem subS_ok {l:Int} {s:Nat} (h:¬ ed_ l s<0):(s:Int)≤l:=by
 unfold ed_ at h;split at h<;>omega
section
variable {α β:Type}
theorem i5_ {f:Nat→Nat→Option Int} {g:Nat→Nat→Int→Option Int} {l:Int} {s t:Nat} (h0:0≤l) (h1:l≤1048576) (h:Ev f (ed_ l s)) (k:∀ r,0≤r→r≤1048576→Ev (fun n N=>g n N r) (ed_ r t)) :
  Ev (fun n N=>(f n N).bind fun x=>cond (decide (x<0)) (some (-1)) (g n N x)) (ed_ l (s+t)):=by
 rw [ar_ h,ay_]
 obtain ⟨a,b⟩:=iB_ (l:=l) (s:=s) (t:=t) h0
 refine ⟨fun h => ?_,fun h => ?_⟩
 · rw [a (of_decide_eq_true h)];exact as_.2 rfl
 · obtain ⟨⟨b1,b2⟩,b3⟩:=b (of_decide_eq_false h)
   rw [←b3]
   exact k _ b1 (by omega)
theorem lx_ {l:Int} (h:0≤l):Ev (fun _ _=>some l) (ed_ l 0):=by rw [jl_ h];exact as_.2 rfl
theorem jY_ {l:Int} {m t:Nat} (h0:0≤l) (h1:l≤1048576) (hm:m≤co_) {g:Nat→Nat→Int→Option Int} (k:∀ r,0≤r→r≤1048576→Ev (fun n N=>g n N r) (ed_ r t)) :
  Ev (fun n N=>cond (decide (W (l - (m:Int))<0)) (some (-1)) (g n N (W (l - (m:Int))))) (ed_ l (m+t)):=by
 simp only [co_] at hm
 rw [W_id (by omega) (by omega)]
 have e:l - (m:Int)<0∨l - m=ed_ l m:=by unfold ed_;split<;>omega
 rw [ay_]
 refine ⟨fun h => ?_,fun h => ?_⟩
 · have h:=of_decide_eq_true h
   rw [(iB_ h0).1 (by unfold ed_;rw [if_neg (by omega)];omega)]
   exact as_.2 rfl
 · have h:=of_decide_eq_false h
   have e:=e.resolve_left h
   have:=(iB_ (l:=l) (s:=m) (t:=t) h0).2 (by rw [←e];exact h)
   rw [←this.2,←e]
   exact k _ (by omega) (by omega)
theorem kh_ (d:α) (f:α→Nat) (L:Nat→Nat→Int→Nat→Option Int) (a:List α)
  (h1:∀ i l,i<a.length→0≤l→l≤1048576→∀ t,(∀ r,0≤r→r≤1048576→Ev (fun n N=>L n N r (i+1)) (ed_ r t))→Ev (fun n N=>L n (N+1) l i) (ed_ l (f (a.getD i d)+t)))
  (h2:∀ l,Ev (fun n N=>L n (N+1) l a.length) l) (l:Int) (hl:0≤l) (hl':l≤1048576):Ev (fun n _=>L n n l 0) (ed_ l (dK_ f a)):=by
 have key:∀ j i,j+i=a.length→∀ l,0≤l→l≤1048576→Ev (fun n N=>L n N l i) (ed_ l (dK_ f (a.drop i))):=by
  intro j
  induction j with
  |zero=>
   intro i hi l h0 _
   rw [drop_end (by omega)]
   refine b3_ ?_
   have:i=a.length:=by omega
   subst this
   rw [show dK_ f []=0 from rfl,jl_ h0]
   exact h2 l
  |succ j ih=>
   intro i hi l h0 h1'
   rw [eK_ f d (by omega)]
   exact b3_ (h1 i l (by omega) h0 h1' _ fun r a b=>ih (i+1) (by omega) r a b)
 have:=key a.length 0 (by omega) l hl hl'
 rw [List.drop_zero] at this
 exact c1_ (f:=fun n N=>L n N l 0) this
theorem kD_ (d:α) (a:List α) (L:Nat→Nat→Nat→List α→Option (List α))
  (h1:∀ i s,i<a.length→s.length=a.length→Ev (fun n N=>L n N (i+1) (s.set i (a.getD i d))) a→Ev (fun n N=>L n (N+1) i s) a)
  (h2:Ev (fun n N=>L n (N+1) a.length a) a) (s:List α) (hs:s.length=a.length):Ev (fun n _=>L n n 0 s) a:=by
 refine ev_up L (fun _ _=>a) (fun i s=>s.length=a.length∧s.take i=a.take i) a.length (fun i s hI hi k => ?_) s ⟨hs,by simp⟩
 by_cases h:i<a.length
 · exact h1 i s h hI.1 (k _ ⟨by simp [hI.1],take_set d h hI.1 hI.2⟩ h)
 · have e:i=a.length:=by omega
   subst e
   have:s=a:=by
    have:=hI.2
    rwa [List.take_of_length_le (by omega),List.take_of_length_le (Nat.le_refl _)] at this
   subst this
   exact h2
theorem ih_ (Q:α→Prop) (d:α) (f:α→Nat) (LM:Nat→Nat→Int→Nat→List α→Option (Int × List α)) (LH:Nat→Nat→List α→Int→Nat→Option Int)
  (hm:∀ i (a:List α) (k:Int),i<a.length→Q (a.getD i d)→a.length≤co_→0≤k→k+32*(1+f (a.getD i d):Nat)≤co_ →
    ∃ k' x',k≤k'∧k'≤k+32*(1+f (a.getD i d):Nat)∧(∀ F,Ev (fun n N=>LM n N k' (i+1) (a.set i x')) F→Ev (fun n N=>LM n (N+1) k i a) F) ∧
      ∀ (b:List α) F,i<b.length→b.length≤co_→b.getD i d=x'→Ev (fun n N=>LH n N b k' (i+1)) F→Ev (fun n N=>LH n (N+1) b k i) F)
  (em:∀ (a:List α) k,Ev (fun n N=>LM n (N+1) k a.length a) (k,a)) (eh:∀ (a:List α) k,Ev (fun n N=>LH n (N+1) a k a.length) k)
  (a:List α) (k:Int) (hq:∀ i,i<a.length→Q (a.getD i d)) (ha:a.length≤co_) (hk:0≤k) (hb:k+32*(cF_ f a:Nat)≤co_) :
  ∃ k' a',k≤k'∧k'≤k+32*(cF_ f a:Nat)∧a'.length=a.length∧Ev (fun n _=>LM n n k 0 a) (k',a')∧Ev (fun n _=>LH n n a' k 0) k':=by
 have key:∀ j i (a:List α) (k:Int),j+i=a.length→(∀ m,i≤m→m<a.length→Q (a.getD m d))→a.length≤co_→0≤k→k+32*((j+dK_ f (a.drop i):Nat):Int)≤co_ →
   ∃ k' a',k≤k'∧k'≤k+32*((j+dK_ f (a.drop i):Nat):Int)∧a'.length=a.length∧a'.take i=a.take i∧Ev (fun n N=>LM n N k i a) (k',a')∧Ev (fun n N=>LH n N a' k i) k':=by
  intro j
  induction j with
  |zero=>
   intro i a k hi _ _ hk _
   have:i=a.length:=by omega
   subst this
   exact ⟨k,a,by omega,by omega,rfl,rfl,b3_ (em a k),b3_ (eh a k)⟩
  |succ j ih=>
   intro i a k hi hq ha hk hb
   rw [eK_ f d (by omega)] at hb ⊢
   obtain ⟨k1,x',p1,p2,p3,p4⟩:=hm i a k (by omega) (hq i (Nat.le_refl _) (by omega)) ha hk (by omega)
   obtain ⟨k2,a',q1,q2,q3,q4,q5,q6⟩:=ih (i+1) (a.set i x') k1 (by rw [List.length_set];omega) (fun m h1 h2=>by
    rw [List.length_set] at h2
    rw [List.getD_eq_getElem?_getD,List.getElem?_set_ne (by omega),←List.getD_eq_getElem?_getD]
    exact hq m (by omega) h2) (by rw [List.length_set];exact ha) (by omega) (by rw [fL_];omega)
   rw [fL_] at q2
   rw [List.length_set] at q3
   have hlt:i<a'.length:=by omega
   have hx:a'.getD i d=x':=by
    have e:=congrArg (fun l=>l[i]?) q4
    simp only [List.getElem?_take,if_pos (Nat.lt_succ_self i),List.getElem?_set_self (show i<a.length by omega)] at e
    rw [List.getD_eq_getElem?_getD,e];rfl
   refine ⟨k2,a',by omega,by omega,q3,?_,b3_ (p3 _ q5),b3_ (p4 a' k2 hlt (by omega) hx q6)⟩
   have e:=congrArg (List.take i) q4
   simp only [List.take_take,Nat.min_eq_left (Nat.le_succ i),List.take_set_of_le (Nat.le_refl i)] at e
   exact e
 obtain ⟨k',a',h1,h2,h3,_,h5,h6⟩:=key a.length 0 a k (by omega) (fun m _ h=>hq m h) ha hk (by rw [List.drop_zero];unfold cF_ at hb;omega)
 refine ⟨k',a',h1,by rw [List.drop_zero] at h2;unfold cF_;omega,h3,c1_ (f:=fun n N=>LM n N k 0 a) h5,c1_ (f:=fun n N=>LH n N a' k 0) h6⟩
theorem mark_list (d:α) (f:α→Nat) (LM:Nat→Nat→Int→Nat→List α→Option (Int × List α)) (LH:Nat→Nat→List α→Int→Nat→Option Int)
  (hm:∀ i (a:List α) (k:Int),i<a.length→a.length≤co_→0≤k→k+32*(1+f (a.getD i d):Nat)≤co_ →
    ∃ k' x',k≤k'∧k'≤k+32*(1+f (a.getD i d):Nat)∧(∀ F,Ev (fun n N=>LM n N k' (i+1) (a.set i x')) F→Ev (fun n N=>LM n (N+1) k i a) F) ∧
      ∀ (b:List α) F,i<b.length→b.length≤co_→b.getD i d=x'→Ev (fun n N=>LH n N b k' (i+1)) F→Ev (fun n N=>LH n (N+1) b k i) F)
  (em:∀ (a:List α) k,Ev (fun n N=>LM n (N+1) k a.length a) (k,a)) (eh:∀ (a:List α) k,Ev (fun n N=>LH n (N+1) a k a.length) k)
  (a:List α) (k:Int) (ha:a.length≤co_) (hk:0≤k) (hb:k+32*(cF_ f a:Nat)≤co_) :
  ∃ k' a',k≤k'∧k'≤k+32*(cF_ f a:Nat)∧a'.length=a.length∧Ev (fun n _=>LM n n k 0 a) (k',a')∧Ev (fun n _=>LH n n a' k 0) k' :=
 ih_ (fun _=>True) d f LM LH (fun i a k h1 _ h2 h3 h4=>hm i a k h1 h2 h3 h4) em eh a k (fun _ _=>trivial) ha hk hb
theorem l1_ (d:α) (f:α→Nat) (LM:Nat→Nat→Int→Nat→List α→Option (Int × List α))
  (hm:∀ i (a:List α) (k:Int),i<a.length→a.length≤co_→0≤k→k+32*(1+f (a.getD i d):Nat)≤co_ →
    ∃ k' x',k≤k'∧k'≤k+32*(1+f (a.getD i d):Nat)∧(∀ F,Ev (fun n N=>LM n N k' (i+1) (a.set i x')) F→Ev (fun n N=>LM n (N+1) k i a) F))
  (em:∀ (a:List α) k,Ev (fun n N=>LM n (N+1) k a.length a) (k,a))
  (a:List α) (k:Int) (ha:a.length≤co_) (hk:0≤k) (hb:k+32*(cF_ f a:Nat)≤co_) :
  ∃ k' a',k≤k'∧k'≤k+32*(cF_ f a:Nat)∧a'.length=a.length∧Ev (fun n _=>LM n n k 0 a) (k',a')∧True:=by
 have key:∀ j i (a:List α) (k:Int),j+i=a.length→a.length≤co_→0≤k→k+32*((j+dK_ f (a.drop i):Nat):Int)≤co_ →
   ∃ k' a',k≤k'∧k'≤k+32*((j+dK_ f (a.drop i):Nat):Int)∧a'.length=a.length∧Ev (fun n N=>LM n N k i a) (k',a'):=by
  intro j
  induction j with
  |zero=>
   intro i a k hi _ hk _
   have:i=a.length:=by omega
   subst this
   exact ⟨k,a,by omega,by omega,rfl,b3_ (em a k)⟩
  |succ j ih=>
   intro i a k hi ha hk hb
   rw [eK_ f d (by omega)] at hb ⊢
   obtain ⟨k1,x',p1,p2,p3⟩:=hm i a k (by omega) ha hk (by omega)
   obtain ⟨k2,a',q1,q2,q3,q5⟩:=ih (i+1) (a.set i x') k1 (by rw [List.length_set];omega) (by rw [List.length_set];exact ha) (by omega) (by rw [fL_];omega)
   rw [fL_] at q2
   rw [List.length_set] at q3
   exact ⟨k2,a',by omega,by omega,q3,b3_ (p3 _ q5)⟩
 obtain ⟨k',a',h1,h2,h3,h5⟩:=key a.length 0 a k (by omega) ha hk (by rw [List.drop_zero];unfold cF_ at hb;omega)
 exact ⟨k',a',h1,by rw [List.drop_zero] at h2;unfold cF_;omega,h3,c1_ (f:=fun n N=>LM n N k 0 a) h5,trivial⟩
end
theorem eD_ {k:Int} (h:0≤k) (h':k+1≤co_):W (k+1)=k+1:=W_id (by omega) (by simp only [co_] at h';omega)
end Go.Pi
end
section
namespace Go.Pi
theorem W_dn {i:Nat} (h:i≤co_):W ((i:Int) - 1)=(i:Int) - 1:=by
 rw [W_id (by omega) (by simp only [co_] at h;omega)]
theorem k1_ {i:Nat}:((i:Int) - 1).toNat=i - 1:=by omega
theorem iW_ {x lo hi:Int} (h:inn x lo hi=true):lo≤x∧x≤hi:=iX_.1 h
def fb_ {α:Type} (s:Nat→α→α) (v:α):Nat→Nat→α
 |0,_=>v
 |d+1,i=>s i (fb_ s v d (i+1))
theorem ev_fold {α:Type} (L:Nat→Nat→Nat→Option α) (s:Nat→α→α) {len:Nat} {v:α}
  (h:∀ i w,i<len→Ev (fun n N=>L n N (i+1)) w→Ev (fun n N=>L n (N+1) i) (s i w)) (h2:Ev (fun n N=>L n (N+1) len) v) :
  Ev (fun n _=>L n n 0) (fb_ s v len 0):=by
 have key:∀ d i,d+i=len→Ev (fun n N=>L n N i) (fb_ s v d i):=by
  intro d
  induction d with
  |zero=>intro i hd;obtain rfl:i=len:=by omega
         exact b3_ (f:=fun n N=>L n N i) h2
  |succ d ih=>intro i hd
              exact b3_ (f:=fun n N=>L n N i) (h i _ (by omega) (ih (i+1) (by omega)))
 exact c1_ (f:=fun n N=>L n N 0) (key len 0 (by omega))
theorem cz_ {α:Type} {n b:Nat} {f:Nat→Nat→Option α} {v:α}:Ev (fun m N=>cv_ n b (f m N)) v↔n*b≤140737488355328∧Ev f v:=by
 unfold cv_
 rw [ay_]
 by_cases h:n*b≤140737488355328<;>simp [h,cx_]
theorem ea_ {α γ:Type} (S:Nat→α) (len:Nat) (L:Nat→Nat→Nat→α→Option γ) (v:γ)
  (h1:∀ i,i<len→∀ F,Ev (fun n N=>L n N (i+1) (S (i+1))) F→Ev (fun n N=>L n (N+1) i (S i)) F)
  (h2:Ev (fun n N=>L n (N+1) len (S len)) v):Ev (fun n _=>L n n 0 (S 0)) v:=by
 have key:∀ j i,j+i=len→Ev (fun n N=>L n N i (S i)) v:=by
  intro j
  induction j with
  |zero=>
   intro i hi
   have:i=len:=by omega
   subst this
   exact b3_ h2
  |succ j ih=>exact fun i hi=>b3_ (h1 i (by omega) _ (ih (i+1) (by omega)))
 exact c1_ (f:=fun n N=>L n N 0 (S 0)) (key len 0 (by omega))
theorem c5_ {α:Type} (d:α) {a:List α} {i:Nat} (h:i<a.length):a.take (i+1)=a.take i++[a.getD i d]:=by
 rw [List.take_add_one,List.getD_eq_getElem?_getD,List.getElem?_eq_getElem h];rfl
theorem gG_ {α:Type} (d:α) (P:α→Bool):∀ (rows:List α),fb_ (fun i (x:Int)=>cond (P (rows.getD i d)) (i:Int) x) (-1) rows.length 0=if rows.findIdx P<rows.length then (rows.findIdx P:Int) else -1:=by
 intro rows
 have key:∀ j i,j+i=rows.length→(∀ k,k<i→P (rows.getD k d)=false)→fb_ (fun i (x:Int)=>cond (P (rows.getD i d)) (i:Int) x) (-1) j i=if rows.findIdx P<rows.length then (rows.findIdx P:Int) else -1:=by
  intro j
  induction j with
  |zero=>
   intro i hi hk
   have:¬ rows.findIdx P<rows.length:=by
    intro h
    have h1:=List.findIdx_getElem (w:=h)
    have h2:=hk _ (show rows.findIdx P<i by omega)
    rw [List.getD_eq_getElem?_getD,List.getElem?_eq_getElem h] at h2
    simp only [Option.getD_some] at h2
    rw [h1] at h2;cases h2
   rw [if_neg this];rfl
  |succ j ih=>
   intro i hi hk
   simp only [fb_]
   cases hp:P (rows.getD i d) with
   |true=>
    have hlt:i<rows.length:=by omega
    rw [List.getD_eq_getElem?_getD,List.getElem?_eq_getElem hlt] at hp
    have e:rows.findIdx P=i:=by
     apply Nat.le_antisymm
     · exact Nat.le_of_not_lt fun h=>by have:=List.not_of_lt_findIdx h;rw [Option.getD_some] at hp;rw [hp] at this;cases this
     · exact Nat.le_of_not_lt fun h=>by
        have h2:=hk _ h
        have hl:rows.findIdx P<rows.length:=by omega
        rw [List.getD_eq_getElem?_getD,List.getElem?_eq_getElem hl] at h2
        rw [Option.getD_some,List.findIdx_getElem (w:=hl)] at h2;cases h2
    rw [e,if_pos hlt];rfl
   |false=>
    rw [cond_false]
    exact ih (i+1) (by omega) fun k hk'=>by
     by_cases e:k=i
     · subst e;exact hp
     · exact hk k (by omega)
 exact key rows.length 0 (by omega) fun k hk=>by omega
theorem ev_cutB {α:Type} {lo hi:Int} {len:Nat} {f:Nat→Nat→Option α} {v:α}:Ev (fun n N=>gs_ lo hi len (f n N)) v↔(0≤lo∧lo≤hi∧hi≤(len:Int))∧Ev f v:=by
 unfold gs_
 simp only [ay_,cx_]
 by_cases h1:0≤lo<;>by_cases h2:lo≤hi<;>by_cases h3:hi≤(len:Int)<;>simp [h1,h2,h3]
theorem g5_ {p:Nat→Bool} {len:Nat}:kO_ p len=true↔∀ i,i<len→p i=true:=by
 have key:∀ d i,d+i=len→(e2_ p d i=true↔∀ k,i≤k→k<len→p k=true):=by
  intro d
  induction d with
  |zero=>intro i hi;simp only [e2_,true_iff];intro k h1 h2;omega
  |succ d ih=>
   intro i hi
   simp only [e2_,Bool.and_eq_true,ih (i+1) (by omega)]
   constructor
   · rintro ⟨h1,h2⟩ k h3 h4
     by_cases e:k=i
     · subst e;exact h1
     · exact h2 k (by omega) h4
   · exact fun h=>⟨h i (Nat.le_refl _) (by omega),fun k h1 h2=>h k (by omega) h2⟩
 have:=key len 0 (by omega)
 unfold kO_
 rw [this]
 exact ⟨fun h i hi=>h i (Nat.zero_le _) hi,fun h i _ hi=>h i hi⟩
end Go.Pi
end
section
namespace Go.Pi
section
variable {α β σ:Type}
def Ans (f:Nat→Nat→Option α) (Q:α→Prop):Prop:=∃ v,Ev f v∧Q v
theorem ans_ev {f:Nat→Nat→Option α} {v:α} (h:Ev f v) {Q:α→Prop}:Ans f Q↔Q v :=
 ⟨fun ⟨w,h1,h2⟩=>(dv_ h).1 h1 ▸ h2,fun hq=>⟨v,h,hq⟩⟩
theorem bZ_ {v:α} {Q:α→Prop}:Ans (fun _ _=>some v) Q↔Q v:=ans_ev (as_.2 rfl)
theorem b5_ {f:Nat→Nat→Option α} {a:α} (h:Ev f a) {g:Nat→Nat→α→Option β} {Q:β→Prop}:Ans (fun n N=>(f n N).bind (g n N)) Q↔Ans (fun n N=>g n N a) Q:=by
 unfold Ans;simp only [ar_ h]
theorem dJ_ {f:Nat→Nat→Option α} {P:α→Prop} (h:Ans f P) {g:Nat→Nat→α→Option β} {Q:β→Prop} (k:∀ v,P v→Ans (fun n N=>g n N v) Q):Ans (fun n N=>(f n N).bind (g n N)) Q:=by
 obtain ⟨v,h1,h2⟩:=h
 exact (b5_ h1).2 (k v h2)
theorem cV_ {c:Bool} {f g:Nat→Nat→Option α} {Q:α→Prop}:Ans (fun n N=>cond c (f n N) (g n N)) Q↔(c=true→Ans f Q)∧(c=false→Ans g Q):=by
 cases c<;>simp
theorem do_ {i:Int} {len:Nat} {f:Nat→Nat→Option α} {Q:α→Prop}:Ans (fun n N=>inB i len (f n N)) Q↔(0≤i∧i<(len:Int))∧Ans f Q:=by
 unfold Ans;simp only [cf_]
 exact ⟨fun ⟨v,⟨h1,h2⟩,h3⟩=>⟨h1,v,h2,h3⟩,fun ⟨h1,v,h2,h3⟩=>⟨v,⟨h1,h2⟩,h3⟩⟩
theorem j7_ {n b:Nat} {f:Nat→Nat→Option α} {Q:α→Prop}:Ans (fun m N=>cv_ n b (f m N)) Q↔n*b≤140737488355328∧Ans f Q:=by
 unfold Ans;simp only [cz_]
 exact ⟨fun ⟨v,⟨h1,h2⟩,h3⟩=>⟨h1,v,h2,h3⟩,fun ⟨h1,v,h2,h3⟩=>⟨v,⟨h1,h2⟩,h3⟩⟩
theorem g4_ {lo hi:Int} {len:Nat} {f:Nat→Nat→Option α} {Q:α→Prop}:Ans (fun n N=>gs_ lo hi len (f n N)) Q↔(0≤lo∧lo≤hi∧hi≤(len:Int))∧Ans f Q:=by
 unfold Ans;simp only [ev_cutB]
 exact ⟨fun ⟨v,⟨h1,h2⟩,h3⟩=>⟨h1,v,h2,h3⟩,fun ⟨h1,v,h2,h3⟩=>⟨v,⟨h1,h2⟩,h3⟩⟩
theorem dc_ {f:Nat→Nat→Option α} {Q:α→Prop} (h:Ans (fun n N=>f (n+1) N) Q):Ans f Q :=
 let ⟨v,h1,h2⟩:=h;⟨v,aS_ h1,h2⟩
theorem ev_ans {f:Nat→Nat→Option α} {v:α} (h:Ans f fun w=>w=v):Ev f v:=let ⟨_,h1,h2⟩:=h;h2 ▸ h1
end
end Go.Pi
end
section
namespace Go.Pi
theorem bA_ (j:aa_):aa_.re j=j:=by cases j;rfl
def ga_ (s:Bs):Bool:=kO_ (fun i=>inn ((s.getD i 0).toNat:Int) 32 126) s.length&&decide ((s.length:Int)≤60)
theorem byte_W (b:UInt8):W ((b.toNat:Int))=(b.toNat:Int):=W_id (by omega) (by have:=b.toNat_lt;omega)
theorem dY_ {s:Bs} (hs:s.length≤co_):Ev (fun n _=>aT_ n s) (ga_ s):=by
 refine aS_ ?_
 simp only [aT_]
 refine ft_ (fun n N i=>aT_.loop3 n (fun xy1=>(some (decide ((xy1.length:Int)≤60)))) N s (i:Int)) _ (fun i w hi ih => ?_) ?_
 · simp only [aT_.turn3,aT_.step3,Int.toNat_natCast,ay_,cf_,as_,W_up hi hs,dv_ ih,cW_ hi,cJ_ hi]
   clear ih
   simp only [inn]
   by_cases h1:(((s.getD i 0).toNat:Nat):Int)<32<;>by_cases h2:(((s.getD i 0).toNat:Nat):Int) > 126<;>simp [h1,h2]<;>(intros;omega)
 · simp only [aT_.turn3,aT_.step3,cH_,cond_false,as_]
theorem d1_ {s:Bs} (hs:s.length≤co_):Ev (fun n _=>an_ n s) (ga_ s):=by
 refine aS_ ?_
 simp only [an_]
 refine ft_ (fun n N i=>an_.loop3 n (fun xy1=>(some (decide ((xy1.length:Int)≤60)))) N s (s.length:Int) (i:Int)) _ (fun i w hi ih => ?_) ?_
 · simp only [an_.turn3,an_.step3,Int.toNat_natCast,ay_,cf_,e6_,byte_W,as_,W_up hi hs,dv_ ih,cW_ hi,cJ_ hi]
   clear ih
   grind
 · simp only [an_.turn3,an_.step3,cH_,cond_false,as_]
def l4_ (c:Nat) (l:List Bs):Prop:=l.length≤c∧∀ x ∈ l,x.length≤c
theorem f2_ {c:Nat} {l:List Bs} (h:l4_ c l) (i:Nat):(l.getD i []).length≤c:=by
 by_cases hi:i<l.length
 · exact h.2 _ (ce_ [] hi)
 · rw [List.getD_eq_getElem?_getD,List.getElem?_eq_none (by omega)];exact Nat.zero_le _
def gb_ (l:List Bs):Bool:=kO_ (fun i=>ga_ (l.getD i [])&&(decide (i=0)||Op.bytesLess (l.getD (i - 1) []) (l.getD i []))) l.length
theorem hv_ {l:List Bs} (h:l4_ co_ l):Ev (fun n _=>aj_ n l) (gb_ l):=by
 refine aS_ ?_
 simp only [aj_]
 refine g0_ (ft_ (fun n N i=>aj_.loop3 n (some true) N l l (l.length:Int) (i:Int)) (fun i=>ga_ (l.getD i [])&&(decide (i=0)||Op.bytesLess (l.getD (i - 1) []) (l.getD i []))) (len:=l.length) (v:=true) (fun i w hi ih => ?_) ?_) (by rw [Bool.and_true];rfl)
 · simp only [aj_.turn3,aj_.step3,Int.toNat_natCast,W_up hi h.1,W_dn (i:=i) (by have:=h.1;omega),k1_,ay_,cf_,ar_ (d1_ (f2_ h i)),as_,dv_ ih,cW_ hi,cJ_ hi]
   clear ih
   repeat' (first|apply And.intro|intro _)
   all_goals (try rw [Bool.eq_iff_iff])
   all_goals (try simp only [Bool.not_eq_true',Bool.not_eq_false',decide_eq_true_eq,decide_eq_false_iff_not,Bool.and_eq_true,Bool.or_eq_true,Bool.and_eq_false_iff,Bool.or_eq_false_iff] at *)
   all_goals grind
 · simp only [aj_.turn3,aj_.step3,cH_,cond_false,as_]
def kV_ (j:aa_):Bool:=cond (j.kind != 5) ((j.names.length:Int) == 0) (gb_ j.names&&((j.names.length:Int) == (j.list.length:Int)))
theorem ha_ {j:aa_} (h:l4_ co_ j.names):Ev (fun n _=>ad_ n j) (kV_ j):=by
 refine aS_ ?_
 have hl:Ev (fun n _=>ad_.loop6 n (fun xy2 xy3 xy4 xy5 xy6=>(some ((xy6.length:Int) == (xy5.length:Int)))) n 0 j.kind j.n_ j.s j.list j.names) (gb_ j.names&&((j.names.length:Int) == (j.list.length:Int))):=by
  refine ft_ (fun n N i=>ad_.loop6 n (fun xy2 xy3 xy4 xy5 xy6=>(some ((xy6.length:Int) == (xy5.length:Int)))) N (i:Int) j.kind j.n_ j.s j.list j.names) _ (fun i w hi ih => ?_) ?_
  · simp only [ad_.turn6,ad_.step6,Int.toNat_natCast,W_up hi h.1,W_dn (i:=i) (by have:=h.1;omega),k1_,ay_,cf_,ar_ (dY_ (f2_ h i)),as_,dv_ ih,cW_ hi,cJ_ hi]
    clear ih
    repeat' (first|apply And.intro|intro _)
    all_goals (try rw [Bool.eq_iff_iff])
    all_goals (try simp only [Bool.not_eq_true',Bool.not_eq_false',decide_eq_true_eq,decide_eq_false_iff_not,Bool.and_eq_true,Bool.or_eq_true,Bool.and_eq_false_iff,Bool.or_eq_false_iff] at *)
    all_goals grind
  · simp only [ad_.turn6,ad_.step6,cH_,cond_false,as_]
 simp only [ad_,ay_,as_,dv_ hl,kV_]
 cases (j.kind != 5)<;>simp
end Go.Pi
end
section
namespace Go.Pi
def bi (l:Bs):List Int:=l.map fun c=>((c.toNat:Nat):Int)
theorem toBs_bi (l:Bs):je_ (bi l)=l:=by
 unfold je_ bi
 rw [List.map_map]
 refine (List.map_congr_left fun c _ => ?_).trans (List.map_id l)
 simp
theorem j4_ (l:Bs):(bi l).length=l.length:=List.length_map _
theorem bi_app (a b:Bs):bi (a++b)=bi a++bi b:=List.map_append
theorem lI_ (c:UInt8) (k:Nat) (d:UInt8) (hd:d.toNat=k):(((c.toNat:Nat):Int) == (k:Int))=decide (c=d):=by
 by_cases h:c=d
 · subst h;rw [hd];simp
 · rw [decide_eq_false h,beq_eq_false_iff_ne]
   intro e
   exact h (UInt8.toNat_inj.1 (by omega))
theorem byte34 (c:UInt8):(((c.toNat:Nat):Int) == 34)=decide (c=34):=lI_ c 34 34 rfl
theorem byte92 (c:UInt8):(((c.toNat:Nat):Int) == 92)=decide (c=92):=lI_ c 92 92 rfl
theorem byte126 (c:UInt8):(((c.toNat:Nat):Int) == 126)=decide (c=126):=lI_ c 126 126 rfl
theorem byte47 (c:UInt8):(((c.toNat:Nat):Int) == 47)=decide (c=47):=lI_ c 47 47 rfl
theorem dI_ (f:UInt8→Bs) (h:∀ c,(f c).length≤2):∀ s:Bs,(s.flatMap f).length≤2*s.length
 |[]=>Nat.le_refl _
 |c::s=>by
  have:=dI_ f h s
  have:=h c
  simp only [List.flatMap_cons,List.length_append,List.length_cons];omega
theorem jT_ (f:UInt8→Bs) {s:Bs} {i:Nat} (h:i<s.length):(s.take (i+1)).flatMap f=(s.take i).flatMap f++f (s.getD i 0):=by
 rw [c5_ 0 h,List.flatMap_append];simp
def jf_ (c:UInt8):Bs:=if c=34∨c=92 then [92,c] else [c]
theorem fQ_ (c:UInt8):(jf_ c).length≤2:=by unfold jf_;split<;>simp
def e4_ (s:Bs):Bs:=34::s.flatMap jf_++[34]
theorem ec_ (s:Bs):(e4_ s).length≤2*s.length+2:=by
 have:=dI_ jf_ fQ_ s
 simp only [e4_,List.cons_append,List.length_cons,List.length_append,List.length_nil];omega
theorem q2 (o:Bs) (c:UInt8):bi (34::(o++[92,c]))=(bi (34::o)++[92])++[((c.toNat:Nat):Int)]:=by simp [bi]
theorem q1 (o:Bs) (c:UInt8):bi (34::(o++[c]))=bi (34::o)++[((c.toNat:Nat):Int)]:=by simp [bi]
theorem qEnd (o:Bs):je_ (bi (34::o)++[34])=34::o++[34]:=by
 have:bi (34::o)++[34]=bi (34::o++[34]):=by simp [bi]
 rw [this,toBs_bi]
theorem eL_ {s:Bs} (hs:s.length≤1000000):Ev (fun n _=>aL_ n s) (e4_ s):=by
 refine aS_ ?_
 have ht:s.length≤co_:=by simp only [co_];omega
 simp only [aL_]
 have:=ea_ (fun i=>bi (34::(s.take i).flatMap jf_)) s.length (fun n N i (o:List Int)=>aL_.loop4 n (fun xy1=>(cv_ (xy1.length+([34]:List Int).length) 1 (some (je_ (xy1++([34]:List Int)))))) N s (i:Int) o) (e4_ s) (fun i hi F hF => ?_) ?_
 · exact this
 · have hl:=dI_ jf_ fQ_ (s.take i)
   rw [List.length_take] at hl
   rw [jT_ jf_ hi] at hF
   generalize (s.take i).flatMap jf_=o at hF hl ⊢
   have hb:=j4_ (34::o)
   simp only [List.length_cons] at hb
   simp only [aL_.turn4,aL_.step4,Int.toNat_natCast,W_up hi ht,ay_,cf_,cz_,cW_ hi,cJ_ hi,byte34,byte92]
   generalize s.getD i 0=c at hF ⊢
   unfold jf_ at hF
   by_cases h1:c=34
   · rw [if_pos (.inl h1),q2] at hF
     simp only [h1,decide_true] at hF ⊢
     repeat' (first|apply And.intro|intro _)
     all_goals (first|contradiction|exact hF|trivial|(simp [hb];omega))
   · by_cases h2:c=92
     · rw [if_pos (.inr h2),q2] at hF
       simp only [h2,decide_true] at hF ⊢
       repeat' (first|apply And.intro|intro _)
       all_goals (first|contradiction|exact hF|trivial|(simp [hb];omega))
     · rw [if_neg (fun h=>h.elim h1 h2),q1] at hF
       simp only [h1,h2,decide_false] at hF ⊢
       repeat' (first|apply And.intro|intro _)
       all_goals (first|contradiction|exact hF|trivial|(simp [hb];omega))
 · have hl:=dI_ jf_ fQ_ s
   have hb:=j4_ (34::s.flatMap jf_)
   simp only [List.length_cons] at hb
   simp only [aL_.turn4,aL_.step4,cH_,cond_false,cz_,List.take_length,as_,qEnd]
   exact ⟨by simp only [hb,List.length_cons,List.length_nil];omega,rfl⟩
theorem fq_ {s:Bs} (hs:s.length≤1000000):Ev (fun n _=>aW_ n s) (e4_ s):=by
 refine aS_ ?_
 have ht:s.length≤co_:=by simp only [co_];omega
 simp only [aW_]
 have:=ea_ (fun i=>bi (34::(s.take i).flatMap jf_)) s.length (fun n N i (o:List Int)=>aW_.loop4 n (fun xy1=>(cv_ (xy1.length+([34]:List Int).length) 1 (some (je_ (xy1++([34]:List Int)))))) N s (s.length:Int) (i:Int) o) (e4_ s) (fun i hi F hF => ?_) ?_
 · exact this
 · have hl:=dI_ jf_ fQ_ (s.take i)
   rw [List.length_take] at hl
   rw [jT_ jf_ hi] at hF
   generalize (s.take i).flatMap jf_=o at hF hl ⊢
   have hb:=j4_ (34::o)
   simp only [List.length_cons] at hb
   simp only [aW_.turn4,aW_.step4,Int.toNat_natCast,W_up hi ht,ay_,cf_,cz_,cW_ hi,cJ_ hi,byte34,byte92]
   generalize s.getD i 0=c at hF ⊢
   unfold jf_ at hF
   by_cases h1:c=34
   · rw [if_pos (.inl h1),q2] at hF
     simp only [h1,decide_true] at hF ⊢
     repeat' (first|apply And.intro|intro _)
     all_goals (first|contradiction|exact hF|trivial|(simp [hb];omega))
   · by_cases h2:c=92
     · rw [if_pos (.inr h2),q2] at hF
       simp only [h2,decide_true] at hF ⊢
       repeat' (first|apply And.intro|intro _)
       all_goals (first|contradiction|exact hF|trivial|(simp [hb];omega))
     · rw [if_neg (fun h=>h.elim h1 h2),q1] at hF
       simp only [h1,h2,decide_false] at hF ⊢
       repeat' (first|apply And.intro|intro _)
       all_goals (first|contradiction|exact hF|trivial|(simp [hb];omega))
 · have hl:=dI_ jf_ fQ_ s
   have hb:=j4_ (34::s.flatMap jf_)
   simp only [List.length_cons] at hb
   simp only [aW_.turn4,aW_.step4,cH_,cond_false,cz_,List.take_length,as_,qEnd]
   exact ⟨by simp only [hb,List.length_cons,List.length_nil];omega,rfl⟩
end Go.Pi
end
section
namespace Go.Pi
theorem e9_ (a b:UInt8) (l:Bs):Lib.index (b::l) [a]=if a=b then 0 else if Lib.index l [a] = -1 then -1 else Lib.index l [a]+1:=by
 rw [Lib.index]
 have:List.isPrefixOf [a] (b::l)=decide (a=b):=by
  simp only [List.isPrefixOf,Bool.and_true]
  exact Bool.eq_iff_iff.2 (by simp)
 rw [this]
 by_cases h:a=b
 · rw [decide_eq_true h,if_pos rfl,if_pos h]
 · rw [decide_eq_false h,if_neg (by simp),if_neg h]
   by_cases h2:Lib.index l [a] = -1
   · rw [h2,if_pos rfl,if_pos (by decide)]
   · rw [if_neg h2,if_neg (by simpa using h2)]
theorem ko_ {a b:UInt8} (h:a≠b) (new l:Bs):∀ k,Lib.replaceK [a] new k (b::l)=b::Lib.replaceK [a] new k l
 |0=>rfl
 |k+1=>by
  rw [Lib.replaceK,Lib.replaceK,e9_,if_neg h]
  by_cases h2:Lib.index l [a] = -1
  · rw [if_pos h2,if_pos (by decide),h2,if_pos (by decide)]
  · have:=Lib.index_ge l [a]
    obtain ⟨i,hi⟩:∃ i:Nat,Lib.index l [a]=i:=⟨(Lib.index l [a]).toNat,by omega⟩
    rw [if_neg h2,if_neg (by rw [hi];simp<;>omega),if_neg (by rw [hi];simp<;>omega),hi,show ((i:Int)+1).toNat=i+1 by omega,show ((i:Int)).toNat=i by omega]
    rfl
theorem kp_ (a:UInt8) (new l:Bs) (k:Nat):Lib.replaceK [a] new (k+1) (a::l)=new++Lib.replaceK [a] new k l:=by
 rw [Lib.replaceK,e9_,if_pos rfl,if_neg (by decide)]
 rfl
theorem eQ_ (a:UInt8) (new:Bs):∀ (s:Bs) (k:Nat),s.count a≤k→Lib.replaceK [a] new k s=s.flatMap fun c=>if c=a then new else [c]
 |[],0,_=>rfl
 |[],k+1,_=>by
  rw [Lib.replaceK]
  have:Lib.index [] [a] = -1:=rfl
  rw [this,if_pos (by decide)];rfl
 |b::l,k,h=>by
  by_cases e:b=a
  · subst e
    rw [List.count_cons_self] at h
    obtain ⟨k,rfl⟩:∃ m,k=m+1:=⟨k - 1,by omega⟩
    rw [kp_,eQ_ b new l k (by omega),List.flatMap_cons,if_pos rfl]
  · rw [List.count_cons_of_ne e] at h
    rw [ko_ (fun h=>e h.symm),eQ_ a new l k h,List.flatMap_cons,if_neg e];rfl
theorem en_ (a:UInt8):∀ (s:Bs) (f:Nat),s.length<f→Lib.countFrom [a] f s=s.count a
 |[],f+1,_=>by
  rw [Lib.countFrom]
  have:Lib.index [] [a] = -1:=rfl
  rw [this,if_pos (by decide)];rfl
 |b::l,f+1,h=>by
  have hl:l.length<f:=by simpa using h
  by_cases e:a=b
  · subst e
    rw [List.count_cons_self,Lib.countFrom,e9_,if_pos rfl,if_neg (by decide)]
    show 1+Lib.countFrom [a] f l=_
    rw [en_ a l f hl];omega
  · rw [List.count_cons_of_ne (fun h=>e h.symm),←en_ a l (f+1) (by omega),Lib.countFrom,Lib.countFrom,e9_,if_neg e]
    by_cases h2:Lib.index l [a] = -1
    · rw [if_pos h2,if_pos (by decide),h2,if_pos (by decide)]
    · have:=Lib.index_ge l [a]
      obtain ⟨i,hi⟩:∃ i:Nat,Lib.index l [a]=i:=⟨(Lib.index l [a]).toNat,by omega⟩
      rw [if_neg h2,if_neg (by rw [hi];simp<;>omega),if_neg (by rw [hi];simp<;>omega),hi,show ((i:Int)+1).toNat=i+1 by omega,show ((i:Int)).toNat=i by omega]
      rfl
theorem j1_ (a:UInt8) (s:Bs):Lib.count s [a]=s.count a:=en_ a s _ (Nat.lt_succ_self _)
theorem hV_ (a:UInt8) (new s:Bs) (hne:([a] == new)=false):Lib.replaceAll s [a] new=s.flatMap fun c=>if c=a then new else [c]:=by
 unfold Lib.replaceAll Lib.replace Lib.replaceNum
 rw [hne,if_neg (by simp),if_pos (.inl (by decide)),j1_]
 exact eQ_ a new s _ (Nat.le_refl _)
theorem f8_ {a b c:UInt8} {s:Bs} (hs:s.length≤1000000) (hne:([a] == [b,c])=false):Ev (fun n _=>strings_ReplaceAll n s [a] [b,c]) (s.flatMap fun x=>if x=a then [b,c] else [x]):=by
 refine aS_ ?_
 have:=List.count_le_length (a:=a) (l:=s)
 simp only [strings_ReplaceAll,ej_,j1_,hV_ a [b,c] s hne,ay_,as_,cx_]
 refine ⟨fun _=>trivial,fun h => ?_⟩
 have e1:decide (s.length<4294967281)=true:=decide_eq_true (by omega)
 have e2:decide (1≤[a].length)=true:=rfl
 have e3:decide (s.length+List.count a s*[b,c].length≤140737488355328)=true:=decide_eq_true (by simp only [List.length_cons,List.length_nil];omega)
 rw [e1,e2,e3] at h;cases h
def kX_ (c:UInt8):Bs:=if c=126 then [126,48] else if c=47 then [126,49] else [c]
theorem kW_ (c:UInt8):(kX_ c).length≤2:=by
 unfold kX_
 split
 · simp
 · split<;>simp
theorem wesc_two (s:Bs):((s.flatMap fun x=>if x=126 then [126,48] else [x]).flatMap fun x=>if x=47 then [126,49] else [x])=s.flatMap kX_:=by
 induction s with
 |nil=>rfl
 |cons c s ih=>
  rw [List.flatMap_cons,List.flatMap_append,ih,List.flatMap_cons]
  congr 1
  unfold kX_
  by_cases h1:c=126
  · subst h1;rfl
  · by_cases h2:c=47
    · subst h2;rfl
    · rw [if_neg h1,if_neg h1,if_neg h2];simp [h2]
def FWay (w:List Bs):Bs:=w.flatMap fun s=>47::s.flatMap kX_
theorem kY_ {w:List Bs} {i:Nat} (h:i<w.length):FWay (w.take (i+1))=FWay (w.take i)++(47::(w.getD i []).flatMap kX_):=by
 unfold FWay
 rw [c5_ [] h,List.flatMap_append];simp
theorem jc_ {w:List Bs} {c:Nat} (h:∀ s ∈ w,s.length≤c):(FWay w).length≤w.length*(2*c+1):=by
 induction w with
 |nil=>exact Nat.zero_le _
 |cons s w ih=>
  have h1:=dI_ kX_ kW_ s
  have h2:=h s (List.mem_cons_self ..)
  have h3:=ih fun x hx=>h x (List.mem_cons_of_mem _ hx)
  have e:FWay (s::w)=(47::s.flatMap kX_)++FWay w:=rfl
  rw [e,List.length_append,List.length_cons,List.length_cons,Nat.add_mul];omega
theorem k2_ {w:List Bs} {c:Nat} (h:∀ s ∈ w,s.length≤c) (i:Nat):∀ s ∈ w.take i,s.length≤c:=fun s hs=>h s (List.mem_of_mem_take hs)
theorem hw_ {w:List Bs} (hw:w.length≤6) (hs:∀ s ∈ w,s.length≤60):Ev (fun n _=>aR_ n w) (FWay w):=by
 refine aS_ ?_
 have ht:w.length≤co_:=by simp only [co_];omega
 simp only [aR_]
 have:=ea_ (fun i=>FWay (w.take i)) w.length (fun n N i (o:Bs)=>aR_.loop4 n (fun xy3=>(some xy3)) N o w (w.length:Int) (i:Int)) (FWay w) (fun i hi F hF => ?_) ?_
 · exact this
 · have h1:=hs _ (ce_ [] hi)
   have h2:=dI_ kX_ kW_ (w.getD i [])
   have h3:=jc_ (k2_ hs i)
   rw [List.length_take] at h3
   rw [kY_ hi] at hF
   have r1:=f8_ (a:=126) (b:=126) (c:=48) (s:=w.getD i []) (by omega) (by decide)
   have h4:=dI_ (fun x=>if x=126 then [126,48] else [x]) (fun c=>by split<;>simp) (w.getD i [])
   have r2:=f8_ (a:=47) (b:=126) (c:=49) (s:=(w.getD i []).flatMap fun x=>if x=126 then [126,48] else [x]) (by omega) (by decide)
   rw [wesc_two] at r2
   generalize FWay (w.take i)=o at hF h3 ⊢
   simp only [aR_.turn4,aR_.step4,Int.toNat_natCast,W_up hi ht,ay_,cf_,cx_,cW_ hi,cJ_ hi,ar_ r1,ar_ r2]
   generalize (w.getD i []).flatMap kX_=e at hF h2 ⊢
   have e2:([47]:Bs)++e=47::e:=rfl
   rw [e2]
   refine ⟨fun _=>⟨trivial,fun _=>⟨fun _=>hF,fun h => ?_⟩,fun h => ?_⟩,fun h=>(by cases h)⟩
   · have h:=of_decide_eq_false h
     simp only [List.length_cons] at h;omega
   · have h:=of_decide_eq_false h
     simp only [List.length_cons,List.length_nil] at h;omega
 · simp only [aR_.turn4,aR_.step4,cH_,cond_false,List.take_length,as_]
theorem ij_ {α:Type} {i len:Nat} {x:Option α} (h:i<len):inB (i:Int) len x=x:=by
 unfold inB
 rw [decide_eq_true (by omega),decide_eq_true (by omega)];rfl
theorem iI_ {α:Type} {n b:Nat} {x:Option α} (h:n*b≤140737488355328):cv_ n b x=x:=by
 unfold cv_
 rw [decide_eq_true h];rfl
theorem ev_of_ge {α:Type} {f g:Nat→Nat→Option α} {v:α} (M:Nat) (h:∀ n N,M≤n→f n N=g n N) (hg:Ev g v):Ev f v:=by
 obtain ⟨M',hM⟩:=hg
 exact ⟨max M M',fun n N h1 h2=>by rw [h n N (by omega)];exact hM n N (by omega) (by omega)⟩
theorem jh_ (n:Nat) (k2:List Bs→Int→List Int→Option Bs) {w:List Bs} {i:Nat} (hi:i<w.length) (hl:(w.getD i []).length≤1000000):∀ (d j m:Nat) (o:List Int),j+d=(w.getD i []).length→d<m→o.length+2*d≤100000000 →
  am_.loop10 n k2 m w (i:Int) (j:Int) o=k2 w (i:Int) (o++bi (((w.getD i []).drop j).flatMap kX_))
 |0,j,m+1,o,hj,_,_=>by
  have e:(j:Int)=((w.getD i []).length:Int):=by omega
  have e2:(w.getD i []).drop j=[]:=List.drop_eq_nil_of_le (by omega)
  rw [am_.turn10,am_.step10,Int.toNat_natCast,ij_ hi,e,cH_,e2]
  simp [bi]
 |d+1,j,m+1,o,hj,hm,ho=>by
  have hjl:j<(w.getD i []).length:=by omega
  have ih:=fun o=>jh_ n k2 hi hl d (j+1) m o (by omega) (by omega)
  have e1:(w.getD i []).drop j=(w.getD i []).getD j 0::(w.getD i []).drop (j+1):=e0_ 0 hjl
  rw [am_.turn10,am_.step10,Int.toNat_natCast,Int.toNat_natCast,ij_ hi,ij_ hi,ij_ hi,ij_ hjl,ij_ hjl,cW_ hjl,W_up hjl (show (w.getD i []).length≤co_ by simp only [co_];omega),byte126,byte47,e1,List.flatMap_cons,bi_app,←List.append_assoc]
  generalize (w.getD i []).getD j 0=c
  rw [iI_ (by simp;omega),iI_ (by simp;omega),iI_ (by simp;omega)]
  unfold kX_
  by_cases h1:c=126
  · rw [decide_eq_true h1,if_pos h1]
    exact ih _ (by simp;omega)
  · by_cases h2:c=47
    · rw [decide_eq_false h1,decide_eq_true h2,if_neg h1,if_pos h2]
      exact ih _ (by simp;omega)
    · rw [decide_eq_false h1,decide_eq_false h2,if_neg h1,if_neg h2]
      exact ih _ (by simp;omega)
theorem hb_ {w:List Bs} (hw:w.length≤6) (hs:∀ s ∈ w,s.length≤60):Ev (fun n _=>am_ n w) (FWay w):=by
 refine aS_ ?_
 have ht:w.length≤co_:=by simp only [co_];omega
 simp only [am_]
 have:=ea_ (fun i=>bi (FWay (w.take i))) w.length (fun n N i (o:List Int)=>am_.loop4 n (fun xy4=>(some (je_ xy4))) N w (i:Int) o) (FWay w) (fun i hi F hF => ?_) ?_
 · exact this
 · have h1:=hs _ (ce_ [] hi)
   have h3:=jc_ (k2_ hs i)
   rw [List.length_take] at h3
   rw [kY_ hi] at hF
   generalize FWay (w.take i)=o at hF h3 ⊢
   have hb:=j4_ o
   simp only [am_.turn4,am_.step4,cW_ hi,cond_true,cz_]
   refine ⟨by simp [hb];omega,ev_of_ge 61 (fun n N hn=>jh_ n _ hi (by omega) (w.getD i []).length 0 n _ (by omega) (by omega) (by simp only [hb,List.length_append,List.length_cons,List.length_nil];omega)) ?_⟩
   simp only [W_up hi ht,List.drop_zero]
   have e:bi (o++47::(w.getD i []).flatMap kX_)=bi o++([47]:List Int)++bi ((w.getD i []).flatMap kX_):=by simp [bi]
   rw [e] at hF
   exact hF
 · simp only [am_.turn4,am_.step4,cH_,cond_false,List.take_length,as_,toBs_bi]
end Go.Pi
end
section
namespace Go.Pi
theorem hr_ (k:Int):k=0∨k=1∨k=2∨k=3∨k=4∨k=5∨(k≠0∧k≠1∧k≠2∧k≠3∧k≠4∧k≠5):=by omega
theorem iR_ {α:Type} (l:List α):decide (l.length=0) = !decide ((l.length:Int) > 0):=by
 by_cases hz:l.length=0
 · rw [hz];rfl
 · rw [decide_eq_false hz,decide_eq_true (show (l.length:Int) > 0 by omega)];rfl
def FOwnK (j:aa_):Bool :=
 cond (j.kind == 1) (inn j.n_ 0 1) (cond (j.kind == 2) (inn j.n_ (-1000000000) 1000000000) (cond (j.kind == 3) (ga_ j.s) (cond (j.kind == 5) (((j.names.length:Int) == (j.list.length:Int))&&gb_ j.names) ((j.kind == 0)||(j.kind == 4)))))
def FOwn (j:aa_):Bool :=
 (decide (j.list.length=0)||((j.kind == 4)||(j.kind == 5)))&&((decide (j.names.length=0)||(j.kind == 5))&&(((j.n_ == 0)||((j.kind == 1)||(j.kind == 2)))&&(((j.s == [])||(j.kind == 3))&&FOwnK j)))
def lenJ1 (j:aa_):Prop:=j.s.length≤co_∧l4_ co_ j.names
theorem iY_ {j:aa_} (h:lenJ1 j):Ev (fun n _=>cj_ n j) (FOwn j):=by
 refine aS_ ?_
 simp only [cj_,ay_,e6_,isNum_b,ar_ (d1_ h.1),ar_ (hv_ h.2),as_]
 unfold FOwn FOwnK
 have e1:=iR_ j.list
 have e2:=iR_ j.names
 rw [e1,e2]
 generalize decide ((j.list.length:Int) > 0)=a
 generalize decide ((j.names.length:Int) > 0)=b
 generalize (j.s == [])=c
 have e3:(j.n_ != 0) = !(j.n_ == 0):=rfl
 rw [e3]
 generalize hd:(j.n_ == 0)=d
 generalize ga_ j.s=ft
 generalize gb_ j.names=fn
 generalize ((j.names.length:Int) == (j.list.length:Int))=eq
 rcases hr_ j.kind with hk|hk|hk|hk|hk|hk|⟨k0,k1,k2,k3,k4,k5⟩
 all_goals (first|simp only [hk]|simp only [beq_eq_false_iff_ne.2 k0,beq_eq_false_iff_ne.2 k1,beq_eq_false_iff_ne.2 k2,beq_eq_false_iff_ne.2 k3,beq_eq_false_iff_ne.2 k4,beq_eq_false_iff_ne.2 k5,bne])
 all_goals (cases a<;>cases b<;>cases c<;>cases d<;>simp)
 all_goals (cases eq<;>simp)
def b8_:Nat→aa_→Nat
 |0,_=>401
 |d+1,j=>cond (FOwn j) (min 401 (1+dK_ (b8_ d) j.list)) 401
theorem FSize_le:∀ (d:Nat) (j:aa_),b8_ d j≤401
 |0,_=>Nat.le_refl _
 |d+1,j=>by
  simp only [b8_]
  cases FOwn j<;>simp only [cond_true,cond_false]<;>omega
def fo_:Nat→aa_→Prop
 |0,_=>True
 |d+1,j=>lenJ1 j∧j.list.length≤co_∧∀ x ∈ j.list,fo_ d x
theorem getD_json {d:Nat} {l:List aa_} (h:∀ x ∈ l,fo_ d x) {i:Nat} (hi:i<l.length):fo_ d (l.getD i aa_.dflt):=h _ (ce_ _ hi)
theorem fp_:∀ (d:Nat) (j:aa_),d≤1000→fo_ d j→Ev (fun n _=>aO_ n j (d:Int)) (b8_ d j:Int)
 |0,j,_,_=>by
  refine aS_ ?_
  simp only [aO_,ay_,as_]
  exact ⟨fun _=>rfl,fun h=>by simp at h⟩
 |d+1,j,hd,h=>by
  refine aS_ ?_
  have hW:W (((d+1:Nat):Int) - 1)=(d:Int):=by rw [W_id (by omega) (by omega)];omega
  simp only [aO_,bA_,ay_,ar_ (iY_ h.1),as_,b8_]
  refine ⟨fun hc=>by have:=of_decide_eq_true hc;omega,fun _ => ?_⟩
  cases ho:FOwn j with
  |false=>exact ⟨fun _=>rfl,fun h=>by cases h⟩
  |true=>
   refine ⟨fun h=>(by cases h),fun _ => ?_⟩
   have ht:=h.2.1
   have key:∀ (k i:Nat) (s:Nat),k+i=j.list.length→s≤400→Ev (fun n N=>aO_.loop7 n (aO_ n) (fun xy3=>some xy3) N ((d+1:Nat):Int) (s:Int) j.list (j.list.length:Int) (i:Int)) ((min 401 (s+dK_ (b8_ d) (j.list.drop i)):Nat):Int):=by
    intro k
    induction k with
    |zero=>
     intro i s hi hs
     have:i=j.list.length:=by omega
     subst this
     refine b3_ ?_
     simp only [aO_.turn7,aO_.step7,cH_,cond_false,as_,List.drop_length,dK_]
     omega
    |succ k ih=>
     intro i s hi hs
     have hlt:i<j.list.length:=by omega
     refine b3_ ?_
     have hc:=fp_ d (j.list.getD i aa_.dflt) (by omega) (getD_json h.2.2 hlt)
     have hle:=FSize_le d (j.list.getD i aa_.dflt)
     have hw:W ((s:Int)+(b8_ d (j.list.getD i aa_.dflt):Int))=((s+b8_ d (j.list.getD i aa_.dflt):Nat):Int):=by rw [W_id (by omega) (by omega)];omega
     simp only [aO_.turn7,aO_.step7,bA_,Int.toNat_natCast,hW,W_up hlt ht,ay_,cf_,cW_ hlt,cJ_ hlt,ar_ hc,hw,as_]
     rw [eK_ (b8_ d) aa_.dflt hlt]
     refine ⟨fun _=>⟨trivial,fun hg => ?_,fun hg => ?_⟩,fun h=>(by cases h)⟩
     · have:=of_decide_eq_true hg;omega
     · have:=of_decide_eq_false hg
       rw [show s+(b8_ d (j.list.getD i aa_.dflt)+dK_ (b8_ d) (j.list.drop (i+1)))=(s+b8_ d (j.list.getD i aa_.dflt))+dK_ (b8_ d) (j.list.drop (i+1)) by omega]
       exact ih (i+1) _ (by omega) (by omega)
   have:=key j.list.length 0 1 (by omega) (by omega)
   rw [List.drop_zero] at this
   exact c1_ (f:=fun n N=>aO_.loop7 n (aO_ n) (fun xy3=>some xy3) N ((d+1:Nat):Int) 1 j.list (j.list.length:Int) 0) this
def cp_ (j:aa_):Bool:=decide (b8_ 6 j≤400)
theorem cZ_ {j:aa_} (h:fo_ 6 j):Ev (fun n _=>bE_ n j) (cp_ j):=by
 refine aS_ ?_
 have e:Ev (fun n _=>aO_ n j 6) (b8_ 6 j:Int):=fp_ 6 j (by omega) h
 simp only [bE_,bA_,ar_ e,as_,cp_]
 by_cases hq:b8_ 6 j≤400
 · rw [decide_eq_true hq,decide_eq_true (by omega)]
 · rw [decide_eq_false hq,decide_eq_false (by omega)]
end Go.Pi
end
section
namespace Go.Pi
def Great (d:Nat) (j:aa_):Prop:=∃ v:Nat,v≤401+401*d∧min 401 v=b8_ d j∧Ev (fun n _=>ax_ n j (d:Int)) (v:Int)
theorem ma_ {d:Nat} {l:List aa_} (hd:d≤1000) (ht:l.length≤co_) (ih:∀ x ∈ l,Great d x) (kd nn:Int) (s:Bs) (ns:List Bs) :
  ∃ w:Nat,w≤401+401*(d+1)∧min 401 w=min 401 (1+dK_ (b8_ d) l)∧∀ (K:Nat→ax_.K23_1) (F:Int),Ev (fun n N=>K n 401 (w:Int) kd nn s l ns) F→Ev (fun n _=>ax_.loop23 n (ax_ n) (K n) n ((d+1:Nat):Int) 401 1 0 kd nn s l ns) F:=by
 have hW:W (((d+1:Nat):Int) - 1)=(d:Int):=by rw [W_id (by omega) (by omega)];omega
 have key:∀ (k i:Nat) (m:Nat),k+i=l.length→m≤401+401*(d+1)→∃ w:Nat,w≤401+401*(d+1)∧min 401 w=min 401 (m+dK_ (b8_ d) (l.drop i))∧∀ (K:Nat→ax_.K23_1) (F:Int),Ev (fun n N=>K n 401 (w:Int) kd nn s l ns) F →
   Ev (fun n N=>ax_.loop23 n (ax_ n) (K n) N ((d+1:Nat):Int) 401 (m:Int) (i:Int) kd nn s l ns) F:=by
  intro k
  induction k with
  |zero=>
   intro i m hi hm
   have:i=l.length:=by omega
   subst this
   refine ⟨m,hm,by simp [dK_],fun K F hF=>b3_ ?_⟩
   simp only [ax_.turn23,ax_.step23,cH_,cond_false]
   exact hF
  |succ k ihk=>
   intro i m hi hm
   have hlt:i<l.length:=by omega
   by_cases hg:m≤400
   · obtain ⟨v,hv1,hv2,hv3⟩:=ih _ (ce_ aa_.dflt hlt)
     have hw:W ((m:Int)+(v:Int))=((m+v:Nat):Int):=by rw [W_id (by omega) (by omega)];omega
     obtain ⟨w,a1,a2,a3⟩:=ihk (i+1) (m+v) (by omega) (by omega)
     refine ⟨w,a1,?_,fun K F hF=>b3_ ?_⟩
     · rw [a2,eK_ (b8_ d) aa_.dflt hlt,←hv2];omega
     · simp only [ax_.turn23,ax_.step23,bA_,Int.toNat_natCast,hW,W_up hlt ht,ay_,cf_,cW_ hlt,cJ_ hlt,ar_ hv3,hw]
       exact ⟨fun _=>⟨fun _=>⟨trivial,a3 K F hF⟩,fun h=>by have:=of_decide_eq_false h;omega⟩,fun h=>(by cases h)⟩
   · refine ⟨m,hm,by omega,fun K F hF=>b3_ ?_⟩
     simp only [ax_.turn23,ax_.step23,Int.toNat_natCast,ay_,cW_ hlt]
     exact ⟨fun _=>⟨fun h=>by have:=of_decide_eq_true h;omega,fun _=>hF⟩,fun h=>(by cases h)⟩
 obtain ⟨w,a1,a2,a3⟩:=key l.length 0 1 (by omega) (by omega)
 rw [List.drop_zero] at a2
 exact ⟨w,a1,a2,fun K F hF=>c1_ (f:=fun n N=>ax_.loop23 n (ax_ n) (K n) N ((d+1:Nat):Int) 401 1 0 kd nn s l ns) (a3 K F hF)⟩
theorem cU_ (j:aa_):aa_.mk j.kind j.n_ j.s j.list j.names=j:=by cases j;rfl
theorem eM_:∀ (d:Nat) (j:aa_),d≤1000→fo_ d j→Great d j
 |0,j,_,_=>by
  refine ⟨401,by omega,rfl,aS_ ?_⟩
  simp only [ax_,ay_,as_]
  exact ⟨fun _=>rfl,fun h=>by simp at h⟩
 |d+1,j,hd,h=>by
  obtain ⟨w,w1,w2,w3⟩:=ma_ (d:=d) (l:=j.list) (by omega) h.2.1 (fun x hx=>eM_ d x (by omega) (h.2.2 x hx)) j.kind j.n_ j.s j.names
  have hz:((((d+1:Nat):Int)) == 0)=false:=by simp;omega
  have hN:=ha_ (j:=j) h.1.2
  obtain ⟨v,hv⟩:∃ v:Nat,v=cond (FOwn j) (cond ((j.kind == 4)||(j.kind == 5)) w 1) 401:=⟨_,rfl⟩
  refine ⟨v,?_,?_,aS_ ?_⟩
  · rw [hv];cases FOwn j<;>cases ((j.kind == 4)||(j.kind == 5))<;>simp only [cond_true,cond_false]<;>omega
  · rw [hv]
    simp only [b8_]
    cases ho:FOwn j with
    |false=>rfl
    |true=>
     cases hk:((j.kind == 4)||(j.kind == 5)) with
     |true=>simp only [cond_true];exact w2
     |false=>
      have:j.list=[]:=by
       unfold FOwn at ho
       rw [hk,Bool.or_false] at ho
       simp only [Bool.and_eq_true,decide_eq_true_eq] at ho
       exact List.eq_nil_of_length_eq_zero ho.1
      rw [this];rfl
  · have hT:=dY_ (s:=j.s) h.1.1
    have e1:=iR_ j.list
    have e2:=iR_ j.names
    have e4:((j.names.length:Int) == 0) = !decide ((j.names.length:Int) > 0):=by
     by_cases hz:j.names.length=0
     · rw [hz];rfl
     · rw [beq_eq_false_iff_ne.2 (show (j.names.length:Int)≠0 by omega),decide_eq_true (show (j.names.length:Int) > 0 by omega)];rfl
    subst hv
    unfold FOwn FOwnK
    unfold kV_ at hN
    rw [e1,e2]
    rw [e4] at hN
    simp only [ax_,bA_,hz,cond_false,ay_,l1In_b,ar_ hT,ar_ hN,as_,bne]
    rcases hr_ j.kind with hk|hk|hk|hk|hk|hk|⟨k0,k1,k2,k3,k4,k5⟩
    case inr.inr.inr.inr.inl=>
     have hj:aa_.mk 4 j.n_ j.s j.list j.names=j:=by rw [←hk];exact cU_ j
     rw [hk] at w3
     simp only [hk,Int.reduceBEq,Int.reduceLT,Int.reduceLE,Int.reduceNeg,ge_iff_le,gt_iff_lt,decide_true,decide_false,Bool.not_false,Bool.not_true,Bool.or_true,Bool.true_or,Bool.or_false,Bool.false_or,Bool.and_true,Bool.true_and,Bool.not_not,forall_const,reduceCtorEq,false_implies,true_and,and_true,implies_true,cond_true,cond_false] at hN ⊢
     refine w3 _ _ ?_
     simp only [hj,ay_,ar_ hN,as_,Int.reduceBEq,Int.reduceLT,Int.reduceLE,Int.reduceNeg,ge_iff_le,gt_iff_lt,decide_true,decide_false,Bool.not_false,Bool.not_true,Bool.or_true,Bool.true_or,Bool.or_false,Bool.false_or,Bool.and_true,Bool.true_and,Bool.not_not,forall_const,reduceCtorEq,false_implies,true_and,and_true,implies_true,cond_true,cond_false]
     clear hN w3 hT e1 e2 e4 hj
     generalize decide (0<(j.names.length:Int))=b
     generalize (j.s == [])=c
     generalize hd:(j.n_ == 0)=dd
     cases b<;>cases c<;>cases dd<;>simp
    case inr.inr.inr.inr.inr.inl=>
     have hj:aa_.mk 5 j.n_ j.s j.list j.names=j:=by rw [←hk];exact cU_ j
     rw [hk] at w3
     simp only [hk,Int.reduceBEq,Int.reduceLT,Int.reduceLE,Int.reduceNeg,ge_iff_le,gt_iff_lt,decide_true,decide_false,Bool.not_false,Bool.not_true,Bool.or_true,Bool.true_or,Bool.or_false,Bool.false_or,Bool.and_true,Bool.true_and,Bool.not_not,forall_const,reduceCtorEq,false_implies,true_and,and_true,implies_true,cond_true,cond_false] at hN ⊢
     refine w3 _ _ ?_
     simp only [hj,ay_,ar_ hN,as_,Int.reduceBEq,Int.reduceLT,Int.reduceLE,Int.reduceNeg,ge_iff_le,gt_iff_lt,decide_true,decide_false,Bool.not_false,Bool.not_true,Bool.or_true,Bool.true_or,Bool.or_false,Bool.false_or,Bool.and_true,Bool.true_and,Bool.not_not,forall_const,reduceCtorEq,false_implies,true_and,and_true,implies_true,cond_true,cond_false]
     clear hN w3 hT e1 e2 e4 hj
     generalize gb_ j.names=fn
     generalize ((j.names.length:Int) == (j.list.length:Int))=eq
     generalize (j.s == [])=c
     generalize hd:(j.n_ == 0)=dd
     cases fn<;>cases eq<;>cases c<;>cases dd<;>simp
    case inr.inr.inr.inr.inr.inr=>
     simp only [beq_eq_false_iff_ne.2 k0,beq_eq_false_iff_ne.2 k1,beq_eq_false_iff_ne.2 k2,beq_eq_false_iff_ne.2 k3,beq_eq_false_iff_ne.2 k4,beq_eq_false_iff_ne.2 k5,Int.reduceBEq,Int.reduceLT,Int.reduceLE,Int.reduceNeg,ge_iff_le,gt_iff_lt,decide_true,decide_false,Bool.not_false,Bool.not_true,Bool.or_true,Bool.true_or,Bool.or_false,Bool.false_or,Bool.and_true,Bool.true_and,Bool.not_not,forall_const,reduceCtorEq,false_implies,true_and,and_true,implies_true,cond_true,cond_false,Bool.and_false,Bool.false_and]
     rfl
    all_goals (
     simp only [hk,Int.reduceBEq,Int.reduceLT,Int.reduceLE,Int.reduceNeg,ge_iff_le,gt_iff_lt,decide_true,decide_false,Bool.not_false,Bool.not_true,Bool.or_true,Bool.true_or,Bool.or_false,Bool.false_or,Bool.and_true,Bool.true_and,Bool.not_not,forall_const,reduceCtorEq,false_implies,true_and,and_true,implies_true,cond_true,cond_false]
     clear hN w3 hT e1 e2 e4
     generalize decide (0<(j.names.length:Int))=b
     generalize decide (0<(j.list.length:Int))=a
     generalize (j.s == [])=c
     generalize hd:(j.n_ == 0)=dd
     generalize inn j.n_ 0 1=i1
     generalize inn j.n_ (-1000000000) 1000000000=i2
     generalize ga_ j.s=ft
     cases a<;>cases b<;>cases c<;>cases dd<;>cases i1<;>cases i2<;>cases ft<;>simp)
theorem cY_ {j:aa_} (h:fo_ 6 j):Ev (fun n _=>bD_ n j) (cp_ j):=by
 refine aS_ ?_
 obtain ⟨v,v1,v2,v3⟩:=eM_ 6 j (by omega) h
 have e:Ev (fun n _=>ax_ n j 6) (v:Int):=v3
 simp only [bD_,bA_,ar_ e,as_,cp_]
 by_cases hq:b8_ 6 j≤400
 · rw [decide_eq_true hq,decide_eq_true (by omega)]
 · rw [decide_eq_false hq,decide_eq_false (by omega)]
end Go.Pi
end
section
namespace Go.Pi
def digs (u:Nat):Bs:=if u=0 then [] else Lib.decDigits u
theorem digs_step {u:Nat} (h:u≠0):digs u=digs (u / 10)++[UInt8.ofNat (48+u % 10)]:=by
 unfold digs
 rw [if_neg h,Lib.decDigits]
 by_cases h1:u<10
 · rw [dif_pos h1,if_pos (by omega),Nat.mod_eq_of_lt h1];rfl
 · rw [dif_neg h1,if_neg (by omega)]
theorem lC_ {d:Nat} (h:d<10):je_ ([(IntKind.u8.wrap (W (48+(d:Int))))]:List Int)=[UInt8.ofNat (48+d)]:=by
 have e1:W (48+(d:Int))=((48+d:Nat):Int):=by rw [W_id (by omega) (by omega)];omega
 rw [e1]
 have e2:IntKind.u8.wrap (((48+d:Nat):Int))=((48+d:Nat):Int):=by
  have:d=0∨d=1∨d=2∨d=3∨d=4∨d=5∨d=6∨d=7∨d=8∨d=9:=by omega
  rcases this with rfl|rfl|rfl|rfl|rfl|rfl|rfl|rfl|rfl|rfl<;>rfl
 rw [e2]
 rfl
theorem ey_ {x:Int} (h0 : -9223372036854775808≤x) (h1:x≤9223372036854775807):Ev (fun n _=>aD_ n x) (Lib.itoa x):=by
 refine aS_ ?_
 simp only [aD_,ay_,as_]
 refine ⟨fun h => ?_,fun h => ?_⟩
 · have:x=0:=by simpa using h
   subst this
   unfold Lib.itoa
   rw [if_neg (by decide)]
   show _=Lib.decDigits 0
   rw [Lib.decDigits_one (by decide)];rfl
 have hx0:x≠0:=by simpa using h
 have key:∀ (k:Nat) (y:Int) (out:Bs),y.natAbs<10 ^ k → -9223372036854775808≤y→y≤9223372036854775807→out.length+k≤100 →
   Ev (fun n N=>aD_.loop7 n (fun xy3 xy4=>(cond xy3 (cond (decide ([45].length+xy4.length≤9223372036854775807)) (some (([45]:Bs)++xy4)) none) (some xy4))) N y (decide (x<0)) out) (cond (decide (x<0)) ([45]++(digs y.natAbs++out)) (digs y.natAbs++out)):=by
  intro k
  induction k with
  |zero=>
   intro y out hy _ _ ho
   have:y=0:=by simp at hy;omega
   subst this
   refine b3_ ?_
   simp only [aD_.turn7,aD_.step7,bne_self_eq_false,cond_false,ay_,as_,cx_]
   refine ⟨fun hb=>⟨fun _=>by rw [hb];rfl,fun hc=>by have:=of_decide_eq_false hc;simp at this;omega⟩,fun hb=>by rw [hb];rfl⟩
  |succ k ih=>
   intro y out hy hy0 hy1 ho
   by_cases hz:y=0
   · subst hz
     refine b3_ ?_
     simp only [aD_.turn7,aD_.step7,bne_self_eq_false,cond_false,ay_,as_,cx_]
     refine ⟨fun hb=>⟨fun _=>by rw [hb];rfl,fun hc=>by have:=of_decide_eq_false hc;simp at this;omega⟩,fun hb=>by rw [hb];rfl⟩
   · have hm:(Int.tmod y 10).natAbs=y.natAbs % 10:=by rw [Int.natAbs_tmod];rfl
     have hd:(Int.tdiv y 10).natAbs=y.natAbs / 10:=by rw [Int.natAbs_tdiv];rfl
     have hW:W (Int.tdiv y 10)=Int.tdiv y 10:=W_id (by omega) (by omega)
     have hlt:y.natAbs % 10<10:=Nat.mod_lt _ (by decide)
     have hdl:(Int.tdiv y 10).natAbs<10 ^ k:=by rw [hd];rw [Nat.pow_succ] at hy;omega
     have hrec:=ih (Int.tdiv y 10) ([UInt8.ofNat (48+y.natAbs % 10)]++out) hdl (by omega) (by omega) (by simp;omega)
     have hdig:digs (Int.tdiv y 10).natAbs++([UInt8.ofNat (48+y.natAbs % 10)]++out)=digs y.natAbs++out:=by rw [hd,digs_step (show y.natAbs≠0 by omega),List.append_assoc]
     rw [hdig] at hrec
     have hne:(y != 0)=true:=by simpa using hz
     refine b3_ ?_
     simp only [aD_.turn7,aD_.step7,hne,cond_true,ay_,cx_,hW]
     refine ⟨fun hneg => ?_,fun hneg => ?_⟩
     · have hneg:=of_decide_eq_true hneg
       have e:W (0 - Int.tmod y 10)=((y.natAbs % 10:Nat):Int):=by rw [W_id (by omega) (by omega)];omega
       rw [e,lC_ hlt]
       exact ⟨fun _=>hrec,fun hc=>by have:=of_decide_eq_false hc;simp at this;omega⟩
     · have hneg:=of_decide_eq_false hneg
       have e:Int.tmod y 10=((y.natAbs % 10:Nat):Int):=by omega
       rw [e,lC_ hlt]
       exact ⟨fun _=>hrec,fun hc=>by have:=of_decide_eq_false hc;simp at this;omega⟩
 have hfin:=key 19 x [] (by omega) h0 h1 (by simp)
 have hv:Lib.itoa x=cond (decide (x<0)) ([45]++(digs x.natAbs++[])) (digs x.natAbs++[]):=by
  unfold Lib.itoa digs
  rw [if_neg (show x.natAbs≠0 by omega)]
  by_cases hn:x<0
  · rw [if_pos hn,decide_eq_true hn];simp
  · rw [if_neg hn,decide_eq_false hn,cond_false,List.append_nil,show x.toNat=x.natAbs by omega]
 rw [hv]
 exact c1_ hfin
theorem kS_ {x:Int} (h0 : -9223372036854775808≤x) (h1:x≤9223372036854775807):Ev (fun n _=>strconv_Itoa n x) (Lib.itoa x) :=
 aS_ (by simp only [strconv_Itoa,nItoa,ay_,as_,cx_];exact ⟨fun _=>trivial,fun h=>by simp at h;omega⟩)
end Go.Pi
end
section
namespace Go.Pi
theorem join_snoc (x sep:Bs):∀ l:List Bs,Lib.join (l++[x]) sep=if l=[] then x else Lib.join l sep++sep++x
 |[]=>by rw [if_pos rfl];exact Lib.join_one x sep
 |y::l=>by
  rw [if_neg (by simp),List.cons_append,Lib.join_cons,Lib.join_cons]
  simp [Lib.joinTail]
theorem k4_ {α:Type} (f:α→Nat):∀ a b:List α,dK_ f (a++b)=dK_ f a+dK_ f b
 |[],b=>by simp [dK_]
 |x::a,b=>by simp only [List.cons_append,dK_,k4_ f a b];omega
theorem k3_ {α:Type} (f:α→Nat) (h:∀ x,1≤f x):∀ a:List α,a.length≤dK_ f a
 |[]=>Nat.le_refl _
 |x::a=>by have:=k3_ f h a;have:=h x;simp only [dK_,List.length_cons];omega
theorem FSize_pos:∀ (d:Nat) (j:aa_),1≤b8_ d j
 |0,_=>by simp only [b8_];omega
 |d+1,j=>by
  simp only [b8_]
  cases FOwn j<;>simp only [cond_true,cond_false]<;>omega
theorem f9_ {s:Bs} (h:ga_ s=true):s.length≤60:=by
 unfold ga_ at h
 rw [Bool.and_eq_true] at h
 have:=of_decide_eq_true h.2;omega
theorem fh_ {l:List Bs} (h:gb_ l=true) {i:Nat} (hi:i<l.length):(l.getD i []).length≤60:=by
 have:=g5_.1 h i hi
 rw [Bool.and_eq_true] at this
 exact f9_ this.1
structure Own (j:aa_):Prop where
 kind:j.kind=0∨j.kind=1∨j.kind=2∨j.kind=3∨j.kind=4∨j.kind=5
 list:j.kind≠4→j.kind≠5→j.list=[]
 bool:j.kind=1→0≤j.n_∧j.n_≤1
 num:j.kind=2 → -1000000000≤j.n_∧j.n_≤1000000000
 text:j.kind=3→j.s.length≤60
 obj:j.kind=5→j.names.length=j.list.length∧gb_ j.names=true
theorem FOwn_own {j:aa_} (h:FOwn j=true):Own j:=by
 unfold FOwn FOwnK at h
 simp only [Bool.and_eq_true,Bool.or_eq_true] at h
 obtain ⟨h1,h2,h3,h4,h5⟩:=h
 refine ⟨?_,fun k4 k5 => ?_,fun hk => ?_,fun hk => ?_,fun hk => ?_,fun hk => ?_⟩
 · rcases hr_ j.kind with hk|hk|hk|hk|hk|hk|⟨k0,k1,k2,k3,k4,k5⟩
   · exact .inl hk
   · exact .inr (.inl hk)
   · exact .inr (.inr (.inl hk))
   · exact .inr (.inr (.inr (.inl hk)))
   · exact .inr (.inr (.inr (.inr (.inl hk))))
   · exact .inr (.inr (.inr (.inr (.inr hk))))
   · simp only [beq_eq_false_iff_ne.2 k0,beq_eq_false_iff_ne.2 k1,beq_eq_false_iff_ne.2 k2,beq_eq_false_iff_ne.2 k3,beq_eq_false_iff_ne.2 k4,beq_eq_false_iff_ne.2 k5,cond_false,Bool.or_false] at h5
     cases h5
 · rcases h1 with h1|h1|h1
   · exact List.eq_nil_of_length_eq_zero (of_decide_eq_true h1)
   · exact absurd (by simpa using h1) k4
   · exact absurd (by simpa using h1) k5
 · simp only [hk,Int.reduceBEq,cond_true,cond_false] at h5;exact iW_ h5
 · simp only [hk,Int.reduceBEq,cond_true,cond_false] at h5;exact iW_ h5
 · simp only [hk,Int.reduceBEq,cond_true,cond_false] at h5;exact f9_ h5
 · simp only [hk,Int.reduceBEq,cond_true,cond_false,Bool.and_eq_true] at h5
   exact ⟨by have:=h5.1;simp at this;omega,h5.2⟩
def d5_ (enc:aa_→Bs) (j:aa_) (i:Nat):Bs:=cond (j.kind == 5) (e4_ (j.names.getD i [])++([58]++enc (j.list.getD i aa_.dflt))) (enc (j.list.getD i aa_.dflt))
def et_ (enc:aa_→Bs) (j:aa_) (m:Nat):Bs:=Lib.join ((List.range m).map (d5_ enc j)) [44]
def FEnc:Nat→aa_→Bs
 |0,_=>[]
 |d+1,j=>cond (j.kind == 0) [110,117,108,108] (cond (j.kind == 1) (cond (j.n_ == 1) [116,114,117,101] [102,97,108,115,101]) (cond (j.kind == 2) (Lib.itoa j.n_) (cond (j.kind == 3) (e4_ j.s)
   (cond (j.kind == 5) ([123]++et_ (FEnc d) j j.list.length++[125]) ([91]++et_ (FEnc d) j j.list.length++[93])))))
theorem gc_ (enc:aa_→Bs) (j:aa_):et_ enc j 1=d5_ enc j 0:=Lib.join_one _ _
theorem fi_ (enc:aa_→Bs) (j:aa_) {m:Nat} (h:0<m):et_ enc j (m+1)=et_ enc j m++[44]++d5_ enc j m:=by
 unfold et_
 rw [List.range_succ,List.map_append,List.map_cons,List.map_nil,join_snoc,if_neg]
 intro e
 have:=congrArg List.length e
 simp at this;omega
theorem cS_ {d:Nat} {j:aa_} (h:b8_ (d+1) j≤400):Own j∧b8_ (d+1) j=1+dK_ (b8_ d) j.list:=by
 simp only [b8_] at h ⊢
 cases ho:FOwn j with
 |false=>rw [ho,cond_false] at h;omega
 |true=>
  rw [ho,cond_true] at h
  exact ⟨FOwn_own ho,by rw [cond_true];omega⟩
theorem enc_len:∀ (d:Nat) (j:aa_),b8_ d j≤400→(FEnc d j).length+150≤300*b8_ d j
 |0,j,h=>by simp only [b8_] at h;omega
 |d+1,j,h=>by
  obtain ⟨ho,hs⟩:=cS_ h
  have hJ:∀ m,m≤j.list.length→(et_ (FEnc d) j m).length≤300*dK_ (b8_ d) (j.list.take m):=by
   intro m
   induction m with
   |zero=>intro _;exact Nat.zero_le _
   |succ m ih=>
    intro hm
    have hi:m<j.list.length:=by omega
    have h1:=ih (by omega)
    have h2:=eJ_ (b8_ d) (ce_ aa_.dflt hi)
    have h3:=enc_len d (j.list.getD m aa_.dflt) (by omega)
    have h4:(d5_ (FEnc d) j m).length≤123+(FEnc d (j.list.getD m aa_.dflt)).length:=by
     unfold d5_
     cases hk:(j.kind == 5) with
     |false=>rw [cond_false];omega
     |true=>
      obtain ⟨e1,e2⟩:=ho.obj (by simpa using hk)
      have:=fh_ e2 (i:=m) (by omega)
      have:=ec_ (j.names.getD m [])
      rw [cond_true];simp only [List.length_append,List.length_cons,List.length_nil];omega
    rw [c5_ aa_.dflt hi,k4_]
    simp only [dK_,Nat.mul_add]
    by_cases h0:m=0
    · subst h0;rw [gc_];omega
    · rw [fi_ _ _ (by omega)];simp only [List.length_append,List.length_cons,List.length_nil];omega
  have hL:=hJ j.list.length (Nat.le_refl _)
  rw [List.take_length] at hL
  rw [hs]
  rcases ho.kind with hk|hk|hk|hk|hk|hk
  · simp only [FEnc,hk,Int.reduceBEq,cond_true,cond_false,List.length_cons,List.length_nil];omega
  · simp only [FEnc,hk,Int.reduceBEq,cond_true,cond_false]
    cases (j.n_ == 1)<;>simp only [cond_true,cond_false,List.length_cons,List.length_nil]<;>omega
  · have:=ho.num hk
    have:=Lib.itoa_length_le j.n_ (by omega) (by omega)
    simp only [FEnc,hk,Int.reduceBEq,cond_true,cond_false];omega
  · have:=ho.text hk
    have:=ec_ j.s
    simp only [FEnc,hk,Int.reduceBEq,cond_true,cond_false];omega
  · simp only [FEnc,hk,Int.reduceBEq,cond_true,cond_false,List.length_append,List.length_cons,List.length_nil];omega
  · simp only [FEnc,hk,Int.reduceBEq,cond_true,cond_false,List.length_append,List.length_cons,List.length_nil];omega
structure Part (d:Nat) (j:aa_) (i:Nat):Prop where
 size:b8_ d (j.list.getD i aa_.dflt)≤400
 enc:(FEnc d (j.list.getD i aa_.dflt)).length≤120000
 name:j.kind=5→i<j.names.length∧(j.names.getD i []).length≤60
theorem hk_ {d:Nat} {j:aa_} (h:b8_ (d+1) j≤400) {i:Nat} (hi:i<j.list.length):Part d j i:=by
 obtain ⟨ho,hs⟩:=cS_ h
 have h2:=eJ_ (b8_ d) (ce_ aa_.dflt hi)
 have h3:=enc_len d (j.list.getD i aa_.dflt) (by omega)
 exact ⟨by omega,by omega,fun hk=>⟨by have:=(ho.obj hk).1;omega,fh_ (ho.obj hk).2 (by have:=(ho.obj hk).1;omega)⟩⟩
theorem iV_ {d:Nat} {j:aa_} (h:b8_ (d+1) j≤400):∀ m,m≤j.list.length→(et_ (FEnc d) j m).length≤m*120200:=by
 intro m
 induction m with
 |zero=>intro _;exact Nat.zero_le _
 |succ m ih=>
  intro hm
  have hp:=hk_ h (i:=m) (by omega)
  have h1:=ih (by omega)
  have h4:(d5_ (FEnc d) j m).length≤123+120000:=by
   have:=hp.enc
   unfold d5_
   cases hk:(j.kind == 5) with
   |false=>rw [cond_false];omega
   |true=>
    have:=(hp.name (by simpa using hk)).2
    have:=ec_ (j.names.getD m [])
    rw [cond_true];simp only [List.length_append,List.length_cons,List.length_nil];omega
  by_cases h0:m=0
  · subst h0;rw [gc_];omega
  · rw [fi_ _ _ (by omega)];simp only [List.length_append,List.length_cons,List.length_nil];omega
theorem el_ {d:Nat} {j:aa_} (h:b8_ (d+1) j≤400):j.list.length≤400:=by
 have:=(cS_ h).2
 have:=k3_ (b8_ d) (FSize_pos d) j.list
 omega
end Go.Pi
end
section
namespace Go.Pi
def jJ_ (c:UInt8):Prop:=48≤c.toNat∧c.toNat≤57
theorem f5_ {d:Nat} (h:d<10):(UInt8.ofNat (48+d)).toNat=48+d:=by
 rw [UInt8.toNat_ofNat'];omega
theorem i6_:∀ (u:Nat),∀ c ∈ Lib.decDigits u,jJ_ c:=by
 intro u
 induction u using Nat.strongRecOn with
 |ind u ih=>
  intro c hc
  rw [Lib.decDigits] at hc
  by_cases h:u<10
  · rw [dif_pos h] at hc
    obtain rfl:=List.mem_singleton.1 hc
    unfold jJ_;rw [f5_ h];omega
  · rw [dif_neg h] at hc
    rcases List.mem_append.1 hc with hc|hc
    · exact ih (u / 10) (by omega) c hc
    · obtain rfl:=List.mem_singleton.1 hc
      unfold jJ_;rw [f5_ (by omega)];omega
theorem kF_ (u:Nat):1≤(Lib.decDigits u).length:=by
 rw [Lib.decDigits]
 by_cases h:u<10
 · rw [dif_pos h];simp
 · rw [dif_neg h];simp
theorem dec_len:∀ (k u:Nat),u<10 ^ (k+1)→(Lib.decDigits u).length≤k+1
 |0,u,h=>by rw [Lib.decDigits,dif_pos (by simpa using h)];simp
 |k+1,u,h=>by
  rw [Lib.decDigits]
  by_cases h1:u<10
  · rw [dif_pos h1];simp
  · rw [dif_neg h1,List.length_append]
    have:=dec_len k (u / 10) (by rw [Nat.pow_succ] at h;omega)
    simp;omega
def gM_ (x:Nat) (l:Bs):Nat:=l.foldl (fun x c=>10*x+(c.toNat - 48)) x
theorem val_nil (x:Nat):gM_ x []=x:=rfl
theorem fJ_ (x:Nat) (c:UInt8) (l:Bs):gM_ x (c::l)=gM_ (10*x+(c.toNat - 48)) l:=by unfold gM_;rw [List.foldl_cons]
theorem val_app (x:Nat) (a b:Bs):gM_ x (a++b)=gM_ (gM_ x a) b:=List.foldl_append
theorem ke_:∀ (u:Nat),gM_ 0 (Lib.decDigits u)=u:=by
 intro u
 induction u using Nat.strongRecOn with
 |ind u ih=>
  rw [Lib.decDigits]
  by_cases h:u<10
  · rw [dif_pos h,fJ_,val_nil,f5_ h];omega
  · rw [dif_neg h,val_app,ih (u / 10) (by omega)]
    have e:=f5_ (d:=u % 10) (by omega)
    rw [fJ_,val_nil,e]
    omega
theorem val_le:∀ (x:Nat) (l:Bs),x≤gM_ x l
 |_,[]=>Nat.le_refl _
 |x,c::l=>by rw [fJ_];exact Nat.le_trans (by omega) (val_le _ l)
theorem pu_val:∀ (x:Nat) (l:Bs),(∀ c ∈ l,jJ_ c)→gM_ x l≤1000000000000000000→Lib.parseUint10 x l = .ok (gM_ x l)
 |_,[],_,_=>rfl
 |x,c::l,h,hv=>by
  have hc:=h c (List.mem_cons_self ..)
  have h1:=val_le (10*x+(c.toNat - 48)) l
  rw [fJ_] at hv ⊢
  unfold jJ_ at hc
  rw [Lib.parseUint10,if_pos hc,if_neg (by omega),if_neg (by omega),show x*10+(c.toNat - 48)=10*x+(c.toNat - 48) by omega]
  exact pu_val _ l (fun c hc=>h c (List.mem_cons_of_mem _ hc)) hv
theorem hG_ {n:Int} (h0 : -1000000000≤n) (h1:n≤1000000000):Lib.atoiAll (Lib.itoa n) = .ok n:=by
 unfold Lib.itoa
 have key:∀ u:Nat,u≤1000000000→Lib.parseMag (Lib.decDigits u) = .ok u:=by
  intro u hu
  have:=kF_ u
  unfold Lib.parseMag
  rw [if_neg (fun e=>by rw [e] at this;simp at this),pu_val 0 _ (i6_ u) (by rw [ke_];omega),ke_]
 by_cases hn:n<0
 · rw [if_pos hn,Lib.atoiAll_minus,key n.natAbs (by omega)]
   show (if 9223372036854775808<n.natAbs then Lib.NumEnd.range else .ok (-(n.natAbs:Int)))=_
   rw [if_neg (by omega),show (-(n.natAbs:Int))=n by omega]
 · rw [if_neg hn]
   have e:=key n.toNat (by omega)
   have hp:=kF_ n.toNat
   have hd:=i6_ n.toNat
   generalize Lib.decDigits n.toNat=l at e hp hd ⊢
   cases l with
   |nil=>simp at hp
   |cons c r=>
    have hc:=hd c (List.mem_cons_self ..)
    unfold jJ_ at hc
    rw [Lib.atoiAll_plain c r (by omega) (by omega),e]
    show (if 9223372036854775808≤n.toNat then Lib.NumEnd.range else .ok (n.toNat:Int))=_
    rw [if_neg (by omega),show (n.toNat:Int)=n by omega]
theorem itoa_head (n:Int):∃ c t,Lib.itoa n=c::t∧(c=45∨jJ_ c):=by
 unfold Lib.itoa
 by_cases h:n<0
 · rw [if_pos h];exact ⟨45,_,rfl,.inl rfl⟩
 · rw [if_neg h]
   have hp:=kF_ n.toNat
   have hd:=i6_ n.toNat
   generalize Lib.decDigits n.toNat=l at hp hd ⊢
   cases l with
   |nil=>simp at hp
   |cons c r=>exact ⟨c,r,rfl,.inr (hd c (List.mem_cons_self ..))⟩
structure Own2 (j:aa_):Prop where
 text:j.kind=3→ga_ j.s=true
 n0:j.kind≠1→j.kind≠2→j.n_=0
 s0:j.kind≠3→j.s=[]
 ns0:j.kind≠5→j.names=[]
theorem kc_ {j:aa_} (h:FOwn j=true):Own2 j:=by
 unfold FOwn FOwnK at h
 simp only [Bool.and_eq_true,Bool.or_eq_true] at h
 obtain ⟨h1,h2,h3,h4,h5⟩:=h
 refine ⟨fun hk => ?_,fun k1 k2 => ?_,fun k3 => ?_,fun k5 => ?_⟩
 · simpa only [hk,Int.reduceBEq,cond_true,cond_false] using h5
 · rcases h3 with h|h|h
   · simpa using h
   · exact absurd (by simpa using h) k1
   · exact absurd (by simpa using h) k2
 · rcases h4 with h|h
   · simpa using h
   · exact absurd (by simpa using h) k3
 · rcases h2 with h|h
   · exact List.eq_nil_of_length_eq_zero (of_decide_eq_true h)
   · exact absurd (by simpa using h) k5
theorem jw_ {d:Nat} {j:aa_} (h:b8_ (d+1) j≤400):FOwn j=true:=by
 simp only [b8_] at h
 cases ho:FOwn j with
 |false=>rw [ho,cond_false] at h;omega
 |true=>rfl
end Go.Pi
end
section
namespace Go.Pi
end Go.Pi
end
section
namespace Go.Pi
theorem ex_:∀ (d:Nat) (j:aa_),b8_ d j≤400→Ev (fun n _=>av_ n j) (FEnc d j)
 |0,j,h=>by simp only [b8_] at h;omega
 |d+1,j,h=>by
  have ho:=(cS_ h).1
  have hll:=el_ h
  refine aS_ ?_
  have hloop:(j.kind=4∨j.kind=5)→∀ (K:Nat→Bs→Int→Int→Bs→List aa_→List Bs→Option Bs) (v:Bs),Ev (fun n N=>K n (et_ (FEnc d) j j.list.length) j.kind j.n_ j.s j.list j.names) v→Ev (fun n _=>av_.loop17 n (av_ n) (K n) n [] 0 j.kind j.n_ j.s j.list j.names) v:=by
   intro hk45 K v hK
   refine ea_ (fun i=>et_ (FEnc d) j i) j.list.length (fun n N i (o:Bs)=>av_.loop17 n (av_ n) (K n) N o (i:Int) j.kind j.n_ j.s j.list j.names) v (fun i hi F hF => ?_) ?_
   · have hp:=hk_ h hi
     have hx:=ex_ d (j.list.getD i aa_.dflt) hp.size
     have hjl:=iV_ h i (by omega)
     have he:=hp.enc
     have hW:=W_up hi (show j.list.length≤co_ by simp only [co_];omega)
     rcases hk45 with hk|hk
     · have h5:(j.kind == 5)=false:=by rw [hk];rfl
       by_cases h0:i=0
       · have hg:decide ((i:Int) > 0)=false:=decide_eq_false (by omega)
         have e0:et_ (FEnc d) j i=[]:=by rw [h0];rfl
         have e1:et_ (FEnc d) j (i+1)=d5_ (FEnc d) j i:=by rw [h0];exact gc_ _ _
         rw [e1] at hF
         unfold d5_ at hF
         rw [h5,cond_false] at hF
         simp only [e0,av_.turn17,av_.step17,bA_,Int.toNat_natCast,hW,h5,hg,reduceCtorEq,false_implies,true_implies,true_and,and_true,ay_,cf_,cx_,cW_ hi,cJ_ hi,ar_ hx,List.nil_append]
         generalize FEnc d (j.list.getD i aa_.dflt)=x at hF he ⊢
         repeat' (first|apply And.intro|intro _)
         all_goals (first|contradiction|exact hF|trivial|(rename_i hc;have hc:=of_decide_eq_false hc;simp only [List.length_append,List.length_cons,List.length_nil] at hc;omega))
       · rw [fi_ _ _ (by omega)] at hF
         unfold d5_ at hF
         rw [h5,cond_false] at hF
         have hg:decide ((i:Int) > 0)=true:=decide_eq_true (by omega)
         simp only [av_.turn17,av_.step17,bA_,Int.toNat_natCast,hW,h5,hg,ay_,cf_,cx_,cW_ hi,cJ_ hi,ar_ hx]
         generalize FEnc d (j.list.getD i aa_.dflt)=x at hF he ⊢
         generalize et_ (FEnc d) j i=o at hF hjl ⊢
         repeat' (first|apply And.intro|intro _)
         all_goals (first|contradiction|exact hF|trivial|(rename_i hc;have hc:=of_decide_eq_false hc;simp only [List.length_append,List.length_cons,List.length_nil] at hc;omega))
     · have h5:(j.kind == 5)=true:=by rw [hk];rfl
       have hn:=hp.name hk
       have hq:=eL_ (s:=j.names.getD i []) (by omega)
       have hql:=ec_ (j.names.getD i [])
       by_cases h0:i=0
       · have hg:decide ((i:Int) > 0)=false:=decide_eq_false (by omega)
         have e0:et_ (FEnc d) j i=[]:=by rw [h0];rfl
         have e1:et_ (FEnc d) j (i+1)=d5_ (FEnc d) j i:=by rw [h0];exact gc_ _ _
         rw [e1] at hF
         unfold d5_ at hF
         rw [h5,cond_true] at hF
         simp only [e0,av_.turn17,av_.step17,bA_,Int.toNat_natCast,hW,h5,hg,reduceCtorEq,false_implies,true_implies,true_and,and_true,ay_,cf_,cx_,cW_ hi,cJ_ hi,cJ_ hn.1,ar_ hx,ar_ hq,List.nil_append]
         generalize FEnc d (j.list.getD i aa_.dflt)=x at hF he ⊢
         generalize e4_ (j.names.getD i [])=y at hF hql ⊢
         rw [←List.append_assoc] at hF
         repeat' (first|apply And.intro|intro _)
         all_goals (first|contradiction|exact hF|trivial|(rename_i hc;have hc:=of_decide_eq_false hc;simp only [List.length_append,List.length_cons,List.length_nil] at hc;omega))
       · rw [fi_ _ _ (by omega)] at hF
         unfold d5_ at hF
         rw [h5,cond_true] at hF
         have hg:decide ((i:Int) > 0)=true:=decide_eq_true (by omega)
         simp only [av_.turn17,av_.step17,bA_,Int.toNat_natCast,hW,h5,hg,ay_,cf_,cx_,cW_ hi,cJ_ hi,cJ_ hn.1,ar_ hx,ar_ hq]
         generalize FEnc d (j.list.getD i aa_.dflt)=x at hF he ⊢
         generalize e4_ (j.names.getD i [])=y at hF hql ⊢
         generalize et_ (FEnc d) j i=o at hF hjl ⊢
         rw [←List.append_assoc,←List.append_assoc] at hF
         repeat' (first|apply And.intro|intro _)
         all_goals (first|contradiction|exact hF|trivial|(rename_i hc;have hc:=of_decide_eq_false hc;simp only [List.length_append,List.length_cons,List.length_nil] at hc;omega))
   · simp only [av_.turn17,av_.step17,cH_,cond_false]
     exact hK
  have hjl:=iV_ h j.list.length (Nat.le_refl _)
  simp only [av_,bA_]
  rcases ho.kind with hk|hk|hk|hk|hk|hk
  · simp only [FEnc,hk,Int.reduceBEq,cond_true,as_]
  · simp only [FEnc,hk,Int.reduceBEq,cond_true,cond_false,ay_,as_]
    cases (j.n_ == 1)<;>simp
  · have hn:=ho.num hk
    simp only [FEnc,hk,Int.reduceBEq,cond_true,cond_false,ar_ (ey_ (x:=j.n_) (by omega) (by omega)),as_]
  · have hs:=ho.text hk
    simp only [FEnc,hk,Int.reduceBEq,cond_true,cond_false,ar_ (eL_ (s:=j.s) (by omega)),as_]
  all_goals (
   have e0:(j.kind == 0)=false:=by rw [hk];rfl
   have e1:(j.kind == 1)=false:=by rw [hk];rfl
   have e2:(j.kind == 2)=false:=by rw [hk];rfl
   have e3:(j.kind == 3)=false:=by rw [hk];rfl
   simp only [FEnc,e0,e1,e2,e3,cond_false]
   refine hloop (by omega) _ _ ?_
   generalize et_ (FEnc d) j j.list.length=o at hjl ⊢
   simp only [hk,Int.reduceBEq,cond_true,cond_false,ay_,as_,cx_]
   refine ⟨fun _=>⟨fun _=>trivial,fun hc => ?_⟩,fun hc => ?_⟩
   · have hc:=of_decide_eq_false hc
     simp only [List.length_append,List.length_cons,List.length_nil] at hc;omega
   · have hc:=of_decide_eq_false hc
     simp only [List.length_append,List.length_cons,List.length_nil] at hc;omega)
theorem Join_ev {l:List Bs} {sep:Bs} (hl:l.length≤1000000) (hj:(Lib.join l sep).length≤1000000000):Ev (fun n _=>strings_Join n l sep) (Lib.join l sep):=by
 refine aS_ ?_
 simp only [strings_Join,nJoin,ay_,as_,cx_]
 refine ⟨fun _=>trivial,fun h => ?_⟩
 rw [decide_eq_true (by omega),decide_eq_true (by omega)] at h;cases h
theorem eU_:∀ (d:Nat) (j:aa_),b8_ d j≤400→Ev (fun n _=>aG_ n j) (FEnc d j)
 |0,j,h=>by simp only [b8_] at h;omega
 |d+1,j,h=>by
  have ho:=(cS_ h).1
  have hll:=el_ h
  refine aS_ ?_
  have hloop:∀ (K:Nat→Int→Int→Bs→List aa_→List Bs→List Bs→Option Bs) (v:Bs),Ev (fun n N=>K n j.kind j.n_ j.s j.list j.names ((List.range j.list.length).map (d5_ (FEnc d) j))) v→Ev (fun n _=>aG_.loop4 n (aG_ n) (K n) n j.list (j.list.length:Int) 0 j.kind j.n_ j.s j.list j.names []) v:=by
   intro K v hK
   refine ea_ (fun i=>(List.range i).map (d5_ (FEnc d) j)) j.list.length (fun n N i (o:List Bs)=>aG_.loop4 n (aG_ n) (K n) N j.list (j.list.length:Int) (i:Int) j.kind j.n_ j.s j.list j.names o) v (fun i hi F hF => ?_) ?_
   · have hp:=hk_ h hi
     have hx:=eU_ d (j.list.getD i aa_.dflt) hp.size
     have he:=hp.enc
     have hW:=W_up hi (show j.list.length≤co_ by simp only [co_];omega)
     have hol:((List.range i).map (d5_ (FEnc d) j)).length=i:=by simp
     rw [List.range_succ,List.map_append,List.map_cons,List.map_nil] at hF
     unfold d5_ at hF
     cases h5:(j.kind == 5) with
     |false=>
      simp only [h5,cond_false] at hF
      unfold d5_ at hol ⊢
      simp only [h5,cond_false] at hol ⊢
      simp only [aG_.turn4,aG_.step4,bA_,Int.toNat_natCast,hW,h5,cond_false,ay_,cf_,cx_,cz_,cW_ hi,cJ_ hi,ar_ hx]
      generalize FEnc d (j.list.getD i aa_.dflt)=x at hF he ⊢
      generalize (List.range i).map _=o at hF hol ⊢
      exact ⟨fun _=>⟨trivial,by simp;omega,hF⟩,fun h=>(by cases h)⟩
     |true=>
      have hn:=hp.name (by simpa using h5)
      have hq:=fq_ (s:=j.names.getD i []) (by omega)
      have hql:=ec_ (j.names.getD i [])
      simp only [h5,cond_true] at hF
      unfold d5_ at hol ⊢
      simp only [h5,cond_true] at hol ⊢
      simp only [aG_.turn4,aG_.step4,bA_,Int.toNat_natCast,hW,h5,cond_true,ay_,cf_,cx_,cz_,cW_ hi,cJ_ hi,cJ_ hn.1,ar_ hx,ar_ hq]
      generalize FEnc d (j.list.getD i aa_.dflt)=x at hF he ⊢
      generalize e4_ (j.names.getD i [])=y at hF hql ⊢
      generalize (List.range i).map _=o at hF hol ⊢
      rw [←List.append_assoc] at hF
      repeat' (first|apply And.intro|intro _)
      all_goals (first|contradiction|exact hF|trivial|(rename_i hc;have hc:=of_decide_eq_false hc;simp only [List.length_append,List.length_cons,List.length_nil] at hc;omega)|(simp;omega))
   · simp only [aG_.turn4,aG_.step4,cH_,cond_false]
     exact hK
  have hjl:=iV_ h j.list.length (Nat.le_refl _)
  have hJ:=Join_ev (l:=(List.range j.list.length).map (d5_ (FEnc d) j)) (sep:=[44]) (by simp;omega) (by unfold et_ at hjl;omega)
  simp only [aG_,bA_]
  refine hloop _ _ ?_
  rcases ho.kind with hk|hk|hk|hk|hk|hk
  · simp only [FEnc,hk,Int.reduceBEq,cond_true,as_]
  · have hb:=ho.bool hk
    simp only [FEnc,hk,Int.reduceBEq,cond_true,cond_false,cf_,as_]
    have:j.n_=0∨j.n_=1:=by omega
    rcases this with e|e<;>rw [e]<;>exact ⟨⟨by decide,by decide⟩,rfl⟩
  · have hn:=ho.num hk
    simp only [FEnc,hk,Int.reduceBEq,cond_true,cond_false,ar_ (kS_ (x:=j.n_) (by omega) (by omega)),as_]
  · have hs:=ho.text hk
    simp only [FEnc,hk,Int.reduceBEq,cond_true,cond_false,ar_ (fq_ (s:=j.s) (by omega)),as_]
  all_goals (
   simp only [FEnc,hk,Int.reduceBEq,cond_true,cond_false,ar_ hJ]
   unfold et_ at hjl ⊢
   generalize Lib.join ((List.range j.list.length).map (d5_ (FEnc d) j)) [44]=o at hjl ⊢
   simp only [ay_,as_,cx_]
   refine ⟨fun _=>⟨fun _=>trivial,fun hc => ?_⟩,fun hc => ?_⟩
   · have hc:=of_decide_eq_false hc
     simp only [List.length_append,List.length_cons,List.length_nil] at hc;omega
   · have hc:=of_decide_eq_false hc
     simp only [List.length_append,List.length_cons,List.length_nil] at hc;omega)
def c7_ (j:aa_):Bs:=cond (cp_ j) (cond (decide (((FEnc 6 j).length:Int) > 6000)) [] (FEnc 6 j)) []
theorem fn_ {j:aa_} (h:fo_ 6 j):Ev (fun n _=>bW_ n j) (c7_ j):=by
 refine aS_ ?_
 simp only [bW_,bA_,ar_ (cY_ h),ay_,as_,c7_]
 cases hj:cp_ j with
 |false=>simp
 |true=>
  simp only [ar_ (ex_ 6 j (of_decide_eq_true hj)),ay_,as_]
  cases decide (((FEnc 6 j).length:Int) > 6000)<;>simp
theorem d2_ {j:aa_} (h:fo_ 6 j):Ev (fun n _=>b2_ n j) (c7_ j):=by
 refine aS_ ?_
 simp only [b2_,bA_,ar_ (cZ_ h),ay_,as_,c7_]
 cases hj:cp_ j with
 |false=>simp
 |true=>
  simp only [ar_ (eU_ 6 j (of_decide_eq_true hj)),ay_,as_]
  cases decide (((FEnc 6 j).length:Int) > 6000)<;>simp
end Go.Pi
end
section
namespace Go.Pi
def deepJ:Nat→aa_→Prop
 |0,_=>False
 |d+1,j=>∀ x ∈ j.list,deepJ d x
theorem eb_:∀ (d:Nat) (j:aa_),b8_ d j≤400→deepJ d j
 |0,j,h=>by simp only [b8_] at h;omega
 |d+1,j,h=>fun x hx=>by
  refine eb_ d x ?_
  simp only [b8_] at h
  have:=eJ_ (b8_ d) hx
  cases ho:FOwn j with
  |false=>rw [ho] at h;simp only [cond_false] at h;omega
  |true=>rw [ho] at h;simp only [cond_true] at h;omega
def gv_ (a b:List Bs):Bool:=decide (a.length=b.length)&&kO_ (fun i=>a.getD i [] == b.getD i []) a.length
def dj_:Nat→aa_→aa_→Bool
 |0,_,_=>true
 |d+1,a,b=>(a.kind == b.kind)&&((a.n_ == b.n_)&&((a.s == b.s)&&(gv_ a.names b.names&&(decide (a.list.length=b.list.length)&&kO_ (fun i=>dj_ d (a.list.getD i aa_.dflt) (b.list.getD i aa_.dflt)) a.list.length))))
theorem ne_len {n m:Nat}:((n:Int) != (m:Int)) = !decide (n=m):=by
 by_cases h:n=m
 · rw [h,decide_eq_true rfl];simp
 · rw [decide_eq_false h];simp;omega
theorem dq_:∀ (d:Nat) (a b:aa_),deepJ d a→fo_ d a→Ev (fun n _=>ae_ n a b) (dj_ d a b)
 |0,a,b,h,_=>h.elim
 |d+1,a,b,h,hl=>by
  refine aS_ ?_
  simp only [ae_,ne_len,ay_,as_,dj_,gv_]
  by_cases hq:a.list.length=b.list.length
  · by_cases hq2:a.names.length=b.names.length
    · have hN:Ev (fun n _=>ae_.loop14 n (ae_ n) (some true) n 0 a.kind a.n_ a.s a.list a.names b.kind b.n_ b.s b.list b.names) (kO_ (fun i=>a.names.getD i [] == b.names.getD i []) a.names.length):=by
       refine g0_ (ft_ (fun n N i=>ae_.loop14 n (ae_ n) (some true) N (i:Int) a.kind a.n_ a.s a.list a.names b.kind b.n_ b.s b.list b.names) (fun i=>a.names.getD i [] == b.names.getD i []) (len:=a.names.length) (v:=true) (fun i w hi ih => ?_) ?_) (by rw [Bool.and_true])
       · simp only [ae_.turn14,ae_.step14,Int.toNat_natCast,W_up hi hl.1.2.1,ay_,cf_,as_,dv_ ih,cW_ hi,cJ_ hi,cJ_ (hq2 ▸ hi)]
         cases (a.names.getD i [] == b.names.getD i [])<;>simp
       · simp only [ae_.turn14,ae_.step14,cH_,cond_false,as_]
      have hL:Ev (fun n _=>ae_.loop6 n (ae_ n) (fun xy2 xy3 xy4 xy5 xy6 xy7 xy8 xy9 xy10 xy11=>(ae_.loop14 n (ae_ n) (some true) n 0 xy2 xy3 xy4 xy5 xy6 xy7 xy8 xy9 xy10 xy11)) n 0 a.kind a.n_ a.s a.list a.names b.kind b.n_ b.s b.list b.names) (kO_ (fun i=>dj_ d (a.list.getD i aa_.dflt) (b.list.getD i aa_.dflt)) a.list.length&&kO_ (fun i=>a.names.getD i [] == b.names.getD i []) a.names.length):=by
       refine ft_ (fun n N i=>ae_.loop6 n (ae_ n) (fun xy2 xy3 xy4 xy5 xy6 xy7 xy8 xy9 xy10 xy11=>(ae_.loop14 n (ae_ n) (some true) n 0 xy2 xy3 xy4 xy5 xy6 xy7 xy8 xy9 xy10 xy11)) N (i:Int) a.kind a.n_ a.s a.list a.names b.kind b.n_ b.s b.list b.names) _ (fun i w hi ih => ?_) ?_
       · have hx:=dq_ d (a.list.getD i aa_.dflt) (b.list.getD i aa_.dflt) (h _ (ce_ _ hi)) (hl.2.2 _ (ce_ _ hi))
         simp only [ae_.turn6,ae_.step6,bA_,Int.toNat_natCast,W_up hi hl.2.1,ay_,cf_,ar_ hx,as_,dv_ ih,cW_ hi,cJ_ hi,cJ_ (hq ▸ hi)]
         cases dj_ d (a.list.getD i aa_.dflt) (b.list.getD i aa_.dflt)<;>simp
       · simp only [ae_.turn6,ae_.step6,cH_,cond_false]
         exact hN
      rw [decide_eq_true hq,decide_eq_true hq2]
      simp only [dv_ hL,bne]
      generalize kO_ (fun i=>dj_ d (a.list.getD i aa_.dflt) (b.list.getD i aa_.dflt)) a.list.length=u
      generalize kO_ (fun i=>a.names.getD i [] == b.names.getD i []) a.names.length=w
      cases (a.kind == b.kind)<;>cases (a.n_ == b.n_)<;>cases (a.s == b.s)<;>cases u<;>cases w<;>simp
    · rw [decide_eq_false hq2]
      simp only [bne]
      cases (a.kind == b.kind)<;>cases (a.n_ == b.n_)<;>cases (a.s == b.s)<;>cases decide (a.list.length=b.list.length)<;>simp
  · rw [decide_eq_false hq]
    simp only [bne]
    cases (a.kind == b.kind)<;>cases (a.n_ == b.n_)<;>cases (a.s == b.s)<;>simp
end Go.Pi
end
