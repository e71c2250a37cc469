/- FnPieces: in whatever drawn pieces a line comes, and nothing behind them, the same events are told, and the same waits. No condition. Text 4 of 7. -/
import Derived.Test.YtmgcfhlcdhlafaaGreatDoorPcC
set_option linter.unusedVariables false
set_option maxRecDepth 100000
section
namespace Go.Pi
def gc_:Nat→(List Int)→Option Bool
 |0,_=>none
 |n+1,e4_=>
  (some (decide ((e4_.length:Int) > 1048576)))
abbrev cf_.K4:Type:=(List Int)→Int→Option af_
abbrev cf_.T4:Type:=(List Int)→Int→Int→Option af_
def cf_.step4 (n:Nat) (k0:cf_.K4) (back:cf_.T4):cf_.T4:=fun e4_ h i=>
 (cond (decide (i<(e4_.length:Int))) (cond (decide (i<4000)) (inB i e4_.length (let xv1:Int:=(IntKind.i64.wrap (BitVec.ofInt (IntKind.bits .i64) (W ((W ((W (h*131))+(W ((e4_.getD i.toNat 0)))))+7)) &&& BitVec.ofInt (IntKind.bits .i64) 1073741823).toNat);(back e4_ xv1 (W (i+1))))) (k0 e4_ h)) (k0 e4_ h))
def cf_.loop4 (n:Nat) (k0:cf_.K4) (N:Nat):cf_.T4:=ct_ (fun _ _ _=>none) (cf_.step4 n k0) N
def cf_:Nat→(List Int)→Option af_
 |0,_=>none
 |n+1,e4_=>
  (cf_.loop4 n (fun xy2 xy3=>(some (af_.mk xy2 0 xy3))) n e4_ (W (17333+(e4_.length:Int))) 0)
def do_:Nat→af_→Option (Int × af_)
 |0,_=>none
 |n+1,c=>
  (let xv1:Int:=(Int.fdiv (W ((W (c.h*6364136223846793005))+1442695040888963407)) (2 ^ min (33:Int).toNat (IntKind.bits .i64)));(let xv2:Int:=(Int.fdiv (W ((W (c.h*6364136223846793005))+1442695040888963407)) (2 ^ min (45:Int).toNat (IntKind.bits .i64)));(let xv3:Int:=(IntKind.i64.wrap (BitVec.ofInt (IntKind.bits .i64) xv1 ^^^ BitVec.ofInt (IntKind.bits .i64) xv2).toNat);(let xv4:Int:=(IntKind.i64.wrap (BitVec.ofInt (IntKind.bits .i64) xv3 &&& BitVec.ofInt (IntKind.bits .i64) 255).toNat);(cond (decide (c.i<(c.b.length:Int))) (inB c.i c.b.length (let xv5:Int:=(IntKind.i64.wrap (BitVec.ofInt (IntKind.bits .i64) (W (xv4+(W ((c.b.getD c.i.toNat 0))))) &&& BitVec.ofInt (IntKind.bits .i64) 255).toNat);(some (xv5,(af_.mk c.b (W (c.i+1)) (W ((W (c.h*6364136223846793005))+1442695040888963407))))))) (some (xv4,(af_.mk c.b c.i (W ((W (c.h*6364136223846793005))+1442695040888963407))))))))))
def an_:Nat→af_→Int→Option (Int × af_)
 |0,_,_=>none
 |n+1,c,n1=>
  (cond (decide (n1≤0)) (some (0,c)) (cond (decide (n1≤256)) ((do_ n c).bind fun xr1=>(cond (decide (n1=0)) none (some ((Int.tmod xr1.1 n1),xr1.2)))) ((do_ n c).bind fun xr2=>((do_ n xr2.2).bind fun xr3=>((do_ n xr3.2).bind fun xr4=>((do_ n xr4.2).bind fun xr5=>(let xv6:Int:=(W ((W ((W (xr2.1*16777216))+(W (xr3.1*65536))))+(W (xr4.1*256))));(cond (decide (n1=0)) none (some ((Int.tmod (W (xv6+xr5.1)) n1),xr5.2))))))))))
def cA_:Nat→af_→Int→Option (Bool × af_)
 |0,_,_=>none
 |n+1,c,n1=>
  ((an_ n c n1).bind fun xr1=>(some ((xr1.1 == 0),xr1.2)))
def dF_:Nat→af_→(List Bs)→Option (Bs × af_)
 |0,_,_=>none
 |n+1,c,list=>
  ((an_ n c (list.length:Int)).bind fun xr1=>(inB xr1.1 list.length (some ((list.getD xr1.1.toNat []),xr1.2))))
def bH_:Nat→af_→(List Int)→Option (Int × af_)
 |0,_,_=>none
 |n+1,c,list=>
  ((an_ n c (list.length:Int)).bind fun xr1=>(inB xr1.1 list.length (some ((list.getD xr1.1.toNat 0),xr1.2))))
def dc_:Nat→af_→Option (Bs × af_)
 |0,_=>none
 |n+1,c=>
  ((dF_ n c ([[97],[98],[99],[105,100],[110],[114,111,119,115],[],[97,47,98],[126]]:List Bs)).bind fun xr1=>(some (xr1.1,xr1.2)))
abbrev cF_.T3:Type:=Bs→Int→Int→Int→Bs→(List aa_)→(List Bs)→Option Int
def cF_.step3 (n:Nat) (k0:Option Int) (back:cF_.T3):cF_.T3:=fun name i j0 j1 j2 j3 j4=>
 (cond (decide (i<(j4.length:Int))) (inB i j4.length (cond ((j4.getD i.toNat []) == name) (some i) (back name (W (i+1)) j0 j1 j2 j3 j4))) k0)
def cF_.loop3 (n:Nat) (k0:Option Int) (N:Nat):cF_.T3:=ct_ (fun _ _ _ _ _ _ _=>none) (cF_.step3 n k0) N
def cF_:Nat→aa_→Bs→Option Int
 |0,_,_=>none
 |n+1,j,name=>
  (cF_.loop3 n (some (-1)) n name 0 j.kind j.n_ j.s j.list j.names)
abbrev bO_.K5:Type:=Bs→Bool→Int→Int→Bs→(List aa_)→(List Bs)→Int→Int→Bs→Int→Int→Bs→(List aa_)→(List Bs)→Option aa_
abbrev bO_.T5:Type:=Bs→Bool→Int→Int→Int→Bs→(List aa_)→(List Bs)→Int→Int→Bs→(List aa_)→(List Bs)→Int→Int→Bs→Int→Int→Bs→(List aa_)→(List Bs)→Option aa_
def bO_.step5 (n:Nat) (k0:bO_.K5) (back:bO_.T5):bO_.T5:=fun append t8 t9 t30 t31 t32 t33 t34 t50 t51 t52 t53 t54 t60 t61 t62 t70 t71 t72 t73 t74=>
 (cond (decide (t9<(t34.length:Int))) (cond (!t8) (inB t9 t34.length (cond (!Op.bytesLess (t34.getD t9.toNat []) append) (bm_ (t74.length+([append]:List Bs).length) 16 (bm_ (t73.length+([(aa_.mk t50 t51 t52 t53 t54)]:List aa_).length) 80 (inB t9 t34.length (cond (!((t34.getD t9.toNat []) == append)) (inB t9 t34.length (bm_ ((t74++([append]:List Bs)).length+([(t34.getD t9.toNat [])]:List Bs).length) 16 (inB t9 t33.length (bm_ ((t73++([(aa_.mk t50 t51 t52 t53 t54)]:List aa_)).length+([(aa_.re (t33.getD t9.toNat aa_.dflt))]:List aa_).length) 80 (back append true (W (t9+1)) t30 t31 t32 t33 t34 t50 t51 t52 t53 t54 t60 t61 t62 t70 t71 t72 ((t73++([(aa_.mk t50 t51 t52 t53 t54)]:List aa_))++([(aa_.re (t33.getD t9.toNat aa_.dflt))]:List aa_)) ((t74++([append]:List Bs))++([(t34.getD t9.toNat [])]:List Bs))))))) (back append true (W (t9+1)) t30 t31 t32 t33 t34 t50 t51 t52 t53 t54 t60 t61 t62 t70 t71 t72 (t73++([(aa_.mk t50 t51 t52 t53 t54)]:List aa_)) (t74++([append]:List Bs))))))) (inB t9 t34.length (cond (!((t34.getD t9.toNat []) == append)) (inB t9 t34.length (bm_ (t74.length+([(t34.getD t9.toNat [])]:List Bs).length) 16 (inB t9 t33.length (bm_ (t73.length+([(aa_.re (t33.getD t9.toNat aa_.dflt))]:List aa_).length) 80 (back append t8 (W (t9+1)) t30 t31 t32 t33 t34 t50 t51 t52 t53 t54 t60 t61 t62 t70 t71 t72 (t73++([(aa_.re (t33.getD t9.toNat aa_.dflt))]:List aa_)) (t74++([(t34.getD t9.toNat [])]:List Bs))))))) (back append t8 (W (t9+1)) t30 t31 t32 t33 t34 t50 t51 t52 t53 t54 t60 t61 t62 t70 t71 t72 t73 t74))))) (inB t9 t34.length (cond (!((t34.getD t9.toNat []) == append)) (inB t9 t34.length (bm_ (t74.length+([(t34.getD t9.toNat [])]:List Bs).length) 16 (inB t9 t33.length (bm_ (t73.length+([(aa_.re (t33.getD t9.toNat aa_.dflt))]:List aa_).length) 80 (back append t8 (W (t9+1)) t30 t31 t32 t33 t34 t50 t51 t52 t53 t54 t60 t61 t62 t70 t71 t72 (t73++([(aa_.re (t33.getD t9.toNat aa_.dflt))]:List aa_)) (t74++([(t34.getD t9.toNat [])]:List Bs))))))) (back append t8 (W (t9+1)) t30 t31 t32 t33 t34 t50 t51 t52 t53 t54 t60 t61 t62 t70 t71 t72 t73 t74)))) (k0 append t8 t50 t51 t52 t53 t54 t60 t61 t62 t70 t71 t72 t73 t74))
def bO_.loop5 (n:Nat) (k0:bO_.K5) (N:Nat):bO_.T5:=ct_ (fun _ _ _ _ _ _ _ _ _ _ _ _ _ _ _ _ _ _ _ _ _=>none) (bO_.step5 n k0) N
def bO_:Nat→aa_→Bs→aa_→Option aa_
 |0,_,_,_=>none
 |n+1,o,append,a2=>
  (bO_.loop5 n (fun xy1 xy2 xy3 xy4 xy5 xy6 xy7 xy8 xy9 xy10 xy11 xy12 xy13 xy14 xy15=>(cond (!xy2) (bm_ (xy15.length+([xy1]:List Bs).length) 16 (bm_ (xy14.length+([(aa_.mk xy3 xy4 xy5 xy6 xy7)]:List aa_).length) 80 (some (aa_.mk xy11 xy12 xy13 (xy14++([(aa_.mk xy3 xy4 xy5 xy6 xy7)]:List aa_)) (xy15++([xy1]:List Bs)))))) (some (aa_.mk xy11 xy12 xy13 xy14 xy15)))) n append false 0 o.kind o.n_ o.s o.list o.names a2.kind a2.n_ a2.s a2.list a2.names 0 0 [] 5 0 [] ([]:List aa_) ([]:List Bs))
abbrev ac_.K20_1:Type:=(List Int)→Int→Int→Int→Int→Bs→Int→Int→Bs→(List aa_)→Option (aa_ × af_)
abbrev ac_.T20:Type:=Int→Int→(List Int)→Int→Int→Int→Int→Bs→Int→Int→Bs→(List aa_)→Option (aa_ × af_)
def ac_.step20 (n:Nat) (spec_l1DrawRight_:af_→Int→Option (aa_ × af_)) (k1:ac_.K20_1) (back:ac_.T20):ac_.T20:=fun append t7 o0 o1 o2 t40 t41 t42 t60 t61 t62 t63=>
 ((an_ n (af_.mk o0 o1 o2) 5).bind fun xr6=>(cond (decide (t7<xr6.1)) ((spec_l1DrawRight_ xr6.2 (W (append - 1))).bind fun xr7=>(bm_ (t63.length+([(aa_.re xr7.1)]:List aa_).length) 80 (back append (W (t7+1)) xr7.2.b xr7.2.i xr7.2.h t40 t41 t42 t60 t61 t62 (t63++([(aa_.re xr7.1)]:List aa_))))) (k1 xr6.2.b xr6.2.i xr6.2.h t40 t41 t42 t60 t61 t62 t63)))
def ac_.loop20 (n:Nat) (spec_l1DrawRight_:af_→Int→Option (aa_ × af_)) (k1:ac_.K20_1) (N:Nat):ac_.T20:=ct_ (fun _ _ _ _ _ _ _ _ _ _ _ _=>none) (ac_.step20 n spec_l1DrawRight_ k1) N
abbrev ac_.K28_1:Type:=(List Int)→Int→Int→Int→Int→Bs→Int→Int→Bs→(List aa_)→(List Bs)→Option (aa_ × af_)
abbrev ac_.T28:Type:=Int→Int→(List Int)→Int→Int→Int→Int→Bs→Int→Int→Bs→(List aa_)→(List Bs)→Option (aa_ × af_)
def ac_.step28 (n:Nat) (spec_l1DrawRight_:af_→Int→Option (aa_ × af_)) (k3:ac_.K28_1) (back:ac_.T28):ac_.T28:=fun append t9 o0 o1 o2 t40 t41 t42 t80 t81 t82 t83 t84=>
 ((an_ n (af_.mk o0 o1 o2) 5).bind fun xr18=>(cond (decide (t9<xr18.1)) ((dc_ n xr18.2).bind fun xr19=>((cF_ n (aa_.mk t80 t81 t82 t83 t84) xr19.1).bind fun xr20=>(cond (decide (xr20<0)) ((spec_l1DrawRight_ xr19.2 (W (append - 1))).bind fun xr21=>((bO_ n (aa_.mk t80 t81 t82 t83 t84) xr19.1 (aa_.re xr21.1)).bind fun xr22=>(back append (W (t9+1)) xr21.2.b xr21.2.i xr21.2.h t40 t41 t42 xr22.kind xr22.n_ xr22.s xr22.list xr22.names))) (back append (W (t9+1)) xr19.2.b xr19.2.i xr19.2.h t40 t41 t42 t80 t81 t82 t83 t84)))) (k3 xr18.2.b xr18.2.i xr18.2.h t40 t41 t42 t80 t81 t82 t83 t84)))
def ac_.loop28 (n:Nat) (spec_l1DrawRight_:af_→Int→Option (aa_ × af_)) (k3:ac_.K28_1) (N:Nat):ac_.T28:=ct_ (fun _ _ _ _ _ _ _ _ _ _ _ _ _=>none) (ac_.step28 n spec_l1DrawRight_ k3) N
def ac_:Nat→af_→Int→Option (aa_ × af_)
 |0,_,_=>none
 |n+1,o,append=>
  ((an_ n o 8).bind fun xr1=>(cond (decide (append≤1)) ((an_ n xr1.2 5).bind fun xr2=>(cond (xr2.1 == 0) (some ((aa_.mk 0 0 [] ([]:List aa_) ([]:List Bs)),xr2.2)) (cond (xr2.1 == 1) ((an_ n xr2.2 2).bind fun xr3=>(some ((aa_.mk 1 xr3.1 [] ([]:List aa_) ([]:List Bs)),xr3.2))) (cond (xr2.1 == 2) ((dF_ n xr2.2 ([[],[120],[97,34,98],[97,92,92,98],[104,101,108,108,111,32,116,104,101,114,101],[126,49]]:List Bs)).bind fun xr4=>(some ((aa_.mk 3 0 xr4.1 ([]:List aa_) ([]:List Bs)),xr4.2))) (cond (xr2.1 == 3) (cond (xr2.1 == 3) ((bH_ n xr2.2 ([0,1,(-5),77,1000000000,(-1000000000)]:List Int)).bind fun xr5=>(some ((aa_.mk 2 xr5.1 [] ([]:List aa_) ([]:List Bs)),xr5.2))) (cond (xr2.1 == 5) (cond (xr2.1 == 5) (ac_.loop20 n (ac_ n) (fun xy8 xy9 xy10 xy11 xy12 xy13 xy14 xy15 xy16 xy17=>(some ((aa_.mk xy14 xy15 xy16 xy17 ([]:List Bs)),(af_.mk xy8 xy9 xy10)))) n append 0 xr2.2.b xr2.2.i xr2.2.h 0 0 [] 4 0 [] ([]:List aa_)) (ac_.loop28 n (ac_ n) (fun xy23 xy24 xy25 xy26 xy27 xy28 xy29 xy30 xy31 xy32 xy33=>(some ((aa_.mk xy29 xy30 xy31 xy32 xy33),(af_.mk xy23 xy24 xy25)))) n append 0 xr2.2.b xr2.2.i xr2.2.h 0 0 [] 5 0 [] ([]:List aa_) ([]:List Bs))) (cond (xr2.1 == 6) (ac_.loop20 n (ac_ n) (fun xy34 xy35 xy36 xy37 xy38 xy39 xy40 xy41 xy42 xy43=>(some ((aa_.mk xy40 xy41 xy42 xy43 ([]:List Bs)),(af_.mk xy34 xy35 xy36)))) n append 0 xr2.2.b xr2.2.i xr2.2.h 0 0 [] 4 0 [] ([]:List aa_)) (ac_.loop28 n (ac_ n) (fun xy44 xy45 xy46 xy47 xy48 xy49 xy50 xy51 xy52 xy53 xy54=>(some ((aa_.mk xy50 xy51 xy52 xy53 xy54),(af_.mk xy44 xy45 xy46)))) n append 0 xr2.2.b xr2.2.i xr2.2.h 0 0 [] 5 0 [] ([]:List aa_) ([]:List Bs))))) (cond (xr2.1 == 4) ((bH_ n xr2.2 ([0,1,(-5),77,1000000000,(-1000000000)]:List Int)).bind fun xr55=>(some ((aa_.mk 2 xr55.1 [] ([]:List aa_) ([]:List Bs)),xr55.2))) (cond (xr2.1 == 5) (cond (xr2.1 == 5) (ac_.loop20 n (ac_ n) (fun xy56 xy57 xy58 xy59 xy60 xy61 xy62 xy63 xy64 xy65=>(some ((aa_.mk xy62 xy63 xy64 xy65 ([]:List Bs)),(af_.mk xy56 xy57 xy58)))) n append 0 xr2.2.b xr2.2.i xr2.2.h 0 0 [] 4 0 [] ([]:List aa_)) (ac_.loop28 n (ac_ n) (fun xy66 xy67 xy68 xy69 xy70 xy71 xy72 xy73 xy74 xy75 xy76=>(some ((aa_.mk xy72 xy73 xy74 xy75 xy76),(af_.mk xy66 xy67 xy68)))) n append 0 xr2.2.b xr2.2.i xr2.2.h 0 0 [] 5 0 [] ([]:List aa_) ([]:List Bs))) (cond (xr2.1 == 6) (ac_.loop20 n (ac_ n) (fun xy77 xy78 xy79 xy80 xy81 xy82 xy83 xy84 xy85 xy86=>(some ((aa_.mk xy83 xy84 xy85 xy86 ([]:List Bs)),(af_.mk xy77 xy78 xy79)))) n append 0 xr2.2.b xr2.2.i xr2.2.h 0 0 [] 4 0 [] ([]:List aa_)) (ac_.loop28 n (ac_ n) (fun xy87 xy88 xy89 xy90 xy91 xy92 xy93 xy94 xy95 xy96 xy97=>(some ((aa_.mk xy93 xy94 xy95 xy96 xy97),(af_.mk xy87 xy88 xy89)))) n append 0 xr2.2.b xr2.2.i xr2.2.h 0 0 [] 5 0 [] ([]:List aa_) ([]:List Bs)))))))))) (cond (xr1.1 == 0) (some ((aa_.mk 0 0 [] ([]:List aa_) ([]:List Bs)),xr1.2)) (cond (xr1.1 == 1) ((an_ n xr1.2 2).bind fun xr98=>(some ((aa_.mk 1 xr98.1 [] ([]:List aa_) ([]:List Bs)),xr98.2))) (cond (xr1.1 == 2) ((dF_ n xr1.2 ([[],[120],[97,34,98],[97,92,92,98],[104,101,108,108,111,32,116,104,101,114,101],[126,49]]:List Bs)).bind fun xr99=>(some ((aa_.mk 3 0 xr99.1 ([]:List aa_) ([]:List Bs)),xr99.2))) (cond (xr1.1 == 3) (cond (xr1.1 == 3) ((bH_ n xr1.2 ([0,1,(-5),77,1000000000,(-1000000000)]:List Int)).bind fun xr100=>(some ((aa_.mk 2 xr100.1 [] ([]:List aa_) ([]:List Bs)),xr100.2))) (cond (xr1.1 == 5) (cond (xr1.1 == 5) (ac_.loop20 n (ac_ n) (fun xy101 xy102 xy103 xy104 xy105 xy106 xy107 xy108 xy109 xy110=>(some ((aa_.mk xy107 xy108 xy109 xy110 ([]:List Bs)),(af_.mk xy101 xy102 xy103)))) n append 0 xr1.2.b xr1.2.i xr1.2.h 0 0 [] 4 0 [] ([]:List aa_)) (ac_.loop28 n (ac_ n) (fun xy111 xy112 xy113 xy114 xy115 xy116 xy117 xy118 xy119 xy120 xy121=>(some ((aa_.mk xy117 xy118 xy119 xy120 xy121),(af_.mk xy111 xy112 xy113)))) n append 0 xr1.2.b xr1.2.i xr1.2.h 0 0 [] 5 0 [] ([]:List aa_) ([]:List Bs))) (cond (xr1.1 == 6) (ac_.loop20 n (ac_ n) (fun xy122 xy123 xy124 xy125 xy126 xy127 xy128 xy129 xy130 xy131=>(some ((aa_.mk xy128 xy129 xy130 xy131 ([]:List Bs)),(af_.mk xy122 xy123 xy124)))) n append 0 xr1.2.b xr1.2.i xr1.2.h 0 0 [] 4 0 [] ([]:List aa_)) (ac_.loop28 n (ac_ n) (fun xy132 xy133 xy134 xy135 xy136 xy137 xy138 xy139 xy140 xy141 xy142=>(some ((aa_.mk xy138 xy139 xy140 xy141 xy142),(af_.mk xy132 xy133 xy134)))) n append 0 xr1.2.b xr1.2.i xr1.2.h 0 0 [] 5 0 [] ([]:List aa_) ([]:List Bs))))) (cond (xr1.1 == 4) ((bH_ n xr1.2 ([0,1,(-5),77,1000000000,(-1000000000)]:List Int)).bind fun xr143=>(some ((aa_.mk 2 xr143.1 [] ([]:List aa_) ([]:List Bs)),xr143.2))) (cond (xr1.1 == 5) (cond (xr1.1 == 5) (ac_.loop20 n (ac_ n) (fun xy144 xy145 xy146 xy147 xy148 xy149 xy150 xy151 xy152 xy153=>(some ((aa_.mk xy150 xy151 xy152 xy153 ([]:List Bs)),(af_.mk xy144 xy145 xy146)))) n append 0 xr1.2.b xr1.2.i xr1.2.h 0 0 [] 4 0 [] ([]:List aa_)) (ac_.loop28 n (ac_ n) (fun xy154 xy155 xy156 xy157 xy158 xy159 xy160 xy161 xy162 xy163 xy164=>(some ((aa_.mk xy160 xy161 xy162 xy163 xy164),(af_.mk xy154 xy155 xy156)))) n append 0 xr1.2.b xr1.2.i xr1.2.h 0 0 [] 5 0 [] ([]:List aa_) ([]:List Bs))) (cond (xr1.1 == 6) (ac_.loop20 n (ac_ n) (fun xy165 xy166 xy167 xy168 xy169 xy170 xy171 xy172 xy173 xy174=>(some ((aa_.mk xy171 xy172 xy173 xy174 ([]:List Bs)),(af_.mk xy165 xy166 xy167)))) n append 0 xr1.2.b xr1.2.i xr1.2.h 0 0 [] 4 0 [] ([]:List aa_)) (ac_.loop28 n (ac_ n) (fun xy175 xy176 xy177 xy178 xy179 xy180 xy181 xy182 xy183 xy184 xy185=>(some ((aa_.mk xy181 xy182 xy183 xy184 xy185),(af_.mk xy175 xy176 xy177)))) n append 0 xr1.2.b xr1.2.i xr1.2.h 0 0 [] 5 0 [] ([]:List aa_) ([]:List Bs)))))))))))
abbrev aL_.K4:Type:=(List Int)→Int→Int→(List Int)→Option (bi_ × af_)
abbrev aL_.T4:Type:=Int→(List Int)→Int→Int→(List Int)→Option (bi_ × af_)
def aL_.step4 (n:Nat) (k0:aL_.K4) (back:aL_.T4):aL_.T4:=fun i c0 c1 c2 s0=>
 ((an_ n (af_.mk c0 c1 c2) 3).bind fun xr1=>(cond (decide (i<(W (1+xr1.1)))) ((an_ n xr1.2 4).bind fun xr2=>(bm_ (s0.length+([(W (1+xr2.1))]:List Int).length) 8 (back (W (i+1)) xr2.2.b xr2.2.i xr2.2.h (s0++([(W (1+xr2.1))]:List Int))))) (k0 xr1.2.b xr1.2.i xr1.2.h s0)))
def aL_.loop4 (n:Nat) (k0:aL_.K4) (N:Nat):aL_.T4:=ct_ (fun _ _ _ _ _=>none) (aL_.step4 n k0) N
def aL_:Nat→af_→Option (bi_ × af_)
 |0,_=>none
 |n+1,c=>
  (aL_.loop4 n (fun xy3 xy4 xy5 xy6=>(some ((bi_.mk xy6),(af_.mk xy3 xy4 xy5)))) n 0 c.b c.i c.h ([]:List Int))
def b8_:Nat→Int→Int→Int→Option Bool
 |0,_,_,_=>none
 |n+1,x,lo,hi=>
  (cond (decide (x≥lo)) (some (decide (x≤hi))) (some false))
abbrev a3_.K3:Type:=(List Int)→Option Bool
abbrev a3_.T3:Type:=Int→(List Int)→Option Bool
def a3_.step3 (n:Nat) (k0:a3_.K3) (back:a3_.T3):a3_.T3:=fun i s0=>
 (cond (decide (i<(s0.length:Int))) (inB i s0.length ((b8_ n (s0.getD i.toNat 0) 1 4).bind fun xr1=>(cond (!xr1) (some false) (back (W (i+1)) s0)))) (k0 s0))
def a3_.loop3 (n:Nat) (k0:a3_.K3) (N:Nat):a3_.T3:=ct_ (fun _ _=>none) (a3_.step3 n k0) N
def a3_:Nat→bi_→Option Bool
 |0,_=>none
 |n+1,s=>
  (a3_.loop3 n (fun xy2=>((b8_ n (xy2.length:Int) 1 3).bind fun xr3=>(some xr3))) n 0 s.cols)
def dt_:Nat→bi_→Option bi_
 |0,_=>none
 |n+1,s=>
  (bm_ (([]:List Int).length+s.cols.length) 8 (some (bi_.mk (([]:List Int)++s.cols))))
def dO_:Nat→bi_→Option (aw_ × Bool)
 |0,_=>none
 |n+1,s=>
  ((a3_ n s).bind fun xr1=>(cond (!xr1) (some ((aw_.mk (bi_.mk ([]:List Int)) 0 ([]:List (List TRow))),false)) ((dt_ n s).bind fun xr2=>(cond (decide ((s.cols.length:Int)=(s.cols.length:Int))) (cond (decide (0≤(s.cols.length:Int))) (cond (decide ((s.cols.length:Int)*24≤140737488355328)) (some ((aw_.mk xr2 0 (List.replicate (s.cols.length:Int).toNat [])),true)) none) none) none))))
abbrev a6_.K4:Type:=(List Int)→Int→Int→Int→Int→(List Int)→Option (TRow × af_)
abbrev a6_.T4:Type:=Int→Int→(List Int)→Int→Int→Int→Int→(List Int)→Option (TRow × af_)
def a6_.step4 (n:Nat) (k0:a6_.K4) (back:a6_.T4):a6_.T4:=fun cols i c0 c1 c2 t40 r0 r1=>
 (cond (decide (i<cols)) ((an_ n (af_.mk c0 c1 c2) 6).bind fun xr2=>(bm_ (r1.length+([xr2.1]:List Int).length) 8 (back cols (W (i+1)) xr2.2.b xr2.2.i xr2.2.h t40 r0 (r1++([xr2.1]:List Int))))) (k0 c0 c1 c2 t40 r0 r1))
def a6_.loop4 (n:Nat) (k0:a6_.K4) (N:Nat):a6_.T4:=ct_ (fun _ _ _ _ _ _ _ _=>none) (a6_.step4 n k0) N
def a6_:Nat→af_→Int→Option (TRow × af_)
 |0,_,_=>none
 |n+1,c,cols=>
  ((an_ n c 12).bind fun xr1=>(a6_.loop4 n (fun xy3 xy4 xy5 xy6 xy7 xy8=>(some ((TRow.mk xy7 xy8),(af_.mk xy3 xy4 xy5)))) n cols 0 xr1.2.b xr1.2.i xr1.2.h 0 (W (1+xr1.1)) ([]:List Int)))
abbrev ck_.T3:Type:=(List TRow)→Int→Int→Option Int
def ck_.step3 (n:Nat) (k0:Option Int) (back:ck_.T3):ck_.T3:=fun rows id_1 i=>
 (cond (decide (i<(rows.length:Int))) (inB i rows.length (cond (((rows.getD i.toNat TRow.dflt).id_) == id_1) (some i) (back rows id_1 (W (i+1))))) k0)
def ck_.loop3 (n:Nat) (k0:Option Int) (N:Nat):ck_.T3:=ct_ (fun _ _ _=>none) (ck_.step3 n k0) N
def ck_:Nat→(List TRow)→Int→Option Int
 |0,_,_=>none
 |n+1,rows,id1=>
  (ck_.loop3 n (some (-1)) n rows id1 0)
def cz_:Nat→TRow→Option TRow
 |0,_=>none
 |n+1,r=>
  (bm_ (([]:List Int).length+r.cells.length) 8 (some (TRow.mk r.id_ (([]:List Int)++r.cells))))
abbrev bl_.K5:Type:=(List TRow)→Option (List TRow)
abbrev bl_.T5:Type:=(List TRow)→Int→Int→(List TRow)→Option (List TRow)
def bl_.step5 (n:Nat) (k0:bl_.K5) (back:bl_.T5):bl_.T5:=fun rows at_1 i out_1=>
 (cond (decide (i<(rows.length:Int))) (cond (i != at_1) (inB i rows.length ((cz_ n (rows.getD i.toNat TRow.dflt)).bind fun xr2=>(bm_ (out_1.length+([xr2]:List TRow).length) 32 (back rows at_1 (W (i+1)) (out_1++([xr2]:List TRow)))))) (back rows at_1 (W (i+1)) out_1)) (k0 out_1))
def bl_.loop5 (n:Nat) (k0:bl_.K5) (N:Nat):bl_.T5:=ct_ (fun _ _ _ _=>none) (bl_.step5 n k0) N
def bl_:Nat→(List TRow)→Int→Option (List TRow)
 |0,_,_=>none
 |n+1,rows,id1=>
  ((ck_ n rows id1).bind fun xr1=>(bl_.loop5 n (fun xy3=>(some xy3)) n rows xr1 0 ([]:List TRow)))
abbrev bI_.K6:Type:=Int→Int→(List Int)→(List TRow)→Option (List TRow)
abbrev bI_.T6:Type:=Int→Int→Int→(List Int)→(List TRow)→Option (List TRow)
def bI_.step6 (n:Nat) (k0:bI_.K6) (back:bI_.T6):bI_.T6:=fun at_1 i r0 r1 out_1=>
 (cond (decide (i≥0)) (inB i out_1.length (cond (decide (((out_1.getD i.toNat TRow.dflt).id_) > r0)) (back i (W (i - 1)) r0 r1 out_1) (back at_1 (W (i - 1)) r0 r1 out_1))) (k0 at_1 r0 r1 out_1))
def bI_.loop6 (n:Nat) (k0:bI_.K6) (N:Nat):bI_.T6:=ct_ (fun _ _ _ _ _=>none) (bI_.step6 n k0) N
def bI_:Nat→(List TRow)→TRow→Option (List TRow)
 |0,_,_=>none
 |n+1,rows,r=>
  ((bl_ n rows r.id_).bind fun xr1=>((ck_ n rows r.id_).bind fun xr2=>(cond (decide (xr2≥0)) ((ck_ n rows r.id_).bind fun xr3=>(gf_ 0 xr3 xr1.length (bm_ (([]:List TRow).length+((xr1.take xr3.toNat).drop 0).length) 32 ((cz_ n r).bind fun xr4=>(bm_ ((([]:List TRow)++((xr1.take xr3.toNat).drop 0)).length+([xr4]:List TRow).length) 32 (gf_ xr3 (xr1.length:Int) xr1.length (bm_ (((([]:List TRow)++((xr1.take xr3.toNat).drop 0))++([xr4]:List TRow)).length+((xr1.take ((xr1.length:Int).toNat)).drop xr3.toNat).length) 32 (some (((([]:List TRow)++((xr1.take xr3.toNat).drop 0))++([xr4]:List TRow))++((xr1.take ((xr1.length:Int).toNat)).drop xr3.toNat)))))))))) (bI_.loop6 n (fun xy5 xy6 xy7 xy8=>(gf_ 0 xy5 xy8.length (bm_ (([]:List TRow).length+((xy8.take xy5.toNat).drop 0).length) 32 ((cz_ n (TRow.mk xy6 xy7)).bind fun xr9=>(bm_ ((([]:List TRow)++((xy8.take xy5.toNat).drop 0)).length+([xr9]:List TRow).length) 32 (gf_ xy5 (xy8.length:Int) xy8.length (bm_ (((([]:List TRow)++((xy8.take xy5.toNat).drop 0))++([xr9]:List TRow)).length+((xy8.take ((xy8.length:Int).toNat)).drop xy5.toNat).length) 32 (some (((([]:List TRow)++((xy8.take xy5.toNat).drop 0))++([xr9]:List TRow))++((xy8.take ((xy8.length:Int).toNat)).drop xy5.toNat)))))))))) n (xr1.length:Int) (W ((xr1.length:Int) - 1)) r.id_ r.cells xr1))))
abbrev a1_.K4:Type:=(List Int)→Int→Int→(List TRow)→Option ((List TRow) × af_)
abbrev a1_.T4:Type:=Int→Int→(List Int)→Int→Int→(List TRow)→Option ((List TRow) × af_)
def a1_.step4 (n:Nat) (k0:a1_.K4) (back:a1_.T4):a1_.T4:=fun cols i c0 c1 c2 out_1=>
 ((an_ n (af_.mk c0 c1 c2) 9).bind fun xr1=>(cond (decide (i<xr1.1)) ((a6_ n xr1.2 cols).bind fun xr2=>((bI_ n out_1 xr2.1).bind fun xr3=>(back cols (W (i+1)) xr2.2.b xr2.2.i xr2.2.h xr3))) (k0 xr1.2.b xr1.2.i xr1.2.h out_1)))
def a1_.loop4 (n:Nat) (k0:a1_.K4) (N:Nat):a1_.T4:=ct_ (fun _ _ _ _ _ _=>none) (a1_.step4 n k0) N
def a1_:Nat→af_→Int→Option ((List TRow) × af_)
 |0,_,_=>none
 |n+1,c,cols=>
  (a1_.loop4 n (fun xy4 xy5 xy6 xy7=>(some (xy7,(af_.mk xy4 xy5 xy6)))) n cols 0 c.b c.i c.h ([]:List TRow))
abbrev aP_.K4:Type:=(List Int)→Int→Int→Int→Int→(List Int)→(List (List TRow))→Option (aw_ × af_)
abbrev aP_.T4:Type:=Int→(List Int)→Int→Int→Int→Int→(List Int)→(List (List TRow))→Option (aw_ × af_)
def aP_.step4 (n:Nat) (k0:aP_.K4) (back:aP_.T4):aP_.T4:=fun t c0 c1 c2 t21 s1 s0 s2=>
 (cond (decide (t<(s2.length:Int))) (inB t s0.length ((a1_ n (af_.mk c0 c1 c2) (s0.getD t.toNat 0)).bind fun xr3=>(inB t s2.length (let xa4:List (List TRow):=s2.set t.toNat xr3.1;(back (W (t+1)) xr3.2.b xr3.2.i xr3.2.h t21 s1 s0 xa4))))) (k0 c0 c1 c2 t21 s1 s0 s2))
def aP_.loop4 (n:Nat) (k0:aP_.K4) (N:Nat):aP_.T4:=ct_ (fun _ _ _ _ _ _ _ _=>none) (aP_.step4 n k0) N
def aP_:Nat→af_→Option (aw_ × af_)
 |0,_=>none
 |n+1,c=>
  ((aL_ n c).bind fun xr1=>((dO_ n xr1.1).bind fun xr2=>(aP_.loop4 n (fun xy5 xy6 xy7 xy8 xy9 xy10 xy11=>((an_ n (af_.mk xy5 xy6 xy7) 5).bind fun xr12=>(some ((aw_.mk (bi_.mk xy10) xr12.1 xy11),xr12.2)))) n 0 xr1.2.b xr1.2.i xr1.2.h 0 xr2.1.version xr2.1.schema.cols xr2.1.tables)))
def cL_:Nat→Int→Int→Option Int
 |0,_,_=>none
 |n+1,a,b=>
  (cond (decide (a > b)) (some a) (some b))
abbrev ai_.K7:Type:=Int→(List Int)→Int→Int→(List Int)→Int→Int→Bool→Int→Bool→Int→Int→Int→Int→Bool→Int→Bool→Int→Int→(List cj_)→Option (ax_ × af_)
abbrev ai_.T7:Type:=Int→Int→(List Int)→Int→Int→(List Int)→Int→Int→Bool→Int→Bool→Int→Int→Int→Int→Bool→Int→Bool→Int→Int→(List cj_)→Option (ax_ × af_)
def ai_.step7 (n:Nat) (k0:ai_.K7) (back:ai_.T7):ai_.T7:=fun t6 t7 o0 o1 o2 t30 t40 t42 t43 t44 t46 t47 t48 t50 t52 t53 t54 t56 t57 t58 t51=>
 ((an_ n (af_.mk o0 o1 o2) 3).bind fun xr4=>(cond (decide (t7<xr4.1)) ((an_ n xr4.2 t6).bind fun xr5=>((an_ n xr5.2 4).bind fun xr6=>((an_ n xr6.2 6).bind fun xr7=>(bm_ (t51.length+([(cj_.mk xr5.1 (W (1+xr6.1)) xr7.1)]:List cj_).length) 24 (back t6 (W (t7+1)) xr7.2.b xr7.2.i xr7.2.h t30 t40 t42 t43 t44 t46 t47 t48 t50 t52 t53 t54 t56 t57 t58 (t51++([(cj_.mk xr5.1 (W (1+xr6.1)) xr7.1)]:List cj_))))))) (k0 t6 xr4.2.b xr4.2.i xr4.2.h t30 t40 t42 t43 t44 t46 t47 t48 t50 t52 t53 t54 t56 t57 t58 t51)))
def ai_.loop7 (n:Nat) (k0:ai_.K7) (N:Nat):ai_.T7:=ct_ (fun _ _ _ _ _ _ _ _ _ _ _ _ _ _ _ _ _ _ _ _ _=>none) (ai_.step7 n k0) N
abbrev ai_.K16:Type:=(List Int)→Int→Int→(List Int)→Int→Int→Bool→Int→Bool→Int→Int→Int→Int→Bool→Int→Bool→Int→Int→(List cj_)→(List Int)→Option (ax_ × af_)
abbrev ai_.T16:Type:=Int→Int→(List Int)→Int→Int→(List Int)→Int→Int→Bool→Int→Bool→Int→Int→Int→Int→Bool→Int→Bool→Int→Int→(List cj_)→(List Int)→Option (ax_ × af_)
def ai_.step16 (n:Nat) (k2:ai_.K16) (back:ai_.T16):ai_.T16:=fun t6 t8 o0 o1 o2 t30 t40 t42 t43 t44 t46 t47 t48 t50 t52 t53 t54 t56 t57 t58 t51 t55=>
 (cond (decide (t8<t6)) ((cA_ n (af_.mk o0 o1 o2) 2).bind fun xr31=>(cond xr31.1 (bm_ (t55.length+([t8]:List Int).length) 8 (back t6 (W (t8+1)) xr31.2.b xr31.2.i xr31.2.h t30 t40 t42 t43 t44 t46 t47 t48 t50 t52 t53 t54 t56 t57 t58 t51 (t55++([t8]:List Int)))) (back t6 (W (t8+1)) xr31.2.b xr31.2.i xr31.2.h t30 t40 t42 t43 t44 t46 t47 t48 t50 t52 t53 t54 t56 t57 t58 t51 t55))) (k2 o0 o1 o2 t30 t40 t42 t43 t44 t46 t47 t48 t50 t52 t53 t54 t56 t57 t58 t51 t55))
def ai_.loop16 (n:Nat) (k2:ai_.K16) (N:Nat):ai_.T16:=ct_ (fun _ _ _ _ _ _ _ _ _ _ _ _ _ _ _ _ _ _ _ _ _ _=>none) (ai_.step16 n k2) N
def ai_:Nat→af_→bi_→Option (ax_ × af_)
 |0,_,_=>none
 |n+1,o,append=>
  ((cL_ n (append.cols.length:Int) 1).bind fun xr1=>((an_ n o xr1).bind fun xr2=>(cond (decide (xr2.1<(append.cols.length:Int))) (inB xr2.1 append.cols.length ((cL_ n (append.cols.getD xr2.1.toNat 0) 1).bind fun xr3=>(ai_.loop7 n (fun xy8 xy9 xy10 xy11 xy12 xy13 xy14 xy15 xy16 xy17 xy18 xy19 xy20 xy21 xy22 xy23 xy24 xy25 xy26 xy27=>((an_ n (af_.mk xy9 xy10 xy11) (W (xy8+1))).bind fun xr28=>(cond (decide (xr28.1 > 0)) ((cA_ n xr28.2 2).bind fun xr29=>((bH_ n xr29.2 ([0,0,1,2,3,5]:List Int)).bind fun xr30=>(ai_.loop16 n (fun xy32 xy33 xy34 xy35 xy36 xy37 xy38 xy39 xy40 xy41 xy42 xy43 xy44 xy45 xy46 xy47 xy48 xy49 xy50 xy51=>((cA_ n (af_.mk xy32 xy33 xy34) 2).bind fun xr52=>(cond xr52.1 ((cL_ n (xy35.length:Int) 1).bind fun xr53=>((an_ n xr52.2 xr53).bind fun xr54=>(cond (decide (xr54.1<(xy35.length:Int))) (inB xr54.1 xy35.length ((cL_ n (xy35.getD xr54.1.toNat 0) 1).bind fun xr55=>((an_ n xr54.2 xr55).bind fun xr56=>(some ((ax_.mk xy43 xy50 xy44 xy45 xy46 xy51 true xr54.1 xr56.1),xr56.2))))) (some ((ax_.mk xy43 xy50 xy44 xy45 xy46 xy51 true xr54.1 xy49),xr54.2))))) (some ((ax_.mk xy43 xy50 xy44 xy45 xy46 xy51 xy47 xy48 xy49),xr52.2))))) n xy8 0 xr30.2.b xr30.2.i xr30.2.h xy12 xy13 xy14 xy15 xy16 xy17 xy18 xy19 xy20 xr28.1 xr29.1 xr30.1 xy24 xy25 xy26 xy27 ([]:List Int)))) ((bH_ n xr28.2 ([0,0,1,2,3,5]:List Int)).bind fun xr57=>(ai_.loop16 n (fun xy58 xy59 xy60 xy61 xy62 xy63 xy64 xy65 xy66 xy67 xy68 xy69 xy70 xy71 xy72 xy73 xy74 xy75 xy76 xy77=>((cA_ n (af_.mk xy58 xy59 xy60) 2).bind fun xr78=>(cond xr78.1 ((cL_ n (xy61.length:Int) 1).bind fun xr79=>((an_ n xr78.2 xr79).bind fun xr80=>(cond (decide (xr80.1<(xy61.length:Int))) (inB xr80.1 xy61.length ((cL_ n (xy61.getD xr80.1.toNat 0) 1).bind fun xr81=>((an_ n xr80.2 xr81).bind fun xr82=>(some ((ax_.mk xy69 xy76 xy70 xy71 xy72 xy77 true xr80.1 xr82.1),xr82.2))))) (some ((ax_.mk xy69 xy76 xy70 xy71 xy72 xy77 true xr80.1 xy75),xr80.2))))) (some ((ax_.mk xy69 xy76 xy70 xy71 xy72 xy77 xy73 xy74 xy75),xr78.2))))) n xy8 0 xr57.2.b xr57.2.i xr57.2.h xy12 xy13 xy14 xy15 xy16 xy17 xy18 xy19 xy20 xr28.1 false xr57.1 xy24 xy25 xy26 xy27 ([]:List Int)))))) n xr3 0 xr2.2.b xr2.2.i xr2.2.h append.cols 0 0 false 0 false 0 0 xr2.1 0 false 0 false 0 0 ([]:List cj_)))) (ai_.loop7 n (fun xy83 xy84 xy85 xy86 xy87 xy88 xy89 xy90 xy91 xy92 xy93 xy94 xy95 xy96 xy97 xy98 xy99 xy100 xy101 xy102=>((an_ n (af_.mk xy84 xy85 xy86) (W (xy83+1))).bind fun xr103=>(cond (decide (xr103.1 > 0)) ((cA_ n xr103.2 2).bind fun xr104=>((bH_ n xr104.2 ([0,0,1,2,3,5]:List Int)).bind fun xr105=>(ai_.loop16 n (fun xy106 xy107 xy108 xy109 xy110 xy111 xy112 xy113 xy114 xy115 xy116 xy117 xy118 xy119 xy120 xy121 xy122 xy123 xy124 xy125=>((cA_ n (af_.mk xy106 xy107 xy108) 2).bind fun xr126=>(cond xr126.1 ((cL_ n (xy109.length:Int) 1).bind fun xr127=>((an_ n xr126.2 xr127).bind fun xr128=>(cond (decide (xr128.1<(xy109.length:Int))) (inB xr128.1 xy109.length ((cL_ n (xy109.getD xr128.1.toNat 0) 1).bind fun xr129=>((an_ n xr128.2 xr129).bind fun xr130=>(some ((ax_.mk xy117 xy124 xy118 xy119 xy120 xy125 true xr128.1 xr130.1),xr130.2))))) (some ((ax_.mk xy117 xy124 xy118 xy119 xy120 xy125 true xr128.1 xy123),xr128.2))))) (some ((ax_.mk xy117 xy124 xy118 xy119 xy120 xy125 xy121 xy122 xy123),xr126.2))))) n xy83 0 xr105.2.b xr105.2.i xr105.2.h xy87 xy88 xy89 xy90 xy91 xy92 xy93 xy94 xy95 xr103.1 xr104.1 xr105.1 xy99 xy100 xy101 xy102 ([]:List Int)))) ((bH_ n xr103.2 ([0,0,1,2,3,5]:List Int)).bind fun xr131=>(ai_.loop16 n (fun xy132 xy133 xy134 xy135 xy136 xy137 xy138 xy139 xy140 xy141 xy142 xy143 xy144 xy145 xy146 xy147 xy148 xy149 xy150 xy151=>((cA_ n (af_.mk xy132 xy133 xy134) 2).bind fun xr152=>(cond xr152.1 ((cL_ n (xy135.length:Int) 1).bind fun xr153=>((an_ n xr152.2 xr153).bind fun xr154=>(cond (decide (xr154.1<(xy135.length:Int))) (inB xr154.1 xy135.length ((cL_ n (xy135.getD xr154.1.toNat 0) 1).bind fun xr155=>((an_ n xr154.2 xr155).bind fun xr156=>(some ((ax_.mk xy143 xy150 xy144 xy145 xy146 xy151 true xr154.1 xr156.1),xr156.2))))) (some ((ax_.mk xy143 xy150 xy144 xy145 xy146 xy151 true xr154.1 xy149),xr154.2))))) (some ((ax_.mk xy143 xy150 xy144 xy145 xy146 xy151 xy147 xy148 xy149),xr152.2))))) n xy83 0 xr131.2.b xr131.2.i xr131.2.h xy87 xy88 xy89 xy90 xy91 xy92 xy93 xy94 xy95 xr103.1 false xr131.1 xy99 xy100 xy101 xy102 ([]:List Int)))))) n 1 0 xr2.2.b xr2.2.i xr2.2.h append.cols 0 0 false 0 false 0 0 xr2.1 0 false 0 false 0 0 ([]:List cj_)))))
abbrev cn_.T6:Type:=Int→Int→(List Int)→Option Bool
def cn_.step6 (n:Nat) (k0:Option Bool) (back:cn_.T6):cn_.T6:=fun i r0 r1=>
 (cond (decide (i<(r1.length:Int))) (inB i r1.length ((b8_ n (r1.getD i.toNat 0) (-1000000000) 1000000000).bind fun xr4=>(cond (!xr4) (some false) (back (W (i+1)) r0 r1)))) k0)
def cn_.loop6 (n:Nat) (k0:Option Bool) (N:Nat):cn_.T6:=ct_ (fun _ _ _=>none) (cn_.step6 n k0) N
def cn_:Nat→bi_→Int→TRow→Option Bool
 |0,_,_,_=>none
 |n+1,s,table,r=>
  ((a3_ n s).bind fun xr1=>(cond (!xr1) (some false) ((b8_ n table 0 (W ((s.cols.length:Int) - 1))).bind fun xr2=>(cond (!xr2) (some false) ((b8_ n r.id_ 1 999).bind fun xr3=>(cond (!xr3) (some false) (inB table s.cols.length (cond ((r.cells.length:Int) != (s.cols.getD table.toNat 0)) (some false) (cn_.loop6 n (some true) n 0 r.id_ r.cells)))))))))
abbrev b5_.K3:Type:=Int→(List TRow)→(List Int)→Option Bool
abbrev b5_.T3:Type:=Int→(List TRow)→Int→(List Int)→Option Bool
def b5_.step3 (n:Nat) (k0:b5_.K3) (back:b5_.T3):b5_.T3:=fun table rows i s0=>
 (cond (decide (i<(rows.length:Int))) (inB i rows.length ((cn_ n (bi_.mk s0) table (rows.getD i.toNat TRow.dflt)).bind fun xr1=>(cond (!xr1) (some false) (cond (decide (i > 0)) (inB (W (i - 1)) rows.length (inB i rows.length (let xv2:Bool:=(decide (((rows.getD (W (i - 1)).toNat TRow.dflt).id_)≥((rows.getD i.toNat TRow.dflt).id_)));(cond xv2 (some false) (back table rows (W (i+1)) s0))))) (back table rows (W (i+1)) s0))))) (k0 table rows s0))
def b5_.loop3 (n:Nat) (k0:b5_.K3) (N:Nat):b5_.T3:=ct_ (fun _ _ _ _=>none) (b5_.step3 n k0) N
def b5_:Nat→bi_→Int→(List TRow)→Option Bool
 |0,_,_,_=>none
 |n+1,s,table,rows=>
  (b5_.loop3 n (fun xy3 xy4 xy5=>((a3_ n (bi_.mk xy5)).bind fun xr6=>(cond xr6 ((b8_ n xy3 0 (W ((xy5.length:Int) - 1))).bind fun xr7=>(cond xr7 (some (decide ((xy4.length:Int)≤24))) (some false))) (some false)))) n table rows 0 s.cols)
abbrev bC_.T6:Type:=Int→(List Int)→Int→(List (List TRow))→Option Bool
def bC_.step6 (n:Nat) (k0:Option Bool) (back:bC_.T6):bC_.T6:=fun t s0 s1 s2=>
 (cond (decide (t<(s2.length:Int))) (inB t s2.length ((b5_ n (bi_.mk s0) t (s2.getD t.toNat [])).bind fun xr3=>(cond (!xr3) (some false) (back (W (t+1)) s0 s1 s2)))) k0)
def bC_.loop6 (n:Nat) (k0:Option Bool) (N:Nat):bC_.T6:=ct_ (fun _ _ _ _=>none) (bC_.step6 n k0) N
def bC_:Nat→aw_→Option Bool
 |0,_=>none
 |n+1,s=>
  ((a3_ n s.schema).bind fun xr1=>(cond (!xr1) (some false) ((b8_ n s.version 0 100000).bind fun xr2=>(cond (!xr2) (some false) (cond ((s.tables.length:Int) != (s.schema.cols.length:Int)) (some false) (bC_.loop6 n (some true) n 0 s.schema.cols s.version s.tables))))))
abbrev aA_.K7:Type:=Int→(List Int)→Int→(List cj_)→Int→Bool→Int→(List Int)→Bool→Int→Int→Option Bool
abbrev aA_.T7:Type:=Int→Int→(List Int)→Int→(List cj_)→Int→Bool→Int→(List Int)→Bool→Int→Int→Option Bool
def aA_.step7 (n:Nat) (k0:aA_.K7) (back:aA_.T7):aA_.T7:=fun t5 t6 t20 t30 t31 t32 t33 t34 t35 t36 t37 t38=>
 (cond (decide (t6<(t31.length:Int))) (inB t6 t31.length ((b8_ n ((t31.getD t6.toNat cj_.dflt).col) 0 (W (t5 - 1))).bind fun xr3=>(cond (!xr3) (some false) ((b8_ n ((t31.getD t6.toNat cj_.dflt).op) 1 4).bind fun xr4=>(cond (!xr4) (some false) ((b8_ n ((t31.getD t6.toNat cj_.dflt).v) (-1000000000) 1000000000).bind fun xr5=>(cond (!xr5) (some false) (back t5 (W (t6+1)) t20 t30 t31 t32 t33 t34 t35 t36 t37 t38)))))))) (k0 t5 t20 t30 t31 t32 t33 t34 t35 t36 t37 t38))
def aA_.loop7 (n:Nat) (k0:aA_.K7) (N:Nat):aA_.T7:=ct_ (fun _ _ _ _ _ _ _ _ _ _ _ _=>none) (aA_.step7 n k0) N
abbrev aA_.K16:Type:=Int→(List Int)→Int→(List cj_)→Int→Bool→Int→(List Int)→Bool→Int→Int→Option Bool
abbrev aA_.T16:Type:=Int→Int→(List Int)→Int→(List cj_)→Int→Bool→Int→(List Int)→Bool→Int→Int→Option Bool
def aA_.step16 (n:Nat) (k2:aA_.K16) (back:aA_.T16):aA_.T16:=fun t5 t8 t20 t30 t31 t32 t33 t34 t35 t36 t37 t38=>
 (cond (decide (t8<(t35.length:Int))) (inB t8 t35.length ((b8_ n (t35.getD t8.toNat 0) 0 (W (t5 - 1))).bind fun xr17=>(cond (!xr17) (some false) (cond (decide (t8 > 0)) (inB (W (t8 - 1)) t35.length (inB t8 t35.length (cond (decide ((t35.getD (W (t8 - 1)).toNat 0)≥(t35.getD t8.toNat 0))) (some false) (back t5 (W (t8+1)) t20 t30 t31 t32 t33 t34 t35 t36 t37 t38)))) (back t5 (W (t8+1)) t20 t30 t31 t32 t33 t34 t35 t36 t37 t38))))) (k2 t5 t20 t30 t31 t32 t33 t34 t35 t36 t37 t38))
def aA_.loop16 (n:Nat) (k2:aA_.K16) (N:Nat):aA_.T16:=ct_ (fun _ _ _ _ _ _ _ _ _ _ _ _=>none) (aA_.step16 n k2) N
def aA_:Nat→bi_→ax_→Option Bool
 |0,_,_=>none
 |n+1,o,append=>
  ((a3_ n o).bind fun xr1=>(cond (!xr1) (some false) ((b8_ n append.table 0 (W ((o.cols.length:Int) - 1))).bind fun xr2=>(cond (!xr2) (some false) (cond (decide ((append.where_.length:Int) > 3)) (some false) (inB append.table o.cols.length (aA_.loop7 n (fun xy6 xy7 xy8 xy9 xy10 xy11 xy12 xy13 xy14 xy15 xy16=>(aA_.loop16 n (fun xy18 xy19 xy20 xy21 xy22 xy23 xy24 xy25 xy26 xy27 xy28=>((b8_ n xy22 0 xy18).bind fun xr29=>(cond (!xr29) (some false) ((b8_ n xy24 0 24).bind fun xr30=>(cond (!xr30) (some false) (cond (xy22 == 0) (cond xy23 (some false) (cond (!xy26) (cond (xy27 == 0) (some (xy28 == 0)) (some false)) ((b8_ n xy27 0 (W ((xy19.length:Int) - 1))).bind fun xr31=>(cond xr31 (inB xy27 xy19.length ((b8_ n xy28 0 (W ((xy19.getD xy27.toNat 0) - 1))).bind fun xr32=>(some xr32))) (some false))))) (cond (!xy26) (cond (xy27 == 0) (some (xy28 == 0)) (some false)) ((b8_ n xy27 0 (W ((xy19.length:Int) - 1))).bind fun xr33=>(cond xr33 (inB xy27 xy19.length ((b8_ n xy28 0 (W ((xy19.getD xy27.toNat 0) - 1))).bind fun xr34=>(some xr34))) (some false)))))))))) n xy6 0 xy7 xy8 xy9 xy10 xy11 xy12 xy13 xy14 xy15 xy16)) n (o.cols.getD append.table.toNat 0) 0 o.cols append.table append.where_ append.order append.down append.first append.show_ append.kids append.kidTable append.kidCol)))))))
def ee_:Nat→ax_→Option ax_
 |0,_=>none
 |n+1,q=>
  (bm_ (([]:List cj_).length+q.where_.length) 24 (bm_ (([]:List Int).length+q.show_.length) 8 (some { q with where_:=(([]:List cj_)++q.where_),show_:=(([]:List Int)++q.show_) })))
def dQ_:Nat→cj_→TRow→Option Bool
 |0,_,_=>none
 |n+1,x,r=>
  ((b8_ n x.col 0 (W ((r.cells.length:Int) - 1))).bind fun xr1=>(cond (!xr1) (some false) (inB x.col r.cells.length (cond (x.op == 1) (some ((r.cells.getD x.col.toNat 0) == x.v)) (cond (x.op == 2) (some (decide ((r.cells.getD x.col.toNat 0)<x.v))) (cond (x.op == 3) (some (decide ((r.cells.getD x.col.toNat 0) > x.v))) (cond (x.op == 4) (some ((r.cells.getD x.col.toNat 0) != x.v)) (some false))))))))
abbrev bT_.T3:Type:=Int→Int→(List cj_)→Int→Bool→Int→(List Int)→Bool→Int→Int→Int→(List Int)→Option Bool
def bT_.step3 (n:Nat) (k0:Option Bool) (back:bT_.T3):bT_.T3:=fun i q0 q1 q2 q3 q4 q5 q6 q7 q8 r0 r1=>
 (cond (decide (i<(q1.length:Int))) (inB i q1.length ((dQ_ n (q1.getD i.toNat cj_.dflt) (TRow.mk r0 r1)).bind fun xr1=>(cond (!xr1) (some false) (back (W (i+1)) q0 q1 q2 q3 q4 q5 q6 q7 q8 r0 r1)))) k0)
def bT_.loop3 (n:Nat) (k0:Option Bool) (N:Nat):bT_.T3:=ct_ (fun _ _ _ _ _ _ _ _ _ _ _ _=>none) (bT_.step3 n k0) N
def bT_:Nat→ax_→TRow→Option Bool
 |0,_,_=>none
 |n+1,q,r=>
  (bT_.loop3 n (some true) n 0 q.table q.where_ q.order q.down q.first q.show_ q.kids q.kidTable q.kidCol r.id_ r.cells)
def bW_:Nat→TRow→Int→Option Int
 |0,_,_=>none
 |n+1,r,col=>
  ((b8_ n col 0 (W ((r.cells.length:Int) - 1))).bind fun xr1=>(cond (!xr1) (some 0) (inB col r.cells.length (some (r.cells.getD col.toNat 0)))))
def eB_:Nat→ax_→TRow→TRow→Option Bool
 |0,_,_,_=>none
 |n+1,q,a,b=>
  (cond (q.order != 0) ((bW_ n a (W (q.order - 1))).bind fun xr1=>((bW_ n b (W (q.order - 1))).bind fun xr2=>(cond (xr1 != xr2) (some (!((decide (xr1<xr2)) == q.down))) (some (decide (a.id_<b.id_)))))) (some (decide (a.id_<b.id_))))
abbrev bX_.K5:Type:=Bool→Int→(List Int)→(List TRow)→Option (List TRow)
abbrev bX_.T5:Type:=(List TRow)→Bool→Int→Int→(List cj_)→Int→Bool→Int→(List Int)→Bool→Int→Int→Int→(List Int)→(List TRow)→Option (List TRow)
def bX_.step5 (n:Nat) (k0:bX_.K5) (back:bX_.T5):bX_.T5:=fun rows put i q0 q1 q2 q3 q4 q5 q6 q7 q8 r0 r1 out_1=>
 (cond (decide (i<(rows.length:Int))) (cond (!put) (inB i rows.length ((eB_ n (ax_.mk q0 q1 q2 q3 q4 q5 q6 q7 q8) (TRow.mk r0 r1) (rows.getD i.toNat TRow.dflt)).bind fun xr1=>(cond xr1 ((cz_ n (TRow.mk r0 r1)).bind fun xr2=>(bm_ (out_1.length+([xr2]:List TRow).length) 32 (inB i rows.length (bm_ ((out_1++([xr2]:List TRow)).length+([(rows.getD i.toNat TRow.dflt)]:List TRow).length) 32 (back rows true (W (i+1)) q0 q1 q2 q3 q4 q5 q6 q7 q8 r0 r1 ((out_1++([xr2]:List TRow))++([(rows.getD i.toNat TRow.dflt)]:List TRow))))))) (inB i rows.length (bm_ (out_1.length+([(rows.getD i.toNat TRow.dflt)]:List TRow).length) 32 (back rows put (W (i+1)) q0 q1 q2 q3 q4 q5 q6 q7 q8 r0 r1 (out_1++([(rows.getD i.toNat TRow.dflt)]:List TRow)))))))) (inB i rows.length (bm_ (out_1.length+([(rows.getD i.toNat TRow.dflt)]:List TRow).length) 32 (back rows put (W (i+1)) q0 q1 q2 q3 q4 q5 q6 q7 q8 r0 r1 (out_1++([(rows.getD i.toNat TRow.dflt)]:List TRow)))))) (k0 put r0 r1 out_1))
def bX_.loop5 (n:Nat) (k0:bX_.K5) (N:Nat):bX_.T5:=ct_ (fun _ _ _ _ _ _ _ _ _ _ _ _ _ _ _=>none) (bX_.step5 n k0) N
def bX_:Nat→ax_→(List TRow)→TRow→Option (List TRow)
 |0,_,_,_=>none
 |n+1,q,rows,r=>
  (bX_.loop5 n (fun xy3 xy4 xy5 xy6=>(cond (!xy3) ((cz_ n (TRow.mk xy4 xy5)).bind fun xr7=>(bm_ (xy6.length+([xr7]:List TRow).length) 32 (some (xy6++([xr7]:List TRow))))) (some xy6))) n rows false 0 q.table q.where_ q.order q.down q.first q.show_ q.kids q.kidTable q.kidCol r.id_ r.cells ([]:List TRow))
abbrev bM_.K8:Type:=(List TRow)→Option (List TRow)
abbrev bM_.T8:Type:=(List TRow)→Int→Int→(List cj_)→Int→Bool→Int→(List Int)→Bool→Int→Int→(List TRow)→Option (List TRow)
def bM_.step8 (n:Nat) (k0:bM_.K8) (back:bM_.T8):bM_.T8:=fun rows i q0 q1 q2 q3 q4 q5 q6 q7 q8 out_1=>
 (cond (decide (i<(rows.length:Int))) (inB i rows.length ((bT_ n (ax_.mk q0 q1 q2 q3 q4 q5 q6 q7 q8) (rows.getD i.toNat TRow.dflt)).bind fun xr3=>(cond xr3 (inB i rows.length ((bX_ n (ax_.mk q0 q1 q2 q3 q4 q5 q6 q7 q8) out_1 (rows.getD i.toNat TRow.dflt)).bind fun xr4=>(back rows (W (i+1)) q0 q1 q2 q3 q4 q5 q6 q7 q8 xr4))) (back rows (W (i+1)) q0 q1 q2 q3 q4 q5 q6 q7 q8 out_1)))) (k0 out_1))
def bM_.loop8 (n:Nat) (k0:bM_.K8) (N:Nat):bM_.T8:=ct_ (fun _ _ _ _ _ _ _ _ _ _ _ _=>none) (bM_.step8 n k0) N
def bM_:Nat→aw_→ax_→Option (List TRow)
 |0,_,_=>none
 |n+1,s,q=>
  ((bC_ n s).bind fun xr1=>(cond (!xr1) (some ([]:List TRow)) ((aA_ n s.schema q).bind fun xr2=>(cond (!xr2) (some ([]:List TRow)) (inB q.table s.tables.length (bM_.loop8 n (fun xy5=>(some xy5)) n (s.tables.getD q.table.toNat []) 0 q.table q.where_ q.order q.down q.first q.show_ q.kids q.kidTable q.kidCol ([]:List TRow)))))))
abbrev aQ_.K5:Type:=Int→Int→Bool→(List TKid)→Option (List TKid)
abbrev aQ_.T5:Type:=(List TKid)→Int→Int→Bool→Int→(List TKid)→Option (List TKid)
def aQ_.step5 (n:Nat) (k0:aQ_.K5) (back:aQ_.T5):aQ_.T5:=fun o append t2 t8 t9 t7=>
 (cond (decide (t9<(o.length:Int))) (inB t9 o.length (cond (!t8) (cond (decide (((o.getD t9.toNat TKid.dflt).id_)≥append)) (cond (((o.getD t9.toNat TKid.dflt).id_) == append) (cond (decide ((W (((o.getD t9.toNat TKid.dflt).n_)+t2)) > 0)) (bm_ (t7.length+([(TKid.mk append (W (((o.getD t9.toNat TKid.dflt).n_)+t2)))]:List TKid).length) 16 (cond (((o.getD t9.toNat TKid.dflt).id_) == append) (back o append t2 true (W (t9+1)) (t7++([(TKid.mk append (W (((o.getD t9.toNat TKid.dflt).n_)+t2)))]:List TKid))) (bm_ ((t7++([(TKid.mk append (W (((o.getD t9.toNat TKid.dflt).n_)+t2)))]:List TKid)).length+([(o.getD t9.toNat TKid.dflt)]:List TKid).length) 16 (back o append t2 true (W (t9+1)) ((t7++([(TKid.mk append (W (((o.getD t9.toNat TKid.dflt).n_)+t2)))]:List TKid))++([(o.getD t9.toNat TKid.dflt)]:List TKid)))))) (cond (((o.getD t9.toNat TKid.dflt).id_) == append) (back o append t2 true (W (t9+1)) t7) (bm_ (t7.length+([(o.getD t9.toNat TKid.dflt)]:List TKid).length) 16 (back o append t2 true (W (t9+1)) (t7++([(o.getD t9.toNat TKid.dflt)]:List TKid)))))) (cond (decide (t2 > 0)) (bm_ (t7.length+([(TKid.mk append t2)]:List TKid).length) 16 (cond (((o.getD t9.toNat TKid.dflt).id_) == append) (back o append t2 true (W (t9+1)) (t7++([(TKid.mk append t2)]:List TKid))) (bm_ ((t7++([(TKid.mk append t2)]:List TKid)).length+([(o.getD t9.toNat TKid.dflt)]:List TKid).length) 16 (back o append t2 true (W (t9+1)) ((t7++([(TKid.mk append t2)]:List TKid))++([(o.getD t9.toNat TKid.dflt)]:List TKid)))))) (cond (((o.getD t9.toNat TKid.dflt).id_) == append) (back o append t2 true (W (t9+1)) t7) (bm_ (t7.length+([(o.getD t9.toNat TKid.dflt)]:List TKid).length) 16 (back o append t2 true (W (t9+1)) (t7++([(o.getD t9.toNat TKid.dflt)]:List TKid))))))) (bm_ (t7.length+([(o.getD t9.toNat TKid.dflt)]:List TKid).length) 16 (back o append t2 t8 (W (t9+1)) (t7++([(o.getD t9.toNat TKid.dflt)]:List TKid))))) (bm_ (t7.length+([(o.getD t9.toNat TKid.dflt)]:List TKid).length) 16 (back o append t2 t8 (W (t9+1)) (t7++([(o.getD t9.toNat TKid.dflt)]:List TKid)))))) (k0 append t2 t8 t7))
def aQ_.loop5 (n:Nat) (k0:aQ_.K5) (N:Nat):aQ_.T5:=ct_ (fun _ _ _ _ _ _=>none) (aQ_.step5 n k0) N
def aQ_:Nat→(List TKid)→Int→Int→Option (List TKid)
 |0,_,_,_=>none
 |n+1,o,append,a2=>
  (aQ_.loop5 n (fun xy1 xy2 xy3 xy4=>(cond (!xy3) (cond (decide (xy2 > 0)) (bm_ (xy4.length+([(TKid.mk xy1 xy2)]:List TKid).length) 16 (some (xy4++([(TKid.mk xy1 xy2)]:List TKid)))) (some xy4)) (some xy4))) n o append a2 false 0 ([]:List TKid))
abbrev b4_.K8:Type:=Int→Int→Bool→Int→Bool→Int→Int→Int→Int→Bool→Int→Bool→Int→Int→(List cj_)→(List Int)→(List TRow)→(List TKid)→Option (bF_ × Bool)
abbrev b4_.T8:Type:=(List TRow)→Int→Int→(List cj_)→Int→Bool→Int→(List Int)→Bool→Int→Int→Int→Int→Bool→Int→Bool→Int→Int→Int→Int→Bool→Int→Bool→Int→Int→(List cj_)→(List Int)→(List TRow)→(List TKid)→Option (bF_ × Bool)
def b4_.step8 (n:Nat) (k0:b4_.K8) (back:b4_.T8):b4_.T8:=fun rows i q0 q1 q2 q3 q4 q5 q6 q7 q8 t40 t42 t43 t44 t46 t47 t48 v0 v2 v3 v4 v6 v7 v8 v1 v5 v9 v10=>
 (cond (decide (i<(rows.length:Int))) (cond q6 (inB i rows.length (inB q8 ((rows.getD i.toNat TRow.dflt).cells).length ((aQ_ n v10 (((rows.getD i.toNat TRow.dflt).cells).getD q8.toNat 0) 1).bind fun xr5=>(back rows (W (i+1)) q0 q1 q2 q3 q4 q5 q6 q7 q8 t40 t42 t43 t44 t46 t47 t48 v0 v2 v3 v4 v6 v7 v8 v1 v5 v9 xr5)))) (k0 t40 t42 t43 t44 t46 t47 t48 v0 v2 v3 v4 v6 v7 v8 v1 v5 v9 v10)) (k0 t40 t42 t43 t44 t46 t47 t48 v0 v2 v3 v4 v6 v7 v8 v1 v5 v9 v10))
def b4_.loop8 (n:Nat) (k0:b4_.K8) (N:Nat):b4_.T8:=ct_ (fun _ _ _ _ _ _ _ _ _ _ _ _ _ _ _ _ _ _ _ _ _ _ _ _ _ _ _ _ _=>none) (b4_.step8 n k0) N
def b4_:Nat→aw_→ax_→Option (bF_ × Bool)
 |0,_,_=>none
 |n+1,s,q=>
  ((bC_ n s).bind fun xr1=>(cond (!xr1) (some ((bF_.mk (ax_.mk 0 ([]:List cj_) 0 false 0 ([]:List Int) false 0 0) ([]:List TRow) ([]:List TKid)),false)) ((aA_ n s.schema q).bind fun xr2=>(cond (!xr2) (some ((bF_.mk (ax_.mk 0 ([]:List cj_) 0 false 0 ([]:List Int) false 0 0) ([]:List TRow) ([]:List TKid)),false)) ((ee_ n q).bind fun xr3=>((bM_ n s q).bind fun xr4=>(inB q.kidTable s.tables.length (b4_.loop8 n (fun xy6 xy7 xy8 xy9 xy10 xy11 xy12 xy13 xy14 xy15 xy16 xy17 xy18 xy19 xy20 xy21 xy22 xy23=>(some ((bF_.mk (ax_.mk xy13 xy20 xy14 xy15 xy16 xy21 xy17 xy18 xy19) xy22 xy23),true))) n (s.tables.getD q.kidTable.toNat []) 0 q.table q.where_ q.order q.down q.first q.show_ q.kids q.kidTable q.kidCol 0 0 false 0 false 0 0 xr3.table xr3.order xr3.down xr3.first xr3.kids xr3.kidTable xr3.kidCol xr3.where_ xr3.show_ xr4 ([]:List TKid)))))))))
def d9_:Nat→aw_→ax_→Option (cB_ × Bool)
 |0,_,_=>none
 |n+1,s,q=>
  ((b4_ n s q).bind fun xr1=>(cond (!xr1.2) (some ((cB_.mk (bF_.mk (ax_.mk 0 ([]:List cj_) 0 false 0 ([]:List Int) false 0 0) ([]:List TRow) ([]:List TKid)) 0 (bF_.mk (ax_.mk 0 ([]:List cj_) 0 false 0 ([]:List Int) false 0 0) ([]:List TRow) ([]:List TKid)) 0 false),false)) (some ((cB_.mk xr1.1 s.version (bF_.mk (ax_.mk 0 ([]:List cj_) 0 false 0 ([]:List Int) false 0 0) ([]:List TRow) ([]:List TKid)) 0 false),true))))
abbrev bZ_.K4:Type:=(List TRow)→Option (List TRow)
abbrev bZ_.T4:Type:=(List TRow)→Int→(List TRow)→Option (List TRow)
def bZ_.step4 (n:Nat) (k0:bZ_.K4) (back:bZ_.T4):bZ_.T4:=fun rows i out_1=>
 (cond (decide (i<(rows.length:Int))) (inB i rows.length ((cz_ n (rows.getD i.toNat TRow.dflt)).bind fun xr1=>(bm_ (out_1.length+([xr1]:List TRow).length) 32 (back rows (W (i+1)) (out_1++([xr1]:List TRow)))))) (k0 out_1))
def bZ_.loop4 (n:Nat) (k0:bZ_.K4) (N:Nat):bZ_.T4:=ct_ (fun _ _ _=>none) (bZ_.step4 n k0) N
def bZ_:Nat→(List TRow)→Option (List TRow)
 |0,_=>none
 |n+1,rows=>
  (bZ_.loop4 n (fun xy2=>(some xy2)) n rows 0 ([]:List TRow))
def cX_:Nat→bF_→Option bF_
 |0,_=>none
 |n+1,v=>
  ((ee_ n v.q).bind fun xr1=>((bZ_ n v.rows).bind fun xr2=>(bm_ (([]:List TKid).length+v.kids.length) 16 (some (bF_.mk xr1 xr2 (([]:List TKid)++v.kids))))))
def dR_:Nat→cB_→Option cB_
 |0,_=>none
 |n+1,x=>
  ((cX_ n x.view).bind fun xr1=>((cX_ n x.last).bind fun xr2=>(some { x with view:=xr1,last:=xr2 })))
abbrev b9_.T3:Type:=Int→Int→Int→(List cj_)→Int→Bool→Int→(List Int)→Bool→Int→Int→(List TRow)→(List TKid)→Option Int
def b9_.step3 (n:Nat) (k0:Option Int) (back:b9_.T3):b9_.T3:=fun id_1 i v0 v1 v2 v3 v4 v5 v6 v7 v8 v9 v10=>
 (cond (decide (i<(v10.length:Int))) (inB i v10.length (cond (((v10.getD i.toNat TKid.dflt).id_) == id_1) (inB i v10.length (some ((v10.getD i.toNat TKid.dflt).n_))) (back id_1 (W (i+1)) v0 v1 v2 v3 v4 v5 v6 v7 v8 v9 v10))) k0)
def b9_.loop3 (n:Nat) (k0:Option Int) (N:Nat):b9_.T3:=ct_ (fun _ _ _ _ _ _ _ _ _ _ _ _ _=>none) (b9_.step3 n k0) N
def b9_:Nat→bF_→Int→Option Int
 |0,_,_=>none
 |n+1,v,id1=>
  (b9_.loop3 n (some 0) n id1 0 v.q.table v.q.where_ v.q.order v.q.down v.q.first v.q.show_ v.q.kids v.q.kidTable v.q.kidCol v.rows v.kids)
abbrev bd_.K4:Type:=(List Int)→Option (List Int)
abbrev bd_.T4:Type:=Int→Int→(List cj_)→Int→Bool→Int→(List Int)→Bool→Int→Int→(List TRow)→(List TKid)→(List Int)→Option (List Int)
def bd_.step4 (n:Nat) (k0:bd_.K4) (back:bd_.T4):bd_.T4:=fun i v0 v1 v2 v3 v4 v5 v6 v7 v8 v9 v10 out_1=>
 (cond (decide (i<(v9.length:Int))) (inB i v9.length ((b9_ n (bF_.mk (ax_.mk v0 v1 v2 v3 v4 v5 v6 v7 v8) v9 v10) ((v9.getD i.toNat TRow.dflt).id_)).bind fun xr1=>(bm_ (out_1.length+([xr1]:List Int).length) 8 (back (W (i+1)) v0 v1 v2 v3 v4 v5 v6 v7 v8 v9 v10 (out_1++([xr1]:List Int)))))) (k0 out_1))
def bd_.loop4 (n:Nat) (k0:bd_.K4) (N:Nat):bd_.T4:=ct_ (fun _ _ _ _ _ _ _ _ _ _ _ _ _=>none) (bd_.step4 n k0) N
def bd_:Nat→bF_→Option (List Int)
 |0,_=>none
 |n+1,v=>
  (bd_.loop4 n (fun xy2=>(some xy2)) n 0 v.q.table v.q.where_ v.q.order v.q.down v.q.first v.q.show_ v.q.kids v.q.kidTable v.q.kidCol v.rows v.kids ([]:List Int))
def eQ_:Nat→Int→Int→Option Int
 |0,_,_=>none
 |n+1,a,b=>
  (cond (decide (a<b)) (some a) (some b))
def dw_:Nat→ax_→Int→Option Int
 |0,_,_=>none
 |n+1,q,n1=>
  (cond (q.first == 0) (some n1) ((eQ_ n n1 q.first).bind fun xr1=>((cL_ n xr1 0).bind fun xr2=>(some xr2))))
abbrev aV_.K7:Type:=Bool→Bs→Option Bs
abbrev aV_.T7:Type:=Int→Bool→Bs→Option Bs
def aV_.step7 (n:Nat) (k0:aV_.K7) (back:aV_.T7):aV_.T7:=fun n_1 below out_1=>
 (cond (n_1 != 0) (cond (decide ((Int.tmod n_1 10)<0)) (let xv1:Bs:=(hL_ ([(IntKind.u8.wrap ((W (48+(W (0 - (Int.tmod n_1 10)))))))]:List Int));(cond (decide (xv1.length+out_1.length≤9223372036854775807)) (back (W (Int.tdiv n_1 10)) below (xv1++out_1)) none)) (cond (decide ((hL_ ([(IntKind.u8.wrap ((W (48+(Int.tmod n_1 10)))))]:List Int)).length+out_1.length≤9223372036854775807)) (let xv2:Bs:=((hL_ ([(IntKind.u8.wrap ((W (48+(Int.tmod n_1 10)))))]:List Int))++out_1);(back (W (Int.tdiv n_1 10)) below xv2)) none)) (k0 below out_1))
def aV_.loop7 (n:Nat) (k0:aV_.K7) (N:Nat):aV_.T7:=ct_ (fun _ _ _=>none) (aV_.step7 n k0) N
def aV_:Nat→Int→Option Bs
 |0,_=>none
 |n+1,n1=>
  (cond (n1 == 0) (some [48]) (aV_.loop7 n (fun xy3 xy4=>(cond xy3 (cond (decide ([45].length+xy4.length≤9223372036854775807)) (some (([45]:Bs)++xy4)) none) (some xy4))) n n1 (decide (n1<0)) []))
def c6_:Nat→Int→Option aa_
 |0,_=>none
 |n+1,n1=>
  (some (aa_.mk 2 n1 [] ([]:List aa_) ([]:List Bs)))
abbrev bR_.K4:Type:=Int→Int→(List cj_)→Int→Bool→Int→(List Int)→Bool→Int→Int→Int→(List Int)→Int→Int→Bs→Int→Int→Bs→(List aa_)→(List Bs)→Option aa_
abbrev bR_.T4:Type:=Int→Int→Int→(List cj_)→Int→Bool→Int→(List Int)→Bool→Int→Int→Int→(List Int)→Int→Int→Bs→Int→Int→Bs→(List aa_)→(List Bs)→Option aa_
def bR_.step4 (n:Nat) (k0:bR_.K4) (back:bR_.T4):bR_.T4:=fun kids i q0 q1 q2 q3 q4 q5 q6 q7 q8 r0 r1 t60 t61 t62 out0 out1 out2 out3 out4=>
 (cond (decide (i<(q5.length:Int))) (inB i q5.length ((aV_ n (q5.getD i.toNat 0)).bind fun xr1=>(cond (decide ([99].length+xr1.length≤9223372036854775807)) (inB i q5.length ((bW_ n (TRow.mk r0 r1) (q5.getD i.toNat 0)).bind fun xr2=>((c6_ n xr2).bind fun xr3=>((bO_ n (aa_.mk out0 out1 out2 out3 out4) (([99]:Bs)++xr1) (aa_.re xr3)).bind fun xr4=>(back kids (W (i+1)) q0 q1 q2 q3 q4 q5 q6 q7 q8 r0 r1 t60 t61 t62 xr4.kind xr4.n_ xr4.s xr4.list xr4.names))))) none))) (k0 kids q0 q1 q2 q3 q4 q5 q6 q7 q8 r0 r1 t60 t61 t62 out0 out1 out2 out3 out4))
def bR_.loop4 (n:Nat) (k0:bR_.K4) (N:Nat):bR_.T4:=ct_ (fun _ _ _ _ _ _ _ _ _ _ _ _ _ _ _ _ _ _ _ _ _=>none) (bR_.step4 n k0) N
def bR_:Nat→ax_→TRow→Int→Option aa_
 |0,_,_,_=>none
 |n+1,q,r,kids=>
  (bR_.loop4 n (fun xy5 xy6 xy7 xy8 xy9 xy10 xy11 xy12 xy13 xy14 xy15 xy16 xy17 xy18 xy19 xy20 xy21 xy22 xy23 xy24=>((c6_ n xy15).bind fun xr25=>((bO_ n (aa_.mk xy20 xy21 xy22 xy23 xy24) [105,100] (aa_.re xr25)).bind fun xr26=>(cond xy12 ((c6_ n xy5).bind fun xr27=>((bO_ n (aa_.re xr26) [107,105,100,115] (aa_.re xr27)).bind fun xr28=>(some (aa_.re xr28)))) (some (aa_.re xr26)))))) n kids 0 q.table q.where_ q.order q.down q.first q.show_ q.kids q.kidTable q.kidCol r.id_ r.cells 0 0 [] 5 0 [] ([]:List aa_) ([]:List Bs))
abbrev b7_.T3:Type:=Bs→Int→Option Bool
def b7_.step3 (n:Nat) (k0:Bs→Option Bool) (back:b7_.T3):b7_.T3:=fun s i=>
 (cond (decide (i<(s.length:Int))) (inB i s.length (cond (decide (((s.getD i.toNat 0).toNat:Int)<32)) (some false) (inB i s.length (cond (decide (((s.getD i.toNat 0).toNat:Int) > 126)) (some false) (back s (W (i+1))))))) (k0 s))
def b7_.loop3 (n:Nat) (k0:Bs→Option Bool) (N:Nat):b7_.T3:=ct_ (fun _ _=>none) (b7_.step3 n k0) N
def b7_:Nat→Bs→Option Bool
 |0,_=>none
 |n+1,s=>
  (b7_.loop3 n (fun xy1=>(some (decide ((xy1.length:Int)≤60)))) n s 0)
abbrev ag_.K6:Type:=Int→Int→Bs→(List aa_)→(List Bs)→Option Bool
abbrev ag_.T6:Type:=Int→Int→Int→Bs→(List aa_)→(List Bs)→Option Bool
def ag_.step6 (n:Nat) (k0:ag_.K6) (back:ag_.T6):ag_.T6:=fun i j0 j1 j2 j3 j4=>
 (cond (decide (i<(j4.length:Int))) (inB i j4.length ((b7_ n (j4.getD i.toNat [])).bind fun xr1=>(cond (!xr1) (some false) (cond (decide (i > 0)) (inB (W (i - 1)) j4.length (inB i j4.length (cond (!Op.bytesLess (j4.getD (W (i - 1)).toNat []) (j4.getD i.toNat [])) (some false) (back (W (i+1)) j0 j1 j2 j3 j4)))) (back (W (i+1)) j0 j1 j2 j3 j4))))) (k0 j0 j1 j2 j3 j4))
def ag_.loop6 (n:Nat) (k0:ag_.K6) (N:Nat):ag_.T6:=ct_ (fun _ _ _ _ _ _=>none) (ag_.step6 n k0) N
def ag_:Nat→aa_→Option Bool
 |0,_=>none
 |n+1,j=>
  (cond (j.kind != 5) (some ((j.names.length:Int) == 0)) (ag_.loop6 n (fun xy2 xy3 xy4 xy5 xy6=>(some ((xy6.length:Int) == (xy5.length:Int)))) n 0 j.kind j.n_ j.s j.list j.names))
abbrev aR_.K23_1:Type:=Int→Int→Int→Int→Bs→(List aa_)→(List Bs)→Option Int
abbrev aR_.T23:Type:=Int→Int→Int→Int→Int→Int→Bs→(List aa_)→(List Bs)→Option Int
def aR_.step23 (n:Nat) (spec_l1Great_:aa_→Int→Option Int) (k1:aR_.K23_1) (back:aR_.T23):aR_.T23:=fun append t5 t6 t7 t20 t21 t22 t23 t24=>
 (cond (decide (t7<(t23.length:Int))) (cond (decide (t6≤400)) (inB t7 t23.length ((spec_l1Great_ (aa_.re (t23.getD t7.toNat aa_.dflt)) (W (append - 1))).bind fun xr52=>(back append t5 (W (t6+xr52)) (W (t7+1)) t20 t21 t22 t23 t24))) (k1 t5 t6 t20 t21 t22 t23 t24)) (k1 t5 t6 t20 t21 t22 t23 t24))
def aR_.loop23 (n:Nat) (spec_l1Great_:aa_→Int→Option Int) (k1:aR_.K23_1) (N:Nat):aR_.T23:=ct_ (fun _ _ _ _ _ _ _ _ _=>none) (aR_.step23 n spec_l1Great_ k1) N
def aR_:Nat→aa_→Int→Option Int
 |0,_,_=>none
 |n+1,o,append=>
  (cond (append == 0) (some 401) (cond (o.kind == 0) (cond (o.n_ != 0) (some 401) (cond (o.kind != 3) (cond (!(o.s == [])) (some 401) (cond (o.kind == 3) (cond (o.n_ != 0) (some 401) (cond (decide (o.kind<4)) (cond (decide ((o.list.length:Int) > 0)) (some 401) ((ag_ n (aa_.re o)).bind fun xr1=>(cond (!xr1) (some 401) (some 1)))) ((ag_ n (aa_.re o)).bind fun xr2=>(cond (!xr2) (some 401) (some 1))))) (cond (decide (o.kind≥4)) (cond (o.n_ != 0) (some 401) (cond (decide (o.kind<4)) (cond (decide ((o.list.length:Int) > 0)) (some 401) ((ag_ n (aa_.re o)).bind fun xr3=>(cond (!xr3) (some 401) (some 1)))) ((ag_ n (aa_.re o)).bind fun xr4=>(cond (!xr4) (some 401) (some 1))))) (cond (decide (o.kind<4)) (cond (decide ((o.list.length:Int) > 0)) (some 401) ((ag_ n (aa_.re o)).bind fun xr5=>(cond (!xr5) (some 401) (some 1)))) ((ag_ n (aa_.re o)).bind fun xr6=>(cond (!xr6) (some 401) (some 1))))))) (cond (o.kind == 3) (cond (o.n_ != 0) (some 401) (cond (decide (o.kind<4)) (cond (decide ((o.list.length:Int) > 0)) (some 401) ((ag_ n (aa_.re o)).bind fun xr7=>(cond (!xr7) (some 401) (some 1)))) ((ag_ n (aa_.re o)).bind fun xr8=>(cond (!xr8) (some 401) (some 1))))) (cond (decide (o.kind≥4)) (cond (o.n_ != 0) (some 401) (cond (decide (o.kind<4)) (cond (decide ((o.list.length:Int) > 0)) (some 401) ((ag_ n (aa_.re o)).bind fun xr9=>(cond (!xr9) (some 401) (some 1)))) ((ag_ n (aa_.re o)).bind fun xr10=>(cond (!xr10) (some 401) (some 1))))) (cond (decide (o.kind<4)) (cond (decide ((o.list.length:Int) > 0)) (some 401) ((ag_ n (aa_.re o)).bind fun xr11=>(cond (!xr11) (some 401) (some 1)))) ((ag_ n (aa_.re o)).bind fun xr12=>(cond (!xr12) (some 401) (some 1)))))))) (cond (o.kind == 1) ((b8_ n o.n_ 0 1).bind fun xr13=>(cond (!xr13) (some 401) (cond (o.kind != 3) (cond (!(o.s == [])) (some 401) (cond (o.kind == 3) (cond (o.n_ != 0) (some 401) (cond (decide (o.kind<4)) (cond (decide ((o.list.length:Int) > 0)) (some 401) ((ag_ n (aa_.re o)).bind fun xr14=>(cond (!xr14) (some 401) (some 1)))) ((ag_ n (aa_.re o)).bind fun xr15=>(cond (!xr15) (some 401) (some 1))))) (cond (decide (o.kind≥4)) (cond (o.n_ != 0) (some 401) (cond (decide (o.kind<4)) (cond (decide ((o.list.length:Int) > 0)) (some 401) ((ag_ n (aa_.re o)).bind fun xr16=>(cond (!xr16) (some 401) (some 1)))) ((ag_ n (aa_.re o)).bind fun xr17=>(cond (!xr17) (some 401) (some 1))))) (cond (decide (o.kind<4)) (cond (decide ((o.list.length:Int) > 0)) (some 401) ((ag_ n (aa_.re o)).bind fun xr18=>(cond (!xr18) (some 401) (some 1)))) ((ag_ n (aa_.re o)).bind fun xr19=>(cond (!xr19) (some 401) (some 1))))))) (cond (o.kind == 3) (cond (o.n_ != 0) (some 401) (cond (decide (o.kind<4)) (cond (decide ((o.list.length:Int) > 0)) (some 401) ((ag_ n (aa_.re o)).bind fun xr20=>(cond (!xr20) (some 401) (some 1)))) ((ag_ n (aa_.re o)).bind fun xr21=>(cond (!xr21) (some 401) (some 1))))) (cond (decide (o.kind≥4)) (cond (o.n_ != 0) (some 401) (cond (decide (o.kind<4)) (cond (decide ((o.list.length:Int) > 0)) (some 401) ((ag_ n (aa_.re o)).bind fun xr22=>(cond (!xr22) (some 401) (some 1)))) ((ag_ n (aa_.re o)).bind fun xr23=>(cond (!xr23) (some 401) (some 1))))) (cond (decide (o.kind<4)) (cond (decide ((o.list.length:Int) > 0)) (some 401) ((ag_ n (aa_.re o)).bind fun xr24=>(cond (!xr24) (some 401) (some 1)))) ((ag_ n (aa_.re o)).bind fun xr25=>(cond (!xr25) (some 401) (some 1))))))))) (cond (o.kind == 2) ((b8_ n o.n_ (-1000000000) 1000000000).bind fun xr26=>(cond (!xr26) (some 401) (cond (o.kind != 3) (cond (!(o.s == [])) (some 401) (cond (o.kind == 3) (cond (o.n_ != 0) (some 401) (cond (decide (o.kind<4)) (cond (decide ((o.list.length:Int) > 0)) (some 401) ((ag_ n (aa_.re o)).bind fun xr27=>(cond (!xr27) (some 401) (some 1)))) ((ag_ n (aa_.re o)).bind fun xr28=>(cond (!xr28) (some 401) (some 1))))) (cond (decide (o.kind≥4)) (cond (o.n_ != 0) (some 401) (cond (decide (o.kind<4)) (cond (decide ((o.list.length:Int) > 0)) (some 401) ((ag_ n (aa_.re o)).bind fun xr29=>(cond (!xr29) (some 401) (some 1)))) ((ag_ n (aa_.re o)).bind fun xr30=>(cond (!xr30) (some 401) (some 1))))) (cond (decide (o.kind<4)) (cond (decide ((o.list.length:Int) > 0)) (some 401) ((ag_ n (aa_.re o)).bind fun xr31=>(cond (!xr31) (some 401) (some 1)))) ((ag_ n (aa_.re o)).bind fun xr32=>(cond (!xr32) (some 401) (some 1))))))) (cond (o.kind == 3) (cond (o.n_ != 0) (some 401) (cond (decide (o.kind<4)) (cond (decide ((o.list.length:Int) > 0)) (some 401) ((ag_ n (aa_.re o)).bind fun xr33=>(cond (!xr33) (some 401) (some 1)))) ((ag_ n (aa_.re o)).bind fun xr34=>(cond (!xr34) (some 401) (some 1))))) (cond (decide (o.kind≥4)) (cond (o.n_ != 0) (some 401) (cond (decide (o.kind<4)) (cond (decide ((o.list.length:Int) > 0)) (some 401) ((ag_ n (aa_.re o)).bind fun xr35=>(cond (!xr35) (some 401) (some 1)))) ((ag_ n (aa_.re o)).bind fun xr36=>(cond (!xr36) (some 401) (some 1))))) (cond (decide (o.kind<4)) (cond (decide ((o.list.length:Int) > 0)) (some 401) ((ag_ n (aa_.re o)).bind fun xr37=>(cond (!xr37) (some 401) (some 1)))) ((ag_ n (aa_.re o)).bind fun xr38=>(cond (!xr38) (some 401) (some 1))))))))) (cond (o.kind == 3) ((b7_ n o.s).bind fun xr39=>(cond (!xr39) (some 401) (cond (o.kind != 3) (cond (!(o.s == [])) (some 401) (cond (o.kind == 3) (cond (o.n_ != 0) (some 401) (cond (decide (o.kind<4)) (cond (decide ((o.list.length:Int) > 0)) (some 401) ((ag_ n (aa_.re o)).bind fun xr40=>(cond (!xr40) (some 401) (some 1)))) ((ag_ n (aa_.re o)).bind fun xr41=>(cond (!xr41) (some 401) (some 1))))) (cond (decide (o.kind≥4)) (cond (o.n_ != 0) (some 401) (cond (decide (o.kind<4)) (cond (decide ((o.list.length:Int) > 0)) (some 401) ((ag_ n (aa_.re o)).bind fun xr42=>(cond (!xr42) (some 401) (some 1)))) ((ag_ n (aa_.re o)).bind fun xr43=>(cond (!xr43) (some 401) (some 1))))) (cond (decide (o.kind<4)) (cond (decide ((o.list.length:Int) > 0)) (some 401) ((ag_ n (aa_.re o)).bind fun xr44=>(cond (!xr44) (some 401) (some 1)))) ((ag_ n (aa_.re o)).bind fun xr45=>(cond (!xr45) (some 401) (some 1))))))) (cond (o.kind == 3) (cond (o.n_ != 0) (some 401) (cond (decide (o.kind<4)) (cond (decide ((o.list.length:Int) > 0)) (some 401) ((ag_ n (aa_.re o)).bind fun xr46=>(cond (!xr46) (some 401) (some 1)))) ((ag_ n (aa_.re o)).bind fun xr47=>(cond (!xr47) (some 401) (some 1))))) (cond (decide (o.kind≥4)) (cond (o.n_ != 0) (some 401) (cond (decide (o.kind<4)) (cond (decide ((o.list.length:Int) > 0)) (some 401) ((ag_ n (aa_.re o)).bind fun xr48=>(cond (!xr48) (some 401) (some 1)))) ((ag_ n (aa_.re o)).bind fun xr49=>(cond (!xr49) (some 401) (some 1))))) (cond (decide (o.kind<4)) (cond (decide ((o.list.length:Int) > 0)) (some 401) ((ag_ n (aa_.re o)).bind fun xr50=>(cond (!xr50) (some 401) (some 1)))) ((ag_ n (aa_.re o)).bind fun xr51=>(cond (!xr51) (some 401) (some 1))))))))) (cond (o.kind == 4) (cond (o.kind == 4) (aR_.loop23 n (aR_ n) (fun xy53 xy54 xy55 xy56 xy57 xy58 xy59=>(cond (xy55 != 3) (cond (!(xy57 == [])) (some xy53) (cond (xy55 == 3) (cond (xy56 != 0) (some xy53) (cond (decide (xy55<4)) (cond (decide ((xy58.length:Int) > 0)) (some xy53) ((ag_ n (aa_.mk xy55 xy56 xy57 xy58 xy59)).bind fun xr60=>(cond (!xr60) (some xy53) (some xy54)))) ((ag_ n (aa_.mk xy55 xy56 xy57 xy58 xy59)).bind fun xr61=>(cond (!xr61) (some xy53) (some xy54))))) (cond (decide (xy55≥4)) (cond (xy56 != 0) (some xy53) (cond (decide (xy55<4)) (cond (decide ((xy58.length:Int) > 0)) (some xy53) ((ag_ n (aa_.mk xy55 xy56 xy57 xy58 xy59)).bind fun xr62=>(cond (!xr62) (some xy53) (some xy54)))) ((ag_ n (aa_.mk xy55 xy56 xy57 xy58 xy59)).bind fun xr63=>(cond (!xr63) (some xy53) (some xy54))))) (cond (decide (xy55<4)) (cond (decide ((xy58.length:Int) > 0)) (some xy53) ((ag_ n (aa_.mk xy55 xy56 xy57 xy58 xy59)).bind fun xr64=>(cond (!xr64) (some xy53) (some xy54)))) ((ag_ n (aa_.mk xy55 xy56 xy57 xy58 xy59)).bind fun xr65=>(cond (!xr65) (some xy53) (some xy54))))))) (cond (xy55 == 3) (cond (xy56 != 0) (some xy53) (cond (decide (xy55<4)) (cond (decide ((xy58.length:Int) > 0)) (some xy53) ((ag_ n (aa_.mk xy55 xy56 xy57 xy58 xy59)).bind fun xr66=>(cond (!xr66) (some xy53) (some xy54)))) ((ag_ n (aa_.mk xy55 xy56 xy57 xy58 xy59)).bind fun xr67=>(cond (!xr67) (some xy53) (some xy54))))) (cond (decide (xy55≥4)) (cond (xy56 != 0) (some xy53) (cond (decide (xy55<4)) (cond (decide ((xy58.length:Int) > 0)) (some xy53) ((ag_ n (aa_.mk xy55 xy56 xy57 xy58 xy59)).bind fun xr68=>(cond (!xr68) (some xy53) (some xy54)))) ((ag_ n (aa_.mk xy55 xy56 xy57 xy58 xy59)).bind fun xr69=>(cond (!xr69) (some xy53) (some xy54))))) (cond (decide (xy55<4)) (cond (decide ((xy58.length:Int) > 0)) (some xy53) ((ag_ n (aa_.mk xy55 xy56 xy57 xy58 xy59)).bind fun xr70=>(cond (!xr70) (some xy53) (some xy54)))) ((ag_ n (aa_.mk xy55 xy56 xy57 xy58 xy59)).bind fun xr71=>(cond (!xr71) (some xy53) (some xy54)))))))) n append 401 1 0 o.kind o.n_ o.s o.list o.names) (some 401)) (cond (o.kind == 5) (aR_.loop23 n (aR_ n) (fun xy72 xy73 xy74 xy75 xy76 xy77 xy78=>(cond (xy74 != 3) (cond (!(xy76 == [])) (some xy72) (cond (xy74 == 3) (cond (xy75 != 0) (some xy72) (cond (decide (xy74<4)) (cond (decide ((xy77.length:Int) > 0)) (some xy72) ((ag_ n (aa_.mk xy74 xy75 xy76 xy77 xy78)).bind fun xr79=>(cond (!xr79) (some xy72) (some xy73)))) ((ag_ n (aa_.mk xy74 xy75 xy76 xy77 xy78)).bind fun xr80=>(cond (!xr80) (some xy72) (some xy73))))) (cond (decide (xy74≥4)) (cond (xy75 != 0) (some xy72) (cond (decide (xy74<4)) (cond (decide ((xy77.length:Int) > 0)) (some xy72) ((ag_ n (aa_.mk xy74 xy75 xy76 xy77 xy78)).bind fun xr81=>(cond (!xr81) (some xy72) (some xy73)))) ((ag_ n (aa_.mk xy74 xy75 xy76 xy77 xy78)).bind fun xr82=>(cond (!xr82) (some xy72) (some xy73))))) (cond (decide (xy74<4)) (cond (decide ((xy77.length:Int) > 0)) (some xy72) ((ag_ n (aa_.mk xy74 xy75 xy76 xy77 xy78)).bind fun xr83=>(cond (!xr83) (some xy72) (some xy73)))) ((ag_ n (aa_.mk xy74 xy75 xy76 xy77 xy78)).bind fun xr84=>(cond (!xr84) (some xy72) (some xy73))))))) (cond (xy74 == 3) (cond (xy75 != 0) (some xy72) (cond (decide (xy74<4)) (cond (decide ((xy77.length:Int) > 0)) (some xy72) ((ag_ n (aa_.mk xy74 xy75 xy76 xy77 xy78)).bind fun xr85=>(cond (!xr85) (some xy72) (some xy73)))) ((ag_ n (aa_.mk xy74 xy75 xy76 xy77 xy78)).bind fun xr86=>(cond (!xr86) (some xy72) (some xy73))))) (cond (decide (xy74≥4)) (cond (xy75 != 0) (some xy72) (cond (decide (xy74<4)) (cond (decide ((xy77.length:Int) > 0)) (some xy72) ((ag_ n (aa_.mk xy74 xy75 xy76 xy77 xy78)).bind fun xr87=>(cond (!xr87) (some xy72) (some xy73)))) ((ag_ n (aa_.mk xy74 xy75 xy76 xy77 xy78)).bind fun xr88=>(cond (!xr88) (some xy72) (some xy73))))) (cond (decide (xy74<4)) (cond (decide ((xy77.length:Int) > 0)) (some xy72) ((ag_ n (aa_.mk xy74 xy75 xy76 xy77 xy78)).bind fun xr89=>(cond (!xr89) (some xy72) (some xy73)))) ((ag_ n (aa_.mk xy74 xy75 xy76 xy77 xy78)).bind fun xr90=>(cond (!xr90) (some xy72) (some xy73)))))))) n append 401 1 0 o.kind o.n_ o.s o.list o.names) (some 401))))))))
def cS_:Nat→aa_→Option Bool
 |0,_=>none
 |n+1,j=>
  ((aR_ n (aa_.re j) 6).bind fun xr1=>(some (decide (xr1≤400))))
def dd_:Nat→aa_→Option aa_
 |0,_=>none
 |n+1,j=>
  ((cS_ n (aa_.re j)).bind fun xr1=>(cond (!xr1) (some (aa_.mk 0 0 [] [] [])) (some (aa_.re j))))
abbrev cl_.K4:Type:=(List TRow)→Int→Int→Bs→Int→Int→Bs→(List aa_)→Option aa_
abbrev cl_.T4:Type:=(List TRow)→(List Int)→Int→Int→(List cj_)→Int→Bool→Int→(List Int)→Bool→Int→Int→Int→Int→Bs→Int→Int→Bs→(List aa_)→Option aa_
def cl_.step4 (n:Nat) (k0:cl_.K4) (back:cl_.T4):cl_.T4:=fun rows kids i q0 q1 q2 q3 q4 q5 q6 q7 q8 t60 t61 t62 list0 list1 list2 list3=>
 ((dw_ n (ax_.mk q0 q1 q2 q3 q4 q5 q6 q7 q8) (rows.length:Int)).bind fun xr1=>(cond (decide (i<xr1)) (cond (decide (i<(kids.length:Int))) (inB i kids.length (inB i rows.length ((bR_ n (ax_.mk q0 q1 q2 q3 q4 q5 q6 q7 q8) (rows.getD i.toNat TRow.dflt) (kids.getD i.toNat 0)).bind fun xr2=>(bm_ (list3.length+([(aa_.re xr2)]:List aa_).length) 80 (back rows kids (W (i+1)) q0 q1 q2 q3 q4 q5 q6 q7 q8 t60 t61 t62 list0 list1 list2 (list3++([(aa_.re xr2)]:List aa_))))))) (inB i rows.length ((bR_ n (ax_.mk q0 q1 q2 q3 q4 q5 q6 q7 q8) (rows.getD i.toNat TRow.dflt) 0).bind fun xr3=>(bm_ (list3.length+([(aa_.re xr3)]:List aa_).length) 80 (back rows kids (W (i+1)) q0 q1 q2 q3 q4 q5 q6 q7 q8 t60 t61 t62 list0 list1 list2 (list3++([(aa_.re xr3)]:List aa_))))))) (k0 rows t60 t61 t62 list0 list1 list2 list3)))
def cl_.loop4 (n:Nat) (k0:cl_.K4) (N:Nat):cl_.T4:=ct_ (fun _ _ _ _ _ _ _ _ _ _ _ _ _ _ _ _ _ _ _=>none) (cl_.step4 n k0) N
def cl_:Nat→ax_→(List TRow)→(List Int)→Option aa_
 |0,_,_,_=>none
 |n+1,q,rows,kids=>
  (cl_.loop4 n (fun xy4 xy5 xy6 xy7 xy8 xy9 xy10 xy11=>((c6_ n (xy4.length:Int)).bind fun xr12=>((dd_ n (aa_.mk 5 0 [] ([(aa_.re xr12),(aa_.mk xy8 xy9 xy10 xy11 [])]:List aa_) ([[99,111,117,110,116],[114,111,119,115]]:List Bs))).bind fun xr13=>(some (aa_.re xr13))))) n rows kids 0 q.table q.where_ q.order q.down q.first q.show_ q.kids q.kidTable q.kidCol 0 0 [] 4 0 [] ([]:List aa_))
def dk_:Nat→bF_→Option aa_
 |0,_=>none
 |n+1,v=>
  ((bd_ n v).bind fun xr1=>((cl_ n v.q v.rows xr1).bind fun xr2=>(some (aa_.re xr2))))
abbrev aq_.K6_1:Type:=Int→Int→Bs→(List aa_)→(List Bs)→Int→Int→Bs→(List aa_)→(List Bs)→Option Bool
abbrev aq_.T6:Type:=Int→Int→Int→Bs→(List aa_)→(List Bs)→Int→Int→Bs→(List aa_)→(List Bs)→Option Bool
def aq_.step6 (n:Nat) (spec_l1Same_:aa_→aa_→Option Bool) (k0:aq_.K6_1) (back:aq_.T6):aq_.T6:=fun t5 t20 t21 t22 t23 t24 t30 t31 t32 t33 t34=>
 (cond (decide (t5<(t23.length:Int))) (inB t5 t23.length (inB t5 t33.length ((spec_l1Same_ (aa_.re (t23.getD t5.toNat aa_.dflt)) (aa_.re (t33.getD t5.toNat aa_.dflt))).bind fun xr1=>(cond (!xr1) (some false) (back (W (t5+1)) t20 t21 t22 t23 t24 t30 t31 t32 t33 t34))))) (k0 t20 t21 t22 t23 t24 t30 t31 t32 t33 t34))
def aq_.loop6 (n:Nat) (spec_l1Same_:aa_→aa_→Option Bool) (k0:aq_.K6_1) (N:Nat):aq_.T6:=ct_ (fun _ _ _ _ _ _ _ _ _ _ _=>none) (aq_.step6 n spec_l1Same_ k0) N
abbrev aq_.T14:Type:=Int→Int→Int→Bs→(List aa_)→(List Bs)→Int→Int→Bs→(List aa_)→(List Bs)→Option Bool
def aq_.step14 (n:Nat) (spec_l1Same_:aa_→aa_→Option Bool) (k2:Option Bool) (back:aq_.T14):aq_.T14:=fun t6 t20 t21 t22 t23 t24 t30 t31 t32 t33 t34=>
 (cond (decide (t6<(t24.length:Int))) (inB t6 t24.length (inB t6 t34.length (cond (!((t24.getD t6.toNat []) == (t34.getD t6.toNat []))) (some false) (back (W (t6+1)) t20 t21 t22 t23 t24 t30 t31 t32 t33 t34)))) k2)
def aq_.loop14 (n:Nat) (spec_l1Same_:aa_→aa_→Option Bool) (k2:Option Bool) (N:Nat):aq_.T14:=ct_ (fun _ _ _ _ _ _ _ _ _ _ _=>none) (aq_.step14 n spec_l1Same_ k2) N
def aq_:Nat→aa_→aa_→Option Bool
 |0,_,_=>none
 |n+1,o,append=>
  (cond (o.kind != append.kind) (some false) (cond (o.n_ != append.n_) (some false) (cond (!(o.s == append.s)) (some false) (cond ((o.list.length:Int) != (append.list.length:Int)) (some false) (cond ((o.names.length:Int) != (append.names.length:Int)) (some false) (aq_.loop6 n (aq_ n) (fun xy2 xy3 xy4 xy5 xy6 xy7 xy8 xy9 xy10 xy11=>(aq_.loop14 n (aq_ n) (some true) n 0 xy2 xy3 xy4 xy5 xy6 xy7 xy8 xy9 xy10 xy11)) n 0 o.kind o.n_ o.s o.list o.names append.kind append.n_ append.s append.list append.names))))))
def dy_:Nat→aa_→aa_→Option Bool
 |0,_,_=>none
 |n+1,a,b=>
  ((cS_ n (aa_.re a)).bind fun xr1=>(cond xr1 ((cS_ n (aa_.re b)).bind fun xr2=>(cond xr2 ((aq_ n (aa_.re a) (aa_.re b)).bind fun xr3=>(some xr3)) (some false))) (some false)))
def ea_:Nat→cB_→Option Bool
 |0,_=>none
 |n+1,x=>
  (cond (!x.began) (some true) ((dk_ n x.view).bind fun xr1=>((dk_ n x.last).bind fun xr2=>((dy_ n (aa_.re xr1) (aa_.re xr2)).bind fun xr3=>(some (!xr3))))))
abbrev bL_.K3:Type:=(List cj_)→(List cj_)→Option Bool
abbrev bL_.T3:Type:=(List cj_)→(List cj_)→Int→Option Bool
def bL_.step3 (n:Nat) (k0:bL_.K3) (back:bL_.T3):bL_.T3:=fun a b i=>
 (cond (decide (i<(a.length:Int))) (cond (decide (i<(b.length:Int))) (inB i a.length (inB i b.length (let xv1:Bool:=(!(cond (((a.getD i.toNat cj_.dflt).col) == ((b.getD i.toNat cj_.dflt).col)) (cond (((a.getD i.toNat cj_.dflt).op) == ((b.getD i.toNat cj_.dflt).op)) (cond (((a.getD i.toNat cj_.dflt).v) == ((b.getD i.toNat cj_.dflt).v)) true false) false) false));(cond xv1 (some false) (back a b (W (i+1))))))) (k0 a b)) (k0 a b))
def bL_.loop3 (n:Nat) (k0:bL_.K3) (N:Nat):bL_.T3:=ct_ (fun _ _ _=>none) (bL_.step3 n k0) N
def bL_:Nat→(List cj_)→(List cj_)→Option Bool
 |0,_,_=>none
 |n+1,a,b=>
  (bL_.loop3 n (fun xy2 xy3=>(some ((xy2.length:Int) == (xy3.length:Int)))) n a b 0)
abbrev b2_.K3:Type:=(List Int)→(List Int)→Option Bool
abbrev b2_.T3:Type:=(List Int)→(List Int)→Int→Option Bool
def b2_.step3 (n:Nat) (k0:b2_.K3) (back:b2_.T3):b2_.T3:=fun a b i=>
 (cond (decide (i<(a.length:Int))) (cond (decide (i<(b.length:Int))) (inB i a.length (inB i b.length (cond ((a.getD i.toNat 0) != (b.getD i.toNat 0)) (some false) (back a b (W (i+1)))))) (k0 a b)) (k0 a b))
def b2_.loop3 (n:Nat) (k0:b2_.K3) (N:Nat):b2_.T3:=ct_ (fun _ _ _=>none) (b2_.step3 n k0) N
def b2_:Nat→(List Int)→(List Int)→Option Bool
 |0,_,_=>none
 |n+1,a,b=>
  (b2_.loop3 n (fun xy1 xy2=>(some ((xy1.length:Int) == (xy2.length:Int)))) n a b 0)
def dx_:Nat→ax_→ax_→Option Bool
 |0,_,_=>none
 |n+1,o,append=>
  (cond (o.table == append.table) ((bL_ n o.where_ append.where_).bind fun xr1=>(cond xr1 (cond (o.order == append.order) (cond (o.down == append.down) (cond (o.first == append.first) ((b2_ n o.show_ append.show_).bind fun xr2=>(cond xr2 (cond (o.kids == append.kids) (cond (o.kidTable == append.kidTable) (some (o.kidCol == append.kidCol)) (some false)) (some false)) (some false))) (some false)) (some false)) (some false)) (some false))) (some false))
def eR_:Nat→Int→Option aa_
 |0,_=>none
 |n+1,n1=>
  ((cS_ n (aa_.mk 2 n1 [] [] [])).bind fun xr1=>(cond (!xr1) (some (aa_.mk 0 0 [] ([]:List aa_) ([]:List Bs))) (some (aa_.mk 2 n1 [] ([]:List aa_) ([]:List Bs)))))
def ex_:Nat→ax_→TRow→Int→Option aa_
 |0,_,_,_=>none
 |n+1,q,r,kids=>
  ((bR_ n q r kids).bind fun xr1=>((dd_ n (aa_.re xr1)).bind fun xr2=>(some (aa_.re xr2))))
abbrev bu_.K5:Type:=(List aa_)→(List Int)→Option ((List aa_) × (List Int))
abbrev bu_.T5:Type:=Int→Int→(List cj_)→Int→Bool→Int→(List Int)→Bool→Int→Int→(List TRow)→(List TKid)→(List aa_)→(List Int)→Option ((List aa_) × (List Int))
def bu_.step5 (n:Nat) (k0:bu_.K5) (back:bu_.T5):bu_.T5:=fun i v0 v1 v2 v3 v4 v5 v6 v7 v8 v9 v10 list keys=>
 ((dw_ n (ax_.mk v0 v1 v2 v3 v4 v5 v6 v7 v8) (v9.length:Int)).bind fun xr1=>(cond (decide (i<xr1)) (inB i v9.length (inB i v9.length ((b9_ n (bF_.mk (ax_.mk v0 v1 v2 v3 v4 v5 v6 v7 v8) v9 v10) ((v9.getD i.toNat TRow.dflt).id_)).bind fun xr2=>((ex_ n (ax_.mk v0 v1 v2 v3 v4 v5 v6 v7 v8) (v9.getD i.toNat TRow.dflt) xr2).bind fun xr3=>(bm_ (list.length+([(aa_.re xr3)]:List aa_).length) 80 (inB i v9.length (bm_ (keys.length+([(v9.getD i.toNat TRow.dflt).id_]:List Int).length) 8 (back (W (i+1)) v0 v1 v2 v3 v4 v5 v6 v7 v8 v9 v10 (list++([(aa_.re xr3)]:List aa_)) (keys++([(v9.getD i.toNat TRow.dflt).id_]:List Int)))))))))) (k0 list keys)))
def bu_.loop5 (n:Nat) (k0:bu_.K5) (N:Nat):bu_.T5:=ct_ (fun _ _ _ _ _ _ _ _ _ _ _ _ _ _=>none) (bu_.step5 n k0) N
def bu_:Nat→bF_→Option ((List aa_) × (List Int))
 |0,_=>none
 |n+1,v=>
  (bu_.loop5 n (fun xy4 xy5=>(some (xy4,xy5))) n 0 v.q.table v.q.where_ v.q.order v.q.down v.q.first v.q.show_ v.q.kids v.q.kidTable v.q.kidCol v.rows v.kids ([]:List aa_) ([]:List Int))
abbrev cy_.T3:Type:=(List Int)→Int→Int→Option Int
def cy_.step3 (n:Nat) (k0:Option Int) (back:cy_.T3):cy_.T3:=fun keys key i=>
 (cond (decide (i<(keys.length:Int))) (inB i keys.length (cond ((keys.getD i.toNat 0) == key) (some i) (back keys key (W (i+1))))) k0)
def cy_.loop3 (n:Nat) (k0:Option Int) (N:Nat):cy_.T3:=ct_ (fun _ _ _=>none) (cy_.step3 n k0) N
def cy_:Nat→(List Int)→Int→Option Int
 |0,_,_=>none
 |n+1,keys,key=>
  (cy_.loop3 n (some (-1)) n keys key 0)
abbrev aK_.K3:Type:=(List Int)→(List aa_)→Option Bool
abbrev aK_.T3:Type:=(List Int)→(List aa_)→Int→Option Bool
def aK_.step3 (n:Nat) (k0:aK_.K3) (back:aK_.T3):aK_.T3:=fun keys list i=>
 (cond (decide (i<(keys.length:Int))) (gf_ 0 i keys.length (inB i keys.length ((cy_ n ((keys.take i.toNat).drop 0) (keys.getD i.toNat 0)).bind fun xr1=>(cond (decide (xr1≥0)) (some false) (back keys list (W (i+1))))))) (k0 keys list))
def aK_.loop3 (n:Nat) (k0:aK_.K3) (N:Nat):aK_.T3:=ct_ (fun _ _ _=>none) (aK_.step3 n k0) N
abbrev aK_.K11:Type:=(List Int)→(List aa_)→Option Bool
abbrev aK_.T11:Type:=(List Int)→(List aa_)→Int→Option Bool
def aK_.step11 (n:Nat) (k2:aK_.K11) (back:aK_.T11):aK_.T11:=fun keys list i=>
 (cond (decide (i<(list.length:Int))) (inB i list.length ((cS_ n (aa_.re (list.getD i.toNat aa_.dflt))).bind fun xr4=>(cond (!xr4) (some false) (back keys list (W (i+1)))))) (k2 keys list))
def aK_.loop11 (n:Nat) (k2:aK_.K11) (N:Nat):aK_.T11:=ct_ (fun _ _ _=>none) (aK_.step11 n k2) N
def aK_:Nat→(List Int)→(List aa_)→Option Bool
 |0,_,_=>none
 |n+1,keys,list=>
  (aK_.loop3 n (fun xy2 xy3=>(aK_.loop11 n (fun xy5 xy6=>(some ((xy5.length:Int) == (xy6.length:Int)))) n xy2 xy3 0)) n keys list 0)
def c8_:Nat→(List Int)→Int→Option (List Int)
 |0,_,_=>none
 |n+1,keys,at1=>
  (gf_ 0 at1 keys.length (bm_ (([]:List Int).length+((keys.take at1.toNat).drop 0).length) 8 (gf_ (W (at1+1)) (keys.length:Int) keys.length (bm_ ((([]:List Int)++((keys.take at1.toNat).drop 0)).length+((keys.take (keys.length:Int).toNat).drop (W (at1+1)).toNat).length) 8 (some ((([]:List Int)++((keys.take at1.toNat).drop 0))++((keys.take (keys.length:Int).toNat).drop (W (at1+1)).toNat)))))))
abbrev bq_.K4_1:Type:=Int→Int→Bs→Int→Int→Bs→(List aa_)→(List Bs)→Option aa_
abbrev bq_.T4:Type:=Int→Int→Int→Bs→(List aa_)→(List Bs)→Int→Int→Bs→Int→Int→Bs→(List aa_)→(List Bs)→Option aa_
def bq_.step4 (n:Nat) (spec_l1Copy_:aa_→Option aa_) (k0:bq_.K4_1) (back:bq_.T4):bq_.T4:=fun i j0 j1 j2 j3 j4 t20 t21 t22 out0 out1 out2 out3 out4=>
 (cond (decide (i<(j3.length:Int))) (inB i j3.length ((spec_l1Copy_ (aa_.re (j3.getD i.toNat aa_.dflt))).bind fun xr1=>(bm_ (out3.length+([(aa_.re xr1)]:List aa_).length) 80 (back (W (i+1)) j0 j1 j2 j3 j4 t20 t21 t22 out0 out1 out2 (out3++([(aa_.re xr1)]:List aa_)) out4)))) (k0 t20 t21 t22 out0 out1 out2 out3 out4))
def bq_.loop4 (n:Nat) (spec_l1Copy_:aa_→Option aa_) (k0:bq_.K4_1) (N:Nat):bq_.T4:=ct_ (fun _ _ _ _ _ _ _ _ _ _ _ _ _ _=>none) (bq_.step4 n spec_l1Copy_ k0) N
def bq_:Nat→aa_→Option aa_
 |0,_=>none
 |n+1,j=>
  (bm_ (([]:List Bs).length+j.names.length) 16 (bq_.loop4 n (bq_ n) (fun xy2 xy3 xy4 xy5 xy6 xy7 xy8 xy9=>(some (aa_.mk xy5 xy6 xy7 xy8 xy9))) n 0 j.kind j.n_ j.s j.list j.names 0 0 [] j.kind j.n_ j.s ([]:List aa_) (([]:List Bs)++j.names)))
def dv_:Nat→(List Int)→Int→Int→Option (List Int)
 |0,_,_,_=>none
 |n+1,keys,at1,key=>
  (gf_ 0 at1 keys.length (bm_ (([]:List Int).length+((keys.take at1.toNat).drop 0).length) 8 (bm_ ((([]:List Int)++((keys.take at1.toNat).drop 0)).length+([key]:List Int).length) 8 (gf_ at1 (keys.length:Int) keys.length (bm_ (((([]:List Int)++((keys.take at1.toNat).drop 0))++([key]:List Int)).length+((keys.take (keys.length:Int).toNat).drop at1.toNat).length) 8 (some (((([]:List Int)++((keys.take at1.toNat).drop 0))++([key]:List Int))++((keys.take (keys.length:Int).toNat).drop at1.toNat))))))))
abbrev aI_.K5:Type:=(List aa_)→(List Int)→(List aa_)→(List Int)→(List TOp)→(List Int)→Option (List TOp)
abbrev aI_.T5:Type:=(List aa_)→(List Int)→(List aa_)→(List Int)→Int→(List TOp)→(List Int)→Option (List TOp)
def aI_.step5 (n:Nat) (k0:aI_.K5) (back:aI_.T5):aI_.T5:=fun o append t2 t3 t11 t9 t10=>
 (cond (decide (t11≥0)) (inB t11 append.length ((cy_ n t3 (append.getD t11.toNat 0)).bind fun xr1=>(cond (decide (xr1<0)) ((aV_ n t11).bind fun xr2=>(bm_ (t9.length+([(TOp.mk 2 ([xr2]:List Bs) (aa_.mk 0 0 [] [] []))]:List TOp).length) 112 ((c8_ n t10 t11).bind fun xr3=>(back o append t2 t3 (W (t11 - 1)) (t9++([(TOp.mk 2 ([xr2]:List Bs) (aa_.mk 0 0 [] [] []))]:List TOp)) xr3)))) (back o append t2 t3 (W (t11 - 1)) t9 t10)))) (k0 o append t2 t3 t9 t10))
def aI_.loop5 (n:Nat) (k0:aI_.K5) (N:Nat):aI_.T5:=ct_ (fun _ _ _ _ _ _ _=>none) (aI_.step5 n k0) N
abbrev aI_.K13:Type:=(List TOp)→Option (List TOp)
abbrev aI_.T13:Type:=(List aa_)→(List Int)→(List aa_)→(List Int)→Int→(List TOp)→(List Int)→Option (List TOp)
def aI_.step13 (n:Nat) (k2:aI_.K13) (back:aI_.T13):aI_.T13:=fun o append t2 t3 t12 t9 t10=>
 (cond (decide (t12<(t3.length:Int))) ((aV_ n t12).bind fun xr10=>(inB t12 t3.length ((cy_ n t10 (t3.getD t12.toNat 0)).bind fun xr11=>(cond (xr11 == t12) (inB t12 t3.length ((cy_ n append (t3.getD t12.toNat 0)).bind fun xr12=>(inB xr12 o.length (inB t12 t2.length ((aq_ n (aa_.re (o.getD xr12.toNat aa_.dflt)) (aa_.re (t2.getD t12.toNat aa_.dflt))).bind fun xr13=>(cond (!xr13) (inB t12 t2.length ((bq_ n (aa_.re (t2.getD t12.toNat aa_.dflt))).bind fun xr14=>(bm_ (t9.length+([(TOp.mk 3 ([xr10]:List Bs) (aa_.re xr14))]:List TOp).length) 112 (back o append t2 t3 (W (t12+1)) (t9++([(TOp.mk 3 ([xr10]:List Bs) (aa_.re xr14))]:List TOp)) t10)))) (back o append t2 t3 (W (t12+1)) t9 t10))))))) (cond (decide (xr11≥0)) ((aV_ n xr11).bind fun xr15=>(bm_ (t9.length+([(TOp.mk 2 ([xr15]:List Bs) (aa_.mk 0 0 [] [] []))]:List TOp).length) 112 ((c8_ n t10 xr11).bind fun xr16=>(inB t12 t2.length ((bq_ n (aa_.re (t2.getD t12.toNat aa_.dflt))).bind fun xr17=>(bm_ ((t9++([(TOp.mk 2 ([xr15]:List Bs) (aa_.mk 0 0 [] [] []))]:List TOp)).length+([(TOp.mk 1 ([xr10]:List Bs) (aa_.re xr17))]:List TOp).length) 112 (inB t12 t3.length ((dv_ n xr16 t12 (t3.getD t12.toNat 0)).bind fun xr18=>(back o append t2 t3 (W (t12+1)) ((t9++([(TOp.mk 2 ([xr15]:List Bs) (aa_.mk 0 0 [] [] []))]:List TOp))++([(TOp.mk 1 ([xr10]:List Bs) (aa_.re xr17))]:List TOp)) xr18))))))))) (inB t12 t2.length ((bq_ n (aa_.re (t2.getD t12.toNat aa_.dflt))).bind fun xr19=>(bm_ (t9.length+([(TOp.mk 1 ([xr10]:List Bs) (aa_.re xr19))]:List TOp).length) 112 (inB t12 t3.length ((dv_ n t10 t12 (t3.getD t12.toNat 0)).bind fun xr20=>(back o append t2 t3 (W (t12+1)) (t9++([(TOp.mk 1 ([xr10]:List Bs) (aa_.re xr19))]:List TOp)) xr20))))))))))) (k2 t9))
def aI_.loop13 (n:Nat) (k2:aI_.K13) (N:Nat):aI_.T13:=ct_ (fun _ _ _ _ _ _ _=>none) (aI_.step13 n k2) N
def aI_:Nat→(List aa_)→(List Int)→(List aa_)→(List Int)→Option (List TOp)
 |0,_,_,_,_=>none
 |n+1,o,append,a2,a3=>
  (bm_ (([]:List Int).length+append.length) 8 (aI_.loop5 n (fun xy4 xy5 xy6 xy7 xy8 xy9=>(aI_.loop13 n (fun xy21=>(some xy21)) n xy4 xy5 xy6 xy7 0 xy8 xy9)) n o append a2 a3 (W ((append.length:Int) - 1)) ([]:List TOp) (([]:List Int)++append)))
def e0_:Nat→(List aa_)→(List Int)→(List aa_)→(List Int)→Option (List TOp)
 |0,_,_,_,_=>none
 |n+1,old,oldKeys,now,nowKeys=>
  ((aK_ n oldKeys old).bind fun xr1=>(cond (!xr1) (some ([]:List TOp)) ((aK_ n nowKeys now).bind fun xr2=>(cond (!xr2) (some ([]:List TOp)) ((aI_ n old oldKeys now nowKeys).bind fun xr3=>(some xr3))))))
abbrev cg_.K4:Type:=(List TOp)→Option (List TOp)
abbrev cg_.T4:Type:=Bs→(List TOp)→Int→(List TOp)→Option (List TOp)
def cg_.step4 (n:Nat) (k0:cg_.K4) (back:cg_.T4):cg_.T4:=fun name list i out_1=>
 (cond (decide (i<(list.length:Int))) (inB i list.length (inB i list.length (bm_ (([name]:List Bs).length+((list.getD i.toNat TOp.dflt).way).length) 16 (inB i list.length ((bq_ n (aa_.re ((list.getD i.toNat TOp.dflt).value))).bind fun xr1=>(bm_ (out_1.length+([(TOp.mk ((list.getD i.toNat TOp.dflt).kind) (([name]:List Bs)++((list.getD i.toNat TOp.dflt).way)) (aa_.re xr1))]:List TOp).length) 112 (back name list (W (i+1)) (out_1++([(TOp.mk ((list.getD i.toNat TOp.dflt).kind) (([name]:List Bs)++((list.getD i.toNat TOp.dflt).way)) (aa_.re xr1))]:List TOp))))))))) (k0 out_1))
def cg_.loop4 (n:Nat) (k0:cg_.K4) (N:Nat):cg_.T4:=ct_ (fun _ _ _ _=>none) (cg_.step4 n k0) N
def cg_:Nat→Bs→(List TOp)→Option (List TOp)
 |0,_,_=>none
 |n+1,name,list=>
  (cg_.loop4 n (fun xy2=>(some xy2)) n name list 0 ([]:List TOp))
def c9_:Nat→bF_→bF_→Option (List TOp)
 |0,_,_=>none
 |n+1,a,b=>
  ((dx_ n a.q b.q).bind fun xr1=>(cond (!xr1) (some ([]:List TOp)) (cond ((a.rows.length:Int) != (b.rows.length:Int)) ((eR_ n (b.rows.length:Int)).bind fun xr2=>(bm_ (([]:List TOp).length+([(TOp.mk 3 ([[99,111,117,110,116]]:List Bs) (aa_.re xr2))]:List TOp).length) 112 ((bu_ n a).bind fun xr3=>((bu_ n b).bind fun xr4=>((e0_ n xr3.1 xr3.2 xr4.1 xr4.2).bind fun xr5=>((cg_ n [114,111,119,115] xr5).bind fun xr6=>(bm_ ((([]:List TOp)++([(TOp.mk 3 ([[99,111,117,110,116]]:List Bs) (aa_.re xr2))]:List TOp)).length+xr6.length) 112 (some ((([]:List TOp)++([(TOp.mk 3 ([[99,111,117,110,116]]:List Bs) (aa_.re xr2))]:List TOp))++xr6))))))))) ((bu_ n a).bind fun xr7=>((bu_ n b).bind fun xr8=>((e0_ n xr7.1 xr7.2 xr8.1 xr8.2).bind fun xr9=>((cg_ n [114,111,119,115] xr9).bind fun xr10=>(bm_ (([]:List TOp).length+xr10.length) 112 (some (([]:List TOp)++xr10))))))))))
abbrev cv_.K6:Type:=Int→(List Bs)→Int→Int→Bs→(List aa_)→(List Bs)→Option Bool
abbrev cv_.T6:Type:=Int→Int→(List Bs)→Int→Int→Bs→(List aa_)→(List Bs)→Option Bool
def cv_.step6 (n:Nat) (k0:cv_.K6) (back:cv_.T6):cv_.T6:=fun i o0 o1 o2 o3 o4 o5 o6=>
 (cond (decide (i<(o1.length:Int))) (inB i o1.length ((b7_ n (o1.getD i.toNat [])).bind fun xr3=>(cond (!xr3) (some false) (back (W (i+1)) o0 o1 o2 o3 o4 o5 o6)))) (k0 o0 o1 o2 o3 o4 o5 o6))
def cv_.loop6 (n:Nat) (k0:cv_.K6) (N:Nat):cv_.T6:=ct_ (fun _ _ _ _ _ _ _ _=>none) (cv_.step6 n k0) N
def cv_:Nat→TOp→Option Bool
 |0,_=>none
 |n+1,o=>
  ((b8_ n o.kind 1 4).bind fun xr1=>(cond (!xr1) (some false) (cond (decide ((o.way.length:Int) > 6)) (some false) ((cS_ n (aa_.re o.value)).bind fun xr2=>(cond (!xr2) (some false) (cv_.loop6 n (fun xy4 xy5 xy6 xy7 xy8 xy9 xy10=>(cond (xy4 != 2) (some true) ((aq_ n (aa_.mk xy6 xy7 xy8 xy9 xy10) (aa_.mk 0 0 [] [] [])).bind fun xr11=>(some xr11)))) n 0 o.kind o.way o.value.kind o.value.n_ o.value.s o.value.list o.value.names))))))
def dj_:Nat→Unit→Option (List Bs)
 |0,_=>none
 |n+1,_u=>
  (some ([[],[97,100,100],[114,101,109,111,118,101],[114,101,112,108,97,99,101],[116,101,115,116]]:List Bs))
abbrev aF_.K10:Type:=(List Bs)→Int→(List Int)→Option Bs
abbrev aF_.T10:Type:=(List Bs)→Int→Int→(List Int)→Option Bs
def aF_.step10 (n:Nat) (k2:aF_.K10) (back:aF_.T10):aF_.T10:=fun way i k out_1=>
 (inB i way.length (cond (decide (k<((way.getD i.toNat []).length:Int))) (inB i way.length (inB k (way.getD i.toNat []).length (cond ((((way.getD i.toNat []).getD k.toNat 0).toNat:Int) == 126) (bm_ (out_1.length+([126,48]:List Int).length) 1 (back way i (W (k+1)) (out_1++([126,48]:List Int)))) (cond ((((way.getD i.toNat []).getD k.toNat 0).toNat:Int) == 47) (bm_ (out_1.length+([126,49]:List Int).length) 1 (back way i (W (k+1)) (out_1++([126,49]:List Int)))) (inB i way.length (inB k (way.getD i.toNat []).length (bm_ (out_1.length+([(((way.getD i.toNat []).getD k.toNat 0).toNat:Int)]:List Int).length) 1 (back way i (W (k+1)) (out_1++([(((way.getD i.toNat []).getD k.toNat 0).toNat:Int)]:List Int)))))))))) (k2 way i out_1)))
def aF_.loop10 (n:Nat) (k2:aF_.K10) (N:Nat):aF_.T10:=ct_ (fun _ _ _ _=>none) (aF_.step10 n k2) N
abbrev aF_.K4:Type:=(List Int)→Option Bs
abbrev aF_.T4:Type:=(List Bs)→Int→(List Int)→Option Bs
def aF_.step4 (n:Nat) (k0:aF_.K4) (back:aF_.T4):aF_.T4:=fun way i out_1=>
 (cond (decide (i<(way.length:Int))) (bm_ (out_1.length+([47]:List Int).length) 1 (aF_.loop10 n (fun xy1 xy2 xy3=>(back xy1 (W (xy2+1)) xy3)) n way i 0 (out_1++([47]:List Int)))) (k0 out_1))
def aF_.loop4 (n:Nat) (k0:aF_.K4) (N:Nat):aF_.T4:=ct_ (fun _ _ _=>none) (aF_.step4 n k0) N
def aF_:Nat→(List Bs)→Option Bs
 |0,_=>none
 |n+1,way=>
  (aF_.loop4 n (fun xy4=>(some (hL_ xy4))) n way 0 ([]:List Int))
def dX_:Nat→TOp→Option aa_
 |0,_=>none
 |n+1,o=>
  ((cv_ n (TOp.mk o.kind o.way (aa_.re o.value))).bind fun xr1=>(cond (!xr1) (some (aa_.mk 0 0 [] ([]:List aa_) ([]:List Bs))) ((dj_ n ()).bind fun xr2=>(inB o.kind xr2.length ((aF_ n o.way).bind fun xr3=>(cond (o.kind != 2) ((bq_ n (aa_.re o.value)).bind fun xr4=>((bO_ n (aa_.mk 5 0 [] ([(aa_.mk 3 0 (xr2.getD o.kind.toNat []) [] []),(aa_.mk 3 0 xr3 [] [])]:List aa_) ([[111,112],[112,97,116,104]]:List Bs)) [118,97,108,117,101] (aa_.re xr4)).bind fun xr5=>((cS_ n (aa_.re xr5)).bind fun xr6=>(cond (!xr6) (some (aa_.mk 0 0 [] ([]:List aa_) ([]:List Bs))) (some (aa_.re xr5)))))) ((cS_ n (aa_.mk 5 0 [] ([(aa_.mk 3 0 (xr2.getD o.kind.toNat []) [] []),(aa_.mk 3 0 xr3 [] [])]:List aa_) ([[111,112],[112,97,116,104]]:List Bs))).bind fun xr7=>(cond (!xr7) (some (aa_.mk 0 0 [] ([]:List aa_) ([]:List Bs))) (some (aa_.mk 5 0 [] ([(aa_.mk 3 0 (xr2.getD o.kind.toNat []) [] []),(aa_.mk 3 0 xr3 [] [])]:List aa_) ([[111,112],[112,97,116,104]]:List Bs)))))))))))
abbrev bx_.K4:Type:=(List Int)→Option Bs
abbrev bx_.T4:Type:=Bs→Int→(List Int)→Option Bs
def bx_.step4 (n:Nat) (k0:bx_.K4) (back:bx_.T4):bx_.T4:=fun s i out_1=>
 (cond (decide (i<(s.length:Int))) (inB i s.length (cond (((s.getD i.toNat 0).toNat:Int) == 34) (bm_ (out_1.length+([92]:List Int).length) 1 (inB i s.length (bm_ ((out_1++([92]:List Int)).length+([((s.getD i.toNat 0).toNat:Int)]:List Int).length) 1 (back s (W (i+1)) ((out_1++([92]:List Int))++([((s.getD i.toNat 0).toNat:Int)]:List Int)))))) (inB i s.length (cond (((s.getD i.toNat 0).toNat:Int) == 92) (bm_ (out_1.length+([92]:List Int).length) 1 (inB i s.length (bm_ ((out_1++([92]:List Int)).length+([((s.getD i.toNat 0).toNat:Int)]:List Int).length) 1 (back s (W (i+1)) ((out_1++([92]:List Int))++([((s.getD i.toNat 0).toNat:Int)]:List Int)))))) (inB i s.length (bm_ (out_1.length+([((s.getD i.toNat 0).toNat:Int)]:List Int).length) 1 (back s (W (i+1)) (out_1++([((s.getD i.toNat 0).toNat:Int)]:List Int))))))))) (k0 out_1))
def bx_.loop4 (n:Nat) (k0:bx_.K4) (N:Nat):bx_.T4:=ct_ (fun _ _ _=>none) (bx_.step4 n k0) N
def bx_:Nat→Bs→Option Bs
 |0,_=>none
 |n+1,s=>
  (bx_.loop4 n (fun xy1=>(bm_ (xy1.length+([34]:List Int).length) 1 (some (hL_ (xy1++([34]:List Int)))))) n s 0 ([34]:List Int))
abbrev aO_.K17_1:Type:=Bs→Int→Int→Bs→(List aa_)→(List Bs)→Option Bs
abbrev aO_.T17:Type:=Bs→Int→Int→Int→Bs→(List aa_)→(List Bs)→Option Bs
def aO_.step17 (n:Nat) (spec_l2Encode_:aa_→Option Bs) (k1:aO_.K17_1) (back:aO_.T17):aO_.T17:=fun out_1 i j0 j1 j2 j3 j4=>
 (cond (decide (i<(j3.length:Int))) (cond (decide (i > 0)) (cond (decide (out_1.length+[44].length≤9223372036854775807)) (cond (j0 == 5) (inB i j4.length ((bx_ n (j4.getD i.toNat [])).bind fun xr3=>(cond (decide ((out_1++[44]).length+xr3.length≤9223372036854775807)) (cond (decide (((out_1++[44])++xr3).length+[58].length≤9223372036854775807)) (inB i j3.length ((spec_l2Encode_ (aa_.re (j3.getD i.toNat aa_.dflt))).bind fun xr4=>(cond (decide ((((out_1++[44])++xr3)++[58]).length+xr4.length≤9223372036854775807)) (back ((((out_1++[44])++xr3)++[58])++xr4) (W (i+1)) j0 j1 j2 j3 j4) none))) none) none))) (inB i j3.length ((spec_l2Encode_ (aa_.re (j3.getD i.toNat aa_.dflt))).bind fun xr5=>(cond (decide ((out_1++[44]).length+xr5.length≤9223372036854775807)) (back ((out_1++[44])++xr5) (W (i+1)) j0 j1 j2 j3 j4) none)))) none) (cond (j0 == 5) (inB i j4.length ((bx_ n (j4.getD i.toNat [])).bind fun xr6=>(cond (decide (out_1.length+xr6.length≤9223372036854775807)) (cond (decide ((out_1++xr6).length+[58].length≤9223372036854775807)) (inB i j3.length ((spec_l2Encode_ (aa_.re (j3.getD i.toNat aa_.dflt))).bind fun xr7=>(cond (decide (((out_1++xr6)++[58]).length+xr7.length≤9223372036854775807)) (back (((out_1++xr6)++[58])++xr7) (W (i+1)) j0 j1 j2 j3 j4) none))) none) none))) (inB i j3.length ((spec_l2Encode_ (aa_.re (j3.getD i.toNat aa_.dflt))).bind fun xr8=>(cond (decide (out_1.length+xr8.length≤9223372036854775807)) (back (out_1++xr8) (W (i+1)) j0 j1 j2 j3 j4) none))))) (k1 out_1 j0 j1 j2 j3 j4))
def aO_.loop17 (n:Nat) (spec_l2Encode_:aa_→Option Bs) (k1:aO_.K17_1) (N:Nat):aO_.T17:=ct_ (fun _ _ _ _ _ _ _=>none) (aO_.step17 n spec_l2Encode_ k1) N
def aO_:Nat→aa_→Option Bs
 |0,_=>none
 |n+1,j=>
  (cond (j.kind == 0) (some [110,117,108,108]) (cond (j.kind == 1) (cond (j.n_ == 1) (some [116,114,117,101]) (some [102,97,108,115,101])) (cond (j.kind == 2) ((aV_ n j.n_).bind fun xr1=>(some xr1)) (cond (j.kind == 3) ((bx_ n j.s).bind fun xr2=>(some xr2)) (aO_.loop17 n (aO_ n) (fun xy9 xy10 xy11 xy12 xy13 xy14=>(cond (xy10 == 5) (cond (decide ([123].length+xy9.length≤9223372036854775807)) (cond (decide ((([123]:Bs)++xy9).length+[125].length≤9223372036854775807)) (some ((([123]:Bs)++xy9)++[125])) none) none) (cond (decide ([91].length+xy9.length≤9223372036854775807)) (cond (decide ((([91]:Bs)++xy9).length+[93].length≤9223372036854775807)) (some ((([91]:Bs)++xy9)++[93])) none) none))) n [] 0 j.kind j.n_ j.s j.list j.names)))))
def cY_:Nat→aa_→Option Bs
 |0,_=>none
 |n+1,j=>
  ((cS_ n (aa_.re j)).bind fun xr1=>(cond (!xr1) (some []) ((aO_ n (aa_.re j)).bind fun xr2=>(cond (decide ((xr2.length:Int) > 6000)) (some []) (some xr2)))))
abbrev a5_.K4:Type:=Int→Int→Bs→(List aa_)→Option Int
abbrev a5_.T4:Type:=(List TOp)→Int→Int→Int→Bs→(List aa_)→Option Int
def a5_.step4 (n:Nat) (k0:a5_.K4) (back:a5_.T4):a5_.T4:=fun list i j0 j1 j2 j3=>
 (cond (decide (i<(list.length:Int))) (inB i list.length ((dX_ n { (list.getD i.toNat TOp.dflt) with value:=(aa_.re ((list.getD i.toNat TOp.dflt).value)) }).bind fun xr1=>(cond (xr1.kind == 0) (some (-1)) (bm_ (j3.length+([(aa_.re xr1)]:List aa_).length) 80 (back list (W (i+1)) j0 j1 j2 (j3++([(aa_.re xr1)]:List aa_))))))) (k0 j0 j1 j2 j3))
def a5_.loop4 (n:Nat) (k0:a5_.K4) (N:Nat):a5_.T4:=ct_ (fun _ _ _ _ _ _=>none) (a5_.step4 n k0) N
def a5_:Nat→(List TOp)→Option Int
 |0,_=>none
 |n+1,list=>
  (a5_.loop4 n (fun xy2 xy3 xy4 xy5=>((cY_ n (aa_.mk xy2 xy3 xy4 xy5 [])).bind fun xr6=>(cond (xr6 == []) (some (-1)) (some (xr6.length:Int))))) n list 0 4 0 [] ([]:List aa_))
def d8_:Nat→bF_→bF_→Option Bool
 |0,_,_=>none
 |n+1,a,b=>
  ((c9_ n a b).bind fun xr1=>((a5_ n xr1).bind fun xr2=>(cond (decide ((xr1.length:Int)≤40)) (cond (decide (xr2≥0)) ((dk_ n b).bind fun xr3=>((cY_ n (aa_.re xr3)).bind fun xr4=>(some (decide (xr2<(xr4.length:Int)))))) (some false)) (some false))))
def df_:Nat→cB_→Option (cB_ × aD_ × Bool)
 |0,_=>none
 |n+1,x=>
  ((dR_ n x).bind fun xr1=>((ea_ n x).bind fun xr2=>(cond (!xr2) (some (xr1,(aD_.mk 0 0 0 (aa_.mk 0 0 [] [] []) ([]:List TOp)),false)) ((dk_ n x.view).bind fun xr3=>(cond x.began ((d8_ n x.last x.view).bind fun xr4=>(cond xr4 ((c9_ n x.last x.view).bind fun xr5=>((cX_ n x.view).bind fun xr6=>(some ({ xr1 with last:=xr6,lastVersion:=x.version,began:=true },(aD_.mk 2 x.version x.lastVersion (aa_.mk 0 0 [] [] []) xr5),true)))) ((cX_ n x.view).bind fun xr7=>(some ({ xr1 with last:=xr7,lastVersion:=x.version,began:=true },(aD_.mk 1 x.version 0 (aa_.re xr3) ([]:List TOp)),true))))) ((cX_ n x.view).bind fun xr8=>(some ({ xr1 with last:=xr8,lastVersion:=x.version,began:=true },(aD_.mk 1 x.version 0 (aa_.re xr3) ([]:List TOp)),true))))))))
def du_:Nat→af_→aw_→Option (TMut × af_)
 |0,_,_=>none
 |n+1,o,append=>
  ((cL_ n (append.tables.length:Int) 1).bind fun xr1=>((an_ n o xr1).bind fun xr2=>(cond (decide (xr2.1≥(append.tables.length:Int))) (some ((TMut.mk 3 0 (TRow.mk 1 ([]:List Int))),xr2.2)) (cond (decide (xr2.1≥(append.schema.cols.length:Int))) (some ((TMut.mk 3 0 (TRow.mk 1 ([]:List Int))),xr2.2)) ((an_ n xr2.2 3).bind fun xr3=>(inB xr2.1 append.schema.cols.length ((a6_ n xr3.2 (append.schema.cols.getD xr2.1.toNat 0)).bind fun xr4=>(cond ((W (1+xr3.1)) != 1) (inB xr2.1 append.tables.length (cond (decide (((append.tables.getD xr2.1.toNat []).length:Int) > 0)) ((cA_ n xr4.2 9).bind fun xr5=>(cond (!xr5.1) (inB xr2.1 append.tables.length (inB xr2.1 append.tables.length ((an_ n xr5.2 ((append.tables.getD xr2.1.toNat []).length:Int)).bind fun xr6=>(inB xr6.1 (append.tables.getD xr2.1.toNat []).length (cond ((W (1+xr3.1)) == 3) ((an_ n xr6.2 25).bind fun xr7=>(cond (xr7.1 == 0) ((an_ n xr7.2 5).bind fun xr8=>(some ((TMut.mk xr8.1 xr2.1 (TRow.mk (((append.tables.getD xr2.1.toNat []).getD xr6.1.toNat TRow.dflt).id_) ([]:List Int))),xr8.2))) (cond (xr7.1 == 1) ((an_ n xr7.2 5).bind fun xr9=>(some ((TMut.mk (W (1+xr3.1)) (W (xr9.1 - 1)) (TRow.mk (((append.tables.getD xr2.1.toNat []).getD xr6.1.toNat TRow.dflt).id_) ([]:List Int))),xr9.2))) (cond (xr7.1 == 2) ((bH_ n xr7.2 ([0,999,1000]:List Int)).bind fun xr10=>(some ((TMut.mk (W (1+xr3.1)) xr2.1 (TRow.mk xr10.1 ([]:List Int))),xr10.2))) (some ((TMut.mk (W (1+xr3.1)) xr2.1 (TRow.mk (((append.tables.getD xr2.1.toNat []).getD xr6.1.toNat TRow.dflt).id_) ([]:List Int))),xr7.2)))))) ((an_ n xr6.2 25).bind fun xr11=>(cond (xr11.1 == 0) ((an_ n xr11.2 5).bind fun xr12=>(some ((TMut.mk xr12.1 xr2.1 (TRow.mk (((append.tables.getD xr2.1.toNat []).getD xr6.1.toNat TRow.dflt).id_) xr4.1.cells)),xr12.2))) (cond (xr11.1 == 1) ((an_ n xr11.2 5).bind fun xr13=>(some ((TMut.mk (W (1+xr3.1)) (W (xr13.1 - 1)) (TRow.mk (((append.tables.getD xr2.1.toNat []).getD xr6.1.toNat TRow.dflt).id_) xr4.1.cells)),xr13.2))) (cond (xr11.1 == 2) ((bH_ n xr11.2 ([0,999,1000]:List Int)).bind fun xr14=>(some ((TMut.mk (W (1+xr3.1)) xr2.1 (TRow.mk xr14.1 xr4.1.cells)),xr14.2))) (some ((TMut.mk (W (1+xr3.1)) xr2.1 (TRow.mk (((append.tables.getD xr2.1.toNat []).getD xr6.1.toNat TRow.dflt).id_) xr4.1.cells)),xr11.2))))))))))) (cond ((W (1+xr3.1)) == 3) ((an_ n xr5.2 25).bind fun xr15=>(cond (xr15.1 == 0) ((an_ n xr15.2 5).bind fun xr16=>(some ((TMut.mk xr16.1 xr2.1 (TRow.mk xr4.1.id_ ([]:List Int))),xr16.2))) (cond (xr15.1 == 1) ((an_ n xr15.2 5).bind fun xr17=>(some ((TMut.mk (W (1+xr3.1)) (W (xr17.1 - 1)) (TRow.mk xr4.1.id_ ([]:List Int))),xr17.2))) (cond (xr15.1 == 2) ((bH_ n xr15.2 ([0,999,1000]:List Int)).bind fun xr18=>(some ((TMut.mk (W (1+xr3.1)) xr2.1 (TRow.mk xr18.1 ([]:List Int))),xr18.2))) (some ((TMut.mk (W (1+xr3.1)) xr2.1 (TRow.mk xr4.1.id_ ([]:List Int))),xr15.2)))))) ((an_ n xr5.2 25).bind fun xr19=>(cond (xr19.1 == 0) ((an_ n xr19.2 5).bind fun xr20=>(some ((TMut.mk xr20.1 xr2.1 xr4.1),xr20.2))) (cond (xr19.1 == 1) ((an_ n xr19.2 5).bind fun xr21=>(some ((TMut.mk (W (1+xr3.1)) (W (xr21.1 - 1)) xr4.1),xr21.2))) (cond (xr19.1 == 2) ((bH_ n xr19.2 ([0,999,1000]:List Int)).bind fun xr22=>(some ((TMut.mk (W (1+xr3.1)) xr2.1 (TRow.mk xr22.1 xr4.1.cells)),xr22.2))) (some ((TMut.mk (W (1+xr3.1)) xr2.1 xr4.1),xr19.2))))))))) (cond ((W (1+xr3.1)) == 3) ((an_ n xr4.2 25).bind fun xr23=>(cond (xr23.1 == 0) ((an_ n xr23.2 5).bind fun xr24=>(some ((TMut.mk xr24.1 xr2.1 (TRow.mk xr4.1.id_ ([]:List Int))),xr24.2))) (cond (xr23.1 == 1) ((an_ n xr23.2 5).bind fun xr25=>(some ((TMut.mk (W (1+xr3.1)) (W (xr25.1 - 1)) (TRow.mk xr4.1.id_ ([]:List Int))),xr25.2))) (cond (xr23.1 == 2) ((bH_ n xr23.2 ([0,999,1000]:List Int)).bind fun xr26=>(some ((TMut.mk (W (1+xr3.1)) xr2.1 (TRow.mk xr26.1 ([]:List Int))),xr26.2))) (some ((TMut.mk (W (1+xr3.1)) xr2.1 (TRow.mk xr4.1.id_ ([]:List Int))),xr23.2)))))) ((an_ n xr4.2 25).bind fun xr27=>(cond (xr27.1 == 0) ((an_ n xr27.2 5).bind fun xr28=>(some ((TMut.mk xr28.1 xr2.1 xr4.1),xr28.2))) (cond (xr27.1 == 1) ((an_ n xr27.2 5).bind fun xr29=>(some ((TMut.mk (W (1+xr3.1)) (W (xr29.1 - 1)) xr4.1),xr29.2))) (cond (xr27.1 == 2) ((bH_ n xr27.2 ([0,999,1000]:List Int)).bind fun xr30=>(some ((TMut.mk (W (1+xr3.1)) xr2.1 (TRow.mk xr30.1 xr4.1.cells)),xr30.2))) (some ((TMut.mk (W (1+xr3.1)) xr2.1 xr4.1),xr27.2))))))))) (cond ((W (1+xr3.1)) == 3) ((an_ n xr4.2 25).bind fun xr31=>(cond (xr31.1 == 0) ((an_ n xr31.2 5).bind fun xr32=>(some ((TMut.mk xr32.1 xr2.1 (TRow.mk xr4.1.id_ ([]:List Int))),xr32.2))) (cond (xr31.1 == 1) ((an_ n xr31.2 5).bind fun xr33=>(some ((TMut.mk (W (1+xr3.1)) (W (xr33.1 - 1)) (TRow.mk xr4.1.id_ ([]:List Int))),xr33.2))) (cond (xr31.1 == 2) ((bH_ n xr31.2 ([0,999,1000]:List Int)).bind fun xr34=>(some ((TMut.mk (W (1+xr3.1)) xr2.1 (TRow.mk xr34.1 ([]:List Int))),xr34.2))) (some ((TMut.mk (W (1+xr3.1)) xr2.1 (TRow.mk xr4.1.id_ ([]:List Int))),xr31.2)))))) ((an_ n xr4.2 25).bind fun xr35=>(cond (xr35.1 == 0) ((an_ n xr35.2 5).bind fun xr36=>(some ((TMut.mk xr36.1 xr2.1 xr4.1),xr36.2))) (cond (xr35.1 == 1) ((an_ n xr35.2 5).bind fun xr37=>(some ((TMut.mk (W (1+xr3.1)) (W (xr37.1 - 1)) xr4.1),xr37.2))) (cond (xr35.1 == 2) ((bH_ n xr35.2 ([0,999,1000]:List Int)).bind fun xr38=>(some ((TMut.mk (W (1+xr3.1)) xr2.1 (TRow.mk xr38.1 xr4.1.cells)),xr38.2))) (some ((TMut.mk (W (1+xr3.1)) xr2.1 xr4.1),xr35.2)))))))))))))))
def eS_:Nat→bi_→TMut→Option Bool
 |0,_,_=>none
 |n+1,s,m=>
  (cond (m.kind == 3) ((a3_ n s).bind fun xr1=>(cond xr1 ((b8_ n m.table 0 (W ((s.cols.length:Int) - 1))).bind fun xr2=>(cond xr2 ((b8_ n m.row.id_ 1 999).bind fun xr3=>(cond xr3 (some ((m.row.cells.length:Int) == 0)) (some false))) (some false))) (some false))) ((b8_ n m.kind 1 2).bind fun xr4=>(cond xr4 ((cn_ n s m.table m.row).bind fun xr5=>(some xr5)) (some false))))
abbrev bz_.K4:Type:=Int→Int→(List Int)→(List (List TRow))→Option aw_
abbrev bz_.T4:Type:=Int→(List Int)→Int→(List (List TRow))→Int→Int→(List Int)→(List (List TRow))→Option aw_
def bz_.step4 (n:Nat) (k0:bz_.K4) (back:bz_.T4):bz_.T4:=fun t s0 s1 s2 t21 out1 out0 out2=>
 (cond (decide (t<(s2.length:Int))) (inB t s2.length ((bZ_ n (s2.getD t.toNat [])).bind fun xr2=>(bm_ (out2.length+([xr2]:List (List TRow)).length) 24 (back (W (t+1)) s0 s1 s2 t21 out1 out0 (out2++([xr2]:List (List TRow))))))) (k0 t21 out1 out0 out2))
def bz_.loop4 (n:Nat) (k0:bz_.K4) (N:Nat):bz_.T4:=ct_ (fun _ _ _ _ _ _ _ _=>none) (bz_.step4 n k0) N
def bz_:Nat→aw_→Option aw_
 |0,_=>none
 |n+1,s=>
  ((dt_ n s.schema).bind fun xr1=>(bz_.loop4 n (fun xy3 xy4 xy5 xy6=>(some (aw_.mk (bi_.mk xy5) xy4 xy6))) n 0 s.schema.cols s.version s.tables 0 s.version xr1.cols ([]:List (List TRow))))
def fh_:Nat→aw_→TMut→Option (aw_ × a0_ × Bool)
 |0,_,_=>none
 |n+1,o,append=>
  (inB append.table o.tables.length ((ck_ n (o.tables.getD append.table.toNat []) append.row.id_).bind fun xr1=>(cond (!((decide (xr1≥0)) == (append.kind != 1))) (some (o,(a0_.mk 0 false false (TRow.mk 0 ([]:List Int)) (TRow.mk 0 ([]:List Int))),false)) (cond (append.kind == 1) (cond (((o.tables.getD append.table.toNat []).length:Int) == 24) (some (o,(a0_.mk 0 false false (TRow.mk 0 ([]:List Int)) (TRow.mk 0 ([]:List Int))),false)) (cond (append.kind != 1) (inB xr1 (o.tables.getD append.table.toNat []).length ((cz_ n ((o.tables.getD append.table.toNat []).getD xr1.toNat TRow.dflt)).bind fun xr2=>(cond (append.kind != 3) ((cz_ n append.row).bind fun xr3=>((bI_ n (o.tables.getD append.table.toNat []) append.row).bind fun xr4=>(inB append.table o.tables.length (let xa5:List (List TRow):=o.tables.set append.table.toNat xr4;(some ((aw_.mk o.schema o.version xa5),(a0_.mk append.table (append.kind != 1) (append.kind != 3) xr2 xr3),true)))))) ((bl_ n (o.tables.getD append.table.toNat []) append.row.id_).bind fun xr6=>(inB append.table o.tables.length (let xa7:List (List TRow):=o.tables.set append.table.toNat xr6;(some ((aw_.mk o.schema o.version xa7),(a0_.mk append.table (append.kind != 1) (append.kind != 3) xr2 (TRow.mk 0 ([]:List Int))),true)))))))) (cond (append.kind != 3) ((cz_ n append.row).bind fun xr8=>((bI_ n (o.tables.getD append.table.toNat []) append.row).bind fun xr9=>(inB append.table o.tables.length (let xa10:List (List TRow):=o.tables.set append.table.toNat xr9;(some ((aw_.mk o.schema o.version xa10),(a0_.mk append.table (append.kind != 1) (append.kind != 3) (TRow.mk 0 ([]:List Int)) xr8),true)))))) ((bl_ n (o.tables.getD append.table.toNat []) append.row.id_).bind fun xr11=>(inB append.table o.tables.length (let xa12:List (List TRow):=o.tables.set append.table.toNat xr11;(some ((aw_.mk o.schema o.version xa12),(a0_.mk append.table (append.kind != 1) (append.kind != 3) (TRow.mk 0 ([]:List Int)) (TRow.mk 0 ([]:List Int))),true)))))))) (cond (append.kind != 1) (inB xr1 (o.tables.getD append.table.toNat []).length ((cz_ n ((o.tables.getD append.table.toNat []).getD xr1.toNat TRow.dflt)).bind fun xr13=>(cond (append.kind != 3) ((cz_ n append.row).bind fun xr14=>((bI_ n (o.tables.getD append.table.toNat []) append.row).bind fun xr15=>(inB append.table o.tables.length (let xa16:List (List TRow):=o.tables.set append.table.toNat xr15;(some ((aw_.mk o.schema o.version xa16),(a0_.mk append.table (append.kind != 1) (append.kind != 3) xr13 xr14),true)))))) ((bl_ n (o.tables.getD append.table.toNat []) append.row.id_).bind fun xr17=>(inB append.table o.tables.length (let xa18:List (List TRow):=o.tables.set append.table.toNat xr17;(some ((aw_.mk o.schema o.version xa18),(a0_.mk append.table (append.kind != 1) (append.kind != 3) xr13 (TRow.mk 0 ([]:List Int))),true)))))))) (cond (append.kind != 3) ((cz_ n append.row).bind fun xr19=>((bI_ n (o.tables.getD append.table.toNat []) append.row).bind fun xr20=>(inB append.table o.tables.length (let xa21:List (List TRow):=o.tables.set append.table.toNat xr20;(some ((aw_.mk o.schema o.version xa21),(a0_.mk append.table (append.kind != 1) (append.kind != 3) (TRow.mk 0 ([]:List Int)) xr19),true)))))) ((bl_ n (o.tables.getD append.table.toNat []) append.row.id_).bind fun xr22=>(inB append.table o.tables.length (let xa23:List (List TRow):=o.tables.set append.table.toNat xr22;(some ((aw_.mk o.schema o.version xa23),(a0_.mk append.table (append.kind != 1) (append.kind != 3) (TRow.mk 0 ([]:List Int)) (TRow.mk 0 ([]:List Int))),true)))))))))))
def eA_:Nat→aw_→TMut→Option (aw_ × a0_ × Bool)
 |0,_,_=>none
 |n+1,s,m=>
  ((bC_ n s).bind fun xr1=>(cond (!xr1) (some ((aw_.mk (bi_.mk ([]:List Int)) 0 ([]:List (List TRow))),(a0_.mk 0 false false (TRow.mk 0 ([]:List Int)) (TRow.mk 0 ([]:List Int))),false)) ((eS_ n s.schema m).bind fun xr2=>(cond (!xr2) ((bz_ n s).bind fun xr3=>(some (xr3,(a0_.mk 0 false false (TRow.mk 0 ([]:List Int)) (TRow.mk 0 ([]:List Int))),false))) ((bz_ n s).bind fun xr4=>((fh_ n xr4 m).bind fun xr5=>(cond (!xr5.2.2) ((bz_ n s).bind fun xr6=>(some (xr6,(a0_.mk 0 false false (TRow.mk 0 ([]:List Int)) (TRow.mk 0 ([]:List Int))),false))) (some (xr5.1,xr5.2.1,true)))))))))
def aB_.tail9 (n:Nat) (kn:Int→(List Int)→Int→Int→(List Int)→Int→(List (List TRow))→(List TMut)→Option ((List TMut) × af_)) (i:Int) (c0:List Int) (c1:Int) (c2:Int) (now0:List Int) (now1:Int) (now2:List (List TRow)) (list:List TMut) (m0:Int) (m1:Int) (m2:Int) (m3:List Int):Option ((List TMut) × af_) :=
 ((eA_ n (aw_.mk (bi_.mk now0) now1 now2) (TMut.mk m0 m1 (TRow.mk m2 m3))).bind fun xr3=>(cond xr3.2.2 (cond xr3.2.2 (bm_ (list.length+([(TMut.mk m0 m1 (TRow.mk m2 m3))]:List TMut).length) 48 (kn i c0 c1 c2 xr3.1.schema.cols xr3.1.version xr3.1.tables (list++([(TMut.mk m0 m1 (TRow.mk m2 m3))]:List TMut)))) ((cA_ n (af_.mk c0 c1 c2) 9).bind fun xr4=>(cond xr4.1 (bm_ (list.length+([(TMut.mk m0 m1 (TRow.mk m2 m3))]:List TMut).length) 48 (kn i xr4.2.b xr4.2.i xr4.2.h xr3.1.schema.cols xr3.1.version xr3.1.tables (list++([(TMut.mk m0 m1 (TRow.mk m2 m3))]:List TMut)))) (kn i xr4.2.b xr4.2.i xr4.2.h xr3.1.schema.cols xr3.1.version xr3.1.tables list)))) (cond xr3.2.2 (bm_ (list.length+([(TMut.mk m0 m1 (TRow.mk m2 m3))]:List TMut).length) 48 (kn i c0 c1 c2 now0 now1 now2 (list++([(TMut.mk m0 m1 (TRow.mk m2 m3))]:List TMut)))) ((cA_ n (af_.mk c0 c1 c2) 9).bind fun xr5=>(cond xr5.1 (bm_ (list.length+([(TMut.mk m0 m1 (TRow.mk m2 m3))]:List TMut).length) 48 (kn i xr5.2.b xr5.2.i xr5.2.h now0 now1 now2 (list++([(TMut.mk m0 m1 (TRow.mk m2 m3))]:List TMut)))) (kn i xr5.2.b xr5.2.i xr5.2.h now0 now1 now2 list))))))
abbrev aB_.K5:Type:=(List Int)→Int→Int→(List TMut)→Option ((List TMut) × af_)
abbrev aB_.T5:Type:=Int→(List Int)→Int→Int→(List Int)→Int→(List (List TRow))→(List TMut)→Option ((List TMut) × af_)
def aB_.step5 (n:Nat) (k0:aB_.K5) (back:aB_.T5):aB_.T5:=fun i c0 c1 c2 now0 now1 now2 list=>
 ((an_ n (af_.mk c0 c1 c2) 3).bind fun xr1=>(cond (decide (i<(W (1+xr1.1)))) ((du_ n xr1.2 (aw_.mk (bi_.mk now0) now1 now2)).bind fun xr2=>(aB_.tail9 n (fun xy6 xy7 xy8 xy9 xy10 xy11 xy12 xy13=>(back (W (xy6+1)) xy7 xy8 xy9 xy10 xy11 xy12 xy13)) i xr2.2.b xr2.2.i xr2.2.h now0 now1 now2 list xr2.1.kind xr2.1.table xr2.1.row.id_ xr2.1.row.cells)) (k0 xr1.2.b xr1.2.i xr1.2.h list)))
def aB_.loop5 (n:Nat) (k0:aB_.K5) (N:Nat):aB_.T5:=ct_ (fun _ _ _ _ _ _ _ _=>none) (aB_.step5 n k0) N
def aB_:Nat→af_→aw_→Option ((List TMut) × af_)
 |0,_,_=>none
 |n+1,c,s=>
  (aB_.loop5 n (fun xy14 xy15 xy16 xy17=>(some (xy17,(af_.mk xy14 xy15 xy16)))) n 0 c.b c.i c.h s.schema.cols s.version s.tables ([]:List TMut))
abbrev bD_.K12:Type:=(List Int)→Int→(List (List TRow))→Int→Int→(List a0_)→(List Int)→(List (List TRow))→Option (aw_ × (List a0_) × Bool)
abbrev bD_.T12:Type:=(List TMut)→Int→(List Int)→Int→(List (List TRow))→Int→(List a0_)→Int→(List a0_)→(List Int)→(List (List TRow))→Option (aw_ × (List a0_) × Bool)
def bD_.step12 (n:Nat) (k0:bD_.K12) (back:bD_.T12):bD_.T12:=fun append t10 t20 t21 t22 t41 t7 t81 t9 t80 t82=>
 (cond (decide (t10<(append.length:Int))) (inB t10 append.length ((eA_ n (aw_.mk (bi_.mk t80) t81 t82) { (append.getD t10.toNat TMut.dflt) with row:=((append.getD t10.toNat TMut.dflt).row) }).bind fun xr6=>(cond (!xr6.2.2) ((bz_ n (aw_.mk (bi_.mk t20) t21 t22)).bind fun xr7=>(some (xr7,t7,false))) (bm_ (t9.length+([xr6.2.1]:List a0_).length) 80 (back append (W (t10+1)) t20 t21 t22 t41 t7 xr6.1.version (t9++([xr6.2.1]:List a0_)) xr6.1.schema.cols xr6.1.tables))))) (k0 t20 t21 t22 t41 t81 t9 t80 t82))
def bD_.loop12 (n:Nat) (k0:bD_.K12) (N:Nat):bD_.T12:=ct_ (fun _ _ _ _ _ _ _ _ _ _ _=>none) (bD_.step12 n k0) N
def bD_:Nat→aw_→(List TMut)→Option (aw_ × (List a0_) × Bool)
 |0,_,_=>none
 |n+1,o,append=>
  ((bC_ n o).bind fun xr1=>(cond (!xr1) (some ((aw_.mk (bi_.mk ([]:List Int)) 0 ([]:List (List TRow))),([]:List a0_),false)) ((b8_ n (append.length:Int) 1 5).bind fun xr2=>(cond (!xr2) ((bz_ n o).bind fun xr3=>(some (xr3,([]:List a0_),false))) (cond (o.version == 100000) ((bz_ n o).bind fun xr4=>(some (xr4,([]:List a0_),false))) ((bz_ n o).bind fun xr5=>(bD_.loop12 n (fun xy8 xy9 xy10 xy11 xy12 xy13 xy14 xy15=>(some ((aw_.mk (bi_.mk xy14) (W (xy9+1)) xy15),xy13,true))) n append 0 o.schema.cols o.version o.tables 0 ([]:List a0_) xr5.version ([]:List a0_) xr5.schema.cols xr5.tables)))))))
def de_:Nat→bF_→a0_→Option bF_
 |0,_,_=>none
 |n+1,o,append=>
  ((cX_ n o).bind fun xr1=>(cond (append.table == o.q.table) (cond append.had ((bl_ n xr1.rows append.old.id_).bind fun xr2=>(cond append.has ((bT_ n o.q append.new).bind fun xr3=>(cond xr3 ((bX_ n o.q xr2 append.new).bind fun xr4=>(cond o.q.kids (cond (append.table == o.q.kidTable) (cond append.had ((bW_ n append.old o.q.kidCol).bind fun xr5=>((aQ_ n xr1.kids xr5 (-1)).bind fun xr6=>(cond append.has ((bW_ n append.new o.q.kidCol).bind fun xr7=>((aQ_ n xr6 xr7 1).bind fun xr8=>(some (bF_.mk xr1.q xr4 xr8)))) (some (bF_.mk xr1.q xr4 xr6))))) (cond append.has ((bW_ n append.new o.q.kidCol).bind fun xr9=>((aQ_ n xr1.kids xr9 1).bind fun xr10=>(some (bF_.mk xr1.q xr4 xr10)))) (some { xr1 with rows:=xr4 }))) (some { xr1 with rows:=xr4 })) (some { xr1 with rows:=xr4 }))) (cond o.q.kids (cond (append.table == o.q.kidTable) (cond append.had ((bW_ n append.old o.q.kidCol).bind fun xr11=>((aQ_ n xr1.kids xr11 (-1)).bind fun xr12=>(cond append.has ((bW_ n append.new o.q.kidCol).bind fun xr13=>((aQ_ n xr12 xr13 1).bind fun xr14=>(some (bF_.mk xr1.q xr2 xr14)))) (some (bF_.mk xr1.q xr2 xr12))))) (cond append.has ((bW_ n append.new o.q.kidCol).bind fun xr15=>((aQ_ n xr1.kids xr15 1).bind fun xr16=>(some (bF_.mk xr1.q xr2 xr16)))) (some { xr1 with rows:=xr2 }))) (some { xr1 with rows:=xr2 })) (some { xr1 with rows:=xr2 })))) (cond o.q.kids (cond (append.table == o.q.kidTable) (cond append.had ((bW_ n append.old o.q.kidCol).bind fun xr17=>((aQ_ n xr1.kids xr17 (-1)).bind fun xr18=>(cond append.has ((bW_ n append.new o.q.kidCol).bind fun xr19=>((aQ_ n xr18 xr19 1).bind fun xr20=>(some (bF_.mk xr1.q xr2 xr20)))) (some (bF_.mk xr1.q xr2 xr18))))) (cond append.has ((bW_ n append.new o.q.kidCol).bind fun xr21=>((aQ_ n xr1.kids xr21 1).bind fun xr22=>(some (bF_.mk xr1.q xr2 xr22)))) (some { xr1 with rows:=xr2 }))) (some { xr1 with rows:=xr2 })) (some { xr1 with rows:=xr2 })))) (cond append.has ((bT_ n o.q append.new).bind fun xr23=>(cond xr23 ((bX_ n o.q xr1.rows append.new).bind fun xr24=>(cond o.q.kids (cond (append.table == o.q.kidTable) (cond append.had ((bW_ n append.old o.q.kidCol).bind fun xr25=>((aQ_ n xr1.kids xr25 (-1)).bind fun xr26=>(cond append.has ((bW_ n append.new o.q.kidCol).bind fun xr27=>((aQ_ n xr26 xr27 1).bind fun xr28=>(some (bF_.mk xr1.q xr24 xr28)))) (some (bF_.mk xr1.q xr24 xr26))))) (cond append.has ((bW_ n append.new o.q.kidCol).bind fun xr29=>((aQ_ n xr1.kids xr29 1).bind fun xr30=>(some (bF_.mk xr1.q xr24 xr30)))) (some { xr1 with rows:=xr24 }))) (some { xr1 with rows:=xr24 })) (some { xr1 with rows:=xr24 }))) (cond o.q.kids (cond (append.table == o.q.kidTable) (cond append.had ((bW_ n append.old o.q.kidCol).bind fun xr31=>((aQ_ n xr1.kids xr31 (-1)).bind fun xr32=>(cond append.has ((bW_ n append.new o.q.kidCol).bind fun xr33=>((aQ_ n xr32 xr33 1).bind fun xr34=>(some { xr1 with kids:=xr34 }))) (some { xr1 with kids:=xr32 })))) (cond append.has ((bW_ n append.new o.q.kidCol).bind fun xr35=>((aQ_ n xr1.kids xr35 1).bind fun xr36=>(some { xr1 with kids:=xr36 }))) (some xr1))) (some xr1)) (some xr1)))) (cond o.q.kids (cond (append.table == o.q.kidTable) (cond append.had ((bW_ n append.old o.q.kidCol).bind fun xr37=>((aQ_ n xr1.kids xr37 (-1)).bind fun xr38=>(cond append.has ((bW_ n append.new o.q.kidCol).bind fun xr39=>((aQ_ n xr38 xr39 1).bind fun xr40=>(some { xr1 with kids:=xr40 }))) (some { xr1 with kids:=xr38 })))) (cond append.has ((bW_ n append.new o.q.kidCol).bind fun xr41=>((aQ_ n xr1.kids xr41 1).bind fun xr42=>(some { xr1 with kids:=xr42 }))) (some xr1))) (some xr1)) (some xr1)))) (cond o.q.kids (cond (append.table == o.q.kidTable) (cond append.had ((bW_ n append.old o.q.kidCol).bind fun xr43=>((aQ_ n xr1.kids xr43 (-1)).bind fun xr44=>(cond append.has ((bW_ n append.new o.q.kidCol).bind fun xr45=>((aQ_ n xr44 xr45 1).bind fun xr46=>(some { xr1 with kids:=xr46 }))) (some { xr1 with kids:=xr44 })))) (cond append.has ((bW_ n append.new o.q.kidCol).bind fun xr47=>((aQ_ n xr1.kids xr47 1).bind fun xr48=>(some { xr1 with kids:=xr48 }))) (some xr1))) (some xr1)) (some xr1))))
abbrev aU_.K4:Type:=Int→Int→Bool→Int→Bool→Int→Int→Int→Int→Bool→Int→Bool→Int→Int→(List cj_)→(List Int)→(List TRow)→(List TKid)→Option bF_
abbrev aU_.T4:Type:=(List a0_)→Int→Int→Int→Bool→Int→Bool→Int→Int→Int→Int→Bool→Int→Bool→Int→Int→(List cj_)→(List Int)→(List TRow)→(List TKid)→Option bF_
def aU_.step4 (n:Nat) (k0:aU_.K4) (back:aU_.T4):aU_.T4:=fun list i t40 t42 t43 t44 t46 t47 t48 out0 out2 out3 out4 out6 out7 out8 out1 out5 out9 out10=>
 (cond (decide (i<(list.length:Int))) (inB i list.length ((de_ n (bF_.mk (ax_.mk out0 out1 out2 out3 out4 out5 out6 out7 out8) out9 out10) { (list.getD i.toNat a0_.dflt) with old:=((list.getD i.toNat a0_.dflt).old),new:=((list.getD i.toNat a0_.dflt).new) }).bind fun xr2=>(back list (W (i+1)) t40 t42 t43 t44 t46 t47 t48 xr2.q.table xr2.q.order xr2.q.down xr2.q.first xr2.q.kids xr2.q.kidTable xr2.q.kidCol xr2.q.where_ xr2.q.show_ xr2.rows xr2.kids))) (k0 t40 t42 t43 t44 t46 t47 t48 out0 out2 out3 out4 out6 out7 out8 out1 out5 out9 out10))
def aU_.loop4 (n:Nat) (k0:aU_.K4) (N:Nat):aU_.T4:=ct_ (fun _ _ _ _ _ _ _ _ _ _ _ _ _ _ _ _ _ _ _ _=>none) (aU_.step4 n k0) N
def aU_:Nat→bF_→(List a0_)→Option bF_
 |0,_,_=>none
 |n+1,v,list=>
  ((cX_ n v).bind fun xr1=>(aU_.loop4 n (fun xy3 xy4 xy5 xy6 xy7 xy8 xy9 xy10 xy11 xy12 xy13 xy14 xy15 xy16 xy17 xy18 xy19 xy20=>(some (bF_.mk (ax_.mk xy10 xy17 xy11 xy12 xy13 xy18 xy14 xy15 xy16) xy19 xy20))) n list 0 0 0 false 0 false 0 0 xr1.q.table xr1.q.order xr1.q.down xr1.q.first xr1.q.kids xr1.q.kidTable xr1.q.kidCol xr1.q.where_ xr1.q.show_ xr1.rows xr1.kids))
def dW_:Nat→cB_→(List a0_)→Option cB_
 |0,_,_=>none
 |n+1,x,list=>
  ((dR_ n x).bind fun xr1=>((aU_ n x.view list).bind fun xr2=>(some { xr1 with view:=xr2,version:=(W (x.version+1)) })))
def as_.tail10 (n:Nat) (kn:Int→(List Int)→Int→Int→Int→Int→Int→Bool→Int→Bool→Int→Int→Int→Int→Int→Bool→Int→Bool→Int→Int→Int→Bool→(List Int)→Int→(List (List TRow))→Int→(List cj_)→Int→Bool→Int→(List Int)→Bool→Int→Int→(List TRow)→(List TKid)→Int→Int→(List cj_)→Int→Bool→Int→(List Int)→Bool→Int→Int→(List TRow)→(List TKid)→Int→Bool→Option (aw_ × cB_ × af_)) (i:Int) (t29:Bool) (c0:List Int) (c1:Int) (c2:Int) (t21:Int) (t30:Int) (t32:Int) (t33:Bool) (t34:Int) (t36:Bool) (t37:Int) (t38:Int) (t311:Int) (t312:Int) (t314:Int) (t315:Bool) (t316:Int) (t318:Bool) (t319:Int) (t320:Int) (t323:Int) (t324:Bool) (s0:List Int) (s1:Int) (s2:List (List TRow)) (x0:Int) (x1:List cj_) (x2:Int) (x3:Bool) (x4:Int) (x5:List Int) (x6:Bool) (x7:Int) (x8:Int) (x9:List TRow) (x10:List TKid) (x11:Int) (x12:Int) (x13:List cj_) (x14:Int) (x15:Bool) (x16:Int) (x17:List Int) (x18:Bool) (x19:Int) (x20:Int) (x21:List TRow) (x22:List TKid) (x23:Int) (x24:Bool):Option (aw_ × cB_ × af_) :=
 (cond t29 ((df_ n (cB_.mk (bF_.mk (ax_.mk x0 x1 x2 x3 x4 x5 x6 x7 x8) x9 x10) x11 (bF_.mk (ax_.mk x12 x13 x14 x15 x16 x17 x18 x19 x20) x21 x22) x23 x24)).bind fun xr6=>(kn i c0 c1 c2 t21 t30 t32 t33 t34 t36 t37 t38 t311 t312 t314 t315 t316 t318 t319 t320 t323 t324 s0 s1 s2 xr6.1.view.q.table xr6.1.view.q.where_ xr6.1.view.q.order xr6.1.view.q.down xr6.1.view.q.first xr6.1.view.q.show_ xr6.1.view.q.kids xr6.1.view.q.kidTable xr6.1.view.q.kidCol xr6.1.view.rows xr6.1.view.kids xr6.1.version xr6.1.last.q.table xr6.1.last.q.where_ xr6.1.last.q.order xr6.1.last.q.down xr6.1.last.q.first xr6.1.last.q.show_ xr6.1.last.q.kids xr6.1.last.q.kidTable xr6.1.last.q.kidCol xr6.1.last.rows xr6.1.last.kids xr6.1.lastVersion xr6.1.began)) (kn i c0 c1 c2 t21 t30 t32 t33 t34 t36 t37 t38 t311 t312 t314 t315 t316 t318 t319 t320 t323 t324 s0 s1 s2 x0 x1 x2 x3 x4 x5 x6 x7 x8 x9 x10 x11 x12 x13 x14 x15 x16 x17 x18 x19 x20 x21 x22 x23 x24))
abbrev as_.K5:Type:=(List Int)→Int→Int→Int→Int→Int→Bool→Int→Bool→Int→Int→Int→Int→Int→Bool→Int→Bool→Int→Int→Int→Bool→(List Int)→Int→(List (List TRow))→Int→(List cj_)→Int→Bool→Int→(List Int)→Bool→Int→Int→(List TRow)→(List TKid)→Int→Int→(List cj_)→Int→Bool→Int→(List Int)→Bool→Int→Int→(List TRow)→(List TKid)→Int→Bool→Option (aw_ × cB_ × af_)
abbrev as_.T5:Type:=Int→(List Int)→Int→Int→Int→Int→Int→Bool→Int→Bool→Int→Int→Int→Int→Int→Bool→Int→Bool→Int→Int→Int→Bool→(List Int)→Int→(List (List TRow))→Int→(List cj_)→Int→Bool→Int→(List Int)→Bool→Int→Int→(List TRow)→(List TKid)→Int→Int→(List cj_)→Int→Bool→Int→(List Int)→Bool→Int→Int→(List TRow)→(List TKid)→Int→Bool→Option (aw_ × cB_ × af_)
def as_.step5 (n:Nat) (k0:as_.K5) (back:as_.T5):as_.T5:=fun i c0 c1 c2 t21 t30 t32 t33 t34 t36 t37 t38 t311 t312 t314 t315 t316 t318 t319 t320 t323 t324 s0 s1 s2 x0 x1 x2 x3 x4 x5 x6 x7 x8 x9 x10 x11 x12 x13 x14 x15 x16 x17 x18 x19 x20 x21 x22 x23 x24=>
 ((an_ n (af_.mk c0 c1 c2) 6).bind fun xr4=>(cond (decide (i<xr4.1)) ((cA_ n xr4.2 2).bind fun xr5=>(as_.tail10 n (fun xy7 xy8 xy9 xy10 xy11 xy12 xy13 xy14 xy15 xy16 xy17 xy18 xy19 xy20 xy21 xy22 xy23 xy24 xy25 xy26 xy27 xy28 xy29 xy30 xy31 xy32 xy33 xy34 xy35 xy36 xy37 xy38 xy39 xy40 xy41 xy42 xy43 xy44 xy45 xy46 xy47 xy48 xy49 xy50 xy51 xy52 xy53 xy54 xy55 xy56=>((aB_ n (af_.mk xy8 xy9 xy10) (aw_.mk (bi_.mk xy29) xy30 xy31)).bind fun xr57=>((bD_ n (aw_.mk (bi_.mk xy29) xy30 xy31) xr57.1).bind fun xr58=>(cond xr58.2.2 ((dW_ n (cB_.mk (bF_.mk (ax_.mk xy32 xy33 xy34 xy35 xy36 xy37 xy38 xy39 xy40) xy41 xy42) xy43 (bF_.mk (ax_.mk xy44 xy45 xy46 xy47 xy48 xy49 xy50 xy51 xy52) xy53 xy54) xy55 xy56) xr58.2.1).bind fun xr59=>(back (W (xy7+1)) xr57.2.b xr57.2.i xr57.2.h xy11 xy12 xy13 xy14 xy15 xy16 xy17 xy18 xy19 xy20 xy21 xy22 xy23 xy24 xy25 xy26 xy27 xy28 xr58.1.schema.cols xr58.1.version xr58.1.tables xr59.view.q.table xr59.view.q.where_ xr59.view.q.order xr59.view.q.down xr59.view.q.first xr59.view.q.show_ xr59.view.q.kids xr59.view.q.kidTable xr59.view.q.kidCol xr59.view.rows xr59.view.kids xr59.version xr59.last.q.table xr59.last.q.where_ xr59.last.q.order xr59.last.q.down xr59.last.q.first xr59.last.q.show_ xr59.last.q.kids xr59.last.q.kidTable xr59.last.q.kidCol xr59.last.rows xr59.last.kids xr59.lastVersion xr59.began)) (back (W (xy7+1)) xr57.2.b xr57.2.i xr57.2.h xy11 xy12 xy13 xy14 xy15 xy16 xy17 xy18 xy19 xy20 xy21 xy22 xy23 xy24 xy25 xy26 xy27 xy28 xy29 xy30 xy31 xy32 xy33 xy34 xy35 xy36 xy37 xy38 xy39 xy40 xy41 xy42 xy43 xy44 xy45 xy46 xy47 xy48 xy49 xy50 xy51 xy52 xy53 xy54 xy55 xy56))))) i xr5.1 xr5.2.b xr5.2.i xr5.2.h t21 t30 t32 t33 t34 t36 t37 t38 t311 t312 t314 t315 t316 t318 t319 t320 t323 t324 s0 s1 s2 x0 x1 x2 x3 x4 x5 x6 x7 x8 x9 x10 x11 x12 x13 x14 x15 x16 x17 x18 x19 x20 x21 x22 x23 x24)) (k0 xr4.2.b xr4.2.i xr4.2.h t21 t30 t32 t33 t34 t36 t37 t38 t311 t312 t314 t315 t316 t318 t319 t320 t323 t324 s0 s1 s2 x0 x1 x2 x3 x4 x5 x6 x7 x8 x9 x10 x11 x12 x13 x14 x15 x16 x17 x18 x19 x20 x21 x22 x23 x24)))
def as_.loop5 (n:Nat) (k0:as_.K5) (N:Nat):as_.T5:=ct_ (fun _ _ _ _ _ _ _ _ _ _ _ _ _ _ _ _ _ _ _ _ _ _ _ _ _ _ _ _ _ _ _ _ _ _ _ _ _ _ _ _ _ _ _ _ _ _ _ _ _ _=>none) (as_.step5 n k0) N
def as_.tail1 (n:Nat) (c0:List Int) (c1:Int) (c2:Int) (t21:Int) (t30:Int) (t32:Int) (t33:Bool) (t34:Int) (t36:Bool) (t37:Int) (t38:Int) (t311:Int) (t312:Int) (t314:Int) (t315:Bool) (t316:Int) (t318:Bool) (t319:Int) (t320:Int) (t323:Int) (t324:Bool) (s0:List Int) (s1:Int) (s2:List (List TRow)):Option (aw_ × cB_ × af_) :=
 ((ai_ n (af_.mk c0 c1 c2) (bi_.mk s0)).bind fun xr2=>((d9_ n (aw_.mk (bi_.mk s0) s1 s2) xr2.1).bind fun xr3=>(as_.loop5 n (fun xy60 xy61 xy62 xy63 xy64 xy65 xy66 xy67 xy68 xy69 xy70 xy71 xy72 xy73 xy74 xy75 xy76 xy77 xy78 xy79 xy80 xy81 xy82 xy83 xy84 xy85 xy86 xy87 xy88 xy89 xy90 xy91 xy92 xy93 xy94 xy95 xy96 xy97 xy98 xy99 xy100 xy101 xy102 xy103 xy104 xy105 xy106 xy107 xy108=>(some ((aw_.mk (bi_.mk xy81) xy82 xy83),(cB_.mk (bF_.mk (ax_.mk xy84 xy85 xy86 xy87 xy88 xy89 xy90 xy91 xy92) xy93 xy94) xy95 (bF_.mk (ax_.mk xy96 xy97 xy98 xy99 xy100 xy101 xy102 xy103 xy104) xy105 xy106) xy107 xy108),(af_.mk xy60 xy61 xy62)))) n 0 xr2.2.b xr2.2.i xr2.2.h t21 t30 t32 t33 t34 t36 t37 t38 t311 t312 t314 t315 t316 t318 t319 t320 t323 t324 s0 s1 s2 xr3.1.view.q.table xr3.1.view.q.where_ xr3.1.view.q.order xr3.1.view.q.down xr3.1.view.q.first xr3.1.view.q.show_ xr3.1.view.q.kids xr3.1.view.q.kidTable xr3.1.view.q.kidCol xr3.1.view.rows xr3.1.view.kids xr3.1.version xr3.1.last.q.table xr3.1.last.q.where_ xr3.1.last.q.order xr3.1.last.q.down xr3.1.last.q.first xr3.1.last.q.show_ xr3.1.last.q.kids xr3.1.last.q.kidTable xr3.1.last.q.kidCol xr3.1.last.rows xr3.1.last.kids xr3.1.lastVersion xr3.1.began)))
def as_:Nat→af_→Option (aw_ × cB_ × af_)
 |0,_=>none
 |n+1,c=>
  ((aP_ n c).bind fun xr1=>(as_.tail1 n xr1.2.b xr1.2.i xr1.2.h 0 0 0 false 0 false 0 0 0 0 0 false 0 false 0 0 0 false xr1.1.schema.cols xr1.1.version xr1.1.tables))
def c2_:Nat→af_→Option (aD_ × af_)
 |0,_=>none
 |n+1,c=>
  ((cA_ n c 3).bind fun xr1=>(cond xr1.1 ((an_ n xr1.2 9).bind fun xr2=>((ac_ n xr2.2 4).bind fun xr3=>(some ((aD_.mk 1 xr2.1 0 (aa_.re xr3.1) ([]:List TOp)),xr3.2)))) ((as_ n xr1.2).bind fun xr4=>((df_ n xr4.2.1).bind fun xr5=>(cond (!xr5.2.2) (some ((aD_.mk 1 3 0 (aa_.mk 0 0 [] [] []) ([]:List TOp)),xr4.2.2)) (some ({ xr5.2.1 with doc:=(aa_.re xr5.2.1.doc) },xr4.2.2)))))))
abbrev bQ_.K4:Type:=(List TOp)→Int→Int→Bs→Int→Int→Bs→(List aa_)→Option (aa_ × Bool)
abbrev bQ_.T4:Type:=(List TOp)→Int→Int→Int→Bs→Int→Int→Bs→(List aa_)→Option (aa_ × Bool)
def bQ_.step4 (n:Nat) (k0:bQ_.K4) (back:bQ_.T4):bQ_.T4:=fun list i t20 t21 t22 j0 j1 j2 j3=>
 (cond (decide (i<(list.length:Int))) (inB i list.length ((dX_ n { (list.getD i.toNat TOp.dflt) with value:=(aa_.re ((list.getD i.toNat TOp.dflt).value)) }).bind fun xr1=>(cond (xr1.kind == 0) (some ((aa_.mk j0 j1 j2 j3 ([]:List Bs)),false)) (bm_ (j3.length+([(aa_.re xr1)]:List aa_).length) 80 (back list (W (i+1)) t20 t21 t22 j0 j1 j2 (j3++([(aa_.re xr1)]:List aa_))))))) (k0 list t20 t21 t22 j0 j1 j2 j3))
def bQ_.loop4 (n:Nat) (k0:bQ_.K4) (N:Nat):bQ_.T4:=ct_ (fun _ _ _ _ _ _ _ _ _=>none) (bQ_.step4 n k0) N
def bQ_:Nat→(List TOp)→Option (aa_ × Bool)
 |0,_=>none
 |n+1,list=>
  (bQ_.loop4 n (fun xy2 xy3 xy4 xy5 xy6 xy7 xy8 xy9=>(cond (decide ((xy2.length:Int)≤40)) ((cY_ n (aa_.mk xy6 xy7 xy8 xy9 [])).bind fun xr10=>(some ((aa_.mk xy6 xy7 xy8 xy9 ([]:List Bs)),(!(xr10 == []))))) (some ((aa_.mk xy6 xy7 xy8 xy9 ([]:List Bs)),false)))) n list 0 0 0 [] 4 0 [] ([]:List aa_))
def eb_:Nat→aD_→Option Bool
 |0,_=>none
 |n+1,e=>
  ((b8_ n e.version 0 100000).bind fun xr1=>(cond (!xr1) (some false) (cond (e.kind == 1) (cond (e.base == 0) (cond ((e.ops.length:Int) == 0) ((cY_ n (aa_.re e.doc)).bind fun xr2=>(some (!(xr2 == [])))) (some false)) (some false)) (cond (e.kind == 2) ((bQ_ n e.ops).bind fun xr3=>(cond xr3.2 ((b8_ n e.base 0 (W (e.version - 1))).bind fun xr4=>(cond xr4 ((aq_ n (aa_.re e.doc) (aa_.mk 0 0 [] [] [])).bind fun xr5=>(some xr5)) (some false))) (some false))) (some false)))))
def da_:Nat→aD_→Option Bs
 |0,_=>none
 |n+1,e=>
  ((eb_ n { e with doc:=(aa_.re e.doc) }).bind fun xr1=>(cond (!xr1) (some []) ((aV_ n e.version).bind fun xr2=>(cond (decide ([105,100,58,32].length+xr2.length≤9223372036854775807)) (cond (decide ((([105,100,58,32]:Bs)++xr2).length+[10].length≤9223372036854775807)) (cond (e.kind == 1) (cond (decide ([101,118,101,110,116,58,32,115,110,97,112,10].length+((([105,100,58,32]:Bs)++xr2)++[10]).length≤9223372036854775807)) (let xv3:Bs:=(([101,118,101,110,116,58,32,115,110,97,112,10]:Bs)++((([105,100,58,32]:Bs)++xr2)++[10]));(cond (decide (xv3.length+[100,97,116,97,58,32].length≤9223372036854775807)) ((cY_ n (aa_.re e.doc)).bind fun xr4=>(cond (decide ((xv3++[100,97,116,97,58,32]).length+xr4.length≤9223372036854775807)) (cond (decide (((xv3++[100,97,116,97,58,32])++xr4).length+[10,10].length≤9223372036854775807)) (some (((xv3++[100,97,116,97,58,32])++xr4)++[10,10])) none) none)) none)) none) ((bQ_ n e.ops).bind fun xr5=>(cond (decide ([101,118,101,110,116,58,32,112,97,116,99,104,10].length+((([105,100,58,32]:Bs)++xr2)++[10]).length≤9223372036854775807)) (let xv6:Bs:=(([101,118,101,110,116,58,32,112,97,116,99,104,10]:Bs)++((([105,100,58,32]:Bs)++xr2)++[10]));(cond (decide (xv6.length+[98,97,115,101,58,32].length≤9223372036854775807)) ((aV_ n e.base).bind fun xr7=>(cond (decide ((xv6++[98,97,115,101,58,32]).length+xr7.length≤9223372036854775807)) (cond (decide (((xv6++[98,97,115,101,58,32])++xr7).length+[10,100,97,116,97,58,32].length≤9223372036854775807)) (let xv8:Bs:=(((xv6++[98,97,115,101,58,32])++xr7)++[10,100,97,116,97,58,32]);((cY_ n (aa_.re xr5.1)).bind fun xr9=>(cond (decide (xv8.length+xr9.length≤9223372036854775807)) (cond (decide ((xv8++xr9).length+[10,10].length≤9223372036854775807)) (some ((xv8++xr9)++[10,10])) none) none))) none) none)) none)) none))) none) none))))
abbrev aT_.K4:Type:=Bs→(List Int)→Int→Int→Option (Bs × af_)
abbrev aT_.T4:Type:=Bs→Int→(List Int)→Int→Int→Option (Bs × af_)
def aT_.step4 (n:Nat) (k0:aT_.K4) (back:aT_.T4):aT_.T4:=fun out_1 i c0 c1 c2=>
 ((an_ n (af_.mk c0 c1 c2) 4).bind fun xr1=>(cond (decide (i<xr1.1)) ((c2_ n xr1.2).bind fun xr2=>((da_ n { xr2.1 with doc:=(aa_.re xr2.1.doc) }).bind fun xr3=>(cond (decide (out_1.length+xr3.length≤9223372036854775807)) (back (out_1++xr3) (W (i+1)) xr2.2.b xr2.2.i xr2.2.h) none))) (k0 out_1 xr1.2.b xr1.2.i xr1.2.h)))
def aT_.loop4 (n:Nat) (k0:aT_.K4) (N:Nat):aT_.T4:=ct_ (fun _ _ _ _ _=>none) (aT_.step4 n k0) N
def aT_:Nat→af_→Option (Bs × af_)
 |0,_=>none
 |n+1,c=>
  (aT_.loop4 n (fun xy4 xy5 xy6 xy7=>(some (xy4,(af_.mk xy5 xy6 xy7)))) n [] 0 c.b c.i c.h)
abbrev bt_.K11:Type:=Bs→Bs→Bool→Bs→Bool→Option (aC_ × Bs)
abbrev bt_.T11:Type:=Bs→Bs→Bool→(List Int)→Int→Int→Bs→Bool→Option (aC_ × Bs)
def bt_.step11 (n:Nat) (k1:bt_.K11) (back:bt_.T11):bt_.T11:=fun text t20 t21 c0 c1 c2 s0 s1=>
 (cond (decide ((text.length:Int)<9000)) ((cA_ n (af_.mk c0 c1 c2) 3).bind fun xr6=>(cond xr6.1 (cond (decide (text.length+[48,49,50,51,52,53,54,55,56,57,48,49,50,51,52,53,54,55,56,57,48,49,50,51,52,53,54,55,56,57,48,49,50,51,52,53,54,55,56,57,48,49,50,51,52,53,54,55,56,57,48,49,50,51,52,53,54,55,56,57,48,49,50,51,52,53,54,55,56,57,48,49,50,51,52,53,54,55,56,57,48,49,50,51,52,53,54,55,56,57,48,49,50,51,52,53,54,55,56,57,48,49,50,51,52,53,54,55,56,57,48,49,50,51,52,53,54,55,56,57,48,49,50,51,52,53,54,55,56,57].length≤9223372036854775807)) (let xv7:Bs:=(text++[48,49,50,51,52,53,54,55,56,57,48,49,50,51,52,53,54,55,56,57,48,49,50,51,52,53,54,55,56,57,48,49,50,51,52,53,54,55,56,57,48,49,50,51,52,53,54,55,56,57,48,49,50,51,52,53,54,55,56,57,48,49,50,51,52,53,54,55,56,57,48,49,50,51,52,53,54,55,56,57,48,49,50,51,52,53,54,55,56,57,48,49,50,51,52,53,54,55,56,57,48,49,50,51,52,53,54,55,56,57,48,49,50,51,52,53,54,55,56,57,48,49,50,51,52,53,54,55,56,57]);(cond (decide (xv7.length+xv7.length≤9223372036854775807)) (back (xv7++xv7) t20 t21 xr6.2.b xr6.2.i xr6.2.h s0 s1) none)) none) (k1 text t20 t21 s0 s1))) (k1 text t20 t21 s0 s1))
def bt_.loop11 (n:Nat) (k1:bt_.K11) (N:Nat):bt_.T11:=ct_ (fun _ _ _ _ _ _ _ _=>none) (bt_.step11 n k1) N
def bt_:Nat→(List Int)→Option (aC_ × Bs)
 |0,_=>none
 |n+1,e4_=>
  ((cf_ n e4_).bind fun xr1=>((aT_ n xr1).bind fun xr2=>((an_ n xr2.2 (W ((xr2.1.length:Int)+1))).bind fun xr3=>(gf_ 0 xr3.1 xr2.1.length (gf_ xr3.1 (xr2.1.length:Int) xr2.1.length ((an_ n xr3.2 12).bind fun xr4=>(cond (xr4.1 == 0) (some ((aC_.mk ((xr2.1.take xr3.1.toNat).drop 0) true),((xr2.1.take (xr2.1.length:Int).toNat).drop xr3.1.toNat))) (cond (xr4.1 == 1) ((dF_ n xr4.2 ([[120,10,10],[10,10],[101,118,101,110,116,58,32,115,110,97,112,10]]:List Bs)).bind fun xr5=>(cond (decide (((xr2.1.take (xr2.1.length:Int).toNat).drop xr3.1.toNat).length+xr5.1.length≤9223372036854775807)) (some ((aC_.mk ((xr2.1.take xr3.1.toNat).drop 0) false),(((xr2.1.take (xr2.1.length:Int).toNat).drop xr3.1.toNat)++xr5.1))) none)) (cond (xr4.1 == 2) (bt_.loop11 n (fun xy8 xy9 xy10 xy11 xy12=>(some ((aC_.mk xy11 xy12),xy8))) n ((xr2.1.take (xr2.1.length:Int).toNat).drop xr3.1.toNat) [] false xr4.2.b xr4.2.i xr4.2.h ((xr2.1.take xr3.1.toNat).drop 0) false) (some ((aC_.mk ((xr2.1.take xr3.1.toNat).drop 0) false),((xr2.1.take (xr2.1.length:Int).toNat).drop xr3.1.toNat))))))))))))
def strings_Index:Nat→Bs→Bs→Option Int
 |0,_,_=>none
 |_+1,s,a=>oy_ s a
def bn_:Nat→Bs→Bs→Option Bool
 |0,_,_=>none
 |n+1,s,prefix1=>
  (cond (decide ((s.length:Int)≥(prefix1.length:Int))) (gf_ 0 (prefix1.length:Int) s.length (some (((s.take (prefix1.length:Int).toNat).drop 0) == prefix1))) (some false))
def bU_:Nat→Bs→Bs→Option (Bs × Bool)
 |0,_,_=>none
 |n+1,s,prefix1=>
  ((bn_ n s prefix1).bind fun xr1=>(cond (!xr1) (some (s,false)) (gf_ (prefix1.length:Int) (s.length:Int) s.length (some (((s.take (s.length:Int).toNat).drop (prefix1.length:Int).toNat),true)))))
def cP_:Nat→Bs→Bs→Option (Bs × Bool)
 |0,_,_=>none
 |n+1,s,prefix1=>
  ((bU_ n s prefix1).bind fun xr1=>(some (xr1.1,xr1.2)))
def ca_:Nat→Bs→Bs→Option Int
 |0,_,_=>none
 |_+1,s,a=>r3_ s a
def co_:Nat→Bs→Bs→Option (Bs × Bs × Bool)
 |0,_,_=>none
 |n+1,s,sep=>
  ((ca_ n s sep).bind fun xr1=>(cond (decide (xr1≥0)) (gf_ 0 xr1 s.length (gf_ (W (xr1+(sep.length:Int))) (s.length:Int) s.length (let xv2:Bs:=((s.take (s.length:Int).toNat).drop (W (xr1+(sep.length:Int))).toNat);(some (((s.take xr1.toNat).drop 0),xv2,true))))) (some (s,[],false))))
def ew_:Nat→Bs→Bs→Option (Bs × Bs × Bool)
 |0,_,_=>none
 |n+1,s,sep=>
  ((co_ n s sep).bind fun xr1=>(some (xr1.1,xr1.2.1,xr1.2.2)))
def bJ_:Nat→Bs→Bs→Option Bs
 |0,_,_=>none
 |n+1,s,prefix1=>
  ((bn_ n s prefix1).bind fun xr1=>(cond xr1 (gf_ (prefix1.length:Int) (s.length:Int) s.length (some ((s.take (s.length:Int).toNat).drop (prefix1.length:Int).toNat))) (some s)))
def cJ_:Nat→Bs→Bs→Option Bs
 |0,_,_=>none
 |n+1,s,prefix1=>
  ((bJ_ n s prefix1).bind fun xr1=>(some xr1))
def dq_:Nat→Bs→Bs→Option (Bs × Bs)
 |0,_,_=>none
 |n+1,text,word=>
  ((ew_ n text [10]).bind fun xr1=>((cJ_ n xr1.1 word).bind fun xr2=>(some (xr2,xr1.2.1))))
def cR_:Nat→Bs→Option (Int × Bool)
 |0,_=>none
 |_+1,s=>nAtoi s
def bw_:Nat→aX_→Bs→Option (Bool × aX_)
 |0,_,_=>none
 |n+1,r,text=>
  ((cP_ n r.text text).bind fun xr1=>(cond xr1.2 (some ((!r.bad),(aX_.mk xr1.1 r.bad))) (some (false,(aX_.mk xr1.1 r.bad)))))
def c1_:Nat→Bs→Bs→Option Bool
 |0,_,_=>none
 |n+1,s,prefix1=>
  ((bn_ n s prefix1).bind fun xr1=>(some xr1))
def cq_:Nat→aX_→Bs→Option aX_
 |0,_,_=>none
 |n+1,r,text=>
  ((bw_ n r text).bind fun xr1=>(cond (!xr1.1) (some (aX_.mk xr1.2.text true)) (some xr1.2)))
abbrev av_.K4:Type:=Bs→Bool→Option (Bs × aX_)
abbrev av_.T4:Type:=Bs→Bool→(List Int)→Option (Bs × aX_)
def av_.step4 (n:Nat) (k0:av_.K4) (back:av_.T4):av_.T4:=fun r0 r1 out_1=>
 (cond (!r1) ((bw_ n (aX_.mk r0 r1) [34]).bind fun xr2=>(cond xr2.1 (some ((hL_ out_1),xr2.2)) ((bw_ n xr2.2 [92]).bind fun xr3=>(cond (xr3.2.text == []) (k0 xr3.2.text true) (inB 0 xr3.2.text.length (bm_ (out_1.length+([((xr3.2.text.getD 0 0).toNat:Int)]:List Int).length) 1 (gf_ 1 (xr3.2.text.length:Int) xr3.2.text.length (back ((xr3.2.text.take (xr3.2.text.length:Int).toNat).drop 1) xr3.2.bad (out_1++([((xr3.2.text.getD 0 0).toNat:Int)]:List Int)))))))))) (k0 r0 r1))
def av_.loop4 (n:Nat) (k0:av_.K4) (N:Nat):av_.T4:=ct_ (fun _ _ _=>none) (av_.step4 n k0) N
def av_:Nat→aX_→Option (Bs × aX_)
 |0,_=>none
 |n+1,r=>
  ((cq_ n r [34]).bind fun xr1=>(av_.loop4 n (fun xy4 xy5=>(some ([],(aX_.mk xy4 xy5)))) n xr1.text xr1.bad ([]:List Int)))
def aN_:Nat→Int→Int→Int→Option Bool
 |0,_,_,_=>none
 |n+1,n1,low,high=>
  (cond (decide (n1≥low)) (some (decide (n1≤high))) (some false))
abbrev ap_.K3:Type:=Int→Bs→Bool→Int→Int→Bs→Option (aa_ × aX_)
abbrev ap_.T3:Type:=Int→Bs→Bool→Int→Int→Bs→Option (aa_ × aX_)
def ap_.step3 (n:Nat) (k0:ap_.K3) (back:ap_.T3):ap_.T3:=fun n_1 r0 r1 t20 t21 t22=>
 (cond (decide (n_1<(r0.length:Int))) (inB n_1 r0.length ((aN_ n (W (((r0.getD n_1.toNat 0).toNat:Int))) 48 57).bind fun xr1=>(cond xr1 (back (W (n_1+1)) r0 r1 t20 t21 t22) (cond (n_1 == 0) (inB 0 r0.length (cond (((r0.getD 0 0).toNat:Int) == 45) (back (W (n_1+1)) r0 r1 t20 t21 t22) (k0 n_1 r0 r1 t20 t21 t22))) (k0 n_1 r0 r1 t20 t21 t22))))) (k0 n_1 r0 r1 t20 t21 t22))
def ap_.loop3 (n:Nat) (k0:ap_.K3) (N:Nat):ap_.T3:=ct_ (fun _ _ _ _ _ _=>none) (ap_.step3 n k0) N
def ap_:Nat→aX_→Option (aa_ × aX_)
 |0,_=>none
 |n+1,r=>
  (ap_.loop3 n (fun xy2 xy3 xy4 xy5 xy6 xy7=>(gf_ 0 xy2 xy3.length ((cR_ n ((xy3.take xy2.toNat).drop 0)).bind fun xr8=>(cond (!xr8.2) (gf_ xy2 (xy3.length:Int) xy3.length (some ((aa_.mk 2 xr8.1 [] ([]:List aa_) ([]:List Bs)),(aX_.mk ((xy3.take (xy3.length:Int).toNat).drop xy2.toNat) true)))) (gf_ xy2 (xy3.length:Int) xy3.length (some ((aa_.mk 2 xr8.1 [] ([]:List aa_) ([]:List Bs)),(aX_.mk ((xy3.take (xy3.length:Int).toNat).drop xy2.toNat) xy4)))))))) n 0 r.text r.bad 0 0 [])
abbrev am_.K7_1:Type:=Bs→Bs→Bool→Int→Int→Bs→Int→Int→Bs→(List aa_)→(List Bs)→Option (aa_ × aX_)
abbrev am_.T7:Type:=Int→Bs→Int→Bool→Bs→Bool→Int→Int→Bs→Int→Int→Bs→(List aa_)→(List Bs)→Option (aa_ × aX_)
def am_.step7 (n:Nat) (impl_reader_value_:aX_→Int→Option (aa_ × aX_)) (k0:am_.K7_1) (back:am_.T7):am_.T7:=fun kind end_1 deep more r0 r1 t80 t81 t82 j0 j1 j2 j3 j4=>
 (cond more (cond (!r1) (cond (kind == 5) ((av_ n (aX_.mk r0 r1)).bind fun xr2=>((cq_ n xr2.2 [58]).bind fun xr3=>(bm_ (j4.length+([xr2.1]:List Bs).length) 16 ((impl_reader_value_ xr3 (W (deep - 1))).bind fun xr4=>(bm_ (j3.length+([(aa_.re xr4.1)]:List aa_).length) 80 ((bw_ n xr4.2 [44]).bind fun xr5=>(back kind end_1 deep xr5.1 xr5.2.text xr5.2.bad t80 t81 t82 j0 j1 j2 (j3++([(aa_.re xr4.1)]:List aa_)) (j4++([xr2.1]:List Bs))))))))) ((impl_reader_value_ (aX_.mk r0 r1) (W (deep - 1))).bind fun xr6=>(bm_ (j3.length+([(aa_.re xr6.1)]:List aa_).length) 80 ((bw_ n xr6.2 [44]).bind fun xr7=>(back kind end_1 deep xr7.1 xr7.2.text xr7.2.bad t80 t81 t82 j0 j1 j2 (j3++([(aa_.re xr6.1)]:List aa_)) j4))))) (k0 end_1 r0 r1 t80 t81 t82 j0 j1 j2 j3 j4)) (k0 end_1 r0 r1 t80 t81 t82 j0 j1 j2 j3 j4))
def am_.loop7 (n:Nat) (impl_reader_value_:aX_→Int→Option (aa_ × aX_)) (k0:am_.K7_1) (N:Nat):am_.T7:=ct_ (fun _ _ _ _ _ _ _ _ _ _ _ _ _ _=>none) (am_.step7 n impl_reader_value_ k0) N
mutual
def aZ_:Nat→aX_→Int→Option (aa_ × aX_)
 |0,_,_=>none
 |n+1,r,deep=>
  (cond (decide (deep<1)) (some ((aa_.mk 0 0 [] ([]:List aa_) ([]:List Bs)),(aX_.mk r.text true))) (cond r.bad (some ((aa_.mk 0 0 [] ([]:List aa_) ([]:List Bs)),(aX_.mk r.text true))) ((bw_ n r [110,117,108,108]).bind fun xr1=>(cond xr1.1 (some ((aa_.mk 0 0 [] ([]:List aa_) ([]:List Bs)),xr1.2)) ((bw_ n xr1.2 [102,97,108,115,101]).bind fun xr2=>(cond xr2.1 (some ((aa_.mk 1 0 [] ([]:List aa_) ([]:List Bs)),xr2.2)) ((bw_ n xr2.2 [116,114,117,101]).bind fun xr3=>(cond xr3.1 (some ((aa_.mk 1 1 [] ([]:List aa_) ([]:List Bs)),xr3.2)) ((c1_ n xr3.2.text [34]).bind fun xr4=>(cond xr4 ((av_ n xr3.2).bind fun xr5=>(some ((aa_.mk 3 0 xr5.1 ([]:List aa_) ([]:List Bs)),xr5.2))) ((bw_ n xr3.2 [91]).bind fun xr6=>(cond xr6.1 ((am_ n xr6.2 4 [93] deep).bind fun xr7=>(some ((aa_.re xr7.1),xr7.2))) ((bw_ n xr6.2 [123]).bind fun xr8=>(cond xr8.1 ((am_ n xr8.2 5 [125] deep).bind fun xr9=>(some ((aa_.re xr9.1),xr9.2))) ((ap_ n xr8.2).bind fun xr10=>(some ((aa_.re xr10.1),xr10.2)))))))))))))))))
def am_:Nat→aX_→Int→Bs→Int→Option (aa_ × aX_)
 |0,_,_,_,_=>none
 |n+1,r,kind,end1,deep=>
  ((bw_ n r end1).bind fun xr1=>(cond xr1.1 (some ((aa_.mk kind 0 [] ([]:List aa_) ([]:List Bs)),xr1.2)) (am_.loop7 n (aZ_ n) (fun xy8 xy9 xy10 xy11 xy12 xy13 xy14 xy15 xy16 xy17 xy18=>((cq_ n (aX_.mk xy9 xy10) xy8).bind fun xr19=>(some ((aa_.mk xy14 xy15 xy16 xy17 xy18),xr19)))) n kind end1 deep true xr1.2.text xr1.2.bad 0 0 [] kind 0 [] ([]:List aa_) ([]:List Bs))))
end
def bp_:Nat→Int→Option Bool
 |0,_=>none
 |n+1,n1=>
  ((aN_ n n1 (-1000000000) 1000000000).bind fun xr1=>(some xr1))
abbrev ay_.T3:Type:=Bs→Int→Int→Option Bool
def ay_.step3 (n:Nat) (k0:Bs→Option Bool) (back:ay_.T3):ay_.T3:=fun s t5 t6=>
 (cond (decide (t6<t5)) (inB t6 s.length ((aN_ n (W (((s.getD t6.toNat 0).toNat:Int))) 32 126).bind fun xr1=>(cond (!xr1) (some false) (back s t5 (W (t6+1)))))) (k0 s))
def ay_.loop3 (n:Nat) (k0:Bs→Option Bool) (N:Nat):ay_.T3:=ct_ (fun _ _ _=>none) (ay_.step3 n k0) N
def ay_:Nat→Bs→Option Bool
 |0,_=>none
 |n+1,s=>
  (ay_.loop3 n (fun xy2=>(some (decide ((xy2.length:Int)≤60)))) n s (s.length:Int) 0)
abbrev au_.T3:Type:=(List Bs)→(List Bs)→Int→Int→Option Bool
def au_.step3 (n:Nat) (k0:Option Bool) (back:au_.T3):au_.T3:=fun names t5 t6 t7=>
 (cond (decide (t7<t6)) (inB t7 t5.length ((ay_ n (t5.getD t7.toNat [])).bind fun xr1=>(cond (!xr1) (some false) (cond (decide (t7 > 0)) (inB (W (t7 - 1)) names.length (let xv2:Bool:=(!Op.bytesLess (names.getD (W (t7 - 1)).toNat []) (t5.getD t7.toNat []));(cond xv2 (some false) (back names t5 t6 (W (t7+1)))))) (back names t5 t6 (W (t7+1))))))) k0)
def au_.loop3 (n:Nat) (k0:Option Bool) (N:Nat):au_.T3:=ct_ (fun _ _ _ _=>none) (au_.step3 n k0) N
def au_:Nat→(List Bs)→Option Bool
 |0,_=>none
 |n+1,names=>
  (au_.loop3 n (some true) n names names (names.length:Int) 0)
def eU_:Nat→aa_→Option Bool
 |0,_=>none
 |n+1,o=>
  (cond (decide ((o.list.length:Int) > 0)) (cond (o.kind != 4) (cond (o.kind != 5) (some false) (cond (decide ((o.names.length:Int) > 0)) (cond (o.kind != 5) (some false) (cond (o.n_ != 0) (cond (o.kind != 1) (cond (o.kind != 2) (some false) (cond (!(o.s == [])) (cond (o.kind != 3) (some false) (cond (o.kind == 1) ((aN_ n o.n_ 0 1).bind fun xr1=>(some xr1)) (cond (o.kind == 2) ((bp_ n o.n_).bind fun xr2=>(some xr2)) (cond (o.kind == 3) ((ay_ n o.s).bind fun xr3=>(some xr3)) (cond (o.kind == 5) (cond ((o.names.length:Int) == (o.list.length:Int)) ((au_ n o.names).bind fun xr4=>(some xr4)) (some false)) (cond (o.kind == 0) (some true) (some (o.kind == 4)))))))) (cond (o.kind == 1) ((aN_ n o.n_ 0 1).bind fun xr5=>(some xr5)) (cond (o.kind == 2) ((bp_ n o.n_).bind fun xr6=>(some xr6)) (cond (o.kind == 3) ((ay_ n o.s).bind fun xr7=>(some xr7)) (cond (o.kind == 5) (cond ((o.names.length:Int) == (o.list.length:Int)) ((au_ n o.names).bind fun xr8=>(some xr8)) (some false)) (cond (o.kind == 0) (some true) (some (o.kind == 4))))))))) (cond (!(o.s == [])) (cond (o.kind != 3) (some false) (cond (o.kind == 1) ((aN_ n o.n_ 0 1).bind fun xr9=>(some xr9)) (cond (o.kind == 2) ((bp_ n o.n_).bind fun xr10=>(some xr10)) (cond (o.kind == 3) ((ay_ n o.s).bind fun xr11=>(some xr11)) (cond (o.kind == 5) (cond ((o.names.length:Int) == (o.list.length:Int)) ((au_ n o.names).bind fun xr12=>(some xr12)) (some false)) (cond (o.kind == 0) (some true) (some (o.kind == 4)))))))) (cond (o.kind == 1) ((aN_ n o.n_ 0 1).bind fun xr13=>(some xr13)) (cond (o.kind == 2) ((bp_ n o.n_).bind fun xr14=>(some xr14)) (cond (o.kind == 3) ((ay_ n o.s).bind fun xr15=>(some xr15)) (cond (o.kind == 5) (cond ((o.names.length:Int) == (o.list.length:Int)) ((au_ n o.names).bind fun xr16=>(some xr16)) (some false)) (cond (o.kind == 0) (some true) (some (o.kind == 4))))))))) (cond (!(o.s == [])) (cond (o.kind != 3) (some false) (cond (o.kind == 1) ((aN_ n o.n_ 0 1).bind fun xr17=>(some xr17)) (cond (o.kind == 2) ((bp_ n o.n_).bind fun xr18=>(some xr18)) (cond (o.kind == 3) ((ay_ n o.s).bind fun xr19=>(some xr19)) (cond (o.kind == 5) (cond ((o.names.length:Int) == (o.list.length:Int)) ((au_ n o.names).bind fun xr20=>(some xr20)) (some false)) (cond (o.kind == 0) (some true) (some (o.kind == 4)))))))) (cond (o.kind == 1) ((aN_ n o.n_ 0 1).bind fun xr21=>(some xr21)) (cond (o.kind == 2) ((bp_ n o.n_).bind fun xr22=>(some xr22)) (cond (o.kind == 3) ((ay_ n o.s).bind fun xr23=>(some xr23)) (cond (o.kind == 5) (cond ((o.names.length:Int) == (o.list.length:Int)) ((au_ n o.names).bind fun xr24=>(some xr24)) (some false)) (cond (o.kind == 0) (some true) (some (o.kind == 4)))))))))) (cond (o.n_ != 0) (cond (o.kind != 1) (cond (o.kind != 2) (some false) (cond (!(o.s == [])) (cond (o.kind != 3) (some false) (cond (o.kind == 1) ((aN_ n o.n_ 0 1).bind fun xr25=>(some xr25)) (cond (o.kind == 2) ((bp_ n o.n_).bind fun xr26=>(some xr26)) (cond (o.kind == 3) ((ay_ n o.s).bind fun xr27=>(some xr27)) (cond (o.kind == 5) (cond ((o.names.length:Int) == (o.list.length:Int)) ((au_ n o.names).bind fun xr28=>(some xr28)) (some false)) (cond (o.kind == 0) (some true) (some (o.kind == 4)))))))) (cond (o.kind == 1) ((aN_ n o.n_ 0 1).bind fun xr29=>(some xr29)) (cond (o.kind == 2) ((bp_ n o.n_).bind fun xr30=>(some xr30)) (cond (o.kind == 3) ((ay_ n o.s).bind fun xr31=>(some xr31)) (cond (o.kind == 5) (cond ((o.names.length:Int) == (o.list.length:Int)) ((au_ n o.names).bind fun xr32=>(some xr32)) (some false)) (cond (o.kind == 0) (some true) (some (o.kind == 4))))))))) (cond (!(o.s == [])) (cond (o.kind != 3) (some false) (cond (o.kind == 1) ((aN_ n o.n_ 0 1).bind fun xr33=>(some xr33)) (cond (o.kind == 2) ((bp_ n o.n_).bind fun xr34=>(some xr34)) (cond (o.kind == 3) ((ay_ n o.s).bind fun xr35=>(some xr35)) (cond (o.kind == 5) (cond ((o.names.length:Int) == (o.list.length:Int)) ((au_ n o.names).bind fun xr36=>(some xr36)) (some false)) (cond (o.kind == 0) (some true) (some (o.kind == 4)))))))) (cond (o.kind == 1) ((aN_ n o.n_ 0 1).bind fun xr37=>(some xr37)) (cond (o.kind == 2) ((bp_ n o.n_).bind fun xr38=>(some xr38)) (cond (o.kind == 3) ((ay_ n o.s).bind fun xr39=>(some xr39)) (cond (o.kind == 5) (cond ((o.names.length:Int) == (o.list.length:Int)) ((au_ n o.names).bind fun xr40=>(some xr40)) (some false)) (cond (o.kind == 0) (some true) (some (o.kind == 4))))))))) (cond (!(o.s == [])) (cond (o.kind != 3) (some false) (cond (o.kind == 1) ((aN_ n o.n_ 0 1).bind fun xr41=>(some xr41)) (cond (o.kind == 2) ((bp_ n o.n_).bind fun xr42=>(some xr42)) (cond (o.kind == 3) ((ay_ n o.s).bind fun xr43=>(some xr43)) (cond (o.kind == 5) (cond ((o.names.length:Int) == (o.list.length:Int)) ((au_ n o.names).bind fun xr44=>(some xr44)) (some false)) (cond (o.kind == 0) (some true) (some (o.kind == 4)))))))) (cond (o.kind == 1) ((aN_ n o.n_ 0 1).bind fun xr45=>(some xr45)) (cond (o.kind == 2) ((bp_ n o.n_).bind fun xr46=>(some xr46)) (cond (o.kind == 3) ((ay_ n o.s).bind fun xr47=>(some xr47)) (cond (o.kind == 5) (cond ((o.names.length:Int) == (o.list.length:Int)) ((au_ n o.names).bind fun xr48=>(some xr48)) (some false)) (cond (o.kind == 0) (some true) (some (o.kind == 4))))))))))) (cond (decide ((o.names.length:Int) > 0)) (cond (o.kind != 5) (some false) (cond (o.n_ != 0) (cond (o.kind != 1) (cond (o.kind != 2) (some false) (cond (!(o.s == [])) (cond (o.kind != 3) (some false) (cond (o.kind == 1) ((aN_ n o.n_ 0 1).bind fun xr49=>(some xr49)) (cond (o.kind == 2) ((bp_ n o.n_).bind fun xr50=>(some xr50)) (cond (o.kind == 3) ((ay_ n o.s).bind fun xr51=>(some xr51)) (cond (o.kind == 5) (cond ((o.names.length:Int) == (o.list.length:Int)) ((au_ n o.names).bind fun xr52=>(some xr52)) (some false)) (cond (o.kind == 0) (some true) (some (o.kind == 4)))))))) (cond (o.kind == 1) ((aN_ n o.n_ 0 1).bind fun xr53=>(some xr53)) (cond (o.kind == 2) ((bp_ n o.n_).bind fun xr54=>(some xr54)) (cond (o.kind == 3) ((ay_ n o.s).bind fun xr55=>(some xr55)) (cond (o.kind == 5) (cond ((o.names.length:Int) == (o.list.length:Int)) ((au_ n o.names).bind fun xr56=>(some xr56)) (some false)) (cond (o.kind == 0) (some true) (some (o.kind == 4))))))))) (cond (!(o.s == [])) (cond (o.kind != 3) (some false) (cond (o.kind == 1) ((aN_ n o.n_ 0 1).bind fun xr57=>(some xr57)) (cond (o.kind == 2) ((bp_ n o.n_).bind fun xr58=>(some xr58)) (cond (o.kind == 3) ((ay_ n o.s).bind fun xr59=>(some xr59)) (cond (o.kind == 5) (cond ((o.names.length:Int) == (o.list.length:Int)) ((au_ n o.names).bind fun xr60=>(some xr60)) (some false)) (cond (o.kind == 0) (some true) (some (o.kind == 4)))))))) (cond (o.kind == 1) ((aN_ n o.n_ 0 1).bind fun xr61=>(some xr61)) (cond (o.kind == 2) ((bp_ n o.n_).bind fun xr62=>(some xr62)) (cond (o.kind == 3) ((ay_ n o.s).bind fun xr63=>(some xr63)) (cond (o.kind == 5) (cond ((o.names.length:Int) == (o.list.length:Int)) ((au_ n o.names).bind fun xr64=>(some xr64)) (some false)) (cond (o.kind == 0) (some true) (some (o.kind == 4))))))))) (cond (!(o.s == [])) (cond (o.kind != 3) (some false) (cond (o.kind == 1) ((aN_ n o.n_ 0 1).bind fun xr65=>(some xr65)) (cond (o.kind == 2) ((bp_ n o.n_).bind fun xr66=>(some xr66)) (cond (o.kind == 3) ((ay_ n o.s).bind fun xr67=>(some xr67)) (cond (o.kind == 5) (cond ((o.names.length:Int) == (o.list.length:Int)) ((au_ n o.names).bind fun xr68=>(some xr68)) (some false)) (cond (o.kind == 0) (some true) (some (o.kind == 4)))))))) (cond (o.kind == 1) ((aN_ n o.n_ 0 1).bind fun xr69=>(some xr69)) (cond (o.kind == 2) ((bp_ n o.n_).bind fun xr70=>(some xr70)) (cond (o.kind == 3) ((ay_ n o.s).bind fun xr71=>(some xr71)) (cond (o.kind == 5) (cond ((o.names.length:Int) == (o.list.length:Int)) ((au_ n o.names).bind fun xr72=>(some xr72)) (some false)) (cond (o.kind == 0) (some true) (some (o.kind == 4)))))))))) (cond (o.n_ != 0) (cond (o.kind != 1) (cond (o.kind != 2) (some false) (cond (!(o.s == [])) (cond (o.kind != 3) (some false) (cond (o.kind == 1) ((aN_ n o.n_ 0 1).bind fun xr73=>(some xr73)) (cond (o.kind == 2) ((bp_ n o.n_).bind fun xr74=>(some xr74)) (cond (o.kind == 3) ((ay_ n o.s).bind fun xr75=>(some xr75)) (cond (o.kind == 5) (cond ((o.names.length:Int) == (o.list.length:Int)) ((au_ n o.names).bind fun xr76=>(some xr76)) (some false)) (cond (o.kind == 0) (some true) (some (o.kind == 4)))))))) (cond (o.kind == 1) ((aN_ n o.n_ 0 1).bind fun xr77=>(some xr77)) (cond (o.kind == 2) ((bp_ n o.n_).bind fun xr78=>(some xr78)) (cond (o.kind == 3) ((ay_ n o.s).bind fun xr79=>(some xr79)) (cond (o.kind == 5) (cond ((o.names.length:Int) == (o.list.length:Int)) ((au_ n o.names).bind fun xr80=>(some xr80)) (some false)) (cond (o.kind == 0) (some true) (some (o.kind == 4))))))))) (cond (!(o.s == [])) (cond (o.kind != 3) (some false) (cond (o.kind == 1) ((aN_ n o.n_ 0 1).bind fun xr81=>(some xr81)) (cond (o.kind == 2) ((bp_ n o.n_).bind fun xr82=>(some xr82)) (cond (o.kind == 3) ((ay_ n o.s).bind fun xr83=>(some xr83)) (cond (o.kind == 5) (cond ((o.names.length:Int) == (o.list.length:Int)) ((au_ n o.names).bind fun xr84=>(some xr84)) (some false)) (cond (o.kind == 0) (some true) (some (o.kind == 4)))))))) (cond (o.kind == 1) ((aN_ n o.n_ 0 1).bind fun xr85=>(some xr85)) (cond (o.kind == 2) ((bp_ n o.n_).bind fun xr86=>(some xr86)) (cond (o.kind == 3) ((ay_ n o.s).bind fun xr87=>(some xr87)) (cond (o.kind == 5) (cond ((o.names.length:Int) == (o.list.length:Int)) ((au_ n o.names).bind fun xr88=>(some xr88)) (some false)) (cond (o.kind == 0) (some true) (some (o.kind == 4))))))))) (cond (!(o.s == [])) (cond (o.kind != 3) (some false) (cond (o.kind == 1) ((aN_ n o.n_ 0 1).bind fun xr89=>(some xr89)) (cond (o.kind == 2) ((bp_ n o.n_).bind fun xr90=>(some xr90)) (cond (o.kind == 3) ((ay_ n o.s).bind fun xr91=>(some xr91)) (cond (o.kind == 5) (cond ((o.names.length:Int) == (o.list.length:Int)) ((au_ n o.names).bind fun xr92=>(some xr92)) (some false)) (cond (o.kind == 0) (some true) (some (o.kind == 4)))))))) (cond (o.kind == 1) ((aN_ n o.n_ 0 1).bind fun xr93=>(some xr93)) (cond (o.kind == 2) ((bp_ n o.n_).bind fun xr94=>(some xr94)) (cond (o.kind == 3) ((ay_ n o.s).bind fun xr95=>(some xr95)) (cond (o.kind == 5) (cond ((o.names.length:Int) == (o.list.length:Int)) ((au_ n o.names).bind fun xr96=>(some xr96)) (some false)) (cond (o.kind == 0) (some true) (some (o.kind == 4))))))))))) (cond (decide ((o.names.length:Int) > 0)) (cond (o.kind != 5) (some false) (cond (o.n_ != 0) (cond (o.kind != 1) (cond (o.kind != 2) (some false) (cond (!(o.s == [])) (cond (o.kind != 3) (some false) (cond (o.kind == 1) ((aN_ n o.n_ 0 1).bind fun xr97=>(some xr97)) (cond (o.kind == 2) ((bp_ n o.n_).bind fun xr98=>(some xr98)) (cond (o.kind == 3) ((ay_ n o.s).bind fun xr99=>(some xr99)) (cond (o.kind == 5) (cond ((o.names.length:Int) == (o.list.length:Int)) ((au_ n o.names).bind fun xr100=>(some xr100)) (some false)) (cond (o.kind == 0) (some true) (some (o.kind == 4)))))))) (cond (o.kind == 1) ((aN_ n o.n_ 0 1).bind fun xr101=>(some xr101)) (cond (o.kind == 2) ((bp_ n o.n_).bind fun xr102=>(some xr102)) (cond (o.kind == 3) ((ay_ n o.s).bind fun xr103=>(some xr103)) (cond (o.kind == 5) (cond ((o.names.length:Int) == (o.list.length:Int)) ((au_ n o.names).bind fun xr104=>(some xr104)) (some false)) (cond (o.kind == 0) (some true) (some (o.kind == 4))))))))) (cond (!(o.s == [])) (cond (o.kind != 3) (some false) (cond (o.kind == 1) ((aN_ n o.n_ 0 1).bind fun xr105=>(some xr105)) (cond (o.kind == 2) ((bp_ n o.n_).bind fun xr106=>(some xr106)) (cond (o.kind == 3) ((ay_ n o.s).bind fun xr107=>(some xr107)) (cond (o.kind == 5) (cond ((o.names.length:Int) == (o.list.length:Int)) ((au_ n o.names).bind fun xr108=>(some xr108)) (some false)) (cond (o.kind == 0) (some true) (some (o.kind == 4)))))))) (cond (o.kind == 1) ((aN_ n o.n_ 0 1).bind fun xr109=>(some xr109)) (cond (o.kind == 2) ((bp_ n o.n_).bind fun xr110=>(some xr110)) (cond (o.kind == 3) ((ay_ n o.s).bind fun xr111=>(some xr111)) (cond (o.kind == 5) (cond ((o.names.length:Int) == (o.list.length:Int)) ((au_ n o.names).bind fun xr112=>(some xr112)) (some false)) (cond (o.kind == 0) (some true) (some (o.kind == 4))))))))) (cond (!(o.s == [])) (cond (o.kind != 3) (some false) (cond (o.kind == 1) ((aN_ n o.n_ 0 1).bind fun xr113=>(some xr113)) (cond (o.kind == 2) ((bp_ n o.n_).bind fun xr114=>(some xr114)) (cond (o.kind == 3) ((ay_ n o.s).bind fun xr115=>(some xr115)) (cond (o.kind == 5) (cond ((o.names.length:Int) == (o.list.length:Int)) ((au_ n o.names).bind fun xr116=>(some xr116)) (some false)) (cond (o.kind == 0) (some true) (some (o.kind == 4)))))))) (cond (o.kind == 1) ((aN_ n o.n_ 0 1).bind fun xr117=>(some xr117)) (cond (o.kind == 2) ((bp_ n o.n_).bind fun xr118=>(some xr118)) (cond (o.kind == 3) ((ay_ n o.s).bind fun xr119=>(some xr119)) (cond (o.kind == 5) (cond ((o.names.length:Int) == (o.list.length:Int)) ((au_ n o.names).bind fun xr120=>(some xr120)) (some false)) (cond (o.kind == 0) (some true) (some (o.kind == 4)))))))))) (cond (o.n_ != 0) (cond (o.kind != 1) (cond (o.kind != 2) (some false) (cond (!(o.s == [])) (cond (o.kind != 3) (some false) (cond (o.kind == 1) ((aN_ n o.n_ 0 1).bind fun xr121=>(some xr121)) (cond (o.kind == 2) ((bp_ n o.n_).bind fun xr122=>(some xr122)) (cond (o.kind == 3) ((ay_ n o.s).bind fun xr123=>(some xr123)) (cond (o.kind == 5) (cond ((o.names.length:Int) == (o.list.length:Int)) ((au_ n o.names).bind fun xr124=>(some xr124)) (some false)) (cond (o.kind == 0) (some true) (some (o.kind == 4)))))))) (cond (o.kind == 1) ((aN_ n o.n_ 0 1).bind fun xr125=>(some xr125)) (cond (o.kind == 2) ((bp_ n o.n_).bind fun xr126=>(some xr126)) (cond (o.kind == 3) ((ay_ n o.s).bind fun xr127=>(some xr127)) (cond (o.kind == 5) (cond ((o.names.length:Int) == (o.list.length:Int)) ((au_ n o.names).bind fun xr128=>(some xr128)) (some false)) (cond (o.kind == 0) (some true) (some (o.kind == 4))))))))) (cond (!(o.s == [])) (cond (o.kind != 3) (some false) (cond (o.kind == 1) ((aN_ n o.n_ 0 1).bind fun xr129=>(some xr129)) (cond (o.kind == 2) ((bp_ n o.n_).bind fun xr130=>(some xr130)) (cond (o.kind == 3) ((ay_ n o.s).bind fun xr131=>(some xr131)) (cond (o.kind == 5) (cond ((o.names.length:Int) == (o.list.length:Int)) ((au_ n o.names).bind fun xr132=>(some xr132)) (some false)) (cond (o.kind == 0) (some true) (some (o.kind == 4)))))))) (cond (o.kind == 1) ((aN_ n o.n_ 0 1).bind fun xr133=>(some xr133)) (cond (o.kind == 2) ((bp_ n o.n_).bind fun xr134=>(some xr134)) (cond (o.kind == 3) ((ay_ n o.s).bind fun xr135=>(some xr135)) (cond (o.kind == 5) (cond ((o.names.length:Int) == (o.list.length:Int)) ((au_ n o.names).bind fun xr136=>(some xr136)) (some false)) (cond (o.kind == 0) (some true) (some (o.kind == 4))))))))) (cond (!(o.s == [])) (cond (o.kind != 3) (some false) (cond (o.kind == 1) ((aN_ n o.n_ 0 1).bind fun xr137=>(some xr137)) (cond (o.kind == 2) ((bp_ n o.n_).bind fun xr138=>(some xr138)) (cond (o.kind == 3) ((ay_ n o.s).bind fun xr139=>(some xr139)) (cond (o.kind == 5) (cond ((o.names.length:Int) == (o.list.length:Int)) ((au_ n o.names).bind fun xr140=>(some xr140)) (some false)) (cond (o.kind == 0) (some true) (some (o.kind == 4)))))))) (cond (o.kind == 1) ((aN_ n o.n_ 0 1).bind fun xr141=>(some xr141)) (cond (o.kind == 2) ((bp_ n o.n_).bind fun xr142=>(some xr142)) (cond (o.kind == 3) ((ay_ n o.s).bind fun xr143=>(some xr143)) (cond (o.kind == 5) (cond ((o.names.length:Int) == (o.list.length:Int)) ((au_ n o.names).bind fun xr144=>(some xr144)) (some false)) (cond (o.kind == 0) (some true) (some (o.kind == 4)))))))))))
abbrev bK_.T7:Type:=Int→Int→(List aa_)→Int→Int→Option Int
def bK_.step7 (n:Nat) (impl_sizeIn_:aa_→Int→Option Int) (k0:Int→Option Int) (back:bK_.T7):bK_.T7:=fun deep n_1 t16 t17 t18=>
 (cond (decide (t18<t17)) (inB t18 t16.length ((impl_sizeIn_ (aa_.re (t16.getD t18.toNat aa_.dflt)) (W (deep - 1))).bind fun xr2=>(cond (decide ((W (n_1+xr2)) > 400)) (some 401) (back deep (W (n_1+xr2)) t16 t17 (W (t18+1)))))) (k0 n_1))
def bK_.loop7 (n:Nat) (impl_sizeIn_:aa_→Int→Option Int) (k0:Int→Option Int) (N:Nat):bK_.T7:=ct_ (fun _ _ _ _ _=>none) (bK_.step7 n impl_sizeIn_ k0) N
def bK_:Nat→aa_→Int→Option Int
 |0,_,_=>none
 |n+1,j,deep=>
  (cond (decide (deep<1)) (some 401) ((eU_ n (aa_.re j)).bind fun xr1=>(cond (!xr1) (some 401) (bK_.loop7 n (bK_ n) (fun xy3=>(some xy3)) n deep 1 j.list (j.list.length:Int) 0))))
def c7_:Nat→aa_→Option Bool
 |0,_=>none
 |n+1,j=>
  ((bK_ n (aa_.re j) 6).bind fun xr1=>(some (decide (xr1≤400))))
abbrev b0_.K4:Type:=(List Int)→Option Bs
abbrev b0_.T4:Type:=Bs→Int→Int→(List Int)→Option Bs
def b0_.step4 (n:Nat) (k0:b0_.K4) (back:b0_.T4):b0_.T4:=fun s t7 t8 out_1=>
 (cond (decide (t8<t7)) (inB t8 s.length (cond (((s.getD t8.toNat 0).toNat:Int) == 34) (bm_ (out_1.length+([92]:List Int).length) 1 (inB t8 s.length (bm_ ((out_1++([92]:List Int)).length+([((s.getD t8.toNat 0).toNat:Int)]:List Int).length) 1 (back s t7 (W (t8+1)) ((out_1++([92]:List Int))++([((s.getD t8.toNat 0).toNat:Int)]:List Int)))))) (inB t8 s.length (cond (((s.getD t8.toNat 0).toNat:Int) == 92) (bm_ (out_1.length+([92]:List Int).length) 1 (inB t8 s.length (bm_ ((out_1++([92]:List Int)).length+([((s.getD t8.toNat 0).toNat:Int)]:List Int).length) 1 (back s t7 (W (t8+1)) ((out_1++([92]:List Int))++([((s.getD t8.toNat 0).toNat:Int)]:List Int)))))) (inB t8 s.length (bm_ (out_1.length+([((s.getD t8.toNat 0).toNat:Int)]:List Int).length) 1 (back s t7 (W (t8+1)) (out_1++([((s.getD t8.toNat 0).toNat:Int)]:List Int))))))))) (k0 out_1))
def b0_.loop4 (n:Nat) (k0:b0_.K4) (N:Nat):b0_.T4:=ct_ (fun _ _ _ _=>none) (b0_.step4 n k0) N
def b0_:Nat→Bs→Option Bs
 |0,_=>none
 |n+1,s=>
  (b0_.loop4 n (fun xy1=>(bm_ (xy1.length+([34]:List Int).length) 1 (some (hL_ (xy1++([34]:List Int)))))) n s (s.length:Int) 0 ([34]:List Int))
def strconv_Itoa:Nat→Int→Option Bs
 |0,_=>none
 |_+1,i=>nItoa i
def strings_Join:Nat→List Bs→Bs→Option Bs
 |0,_,_=>none
 |_+1,l,s=>nJoin l s
abbrev bc_.K4_1:Type:=Int→Int→Bs→(List aa_)→(List Bs)→(List Bs)→Option Bs
abbrev bc_.T4:Type:=(List aa_)→Int→Int→Int→Int→Bs→(List aa_)→(List Bs)→(List Bs)→Option Bs
def bc_.step4 (n:Nat) (impl_written_:aa_→Option Bs) (k0:bc_.K4_1) (back:bc_.T4):bc_.T4:=fun t9 t10 t11 append0 append1 append2 append3 append4 t3=>
 (cond (decide (t11<t10)) (inB t11 t9.length ((impl_written_ (aa_.re (t9.getD t11.toNat aa_.dflt))).bind fun xr1=>(cond (append0 == 5) (inB t11 append4.length ((b0_ n (append4.getD t11.toNat [])).bind fun xr2=>(cond (decide (xr2.length+[58].length≤9223372036854775807)) (cond (decide ((xr2++[58]).length+xr1.length≤9223372036854775807)) (bm_ (t3.length+([((xr2++[58])++xr1)]:List Bs).length) 16 (back t9 t10 (W (t11+1)) append0 append1 append2 append3 append4 (t3++([((xr2++[58])++xr1)]:List Bs)))) none) none))) (bm_ (t3.length+([xr1]:List Bs).length) 16 (back t9 t10 (W (t11+1)) append0 append1 append2 append3 append4 (t3++([xr1]:List Bs))))))) (k0 append0 append1 append2 append3 append4 t3))
def bc_.loop4 (n:Nat) (impl_written_:aa_→Option Bs) (k0:bc_.K4_1) (N:Nat):bc_.T4:=ct_ (fun _ _ _ _ _ _ _ _ _=>none) (bc_.step4 n impl_written_ k0) N
def bc_:Nat→aa_→Option Bs
 |0,_=>none
 |n+1,o=>
  (bc_.loop4 n (bc_ n) (fun xy3 xy4 xy5 xy6 xy7 xy8=>(cond (xy3 == 0) (some [110,117,108,108]) (cond (xy3 == 1) (inB xy4 ([[102,97,108,115,101],[116,114,117,101]]:List Bs).length (let xv9:Bs:=(([[102,97,108,115,101],[116,114,117,101]]:List Bs).getD xy4.toNat []);(some xv9))) (cond (xy3 == 2) ((strconv_Itoa n xy4).bind fun xr10=>(some xr10)) (cond (xy3 == 3) ((b0_ n xy5).bind fun xr11=>(some xr11)) (cond (xy3 == 4) ((strings_Join n xy8 [44]).bind fun xr12=>(cond (decide ([91].length+xr12.length≤9223372036854775807)) (cond (decide ((([91]:Bs)++xr12).length+[93].length≤9223372036854775807)) (some ((([91]:Bs)++xr12)++[93])) none) none)) ((strings_Join n xy8 [44]).bind fun xr13=>(cond (decide ([123].length+xr13.length≤9223372036854775807)) (cond (decide ((([123]:Bs)++xr13).length+[125].length≤9223372036854775807)) (some ((([123]:Bs)++xr13)++[125])) none) none)))))))) n o.list (o.list.length:Int) 0 o.kind o.n_ o.s o.list o.names ([]:List Bs))
def dr_:Nat→aa_→Option Bs
 |0,_=>none
 |n+1,j=>
  ((c7_ n (aa_.re j)).bind fun xr1=>(cond (!xr1) (some []) ((bc_ n (aa_.re j)).bind fun xr2=>(cond (decide ((xr2.length:Int) > 6000)) (some []) (some xr2)))))
def dI_:Nat→Bs→Option (aa_ × Bool)
 |0,_=>none
 |n+1,s=>
  (cond (decide ((s.length:Int) > 6000)) (some ((aa_.mk 0 0 [] ([]:List aa_) ([]:List Bs)),false)) ((aZ_ n (aX_.mk s false) 6).bind fun xr1=>(cond xr1.2.bad (some ((aa_.mk 0 0 [] ([]:List aa_) ([]:List Bs)),false)) ((dr_ n (aa_.re xr1.1)).bind fun xr2=>(cond (!(xr2 == s)) (some ((aa_.mk 0 0 [] ([]:List aa_) ([]:List Bs)),false)) (some ((aa_.re xr1.1),true)))))))
abbrev aG_.T3:Type:=(List Bs)→Bs→Int→Int→Option Int
def aG_.step3 (n:Nat) (k0:Option Int) (back:aG_.T3):aG_.T3:=fun s v t7 t8=>
 (cond (decide (t8<t7)) (inB t8 s.length (cond (v == (s.getD t8.toNat [])) (some t8) (back s v t7 (W (t8+1))))) k0)
def aG_.loop3 (n:Nat) (k0:Option Int) (N:Nat):aG_.T3:=ct_ (fun _ _ _ _=>none) (aG_.step3 n k0) N
def aG_:Nat→(List Bs)→Bs→Option Int
 |0,_,_=>none
 |n+1,s,v=>
  (aG_.loop3 n (some (-1)) n s v (s.length:Int) 0)
def dA_:Nat→(List Bs)→Option (List Bs)
 |0,_=>none
 |n+1,l=>
  (bm_ (([]:List Bs).length+l.length) 16 (some (([]:List Bs)++l)))
abbrev a7_.K4_1:Type:=Int→Int→Bs→Int→Int→Bs→(List aa_)→(List Bs)→Option aa_
abbrev a7_.T4:Type:=(List aa_)→Int→Int→Int→Int→Bs→Int→Int→Bs→(List aa_)→(List Bs)→Option aa_
def a7_.step4 (n:Nat) (impl_copyJson_:aa_→Option aa_) (k0:a7_.K4_1) (back:a7_.T4):a7_.T4:=fun t17 t18 t19 t20 t21 t22 out0 out1 out2 out3 out4=>
 (cond (decide (t19<t18)) (inB t19 t17.length ((impl_copyJson_ (aa_.re (t17.getD t19.toNat aa_.dflt))).bind fun xr2=>(bm_ (out3.length+([(aa_.re xr2)]:List aa_).length) 80 (back t17 t18 (W (t19+1)) t20 t21 t22 out0 out1 out2 (out3++([(aa_.re xr2)]:List aa_)) out4)))) (k0 t20 t21 t22 out0 out1 out2 out3 out4))
def a7_.loop4 (n:Nat) (impl_copyJson_:aa_→Option aa_) (k0:a7_.K4_1) (N:Nat):a7_.T4:=ct_ (fun _ _ _ _ _ _ _ _ _ _ _=>none) (a7_.step4 n impl_copyJson_ k0) N
def a7_:Nat→aa_→Option aa_
 |0,_=>none
 |n+1,j=>
  ((dA_ n j.names).bind fun xr1=>(a7_.loop4 n (a7_ n) (fun xy3 xy4 xy5 xy6 xy7 xy8 xy9 xy10=>(some (aa_.mk xy6 xy7 xy8 xy9 xy10))) n j.list (j.list.length:Int) 0 0 0 [] j.kind j.n_ j.s ([]:List aa_) xr1))
def er_:Nat→aa_→Bs→Option (aa_ × Bool)
 |0,_,_=>none
 |n+1,j,name=>
  ((aG_ n j.names name).bind fun xr1=>((c7_ n (aa_.re j)).bind fun xr2=>(cond (!xr2) (some ((aa_.mk 0 0 [] ([]:List aa_) ([]:List Bs)),false)) (cond (decide (xr1<0)) (some ((aa_.mk 0 0 [] ([]:List aa_) ([]:List Bs)),false)) (inB xr1 j.list.length ((a7_ n (aa_.re (j.list.getD xr1.toNat aa_.dflt))).bind fun xr3=>(some ((aa_.re xr3),true))))))))
def strings_Split:Nat→Bs→Bs→Option (List Bs)
 |0,_,_=>none
 |_+1,s,a=>r2_ s a
def strings_ReplaceAll:Nat→Bs→Bs→Bs→Option Bs
 |0,_,_,_=>none
 |_+1,s,a,b=>gp_ s a b
abbrev bV_.T4:Type:=Bs→(List Bs)→Int→Int→Option Bs
def bV_.step4 (n:Nat) (k0:Bs→Option Bs) (back:bV_.T4):bV_.T4:=fun out_1 t6 t7 t8=>
 (cond (decide (t8<t7)) (inB t8 t6.length ((strings_ReplaceAll n (t6.getD t8.toNat []) [126] [126,48]).bind fun xr1=>((strings_ReplaceAll n xr1 [47] [126,49]).bind fun xr2=>(cond (decide ([47].length+xr2.length≤9223372036854775807)) (cond (decide (out_1.length+(([47]:Bs)++xr2).length≤9223372036854775807)) (back (out_1++(([47]:Bs)++xr2)) t6 t7 (W (t8+1))) none) none)))) (k0 out_1))
def bV_.loop4 (n:Nat) (k0:Bs→Option Bs) (N:Nat):bV_.T4:=ct_ (fun _ _ _ _=>none) (bV_.step4 n k0) N
def bV_:Nat→(List Bs)→Option Bs
 |0,_=>none
 |n+1,way=>
  (bV_.loop4 n (fun xy3=>(some xy3)) n [] way (way.length:Int) 0)
abbrev bE_.K7:Type:=Bs→(List Bs)→Option ((List Bs) × Bool)
abbrev bE_.T7:Type:=Bs→(List Bs)→Int→Int→(List Bs)→Option ((List Bs) × Bool)
def bE_.step7 (n:Nat) (k0:bE_.K7) (back:bE_.T7):bE_.T7:=fun s t13 t14 t15 way=>
 (cond (decide (t15<t14)) (inB t15 t13.length ((strings_ReplaceAll n (t13.getD t15.toNat []) [126,49] [47]).bind fun xr2=>((strings_ReplaceAll n xr2 [126,48] [126]).bind fun xr3=>(bm_ (way.length+([xr3]:List Bs).length) 16 (back s t13 t14 (W (t15+1)) (way++([xr3]:List Bs))))))) (k0 s way))
def bE_.loop7 (n:Nat) (k0:bE_.K7) (N:Nat):bE_.T7:=ct_ (fun _ _ _ _ _=>none) (bE_.step7 n k0) N
def bE_:Nat→Bs→Option ((List Bs) × Bool)
 |0,_=>none
 |n+1,s=>
  (cond (s == []) (some (([]:List Bs),true)) ((strings_Split n s [47]).bind fun xr1=>(gf_ 1 (xr1.length:Int) xr1.length (bE_.loop7 n (fun xy4 xy5=>(cond (decide ((xy5.length:Int) > 6)) (some (([]:List Bs),false)) ((bV_ n xy5).bind fun xr6=>(cond (!(xr6 == xy4)) (some (([]:List Bs),false)) (some (xy5,true)))))) n s ((xr1.take ((xr1.length:Int).toNat)).drop 1) ((((xr1.length:Int).toNat) - 1:Nat):Int) 0 ([]:List Bs)))))
def dl_:Nat→Unit→Option (List Bs)
 |0,_=>none
 |n+1,_u=>
  (some ([[97,100,100],[114,101,109,111,118,101],[114,101,112,108,97,99,101],[116,101,115,116]]:List Bs))
def dZ_:Nat→aa_→Option Bool
 |0,_=>none
 |n+1,j=>
  (cond (j.kind == 0) (cond (j.n_ == 0) (cond (j.s == []) (cond ((j.list.length:Int) == 0) (some ((j.names.length:Int) == 0)) (some false)) (some false)) (some false)) (some false))
abbrev cw_.K3:Type:=Int→(List Bs)→Int→Int→Bs→(List aa_)→(List Bs)→Option Bool
abbrev cw_.T3:Type:=(List Bs)→Int→Int→Int→(List Bs)→Int→Int→Bs→(List aa_)→(List Bs)→Option Bool
def cw_.step3 (n:Nat) (k0:cw_.K3) (back:cw_.T3):cw_.T3:=fun t6 t7 t8 o0 o1 o2 o3 o4 o5 o6=>
 (cond (decide (t8<t7)) (inB t8 t6.length ((ay_ n (t6.getD t8.toNat [])).bind fun xr1=>(cond (!xr1) (some false) (back t6 t7 (W (t8+1)) o0 o1 o2 o3 o4 o5 o6)))) (k0 o0 o1 o2 o3 o4 o5 o6))
def cw_.loop3 (n:Nat) (k0:cw_.K3) (N:Nat):cw_.T3:=ct_ (fun _ _ _ _ _ _ _ _ _ _=>none) (cw_.step3 n k0) N
def cw_:Nat→TOp→Option Bool
 |0,_=>none
 |n+1,o=>
  (cw_.loop3 n (fun xy2 xy3 xy4 xy5 xy6 xy7 xy8=>((aN_ n xy2 1 4).bind fun xr9=>(cond xr9 (cond (decide ((xy3.length:Int)≤6)) ((c7_ n (aa_.mk xy4 xy5 xy6 xy7 xy8)).bind fun xr10=>(cond xr10 (cond (xy2 != 2) (some true) ((dZ_ n (aa_.mk xy4 xy5 xy6 xy7 xy8)).bind fun xr11=>(some xr11))) (some false))) (some false)) (some false)))) n o.way (o.way.length:Int) 0 o.kind o.way o.value.kind o.value.n_ o.value.s o.value.list o.value.names)
def ef_:Nat→aa_→Option aa_
 |0,_=>none
 |n+1,j=>
  ((c7_ n (aa_.re j)).bind fun xr1=>(cond (!xr1) (some (aa_.mk 0 0 [] ([]:List aa_) ([]:List Bs))) (some (aa_.re j))))
def eh_:Nat→TOp→Option aa_
 |0,_=>none
 |n+1,o=>
  ((cw_ n (TOp.mk o.kind o.way (aa_.re o.value))).bind fun xr1=>(cond (!xr1) (some (aa_.mk 0 0 [] ([]:List aa_) ([]:List Bs))) ((dl_ n ()).bind fun xr2=>(inB (W (o.kind - 1)) xr2.length ((bV_ n o.way).bind fun xr3=>(cond (o.kind != 2) (bm_ (([[111,112],[112,97,116,104]]:List Bs).length+([[118,97,108,117,101]]:List Bs).length) 16 ((a7_ n (aa_.re o.value)).bind fun xr4=>(bm_ (([(aa_.mk 3 0 (xr2.getD ((W (o.kind - 1)).toNat) []) [] []),(aa_.mk 3 0 xr3 [] [])]:List aa_).length+([(aa_.re xr4)]:List aa_).length) 80 ((ef_ n (aa_.mk 5 0 [] (([(aa_.mk 3 0 (xr2.getD ((W (o.kind - 1)).toNat) []) [] []),(aa_.mk 3 0 xr3 [] [])]:List aa_)++([(aa_.re xr4)]:List aa_)) (([[111,112],[112,97,116,104]]:List Bs)++([[118,97,108,117,101]]:List Bs)))).bind fun xr5=>(some (aa_.re xr5)))))) ((ef_ n (aa_.mk 5 0 [] ([(aa_.mk 3 0 (xr2.getD ((W (o.kind - 1)).toNat) []) [] []),(aa_.mk 3 0 xr3 [] [])]:List aa_) ([[111,112],[112,97,116,104]]:List Bs))).bind fun xr6=>(some (aa_.re xr6)))))))))
abbrev aJ_.T6:Type:=(List Bs)→(List Bs)→Int→Int→Option Bool
def aJ_.step6 (n:Nat) (k0:Option Bool) (back:aJ_.T6):aJ_.T6:=fun s1 s2 t12 t13=>
 (cond (decide (t13<t12)) (inB t13 s1.length (inB t13 s2.length (cond (!((s1.getD t13.toNat []) == (s2.getD t13.toNat []))) (some false) (back s1 s2 t12 (W (t13+1)))))) k0)
def aJ_.loop6 (n:Nat) (k0:Option Bool) (N:Nat):aJ_.T6:=ct_ (fun _ _ _ _=>none) (aJ_.step6 n k0) N
def aJ_:Nat→(List Bs)→(List Bs)→Option Bool
 |0,_,_=>none
 |n+1,s1,s2=>
  (cond ((s1.length:Int) != (s2.length:Int)) (some false) (aJ_.loop6 n (some true) n s1 s2 (s1.length:Int) 0))
abbrev ah_.T6:Type:=(List aa_)→(List aa_)→Int→Int→Option Bool
def ah_.step6 (n:Nat) (impl_alike_:aa_→aa_→Option Bool) (k0:Option Bool) (back:ah_.T6):ah_.T6:=fun s2 t15 t16 t17=>
 (cond (decide (t17<t16)) (inB t17 t15.length (inB t17 s2.length ((impl_alike_ (aa_.re (t15.getD t17.toNat aa_.dflt)) (aa_.re (s2.getD t17.toNat aa_.dflt))).bind fun xr1=>(cond (!xr1) (some false) (back s2 t15 t16 (W (t17+1))))))) k0)
def ah_.loop6 (n:Nat) (impl_alike_:aa_→aa_→Option Bool) (k0:Option Bool) (N:Nat):ah_.T6:=ct_ (fun _ _ _ _=>none) (ah_.step6 n impl_alike_ k0) N
mutual
def d6_:Nat→aa_→aa_→Option Bool
 |0,_,_=>none
 |n+1,a,b=>
  (cond (a.kind == b.kind) (cond (a.n_ == b.n_) (cond (a.s == b.s) ((aJ_ n a.names b.names).bind fun xr1=>(cond xr1 ((ah_ n a.list b.list).bind fun xr2=>(some xr2)) (some false))) (some false)) (some false)) (some false))
def ah_:Nat→(List aa_)→(List aa_)→Option Bool
 |0,_,_=>none
 |n+1,s1,s2=>
  (cond ((s1.length:Int) != (s2.length:Int)) (some false) (ah_.loop6 n (d6_ n) (some true) n s2 s1 (s1.length:Int) 0))
end
def dP_:Nat→aa_→aa_→Option Bool
 |0,_,_=>none
 |n+1,a,b=>
  ((c7_ n (aa_.re a)).bind fun xr1=>(cond xr1 ((c7_ n (aa_.re b)).bind fun xr2=>(cond xr2 ((d6_ n (aa_.re a) (aa_.re b)).bind fun xr3=>(some xr3)) (some false))) (some false)))
def d0_:Nat→aa_→Option (TOp × Bool)
 |0,_=>none
 |n+1,o=>
  ((er_ n (aa_.re o) [111,112]).bind fun xr1=>((er_ n (aa_.re o) [112,97,116,104]).bind fun xr2=>((er_ n (aa_.re o) [118,97,108,117,101]).bind fun xr3=>((bE_ n xr2.1.s).bind fun xr4=>((dl_ n ()).bind fun xr5=>((aG_ n xr5 xr1.1.s).bind fun xr6=>(cond (!xr1.2) (some ((TOp.mk 0 ([]:List Bs) (aa_.mk 0 0 [] ([]:List aa_) ([]:List Bs))),false)) (cond (!xr2.2) (some ((TOp.mk 0 ([]:List Bs) (aa_.mk 0 0 [] ([]:List aa_) ([]:List Bs))),false)) (cond (!xr4.2) (some ((TOp.mk 0 ([]:List Bs) (aa_.mk 0 0 [] ([]:List aa_) ([]:List Bs))),false)) ((cw_ n (TOp.mk (W (1+xr6)) xr4.1 (aa_.re xr3.1))).bind fun xr7=>(cond (!xr7) (some ((TOp.mk 0 ([]:List Bs) (aa_.mk 0 0 [] ([]:List aa_) ([]:List Bs))),false)) ((eh_ n (TOp.mk (W (1+xr6)) xr4.1 (aa_.re xr3.1))).bind fun xr8=>((dP_ n (aa_.re xr8) (aa_.re o)).bind fun xr9=>(cond (!xr9) (some ((TOp.mk 0 ([]:List Bs) (aa_.mk 0 0 [] ([]:List aa_) ([]:List Bs))),false)) (some ((TOp.mk (W (1+xr6)) xr4.1 (aa_.re xr3.1)),true))))))))))))))))
abbrev b1_.K4:Type:=Int→Int→Bs→(List aa_)→(List Bs)→(List TOp)→Option ((List TOp) × Bool)
abbrev b1_.T4:Type:=(List aa_)→Int→Int→Int→Int→Bs→(List aa_)→(List Bs)→(List TOp)→Option ((List TOp) × Bool)
def b1_.step4 (n:Nat) (k0:b1_.K4) (back:b1_.T4):b1_.T4:=fun t11 t12 t13 j0 j1 j2 j3 j4 ops=>
 (cond (decide (t13<t12)) (inB t13 t11.length ((d0_ n (aa_.re (t11.getD t13.toNat aa_.dflt))).bind fun xr1=>(cond (!xr1.2) (some (([]:List TOp),false)) (bm_ (ops.length+([{ xr1.1 with value:=(aa_.re xr1.1.value) }]:List TOp).length) 112 (back t11 t12 (W (t13+1)) j0 j1 j2 j3 j4 (ops++([{ xr1.1 with value:=(aa_.re xr1.1.value) }]:List TOp))))))) (k0 j0 j1 j2 j3 j4 ops))
def b1_.loop4 (n:Nat) (k0:b1_.K4) (N:Nat):b1_.T4:=ct_ (fun _ _ _ _ _ _ _ _ _=>none) (b1_.step4 n k0) N
def b1_:Nat→aa_→Option ((List TOp) × Bool)
 |0,_=>none
 |n+1,j=>
  (b1_.loop4 n (fun xy2 xy3 xy4 xy5 xy6 xy7=>(some (xy7,(xy2 == 4)))) n j.list (j.list.length:Int) 0 j.kind j.n_ j.s j.list j.names ([]:List TOp))
def dm_:Nat→Bs→Option aD_
 |0,_=>none
 |n+1,o=>
  ((cP_ n o [101,118,101,110,116,58,32,115,110,97,112,10]).bind fun xr1=>(cond xr1.2 ((dq_ n xr1.1 [105,100,58,32]).bind fun xr2=>((dq_ n xr2.2 [100,97,116,97,58,32]).bind fun xr3=>((cR_ n xr2.1).bind fun xr4=>((dI_ n xr3.1).bind fun xr5=>(some (aD_.mk 1 xr4.1 0 (aa_.re xr5.1) ([]:List TOp))))))) ((cJ_ n o [101,118,101,110,116,58,32,112,97,116,99,104,10]).bind fun xr6=>((dq_ n xr6 [105,100,58,32]).bind fun xr7=>((dq_ n xr7.2 [98,97,115,101,58,32]).bind fun xr8=>((dq_ n xr8.2 [100,97,116,97,58,32]).bind fun xr9=>((cR_ n xr7.1).bind fun xr10=>((cR_ n xr8.1).bind fun xr11=>((dI_ n xr9.1).bind fun xr12=>((b1_ n (aa_.re xr12.1)).bind fun xr13=>(some (aD_.mk 2 xr10.1 xr11.1 (aa_.mk 0 0 [] ([]:List aa_) ([]:List Bs)) xr13.1))))))))))))
def db_:Nat→Int→Option Bool
 |0,_=>none
 |n+1,n1=>
  ((aN_ n n1 0 100000).bind fun xr1=>(some xr1))
abbrev bv_.K4:Type:=Int→Int→Bs→Int→Int→Bs→(List aa_)→Option (aa_ × Bool)
abbrev bv_.T4:Type:=(List TOp)→Int→Int→Int→Int→Bs→Int→Int→Bs→(List aa_)→Option (aa_ × Bool)
def bv_.step4 (n:Nat) (k0:bv_.K4) (back:bv_.T4):bv_.T4:=fun t9 t10 t11 t20 t21 t22 j0 j1 j2 j3=>
 (cond (decide (t11<t10)) (inB t11 t9.length ((eh_ n { (t9.getD t11.toNat TOp.dflt) with value:=(aa_.re ((t9.getD t11.toNat TOp.dflt).value)) }).bind fun xr1=>(cond (xr1.kind == 0) (some ((aa_.mk 0 0 [] ([]:List aa_) ([]:List Bs)),false)) (bm_ (j3.length+([(aa_.re xr1)]:List aa_).length) 80 (back t9 t10 (W (t11+1)) t20 t21 t22 j0 j1 j2 (j3++([(aa_.re xr1)]:List aa_))))))) (k0 t20 t21 t22 j0 j1 j2 j3))
def bv_.loop4 (n:Nat) (k0:bv_.K4) (N:Nat):bv_.T4:=ct_ (fun _ _ _ _ _ _ _ _ _ _=>none) (bv_.step4 n k0) N
def bv_:Nat→(List TOp)→Option (aa_ × Bool)
 |0,_=>none
 |n+1,list=>
  (bv_.loop4 n (fun xy2 xy3 xy4 xy5 xy6 xy7 xy8=>(some ((aa_.mk xy5 xy6 xy7 xy8 ([]:List Bs)),true))) n list (list.length:Int) 0 0 0 [] 4 0 [] ([]:List aa_))
def dB_:Nat→(List TOp)→Option Int
 |0,_=>none
 |n+1,list=>
  ((bv_ n list).bind fun xr1=>((dr_ n (aa_.re xr1.1)).bind fun xr2=>(cond (!xr1.2) (some (-1)) (cond (xr2 == []) (some (-1)) (some (xr2.length:Int))))))
def ed_:Nat→aD_→Option Bool
 |0,_=>none
 |n+1,e=>
  (cond (e.kind == 1) ((db_ n e.version).bind fun xr1=>(cond xr1 (cond (e.base == 0) ((dr_ n (aa_.re e.doc)).bind fun xr2=>(cond (!(xr2 == [])) (some ((e.ops.length:Int) == 0)) (some false))) (some false)) (some false))) (cond (e.kind == 2) ((db_ n e.version).bind fun xr3=>(cond xr3 ((aN_ n e.base 0 (W (e.version - 1))).bind fun xr4=>(cond xr4 ((dZ_ n (aa_.re e.doc)).bind fun xr5=>(cond xr5 (cond (decide ((e.ops.length:Int)≤40)) ((dB_ n e.ops).bind fun xr6=>(some (decide (xr6≥0)))) (some false)) (some false))) (some false))) (some false))) (some false)))
def eg_:Nat→Int→Option Bs
 |0,_=>none
 |n+1,n1=>
  ((strconv_Itoa n n1).bind fun xr1=>(some xr1))
def c5_:Nat→aD_→Option Bs
 |0,_=>none
 |n+1,e=>
  ((ed_ n { e with doc:=(aa_.re e.doc) }).bind fun xr1=>(cond (!xr1) (some []) ((eg_ n e.version).bind fun xr2=>(cond (decide ([105,100,58,32].length+xr2.length≤9223372036854775807)) (cond (decide ((([105,100,58,32]:Bs)++xr2).length+[10].length≤9223372036854775807)) (cond (e.kind == 1) (cond (decide ([101,118,101,110,116,58,32,115,110,97,112,10].length+((([105,100,58,32]:Bs)++xr2)++[10]).length≤9223372036854775807)) (let xv3:Bs:=(([101,118,101,110,116,58,32,115,110,97,112,10]:Bs)++((([105,100,58,32]:Bs)++xr2)++[10]));(cond (decide (xv3.length+[100,97,116,97,58,32].length≤9223372036854775807)) ((dr_ n (aa_.re e.doc)).bind fun xr4=>(cond (decide ((xv3++[100,97,116,97,58,32]).length+xr4.length≤9223372036854775807)) (cond (decide (((xv3++[100,97,116,97,58,32])++xr4).length+[10,10].length≤9223372036854775807)) (some (((xv3++[100,97,116,97,58,32])++xr4)++[10,10])) none) none)) none)) none) ((bv_ n e.ops).bind fun xr5=>(cond (decide ([101,118,101,110,116,58,32,112,97,116,99,104,10].length+((([105,100,58,32]:Bs)++xr2)++[10]).length≤9223372036854775807)) (let xv6:Bs:=(([101,118,101,110,116,58,32,112,97,116,99,104,10]:Bs)++((([105,100,58,32]:Bs)++xr2)++[10]));(cond (decide (xv6.length+[98,97,115,101,58,32].length≤9223372036854775807)) ((eg_ n e.base).bind fun xr7=>(cond (decide ((xv6++[98,97,115,101,58,32]).length+xr7.length≤9223372036854775807)) (cond (decide (((xv6++[98,97,115,101,58,32])++xr7).length+[10,100,97,116,97,58,32].length≤9223372036854775807)) (let xv8:Bs:=(((xv6++[98,97,115,101,58,32])++xr7)++[10,100,97,116,97,58,32]);((dr_ n (aa_.re xr5.1)).bind fun xr9=>(cond (decide (xv8.length+xr9.length≤9223372036854775807)) (cond (decide ((xv8++xr9).length+[10,10].length≤9223372036854775807)) (some ((xv8++xr9)++[10,10])) none) none))) none) none)) none)) none))) none) none))))
def cQ_:Nat→Bs→Option (aD_ × Bool)
 |0,_=>none
 |n+1,text=>
  ((dm_ n text).bind fun xr1=>((c5_ n { xr1 with doc:=(aa_.re xr1.doc) }).bind fun xr2=>(cond (xr2 == []) (some ((aD_.mk 0 0 0 (aa_.mk 0 0 [] ([]:List aa_) ([]:List Bs)) ([]:List TOp)),false)) (cond (!(xr2 == text)) (some ((aD_.mk 0 0 0 (aa_.mk 0 0 [] ([]:List aa_) ([]:List Bs)) ([]:List TOp)),false)) (some ({ xr1 with doc:=(aa_.re xr1.doc) },true))))))
abbrev cd_.K5:Type:=Bs→Bool→Bs→Bool→(List aD_)→Option (aC_ × (List aD_))
abbrev cd_.T5:Type:=Bs→Bool→Bs→Bool→(List aD_)→Option (aC_ × (List aD_))
def cd_.step5 (n:Nat) (k0:cd_.K5) (back:cd_.T5):cd_.T5:=fun wait bad t40 t41 events=>
 (cond (!bad) ((strings_Index n wait [10,10]).bind fun xr1=>(cond (decide (xr1<0)) (k0 wait (decide ((wait.length:Int) > 14000)) t40 t41 events) (gf_ 0 (W (xr1+2)) wait.length ((cQ_ n ((wait.take (W (xr1+2)).toNat).drop 0)).bind fun xr2=>(cond (!xr2.2) (k0 wait true t40 t41 events) (bm_ (events.length+([{ xr2.1 with doc:=(aa_.re xr2.1.doc) }]:List aD_).length) 128 (gf_ (W (xr1+2)) (wait.length:Int) wait.length (back ((wait.take (wait.length:Int).toNat).drop (W (xr1+2)).toNat) bad t40 t41 (events++([{ xr2.1 with doc:=(aa_.re xr2.1.doc) }]:List aD_)))))))))) (k0 wait bad t40 t41 events))
def cd_.loop5 (n:Nat) (k0:cd_.K5) (N:Nat):cd_.T5:=ct_ (fun _ _ _ _ _=>none) (cd_.step5 n k0) N
def cd_:Nat→aC_→Bs→Option (aC_ × (List aD_))
 |0,_,_=>none
 |n+1,s,oq_=>
  (cond (decide (s.wait.length+oq_.length≤9223372036854775807)) (cd_.loop5 n (fun xy3 xy4 xy5 xy6 xy7=>(cond xy4 (some ((aC_.mk [] true),xy7)) (some ((aC_.mk xy3 false),xy7)))) n (s.wait++oq_) s.bad [] false ([]:List aD_)) none)
abbrev b3_.T3:Type:=Bs→Int→Option Int
def b3_.step3 (n:Nat) (k0:Option Int) (back:b3_.T3):b3_.T3:=fun s i=>
 (cond (decide (i<(s.length:Int))) (inB i s.length (cond (((s.getD i.toNat 0).toNat:Int) == 10) (inB (W (i - 1)) s.length (cond (((s.getD (W (i - 1)).toNat 0).toNat:Int) == 10) (some (W (i+1))) (back s (W (i+1))))) (back s (W (i+1))))) k0)
def b3_.loop3 (n:Nat) (k0:Option Int) (N:Nat):b3_.T3:=ct_ (fun _ _=>none) (b3_.step3 n k0) N
def b3_:Nat→Bs→Option Int
 |0,_=>none
 |n+1,s=>
  (b3_.loop3 n (some (-1)) n s 1)
abbrev bo_.K5:Type:=(List Bs)→Option (List Bs)
abbrev bo_.T5:Type:=Bs→Int→Int→(List Bs)→Option (List Bs)
def bo_.step5 (n:Nat) (k0:bo_.K5) (back:bo_.T5):bo_.T5:=fun text from_1 i out_1=>
 (cond (decide (i<(text.length:Int))) (inB i text.length (cond (((text.getD i.toNat 0).toNat:Int) == 10) (gf_ from_1 i text.length (bm_ (out_1.length+([((text.take i.toNat).drop from_1.toNat)]:List Bs).length) 16 (back text (W (i+1)) (W (i+1)) (out_1++([((text.take i.toNat).drop from_1.toNat)]:List Bs))))) (back text from_1 (W (i+1)) out_1))) (k0 out_1))
def bo_.loop5 (n:Nat) (k0:bo_.K5) (N:Nat):bo_.T5:=ct_ (fun _ _ _ _=>none) (bo_.step5 n k0) N
def bo_:Nat→Bs→Option (List Bs)
 |0,_=>none
 |n+1,text=>
  (bo_.loop5 n (fun xy1=>(some xy1)) n text 0 0 ([]:List Bs))
def cK_:Nat→Bs→Bs→Option Bs
 |0,_,_=>none
 |n+1,line,head=>
  (cond (decide ((line.length:Int)<(head.length:Int))) (some []) (gf_ 0 (head.length:Int) line.length (cond (!(((line.take (head.length:Int).toNat).drop 0) == head)) (some []) (gf_ (head.length:Int) (line.length:Int) line.length (some ((line.take (line.length:Int).toNat).drop (head.length:Int).toNat))))))
def cW_:Nat→a8_→Option (Int × a8_)
 |0,_=>none
 |n+1,c=>
  (cond (decide (c.at_≥(c.s.length:Int))) (some (0,c)) (inB c.at_ c.s.length (some (((c.s.getD c.at_.toNat 0).toNat:Int),c))))
abbrev aE_.K7:Type:=Bool→Int→Int→Bs→Int→Bool→Int→Option (Int × a8_)
abbrev aE_.T7:Type:=Bool→Int→Int→Bs→Int→Bool→Int→Option (Int × a8_)
def aE_.step7 (n:Nat) (k0:aE_.K7) (back:aE_.T7):aE_.T7:=fun t3 t4 t5 o0 o1 o2 o3=>
 ((cW_ n (a8_.mk o0 o1 o2 o3)).bind fun xr2=>(cond (decide (xr2.1≥48)) ((cW_ n xr2.2).bind fun xr3=>(cond (decide (xr3.1≤57)) (cond (decide ((W (xr3.2.at_ - t4))<11)) ((cW_ n xr3.2).bind fun xr4=>(back t3 t4 (W ((W ((W (10*t5))+(W (xr4.1)))) - 48)) xr4.2.s (W (xr4.2.at_+1)) xr4.2.ok xr4.2.left)) (k0 t3 t4 t5 xr3.2.s xr3.2.at_ xr3.2.ok xr3.2.left)) (k0 t3 t4 t5 xr3.2.s xr3.2.at_ xr3.2.ok xr3.2.left))) (k0 t3 t4 t5 xr2.2.s xr2.2.at_ xr2.2.ok xr2.2.left)))
def aE_.loop7 (n:Nat) (k0:aE_.K7) (N:Nat):aE_.T7:=ct_ (fun _ _ _ _ _ _ _=>none) (aE_.step7 n k0) N
def aE_:Nat→a8_→Option (Int × a8_)
 |0,_=>none
 |n+1,o=>
  ((cW_ n o).bind fun xr1=>(cond (xr1.1 == 45) (aE_.loop7 n (fun xy5 xy6 xy7 xy8 xy9 xy10 xy11=>(cond (xy9 == xy6) (cond xy5 (some ((W (0 - xy7)),(a8_.mk xy8 xy9 false xy11))) (some (xy7,(a8_.mk xy8 xy9 false xy11)))) (cond xy5 (some ((W (0 - xy7)),(a8_.mk xy8 xy9 xy10 xy11))) (some (xy7,(a8_.mk xy8 xy9 xy10 xy11)))))) n (xr1.1 == 45) (W (xr1.2.at_+1)) 0 xr1.2.s (W (xr1.2.at_+1)) xr1.2.ok xr1.2.left) (aE_.loop7 n (fun xy12 xy13 xy14 xy15 xy16 xy17 xy18=>(cond (xy16 == xy13) (cond xy12 (some ((W (0 - xy14)),(a8_.mk xy15 xy16 false xy18))) (some (xy14,(a8_.mk xy15 xy16 false xy18)))) (cond xy12 (some ((W (0 - xy14)),(a8_.mk xy15 xy16 xy17 xy18))) (some (xy14,(a8_.mk xy15 xy16 xy17 xy18)))))) n (xr1.1 == 45) xr1.2.at_ 0 xr1.2.s xr1.2.at_ xr1.2.ok xr1.2.left)))
def dG_:Nat→Bs→Option (Int × Bool)
 |0,_=>none
 |n+1,s=>
  ((aE_ n (a8_.mk s 0 true 0)).bind fun xr1=>(cond xr1.2.ok ((aV_ n xr1.1).bind fun xr2=>(some (xr1.1,(xr2 == s)))) (some (xr1.1,false))))
def ce_:Nat→a8_→Bs→Option a8_
 |0,_,_=>none
 |n+1,c,what=>
  (cond (decide ((W ((c.s.length:Int) - c.at_))<(what.length:Int))) (some { c with ok:=false }) (gf_ c.at_ (W (c.at_+(what.length:Int))) c.s.length (let xv1:Bool:=(!(((c.s.take (W (c.at_+(what.length:Int))).toNat).drop c.at_.toNat) == what));(cond xv1 (some { c with ok:=false }) (some { c with at_:=(W (c.at_+(what.length:Int))) })))))
abbrev aH_.K4:Type:=Bs→Int→Bool→Int→(List Int)→Option (Bs × a8_)
abbrev aH_.T4:Type:=Bs→Int→Bool→Int→(List Int)→Option (Bs × a8_)
def aH_.step4 (n:Nat) (k0:aH_.K4) (back:aH_.T4):aH_.T4:=fun c0 c1 c2 c3 out_1=>
 (cond c2 ((cW_ n (a8_.mk c0 c1 c2 c3)).bind fun xr2=>(cond (xr2.1 != 34) ((cW_ n xr2.2).bind fun xr3=>(cond (xr3.1 == 92) (cond (decide ((W (xr3.2.at_+1))≥(xr3.2.s.length:Int))) (k0 xr3.2.s (W (xr3.2.at_+1)) false xr3.2.left out_1) (inB (W (xr3.2.at_+1)) xr3.2.s.length (bm_ (out_1.length+([((xr3.2.s.getD (W (xr3.2.at_+1)).toNat 0).toNat:Int)]:List Int).length) 1 (back xr3.2.s (W ((W (xr3.2.at_+1))+1)) xr3.2.ok xr3.2.left (out_1++([((xr3.2.s.getD (W (xr3.2.at_+1)).toNat 0).toNat:Int)]:List Int)))))) (cond (decide (xr3.2.at_≥(xr3.2.s.length:Int))) (k0 xr3.2.s xr3.2.at_ false xr3.2.left out_1) (inB xr3.2.at_ xr3.2.s.length (bm_ (out_1.length+([((xr3.2.s.getD xr3.2.at_.toNat 0).toNat:Int)]:List Int).length) 1 (back xr3.2.s (W (xr3.2.at_+1)) xr3.2.ok xr3.2.left (out_1++([((xr3.2.s.getD xr3.2.at_.toNat 0).toNat:Int)]:List Int)))))))) (k0 xr2.2.s xr2.2.at_ xr2.2.ok xr2.2.left out_1))) (k0 c0 c1 c2 c3 out_1))
def aH_.loop4 (n:Nat) (k0:aH_.K4) (N:Nat):aH_.T4:=ct_ (fun _ _ _ _ _=>none) (aH_.step4 n k0) N
def aH_:Nat→a8_→Option (Bs × a8_)
 |0,_=>none
 |n+1,c=>
  ((ce_ n c [34]).bind fun xr1=>(aH_.loop4 n (fun xy4 xy5 xy6 xy7 xy8=>((ce_ n (a8_.mk xy4 xy5 xy6 xy7) [34]).bind fun xr9=>(some ((hL_ xy8),xr9)))) n xr1.s xr1.at_ xr1.ok xr1.left ([]:List Int)))
abbrev aY_.K8_1:Type:=Bs→Bs→Int→Bool→Int→Int→Int→Bs→Int→Int→Bs→(List aa_)→(List Bs)→Option (aa_ × a8_)
abbrev aY_.T8:Type:=Int→Bs→Bs→Int→Bool→Int→Int→Int→Bs→Int→Int→Bs→(List aa_)→(List Bs)→Option (aa_ × a8_)
def aY_.step8 (n:Nat) (spec_l2Value_:a8_→Int→Option (aa_ × a8_)) (k0:aY_.K8_1) (back:aY_.T8):aY_.T8:=fun depth end_1 c0 c1 c2 c3 t40 t41 t42 out0 out1 out2 out3 out4=>
 (cond c2 ((cW_ n (a8_.mk c0 c1 c2 c3)).bind fun xr2=>(inB 0 end_1.length (cond (xr2.1 != ((end_1.getD 0 0).toNat:Int)) (cond (decide ((out3.length:Int) > 0)) ((ce_ n xr2.2 [44]).bind fun xr3=>(cond (out0 == 5) ((aH_ n xr3).bind fun xr4=>(bm_ (out4.length+([xr4.1]:List Bs).length) 16 ((ce_ n xr4.2 [58]).bind fun xr5=>((spec_l2Value_ xr5 (W (depth - 1))).bind fun xr6=>(bm_ (out3.length+([(aa_.re xr6.1)]:List aa_).length) 80 (back depth end_1 xr6.2.s xr6.2.at_ xr6.2.ok xr6.2.left t40 t41 t42 out0 out1 out2 (out3++([(aa_.re xr6.1)]:List aa_)) (out4++([xr4.1]:List Bs)))))))) ((spec_l2Value_ xr3 (W (depth - 1))).bind fun xr7=>(bm_ (out3.length+([(aa_.re xr7.1)]:List aa_).length) 80 (back depth end_1 xr7.2.s xr7.2.at_ xr7.2.ok xr7.2.left t40 t41 t42 out0 out1 out2 (out3++([(aa_.re xr7.1)]:List aa_)) out4))))) (cond (out0 == 5) ((aH_ n xr2.2).bind fun xr8=>(bm_ (out4.length+([xr8.1]:List Bs).length) 16 ((ce_ n xr8.2 [58]).bind fun xr9=>((spec_l2Value_ xr9 (W (depth - 1))).bind fun xr10=>(bm_ (out3.length+([(aa_.re xr10.1)]:List aa_).length) 80 (back depth end_1 xr10.2.s xr10.2.at_ xr10.2.ok xr10.2.left t40 t41 t42 out0 out1 out2 (out3++([(aa_.re xr10.1)]:List aa_)) (out4++([xr8.1]:List Bs)))))))) ((spec_l2Value_ xr2.2 (W (depth - 1))).bind fun xr11=>(bm_ (out3.length+([(aa_.re xr11.1)]:List aa_).length) 80 (back depth end_1 xr11.2.s xr11.2.at_ xr11.2.ok xr11.2.left t40 t41 t42 out0 out1 out2 (out3++([(aa_.re xr11.1)]:List aa_)) out4))))) (k0 end_1 xr2.2.s xr2.2.at_ xr2.2.ok xr2.2.left t40 t41 t42 out0 out1 out2 out3 out4)))) (k0 end_1 c0 c1 c2 c3 t40 t41 t42 out0 out1 out2 out3 out4))
def aY_.loop8 (n:Nat) (spec_l2Value_:a8_→Int→Option (aa_ × a8_)) (k0:aY_.K8_1) (N:Nat):aY_.T8:=ct_ (fun _ _ _ _ _ _ _ _ _ _ _ _ _ _=>none) (aY_.step8 n spec_l2Value_ k0) N
mutual
def bS_:Nat→a8_→Int→Option (aa_ × a8_)
 |0,_,_=>none
 |n+1,c,depth=>
  (cond (depth == 0) (some ((aa_.mk 0 0 [] ([]:List aa_) ([]:List Bs)),(a8_.mk c.s c.at_ false (W (c.left - 1))))) (cond (decide ((W (c.left - 1))<0)) (some ((aa_.mk 0 0 [] ([]:List aa_) ([]:List Bs)),(a8_.mk c.s c.at_ false (W (c.left - 1))))) (cond (!c.ok) (some ((aa_.mk 0 0 [] ([]:List aa_) ([]:List Bs)),{ c with left:=(W (c.left - 1)) })) ((cW_ n { c with left:=(W (c.left - 1)) }).bind fun xr1=>(cond (xr1.1 == 110) ((ce_ n xr1.2 [110,117,108,108]).bind fun xr2=>(some ((aa_.mk 0 0 [] ([]:List aa_) ([]:List Bs)),xr2))) (cond (xr1.1 == 116) ((ce_ n xr1.2 [116,114,117,101]).bind fun xr3=>(some ((aa_.mk 1 1 [] ([]:List aa_) ([]:List Bs)),xr3))) (cond (xr1.1 == 102) ((ce_ n xr1.2 [102,97,108,115,101]).bind fun xr4=>(some ((aa_.mk 1 0 [] ([]:List aa_) ([]:List Bs)),xr4))) (cond (xr1.1 == 34) ((aH_ n xr1.2).bind fun xr5=>(some ((aa_.mk 3 0 xr5.1 ([]:List aa_) ([]:List Bs)),xr5.2))) (cond (xr1.1 == 91) (cond (xr1.1 == 91) ((aY_ n xr1.2 depth).bind fun xr6=>(some ((aa_.re xr6.1),xr6.2))) ((aE_ n xr1.2).bind fun xr7=>(some ((aa_.mk 2 xr7.1 [] ([]:List aa_) ([]:List Bs)),xr7.2)))) (cond (xr1.1 == 123) ((aY_ n xr1.2 depth).bind fun xr8=>(some ((aa_.re xr8.1),xr8.2))) ((aE_ n xr1.2).bind fun xr9=>(some ((aa_.mk 2 xr9.1 [] ([]:List aa_) ([]:List Bs)),xr9.2)))))))))))))
def aY_:Nat→a8_→Int→Option (aa_ × a8_)
 |0,_,_=>none
 |n+1,c,depth=>
  ((cW_ n c).bind fun xr1=>(cond (xr1.1 == 123) (aY_.loop8 n (bS_ n) (fun xy12 xy13 xy14 xy15 xy16 xy17 xy18 xy19 xy20 xy21 xy22 xy23 xy24=>((ce_ n (a8_.mk xy13 xy14 xy15 xy16) xy12).bind fun xr25=>(some ((aa_.mk xy20 xy21 xy22 xy23 xy24),xr25)))) n depth [125] xr1.2.s (W (xr1.2.at_+1)) xr1.2.ok xr1.2.left 0 0 [] 5 0 [] ([]:List aa_) ([]:List Bs)) (aY_.loop8 n (bS_ n) (fun xy26 xy27 xy28 xy29 xy30 xy31 xy32 xy33 xy34 xy35 xy36 xy37 xy38=>((ce_ n (a8_.mk xy27 xy28 xy29 xy30) xy26).bind fun xr39=>(some ((aa_.mk xy34 xy35 xy36 xy37 xy38),xr39)))) n depth [93] xr1.2.s (W (xr1.2.at_+1)) xr1.2.ok xr1.2.left 0 0 [] 4 0 [] ([]:List aa_) ([]:List Bs))))
end
def dY_:Nat→Bs→Option (aa_ × Bool)
 |0,_=>none
 |n+1,s=>
  (cond (s == []) (some ((aa_.mk 0 0 [] ([]:List aa_) ([]:List Bs)),false)) (cond (decide ((s.length:Int) > 6000)) (some ((aa_.mk 0 0 [] ([]:List aa_) ([]:List Bs)),false)) ((bS_ n (a8_.mk s 0 true 400) 6).bind fun xr1=>(cond (!xr1.2.ok) (some ((aa_.mk 0 0 [] ([]:List aa_) ([]:List Bs)),false)) (cond (xr1.2.at_ != (s.length:Int)) (some ((aa_.mk 0 0 [] ([]:List aa_) ([]:List Bs)),false)) ((cY_ n (aa_.re xr1.1)).bind fun xr2=>(cond (!(xr2 == s)) (some ((aa_.mk 0 0 [] ([]:List aa_) ([]:List Bs)),false)) (some ((aa_.re xr1.1),true)))))))))
def dU_:Nat→aa_→Bs→Option (aa_ × Bool)
 |0,_,_=>none
 |n+1,j,name=>
  ((cF_ n (aa_.re j) name).bind fun xr1=>((cS_ n (aa_.re j)).bind fun xr2=>(cond (!xr2) (some ((aa_.mk 0 0 [] ([]:List aa_) ([]:List Bs)),false)) (cond (j.kind != 5) (some ((aa_.mk 0 0 [] ([]:List aa_) ([]:List Bs)),false)) (cond (decide (xr1<0)) (some ((aa_.mk 0 0 [] ([]:List aa_) ([]:List Bs)),false)) (inB xr1 j.list.length ((bq_ n (aa_.re (j.list.getD xr1.toNat aa_.dflt))).bind fun xr3=>(some ((aa_.re xr3),true)))))))))
abbrev a4_.K6:Type:=Bs→(List Bs)→(List Bs)→(List Int)→Option ((List Bs) × Bool)
abbrev a4_.T6:Type:=Bs→Int→(List Bs)→(List Bs)→(List Int)→Option ((List Bs) × Bool)
def a4_.step6 (n:Nat) (k0:a4_.K6) (back:a4_.T6):a4_.T6:=fun o t7 t4 t5 t6=>
 (cond (decide (t7<(o.length:Int))) (inB t7 o.length (cond (((o.getD t7.toNat 0).toNat:Int) == 47) (cond (decide (t7 > 0)) (bm_ (t5.length+([(hL_ t6)]:List Bs).length) 16 (back o (W (t7+1)) t4 (t5++([(hL_ t6)]:List Bs)) ([]:List Int))) (back o (W (t7+1)) t4 t5 ([]:List Int))) (cond (t7 == 0) (some (t4,false)) (inB t7 o.length (cond (((o.getD t7.toNat 0).toNat:Int) == 126) (cond ((W (t7+1)) == (o.length:Int)) (some (t4,false)) (inB (W (t7+1)) o.length (cond (((o.getD (W (t7+1)).toNat 0).toNat:Int) != 48) (inB (W (t7+1)) o.length (cond (((o.getD (W (t7+1)).toNat 0).toNat:Int) != 49) (some (t4,false)) (inB (W (t7+1)) o.length (cond (((o.getD (W (t7+1)).toNat 0).toNat:Int) == 48) (bm_ (t6.length+([126]:List Int).length) 1 (back o (W ((W (t7+1))+1)) t4 t5 (t6++([126]:List Int)))) (bm_ (t6.length+([47]:List Int).length) 1 (back o (W ((W (t7+1))+1)) t4 t5 (t6++([47]:List Int)))))))) (inB (W (t7+1)) o.length (cond (((o.getD (W (t7+1)).toNat 0).toNat:Int) == 48) (bm_ (t6.length+([126]:List Int).length) 1 (back o (W ((W (t7+1))+1)) t4 t5 (t6++([126]:List Int)))) (bm_ (t6.length+([47]:List Int).length) 1 (back o (W ((W (t7+1))+1)) t4 t5 (t6++([47]:List Int))))))))) (inB t7 o.length (bm_ (t6.length+([((o.getD t7.toNat 0).toNat:Int)]:List Int).length) 1 (back o (W (t7+1)) t4 t5 (t6++([((o.getD t7.toNat 0).toNat:Int)]:List Int)))))))))) (k0 o t4 t5 t6))
def a4_.loop6 (n:Nat) (k0:a4_.K6) (N:Nat):a4_.T6:=ct_ (fun _ _ _ _ _=>none) (a4_.step6 n k0) N
def a4_:Nat→Bs→Option ((List Bs) × Bool)
 |0,_=>none
 |n+1,o=>
  (a4_.loop6 n (fun xy1 xy2 xy3 xy4=>(cond (!(xy1 == [])) (bm_ (xy3.length+([(hL_ xy4)]:List Bs).length) 16 (cond (decide (((xy3++([(hL_ xy4)]:List Bs)).length:Int) > 6)) (some (xy2,false)) (some ((xy3++([(hL_ xy4)]:List Bs)),true)))) (cond (decide ((xy3.length:Int) > 6)) (some (xy2,false)) (some (xy3,true))))) n o 0 ([]:List Bs) ([]:List Bs) ([]:List Int))
abbrev bg_.K7:Type:=Int→Int→Bs→(List aa_)→(List Bs)→Int→Int→Int→Bs→Int→Int→Int→Bs→Int→Int→Bs→(List aa_)→(List Bs)→Option (TOp × Bool)
abbrev bg_.T7:Type:=Int→Int→Int→Bs→(List aa_)→(List Bs)→Int→Int→Int→Bs→Int→Int→Int→Bs→Int→Int→Bs→Int→Int→Bs→(List Bs)→(List aa_)→(List Bs)→(List aa_)→(List Bs)→Option (TOp × Bool)
def bg_.step7 (n:Nat) (k0:bg_.K7) (back:bg_.T7):bg_.T7:=fun t10 append0 append1 append2 append3 append4 t20 t22 t23 t24 t40 t42 t43 t44 t50 t51 t52 t70 t71 t72 t9 t53 t54 t73 t74=>
 (cond (decide (t10<(t9.length:Int))) (cond (t50 == 3) (inB t10 t9.length (cond (t52 == (t9.getD t10.toNat [])) (back (W (t10+1)) append0 append1 append2 append3 append4 t20 t22 t23 t24 t10 t42 t43 t44 t50 t51 t52 t70 t71 t72 t9 t53 t54 t73 t74) (back (W (t10+1)) append0 append1 append2 append3 append4 t20 t22 t23 t24 t40 t42 t43 t44 t50 t51 t52 t70 t71 t72 t9 t53 t54 t73 t74))) (back (W (t10+1)) append0 append1 append2 append3 append4 t20 t22 t23 t24 t40 t42 t43 t44 t50 t51 t52 t70 t71 t72 t9 t53 t54 t73 t74)) (k0 append0 append1 append2 append3 append4 t20 t22 t23 t24 t40 t42 t43 t44 t70 t71 t72 t73 t74))
def bg_.loop7 (n:Nat) (k0:bg_.K7) (N:Nat):bg_.T7:=ct_ (fun _ _ _ _ _ _ _ _ _ _ _ _ _ _ _ _ _ _ _ _ _ _ _ _ _=>none) (bg_.step7 n k0) N
def bg_.tail15 (n:Nat) (t12:Bool) (append0:Int) (append1:Int) (append2:Bs) (append3:List aa_) (append4:List Bs) (t20:Int) (t22:Int) (t23:Int) (t24:Bs) (t40:Int) (t41:List Bs) (t42:Int) (t43:Int) (t44:Bs) (t45:List aa_) (t46:List Bs):Option (TOp × Bool) :=
 (cond (!t12) (some ((TOp.mk 0 [] (aa_.mk 0 0 [] [] [])),false)) (cond (t40 == 0) (some ((TOp.mk 0 [] (aa_.mk 0 0 [] [] [])),false)) ((dX_ n (TOp.mk t40 t41 (aa_.mk t42 t43 t44 t45 t46))).bind fun xr24=>((dy_ n (aa_.re xr24) (aa_.mk append0 append1 append2 append3 append4)).bind fun xr25=>(cond (!xr25) (some ((TOp.mk 0 [] (aa_.mk 0 0 [] [] [])),false)) (some ((TOp.mk t40 t41 (aa_.mk t42 t43 t44 t45 t46)),true)))))))
def bg_:Nat→aa_→Option (TOp × Bool)
 |0,_=>none
 |n+1,o=>
  ((dU_ n (aa_.re o) [111,112]).bind fun xr1=>((dU_ n (aa_.re o) [112,97,116,104]).bind fun xr2=>((dj_ n ()).bind fun xr3=>(bg_.loop7 n (fun xy4 xy5 xy6 xy7 xy8 xy9 xy10 xy11 xy12 xy13 xy14 xy15 xy16 xy17 xy18 xy19 xy20 xy21=>((a4_ n xy19).bind fun xr22=>((dU_ n (aa_.mk xy4 xy5 xy6 xy7 xy8) [118,97,108,117,101]).bind fun xr23=>(bg_.tail15 n xr22.2 xy4 xy5 xy6 xy7 xy8 xy9 xy10 xy11 xy12 xy13 xr22.1 xr23.1.kind xr23.1.n_ xr23.1.s xr23.1.list xr23.1.names)))) n 1 o.kind o.n_ o.s o.list o.names 0 0 0 [] 0 0 0 [] xr1.1.kind xr1.1.n_ xr1.1.s xr2.1.kind xr2.1.n_ xr2.1.s xr3 xr1.1.list xr1.1.names xr2.1.list xr2.1.names))))
abbrev ad_.K20:Type:=Bs→Int→Int→Int→Int→Int→Int→Bs→Int→Int→Int→Int→Int→Bs→(List Bs)→(List aa_)→(List Bs)→(List TOp)→Option (aD_ × Bool)
abbrev ad_.T20:Type:=Bs→Int→Int→Int→Int→Int→Int→Int→Bs→Int→Int→Int→Int→Int→Bs→(List Bs)→Int→Int→Bs→(List aa_)→(List Bs)→(List TOp)→(List aa_)→(List Bs)→Option (aD_ × Bool)
def ad_.step20 (n:Nat) (k3:ad_.K20) (back:ad_.T20):ad_.T20:=fun o t6 t10 t20 t21 t22 t23 t24 t25 t40 t41 t42 t43 t44 t45 t5 t80 t81 t82 t46 t47 t48 t83 t84=>
 (cond (decide (t10<(t83.length:Int))) (inB t10 t83.length ((bg_ n (aa_.re (t83.getD t10.toNat aa_.dflt))).bind fun xr13=>(cond (!xr13.2) (some ((aD_.mk 0 0 0 (aa_.mk 0 0 [] ([]:List aa_) ([]:List Bs)) ([]:List TOp)),false)) (bm_ (t48.length+([{ xr13.1 with value:=(aa_.re xr13.1.value) }]:List TOp).length) 112 (back o t6 (W (t10+1)) t20 t21 t22 t23 t24 t25 t40 t41 t42 t43 t44 t45 t5 t80 t81 t82 t46 t47 (t48++([{ xr13.1 with value:=(aa_.re xr13.1.value) }]:List TOp)) t83 t84))))) (k3 o t6 t20 t21 t22 t23 t24 t25 t40 t41 t42 t43 t44 t45 t5 t46 t47 t48))
def ad_.loop20 (n:Nat) (k3:ad_.K20) (N:Nat):ad_.T20:=ct_ (fun _ _ _ _ _ _ _ _ _ _ _ _ _ _ _ _ _ _ _ _ _ _ _ _=>none) (ad_.step20 n k3) N
abbrev ad_.K5:Type:=Bs→Int→Int→Int→Int→Int→Bs→Int→Int→Int→Int→Int→Bs→(List aa_)→(List Bs)→(List TOp)→Option (aD_ × Bool)
abbrev ad_.T5:Type:=Bs→Int→Int→Int→Int→Int→Int→Bs→Int→Int→Int→Int→Int→Bs→(List Bs)→(List aa_)→(List Bs)→(List TOp)→Option (aD_ × Bool)
def ad_.step5 (n:Nat) (k0:ad_.K5) (back:ad_.T5):ad_.T5:=fun o t6 t20 t21 t22 t23 t24 t25 t40 t41 t42 t43 t44 t45 t5 t46 t47 t48=>
 (cond (decide (t6<(t5.length:Int))) (cond (decide (t6<6)) (inB t6 t5.length (let xv2:Bool:=((t5.getD t6.toNat []) == [101,118,101,110,116,58,32,115,110,97,112]);(cond xv2 (back o (W (t6+1)) t20 t21 t22 t23 t24 t25 1 t41 t42 t43 t44 t45 t5 t46 t47 t48) (let xv3:Bool:=((t5.getD t6.toNat []) == [101,118,101,110,116,58,32,112,97,116,99,104]);(cond xv3 (back o (W (t6+1)) t20 t21 t22 t23 t24 t25 2 t41 t42 t43 t44 t45 t5 t46 t47 t48) ((cK_ n (t5.getD t6.toNat []) [105,100,58,32]).bind fun xr4=>(cond (!(xr4 == [])) ((cK_ n (t5.getD t6.toNat []) [105,100,58,32]).bind fun xr5=>((dG_ n xr5).bind fun xr6=>(back o (W (t6+1)) t20 t21 t22 t23 t24 t25 t40 xr6.1 t42 t43 t44 t45 t5 t46 t47 t48))) ((cK_ n (t5.getD t6.toNat []) [98,97,115,101,58,32]).bind fun xr7=>(cond (!(xr7 == [])) ((cK_ n (t5.getD t6.toNat []) [98,97,115,101,58,32]).bind fun xr8=>((dG_ n xr8).bind fun xr9=>(back o (W (t6+1)) t20 t21 t22 t23 t24 t25 t40 t41 xr9.1 t43 t44 t45 t5 t46 t47 t48))) ((cK_ n (t5.getD t6.toNat []) [100,97,116,97,58,32]).bind fun xr10=>(cond (!(xr10 == [])) ((cK_ n (t5.getD t6.toNat []) [100,97,116,97,58,32]).bind fun xr11=>((dY_ n xr11).bind fun xr12=>(cond (t40 == 1) (back o (W (t6+1)) t20 t21 t22 t23 t24 t25 t40 t41 t42 xr12.1.kind xr12.1.n_ xr12.1.s t5 xr12.1.list xr12.1.names t48) (ad_.loop20 n (fun xy14 xy15 xy16 xy17 xy18 xy19 xy20 xy21 xy22 xy23 xy24 xy25 xy26 xy27 xy28 xy29 xy30 xy31=>(back xy14 (W (xy15+1)) xy16 xy17 xy18 xy19 xy20 xy21 xy22 xy23 xy24 xy25 xy26 xy27 xy28 xy29 xy30 xy31)) n o t6 0 t20 t21 t22 t23 t24 t25 t40 t41 t42 t43 t44 t45 t5 xr12.1.kind xr12.1.n_ xr12.1.s t46 t47 t48 xr12.1.list xr12.1.names)))) (back o (W (t6+1)) t20 t21 t22 t23 t24 t25 t40 t41 t42 t43 t44 t45 t5 t46 t47 t48)))))))))))) (k0 o t20 t21 t22 t23 t24 t25 t40 t41 t42 t43 t44 t45 t46 t47 t48)) (k0 o t20 t21 t22 t23 t24 t25 t40 t41 t42 t43 t44 t45 t46 t47 t48))
def ad_.loop5 (n:Nat) (k0:ad_.K5) (N:Nat):ad_.T5:=ct_ (fun _ _ _ _ _ _ _ _ _ _ _ _ _ _ _ _ _ _=>none) (ad_.step5 n k0) N
def ad_:Nat→Bs→Option (aD_ × Bool)
 |0,_=>none
 |n+1,o=>
  ((bo_ n o).bind fun xr1=>(ad_.loop5 n (fun xy32 xy33 xy34 xy35 xy36 xy37 xy38 xy39 xy40 xy41 xy42 xy43 xy44 xy45 xy46 xy47=>(cond (xy32 == []) (some ((aD_.mk 0 0 0 (aa_.mk 0 0 [] ([]:List aa_) ([]:List Bs)) ([]:List TOp)),false)) ((da_ n (aD_.mk xy39 xy40 xy41 (aa_.mk xy42 xy43 xy44 xy45 xy46) xy47)).bind fun xr48=>(cond (!(xr48 == xy32)) (some ((aD_.mk 0 0 0 (aa_.mk 0 0 [] ([]:List aa_) ([]:List Bs)) ([]:List TOp)),false)) (some ((aD_.mk xy39 xy40 xy41 (aa_.mk xy42 xy43 xy44 xy45 xy46) xy47),true)))))) n o 0 0 0 0 0 0 [] 0 0 0 0 0 [] xr1 ([]:List aa_) ([]:List Bs) ([]:List TOp)))
abbrev cs_.K8:Type:=Bs→Bs→Bool→(List aD_)→Bs→Bool→Option (aC_ × (List aD_))
abbrev cs_.T8:Type:=Bs→Bs→Bool→(List aD_)→Bs→Bool→Option (aC_ × (List aD_))
def cs_.step8 (n:Nat) (k0:cs_.K8) (back:cs_.T8):cs_.T8:=fun wait t40 t41 out_1 bad0 bad1=>
 ((b3_ n wait).bind fun xr1=>(cond (decide (xr1<0)) (k0 wait t40 t41 out_1 bad0 bad1) (gf_ 0 xr1 wait.length ((ad_ n ((wait.take xr1.toNat).drop 0)).bind fun xr2=>(cond (!xr2.2) (some ((aC_.mk bad0 bad1),out_1)) (bm_ (out_1.length+([{ xr2.1 with doc:=(aa_.re xr2.1.doc) }]:List aD_).length) 128 (gf_ xr1 (wait.length:Int) wait.length (back ((wait.take (wait.length:Int).toNat).drop xr1.toNat) t40 t41 (out_1++([{ xr2.1 with doc:=(aa_.re xr2.1.doc) }]:List aD_)) bad0 bad1))))))))
def cs_.loop8 (n:Nat) (k0:cs_.K8) (N:Nat):cs_.T8:=ct_ (fun _ _ _ _ _ _=>none) (cs_.step8 n k0) N
def cs_:Nat→aC_→Bs→Option (aC_ × (List aD_))
 |0,_,_=>none
 |n+1,s,oq_=>
  (cond s.bad (some ((aC_.mk [] true),([]:List aD_))) (cond (decide (s.wait.length+oq_.length≤9223372036854775807)) (cs_.loop8 n (fun xy3 xy4 xy5 xy6 xy7 xy8=>(cond (decide ((xy3.length:Int) > 14000)) (some ((aC_.mk xy7 xy8),xy6)) (some ((aC_.mk xy3 false),xy6)))) n (s.wait++oq_) [] false ([]:List aD_) [] true) none))
abbrev a2_.K4:Type:=(List Int)→Int→Int→(List Int)→Option ((List Int) × af_)
abbrev a2_.T4:Type:=Int→(List Int)→Int→Int→(List Int)→Option ((List Int) × af_)
def a2_.step4 (n:Nat) (k0:a2_.K4) (back:a2_.T4):a2_.T4:=fun i c0 c1 c2 out_1=>
 ((an_ n (af_.mk c0 c1 c2) 60).bind fun xr1=>(cond (decide (i<xr1.1)) ((an_ n xr1.2 5).bind fun xr2=>(bm_ (out_1.length+([(IntKind.u8.wrap ((W (97+xr2.1))))]:List Int).length) 1 (back (W (i+1)) xr2.2.b xr2.2.i xr2.2.h (out_1++([(IntKind.u8.wrap ((W (97+xr2.1))))]:List Int))))) (k0 xr1.2.b xr1.2.i xr1.2.h out_1)))
def a2_.loop4 (n:Nat) (k0:a2_.K4) (N:Nat):a2_.T4:=ct_ (fun _ _ _ _ _=>none) (a2_.step4 n k0) N
def a2_:Nat→af_→Option ((List Int) × af_)
 |0,_=>none
 |n+1,c=>
  (a2_.loop4 n (fun xy3 xy4 xy5 xy6=>(some (xy6,(af_.mk xy3 xy4 xy5)))) n 0 c.b c.i c.h ([]:List Int))
abbrev aM_.K4:Type:=(List Int)→Int→Int→(List Int)→Option ((List Int) × af_)
abbrev aM_.T4:Type:=Int→(List Int)→Int→Int→(List Int)→Option ((List Int) × af_)
def aM_.step4 (n:Nat) (k0:aM_.K4) (back:aM_.T4):aM_.T4:=fun i c0 c1 c2 out_1=>
 ((an_ n (af_.mk c0 c1 c2) 6).bind fun xr1=>(cond (decide (i<xr1.1)) ((bH_ n xr1.2 ([0,1,2,7,20,60,(-1),300]:List Int)).bind fun xr2=>(bm_ (out_1.length+([xr2.1]:List Int).length) 8 (back (W (i+1)) xr2.2.b xr2.2.i xr2.2.h (out_1++([xr2.1]:List Int))))) (k0 xr1.2.b xr1.2.i xr1.2.h out_1)))
def aM_.loop4 (n:Nat) (k0:aM_.K4) (N:Nat):aM_.T4:=ct_ (fun _ _ _ _ _=>none) (aM_.step4 n k0) N
def aM_:Nat→af_→Option ((List Int) × af_)
 |0,_=>none
 |n+1,c=>
  (aM_.loop4 n (fun xy3 xy4 xy5 xy6=>(some (xy6,(af_.mk xy3 xy4 xy5)))) n 0 c.b c.i c.h ([]:List Int))
def dg_:Nat→(List Int)→Option (Bs × (List Int))
 |0,_=>none
 |n+1,e4_=>
  ((cf_ n e4_).bind fun xr1=>((a2_ n xr1).bind fun xr2=>((aM_ n xr2.2).bind fun xr3=>(some ((hL_ xr2.1),xr3.1)))))
abbrev b6_.K4:Type:=Bs→(List Bs)→Option (List Bs)
abbrev b6_.T4:Type:=Bs→(List Int)→Int→Int→(List Bs)→Option (List Bs)
def b6_.step4 (n:Nat) (k0:b6_.K4) (back:b6_.T4):b6_.T4:=fun text t10 t11 t12 pieces=>
 (cond (decide (t12<t11)) (inB t12 t10.length (let xv1:Int:=(cond (decide ((0:Int) > (t10.getD t12.toNat 0))) 0 (t10.getD t12.toNat 0));(gf_ 0 (cond (decide ((text.length:Int)<xv1)) (text.length:Int) xv1) text.length (let xv2:Bs:=((text.take (cond (decide ((text.length:Int)<xv1)) (text.length:Int) xv1).toNat).drop 0);(bm_ (pieces.length+([xv2]:List Bs).length) 16 (gf_ (cond (decide ((text.length:Int)<xv1)) (text.length:Int) xv1) (text.length:Int) text.length (let xv3:Bs:=((text.take (text.length:Int).toNat).drop (cond (decide ((text.length:Int)<xv1)) (text.length:Int) xv1).toNat);(back xv3 t10 t11 (W (t12+1)) (pieces++([xv2]:List Bs)))))))))) (k0 text pieces))
def b6_.loop4 (n:Nat) (k0:b6_.K4) (N:Nat):b6_.T4:=ct_ (fun _ _ _ _ _=>none) (b6_.step4 n k0) N
def b6_:Nat→Bs→(List Int)→Option (List Bs)
 |0,_,_=>none
 |n+1,text,sizes=>
  (b6_.loop4 n (fun xy4 xy5=>(cond (!(xy4 == [])) (bm_ (xy5.length+([xy4]:List Bs).length) 16 (some (xy5++([xy4]:List Bs)))) (some xy5))) n text sizes (sizes.length:Int) 0 ([]:List Bs))
abbrev bN_.K4:Type:=Bs→Bool→Bs→Bool→(List aD_)→Option (aC_ × (List aD_))
abbrev bN_.T4:Type:=(List Bs)→Int→Int→Bs→Bool→Bs→Bool→(List aD_)→Option (aC_ × (List aD_))
def bN_.step4 (n:Nat) (k0:bN_.K4) (back:bN_.T4):bN_.T4:=fun t12 t13 t14 s0 s1 t40 t41 all=>
 (cond (decide (t14<t13)) (inB t14 t12.length ((cd_ n (aC_.mk s0 s1) (t12.getD t14.toNat [])).bind fun xr1=>(bm_ (all.length+xr1.2.length) 128 (back t12 t13 (W (t14+1)) xr1.1.wait xr1.1.bad t40 t41 (all++xr1.2))))) (k0 s0 s1 t40 t41 all))
def bN_.loop4 (n:Nat) (k0:bN_.K4) (N:Nat):bN_.T4:=ct_ (fun _ _ _ _ _ _ _ _=>none) (bN_.step4 n k0) N
def bN_:Nat→aC_→(List Bs)→Option (aC_ × (List aD_))
 |0,_,_=>none
 |n+1,s,pieces=>
  (bN_.loop4 n (fun xy2 xy3 xy4 xy5 xy6=>(some ((aC_.mk xy2 xy3),xy6))) n pieces (pieces.length:Int) 0 s.wait s.bad [] false ([]:List aD_))
abbrev laws_FnPieces.K20:Type:=(List aD_)→(List aD_)→Option Bool
abbrev laws_FnPieces.T20:Type:=Int→(List aD_)→(List aD_)→Option Bool
def laws_FnPieces.step20 (n:Nat) (k0:laws_FnPieces.K20) (back:laws_FnPieces.T20):laws_FnPieces.T20:=fun t13 t6 t12=>
 (cond (decide (t13<(t6.length:Int))) (cond (decide (t13<(t12.length:Int))) (inB t13 t6.length ((c5_ n { (t6.getD t13.toNat aD_.dflt) with doc:=(aa_.re ((t6.getD t13.toNat aD_.dflt).doc)) }).bind fun xr11=>(inB t13 t12.length ((c5_ n { (t12.getD t13.toNat aD_.dflt) with doc:=(aa_.re ((t12.getD t13.toNat aD_.dflt).doc)) }).bind fun xr12=>(cond (!(xr11 == xr12)) (some false) (back (W (t13+1)) t6 t12)))))) (k0 t6 t12)) (k0 t6 t12))
def laws_FnPieces.loop20 (n:Nat) (k0:laws_FnPieces.K20) (N:Nat):laws_FnPieces.T20:=ct_ (fun _ _ _=>none) (laws_FnPieces.step20 n k0) N
def laws_FnPieces:Nat→(List Int)→Option Bool
 |0,_=>none
 |n+1,o=>
  ((gc_ n o).bind fun xr1=>(cond xr1 (some true) ((bt_ n o).bind fun xr2=>((cd_ n xr2.1 xr2.2).bind fun xr3=>((cs_ n xr2.1 xr2.2).bind fun xr4=>(let xv5:Bool:=(!(cond (xr3.1.wait == xr4.1.wait) (cond (xr3.1.bad == xr4.1.bad) true false) false));(cond xv5 (some false) (cond ((xr3.2.length:Int) != (xr4.2.length:Int)) (some false) ((dg_ n o).bind fun xr6=>((b6_ n xr2.2 xr6.2).bind fun xr7=>(bm_ (xr7.length+([[]]:List Bs).length) 16 ((bN_ n xr2.1 (xr7++([[]]:List Bs))).bind fun xr8=>(cond (decide ((xr2.2.length:Int) > 3000)) (some (decide ((xr6.1.length:Int)≥0))) (let xv9:Bool:=(decide ((W ((xr2.1.wait.length:Int)+(xr2.2.length:Int))) > 14000));(cond xv9 (some (decide ((xr6.1.length:Int)≥0))) (let xv10:Bool:=(!(cond (xr3.1.wait == xr8.1.wait) (cond (xr3.1.bad == xr8.1.bad) true false) false));(cond xv10 (some false) (cond ((xr3.2.length:Int) != (xr8.2.length:Int)) (cond (!xr3.1.bad) (some false) (laws_FnPieces.loop20 n (fun xy13 xy14=>(some ((xy13.length:Int) == (xy14.length:Int)))) n 0 xr3.2 xr8.2)) (laws_FnPieces.loop20 n (fun xy15 xy16=>(some ((xy15.length:Int) == (xy16.length:Int)))) n 0 xr3.2 xr8.2)))))))))))))))))))
end Go.Pi
end
