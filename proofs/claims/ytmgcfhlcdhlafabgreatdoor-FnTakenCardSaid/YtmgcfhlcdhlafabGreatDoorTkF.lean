/- FnTaken: who asked of a drawn store and takes what is due has nothing due then; what was ek_ leads from what was sent to what is true. No condition. Text 6 of 7. -/
import Derived.Test.YtmgcfhlcdhlafabGreatDoorTkE
import Derived.Test.YtmgcfhlcdhlafabGreatDoorRows
import Derived.ProofKit
import Derived.OpenShut
import Derived.JoinedOf
import Derived.JoinedAt
import Derived.ChangeVars
import Derived.ChangeMaps5
import Derived.Test.YtmgcfhlcdhlafabGreatDoorTie
import Derived.Test.YtmgcfhlcdhlafabGreatDoorCards
import Derived.IntWalk
import Derived.Lib.ItoaLen
set_option linter.unusedVariables false
set_option maxRecDepth 100000
set_option linter.unusedSimpArgs false
section
namespace Go.Pi
open Go.Proofs Go.Proofs.YtmgcfhlcdhlafabGreatDoor
open Go.ChangeShapes Go.WideShapes Go.ChangeAt Go.RowKit
def fN_:TypeId→Option TC:=codeL eid [.u8,.int,.str,.iCond,.iRow,.iKid,.s_iRow,.iJson,.iOp,.iMut,.iChange,.ikeyed]
def kinds:TC→List Kd
 |.u8=>[.i .u8]
 |.int=>[.i .i64]
 |.str=>[.s]
 |.iCond=>[.i .i64,.i .i64,.i .i64]
 |.iRow=>[.i .i64,.sl .int]
 |.iKid=>[.i .i64,.i .i64]
 |.s_iRow=>[.sl .iRow]
 |.iJson=>[.i .i64,.i .i64,.s,.sl .iJson,.sl .str]
 |.iOp=>[.i .i64,.sl .str,.i .i64,.i .i64,.s,.sl .iJson,.sl .str]
 |.iMut=>[.i .i64,.i .i64,.i .i64,.sl .int]
 |.iChange=>[.i .i64,.b,.b,.i .i64,.sl .int,.i .i64,.sl .int]
 |.ikeyed=>[.i .i64,.i .i64,.i .i64,.s,.sl .iJson,.sl .str]
theorem kindsOk:mp_ E fN_ kinds 12 where
 codeOk:=fun e t h=>r5_ _ h
 kdsOk:=by intro t;cases t<;>kernel_rfl
 cells:=by intro t;cases t<;>kernel_rfl
 dec:=by
  intro t l h
  cases t with
  |u8=>
   iterate 1 (replace h:=dj_ h;obtain ⟨_,_,rfl,⟨_,rfl⟩,h⟩:=h)
   replace h:=dR_ h;subst h;exact ⟨_,rfl⟩
  |int=>
   iterate 1 (replace h:=dj_ h;obtain ⟨_,_,rfl,⟨_,rfl⟩,h⟩:=h)
   replace h:=dR_ h;subst h;exact ⟨_,rfl⟩
  |str=>
   iterate 1 (replace h:=dj_ h;obtain ⟨_,_,rfl,⟨_,rfl⟩,h⟩:=h)
   replace h:=dR_ h;subst h;exact ⟨_,rfl⟩
  |iCond=>
   iterate 3 (replace h:=dj_ h;obtain ⟨_,_,rfl,⟨_,rfl⟩,h⟩:=h)
   replace h:=dR_ h;subst h;exact ⟨_,rfl⟩
  |iRow=>
   iterate 2 (replace h:=dj_ h;obtain ⟨_,_,rfl,⟨_,rfl⟩,h⟩:=h)
   replace h:=dR_ h;subst h;exact ⟨_,rfl⟩
  |iKid=>
   iterate 2 (replace h:=dj_ h;obtain ⟨_,_,rfl,⟨_,rfl⟩,h⟩:=h)
   replace h:=dR_ h;subst h;exact ⟨_,rfl⟩
  |s_iRow=>
   iterate 1 (replace h:=dj_ h;obtain ⟨_,_,rfl,⟨_,rfl⟩,h⟩:=h)
   replace h:=dR_ h;subst h;exact ⟨_,rfl⟩
  |iJson=>
   iterate 5 (replace h:=dj_ h;obtain ⟨_,_,rfl,⟨_,rfl⟩,h⟩:=h)
   replace h:=dR_ h;subst h;exact ⟨_,rfl⟩
  |iOp=>
   iterate 7 (replace h:=dj_ h;obtain ⟨_,_,rfl,⟨_,rfl⟩,h⟩:=h)
   replace h:=dR_ h;subst h;exact ⟨_,rfl⟩
  |iMut=>
   iterate 4 (replace h:=dj_ h;obtain ⟨_,_,rfl,⟨_,rfl⟩,h⟩:=h)
   replace h:=dR_ h;subst h;exact ⟨_,rfl⟩
  |iChange=>
   iterate 7 (replace h:=dj_ h;obtain ⟨_,_,rfl,⟨_,rfl⟩,h⟩:=h)
   replace h:=dR_ h;subst h;exact ⟨_,rfl⟩
  |ikeyed=>
   iterate 6 (replace h:=dj_ h;obtain ⟨_,_,rfl,⟨_,rfl⟩,h⟩:=h)
   replace h:=dR_ h;subst h;exact ⟨_,rfl⟩
namespace laws_FnTaken
theorem own:ownKnob Tryz.prog.godebug=none:=by kernel_rfl
theorem laidOut:laidOutB Tryz.prog=true:=by kernel_rfl
def ss_:DataW Unit→ByteArray
 |.iface _ (.ptr (.agg [.lit (.string l)]))=>⟨l.toArray⟩
 |_=>ByteArray.empty
def tab1:DataW Unit→List Value
 |.lit (.int k n)=>[Value.int k n]
 |_=>[]
def tab2:DataW Unit→List Value
 |.agg l=>l.flatMap tab1
 |d=>tab1 d
def eN_:DataW Unit→Array Value
 |.agg l=>(l.flatMap tab2).toArray
 |_ => #[]
def Pure:Prop:=∀ (o:List Int),(∀ c ∈ ([.sl .v .u8 o]:List AV),Good c)→∃ n,Go.Pi.laws_FnTaken n o=some true
noncomputable def low:Nat:=(World.holding Tryz.prog default ⟨#[],#[],[]⟩).heap.size
noncomputable def pl_ (os:Os):World :=
 let w0:=World.holding Tryz.prog os ⟨#[.cells #[.string (ss_ Rows.laid_strconv_ErrRange)] 273,.cells #[.string (ss_ Rows.laid_strconv_ErrSyntax)] 273],#[],[]⟩
 let put:=fun (h:Array Obj) (g:Nat) (cs:Array Value)=>h.modify g fun
  |.cells _ t frozen=>.cells cs t frozen
  |o=>o
 { w0 with heap:=put (put (put (put (put (put (put (w0.heap) 4 (eN_ Rows.laid_math_bits_deBruijn32tab)) 5 (eN_ Rows.laid_math_bits_deBruijn64tab)) 0 (eN_ Rows.laid_internal_strconv_uint64pow10)) 3 (eN_ Rows.laid_unicode_utf8_acceptRanges)) 7 (#[.iface 271 (.pointer (some ⟨low+0,0,none⟩))])) 6 (#[.iface 271 (.pointer (some ⟨low+1,0,none⟩))])) 2 (eN_ Rows.laid_unicode_utf8_first) }
theorem oc_ (os:Os) (args:Array Value):laidMet Tryz.prog Rows.fnTakenRow.laid ((pl_ os).forCall (fun _ _=>0) ⟨#[],args,[]⟩).memory :=
 laidMet_of_run' 8 (by kernel_rfl) (by kernel_rfl)
theorem lifted (hp:Pure) (os:Os) (started:os.Started) (H:Type) (enc:TypeId × Value→H) :
  ReturnsInHanded {} Tryz.checked os 4 .any (fun w args=>(Rows.fnTakenSpec.pre enc Tryz.prog Tryz.f4 Rows.fnTakenRow.domain false w args∧laidMet Tryz.prog Rows.fnTakenRow.laid w)∧sizedMet enc Tryz.prog Tryz.f4 (OpenSpec.ofChange Rows.fnTakenSpec) false w args) (Rows.fnTakenSpec.post enc Tryz.prog Tryz.f4 false true false false):=by
 refine returnsInHanded_of_calls own started (by kernel_rfl) (ChangeSpec.witness_at (enc:=enc) (C:=Tryz.checked) (os:=os) (X:=fun w _=>laidMet Tryz.prog Rows.fnTakenRow.laid w) false (pl_ os) #[.slice none 0 0] 8 rfl (by kernel_rfl) (by kernel_rfl) (by kernel_rfl) (by kernel_rfl) (by kernel_rfl) (oc_ os _)) ?_
 intro w0 tape inp _ hsh _ hok hpre _
 obtain ⟨_,_,_,fn',hfn',_,_,_,_,hval0⟩:=hok
 obtain rfl:fn'=Tryz.f4:=Option.some.inj (hfn'.symm.trans Tryz.func4)
 obtain ⟨⟨⟨ds,gs,before,hw0,hcnd⟩,hL0⟩,hz⟩:=hpre
 have hW:=DataW.Whole.of_heap (w':=w0.forCall tape inp) (by rfl) hw0
 have hL:laidMet Tryz.prog Rows.fnTakenRow.laid (w0.forCall tape inp):=hL0.of_heap (by rfl)
 clear hw0 hL0 hz hfn' hcnd
 generalize w0.forCall tape inp=W at hsh hval0 hW hL ⊢
 generalize inp.args=args at hval0 hW ⊢
 generalize w0.heap.size=base at hval0
 suffices hgo:Calls Tryz.prog 4 args W fun e W'=>∃ v,e = .returned v∧Rows.fnTakenSpec.post enc Tryz.prog Tryz.f4 false true false false W args v W' from hgo.mono fun e W' ⟨v,he,hp⟩=>by subst he;exact ChangeSpec.post_blind hp
 have hval:∀ (j:Nat) t v,Tryz.f4.params[j]?=some t→args[j]?=some v→Value.okWide Tryz.prog W .any base t v:=hval0
 have hW':=hW
 obtain ⟨p,q,hA0,hV,rfl,hfz,hnd⟩:=hW
 have hA:DataW.TrodAll enc Tryz.prog W 0 (fun _=>true) true Tryz.f4.params.toList args.toList ds p:=hA0
 rw [Tryz.params4] at hA hval
 obtain ⟨v0,vs0,d0,ds0,p0,q0,hargs,rfl,rfl,h0,r0⟩:=trodAll_cons hA
 obtain ⟨rfl,rfl,rfl⟩:=trodAll_nil r0
 obtain rfl:args = #[v0]:=by cases args;simp_all
 obtain ⟨rfl,rfl⟩:=trodVars_none hV
 obtain ⟨c0,len0,cap0,rfl⟩:=okWide_slice Tryz.underlying22 (hval 0 22 v0 rfl rfl)
 have lt0:∀ x ∈ p0,x.block<W.heap.size:=by obtain ⟨m,hm⟩:=h0;exact DataW.trod_lt m _ _ _ hm
 obtain ⟨l0,k0,e0,g0⟩:=arg_open kindsOk (T:=22) (ks:=[.sl .u8]) (by kernel_rfl) h0
 replace k0:=dj_ k0;obtain ⟨_,_,rfl,⟨z0,rfl⟩,k0⟩:=k0
 replace k0:=dR_ k0;subst k0
 have hT:Lib.TabIs Tryz.prog W "internal/strconv.uint64pow10" .u64 Lib.pow10Tab:=Lib.tabIs_of_head (t:=242) (e:=225) (n:=20) l9_ (by kernel_rfl) (by kernel_rfl) (by kernel_rfl) (by kernel_rfl) (by kernel_rfl) (show laidMet Tryz.prog ((_,Lib.tabData .u64 Lib.pow10Tab)::_) W from hL.tail.tail)
 obtain ⟨mx,hmx⟩:=cell_of_shapedOpen_int (g:=1) (t:=3) (k:=.i64) (zero:=#[.int .i64 0]) hsh (by decide +kernel) (by kernel_rfl) rfl (by kernel_rfl) (by kernel_rfl) (by kernel_rfl)
 have hgl:Glob E W NoF:=fun p hp=>by
  rcases List.mem_cons.1 hp with rfl|hp
  · obtain ⟨T,fr,h⟩:=tab_glob hT l9_;exact ⟨⟨_,T,fr,h,rfl⟩,fun h=>h.elim⟩
  rcases List.mem_cons.1 hp with rfl|hp
  · exact ⟨int_glob hmx,fun h=>h.elim⟩
  rcases List.mem_cons.1 hp with rfl|hp
  · exact ⟨rY_ (d:=.ptr (.agg [.lit (.string (ss_ Rows.laid_strconv_ErrSyntax).data.toList)])) (show laidMet Tryz.prog (("strconv.ErrSyntax", .iface "*errors.errorString" (.ptr (.agg [.lit (.string (ss_ Rows.laid_strconv_ErrSyntax).data.toList)])))::_) W from hL.tail.tail.tail.tail.tail) (by kernel_rfl) (by kernel_rfl),fun h=>h.elim⟩
  rcases List.mem_singleton.1 hp with rfl
  exact ⟨rY_ (d:=.ptr (.agg [.lit (.string (ss_ Rows.laid_strconv_ErrRange).data.toList)])) (show laidMet Tryz.prog (("strconv.ErrRange", .iface "*errors.errorString" (.ptr (.agg [.lit (.string (ss_ Rows.laid_strconv_ErrRange).data.toList)])))::_) W from hL.tail.tail.tail.tail) (by kernel_rfl) (by kernel_rfl),fun h=>h.elim⟩
 obtain ⟨n,hn⟩:=hp z0 g0
 refine (law_true ((AllE.get (e:=laws_FnTaken.e) 0 (allOk n) (by kernel_rfl)) (z0,()) _ hn) hgl (RL.cons e0 (.nil _ fun _=>rfl) (fun b=>rfl))).mono fun e W' ⟨he,bel⟩ => ?_
 subst he
 exact ⟨_,rfl,_,_,_,[],_,[],hW',trodAll_mk1 (shut_bool Tryz.underlying4 _),(trodAll_cons_mk (Below.trod laidOut (by kernel_rfl) (of_decide_eq_true (by kernel_rfl)) h0 bel lt0) trodAll_mk0),rfl,bel.frame _,fun h=>by cases h⟩
theorem jf0:(Rows.fnTakenRow.wf (OpenSpec.ofChange Rows.fnTakenSpec))=true:=by kernel_rfl
theorem jf1:(laidOutB Tryz.prog)=true:=by kernel_rfl
theorem jf2:(mapsRowed Tryz.prog)=true:=by kernel_rfl
theorem jf3:(Tryz.f4.params.all (Tryz.prog.readableRec ·))=true:=by kernel_rfl
theorem jf4:(namedTie Tryz.prog Rows.fnTakenRow.named Rows.fnTakenSpec.vars)=true:=by kernel_rfl
theorem jf5:((Rows.fnTakenRow.stops == []))=true:=by kernel_rfl
theorem jf6:((Tryz.prog.stops == []))=true:=by kernel_rfl
theorem jf7:((Rows.fnTakenRow.knobs == []))=true:=by kernel_rfl
theorem jf8:((Tryz.prog.stopKnobs == []))=true:=by kernel_rfl
theorem jf9:((Rows.fnTakenRow.inPlace == Tryz.prog.inPlace 4))=true:=by kernel_rfl
theorem jf10:((Rows.fnTakenRow.unfollowed == Tryz.prog.unfollowed 4))=true:=by kernel_rfl
theorem jf11:((Rows.fnTakenRow.recurses == Tryz.prog.recurses 4))=true:=by kernel_rfl
theorem jf12:((Rows.fnTakenRow.named == Tryz.prog.varsNamed 4))=true:=by kernel_rfl
theorem jf13:((Rows.fnTakenRow.maps == (Tryz.f4.params.toList++Rows.fnTakenSpec.plain.varTypes Tryz.prog).any (Tryz.prog.mapsRec ·)))=true:=by kernel_rfl
theorem jf14:((Rows.fnTakenRow.ifaces == (Tryz.f4.params.toList++Rows.fnTakenSpec.plain.varTypes Tryz.prog).any (Tryz.prog.ifacesRec ·)))=true:=by kernel_rfl
theorem jf15:((Rows.fnTakenRow.mapsOut == Tryz.prog.mapsAmong Tryz.f4.resultTypes.toList))=true:=by kernel_rfl
theorem jf16:((Rows.fnTakenRow.loops == (Tryz.f4.params.toList++Rows.fnTakenSpec.plain.varTypes Tryz.prog).any (Tryz.prog.loopsFrom ·)))=true:=by kernel_rfl
theorem jf17:((Rows.fnTakenRow.wideKeys == (Tryz.f4.params.toList++Rows.fnTakenSpec.plain.varTypes Tryz.prog++Tryz.f4.resultTypes.toList).any (Tryz.prog.wideKeysFrom ·)))=true:=by kernel_rfl
theorem jf18:(Rows.fnTakenSpec.vars.all (Tryz.prog.varReadable ·))=true:=by kernel_rfl
theorem jf19:(Tryz.f4.resultTypes.all (fun t=>Tryz.prog.readableRec t&&decide (t<Tryz.prog.types.size)))=true:=by kernel_rfl
theorem jf20:((Rows.fnTakenRow.ifacesOut == Tryz.f4.resultTypes.toList.any (Tryz.prog.ifacesRec ·)))=true:=by kernel_rfl
theorem jf21:((Rows.fnTakenRow.loopsOut == Tryz.f4.resultTypes.toList.any (Tryz.prog.loopsFrom ·)))=true:=by kernel_rfl
theorem jf22:((Rows.fnTakenRow.plainKeys == Tryz.prog.plainKeys))=true:=by kernel_rfl
theorem jf23:(Rows.fnTakenRow.shortTexts.isNone)=true:=by kernel_rfl
theorem jf24:(Tryz.prog.stopsHeard)=true:=by kernel_rfl
theorem jf25:(Tryz.prog.mayEnter)=true:=by kernel_rfl
theorem jf26:((Rows.fnTakenRow.lifted == Tryz.prog.liftsFinal))=true:=by kernel_rfl
theorem jf27:((Tryz.prog.make == some Rows.fnTakenRow.make))=true:=by kernel_rfl
theorem jf28:((Rows.fnTakenRow.kinds == (if Rows.fnTakenRow.domain.isEmpty then [] else Tryz.f4.params.toList.map fun t=>match Tryz.prog.underlying t with|some (.int k)=>some k|_=>none)))=true:=by kernel_rfl
theorem jf29:((Rows.fnTakenRow.pinned == Rows.fnTakenRow.pinnedBy))=true:=by kernel_rfl
theorem jf30:((Rows.fnTakenRow.veiled == (Tryz.f4.params.toList++Rows.fnTakenSpec.plain.varTypes Tryz.prog++Tryz.f4.resultTypes.toList).any (Tryz.prog.veiledRec ·)))=true:=by kernel_rfl
theorem jf31:(Rows.fnTakenRow.veiledFits Tryz.prog Tryz.f4.params.toList (Tryz.f4.params.toList++Rows.fnTakenSpec.plain.varTypes Tryz.prog++Tryz.f4.resultTypes.toList))=true:=by kernel_rfl
theorem jo_ {a b:Bool} (h:a=true) (k:b=true):(a&&b)=true:=by rw [h,k];rfl
theorem facts:joinedFacts Tryz.pinned.checked.prog 4 Tryz.f4 Rows.fnTakenSpec Rows.fnTakenRow=true:=(jo_ (jo_ (jo_ (jo_ (jo_ (jo_ (jo_ (jo_ (jo_ (jo_ (jo_ (jo_ (jo_ (jo_ (jo_ (jo_ (jo_ (jo_ (jo_ (jo_ (jo_ (jo_ (jo_ (jo_ (jo_ (jo_ (jo_ (jo_ (jo_ (jo_ (jo_ jf0 jf1) jf2) jf3) jf4) jf5) jf6) jf7) jf8) jf9) jf10) jf11) jf12) jf13) jf14) jf15) jf16) jf17) jf18) jf19) jf20) jf21) jf22) jf23) jf24) jf25) jf26) jf27) jf28) jf29) jf30) jf31)
theorem over (hp:Pure):Rows.fnTakenRow.holds Tryz.pinned (OpenSpec.ofChange Rows.fnTakenSpec) :=
 OpenClaim.holds_of_wide 4 Tryz.f4 rfl rfl rfl rfl rfl rfl rfl ⟨rfl,rfl,rfl,rfl,rfl⟩ rfl rfl rfl rfl rfl (by kernel_rfl) Tryz.func4 facts
  (of_decide_eq_true (by kernel_rfl)) (by unfold Func.isWrapper;first|(rw [if_pos (by decide +kernel)];kernel_rfl)|(rw [if_neg (by decide +kernel)];exact ⟨rfl,rfl⟩))
  (fun os started H enc _=>lifted hp os started H enc)
end laws_FnTaken
theorem laws_FnTaken.card (hp:laws_FnTaken.Pure):Rows.FnTakenCardSaid :=
 Claim7.holds_tied_plain_at .later [] [.data,.data,.data,.data,.sentinel,.sentinel,.pinned] true (true, "dbbf22aafad005238eed28e4217895b12395ff41278b626b8aa0d8fea5ae949e") true
  (laws_FnTaken.over hp) (fun _ h=>by cases h) (by kernel_rfl) (fun _ h=>by cases h) fnTaken_row_tie rfl ⟨rfl,rfl⟩ (by kernel_rfl) rfl
  (fun f fn hf hfn=>by
    obtain rfl:f=4:=Option.some.inj ((show Tryz.prog.funcNamed "loop.example/g00198/laws.FnTaken" = some 4 by kernel_rfl).symm.trans hf) |>.symm
    obtain rfl:fn=Tryz.f4:=(Option.some.inj (Tryz.func4.symm.trans hfn)).symm
    exact ⟨by kernel_rfl,fun j t ht=>by
     rw [Tryz.params4] at ht
     have hm:t ∈ ([22]:List TypeId):=List.mem_of_getElem? (show ([22]:List TypeId)[j]?=some t by simpa using ht)
     have:=List.all_eq_true.1 (show ([22]:List TypeId).all (fun t => !Tryz.prog.wantsStandIn t)=true by kernel_rfl) t hm
     exact (by simpa using this:Tryz.prog.wantsStandIn t=false)⟩)
  (by kernel_rfl)
end Go.Pi
end
section
namespace Go.Pi
section
variable {α β:Type}
def Ev (f:Nat→Nat→Option α) (v:α):Prop:=∃ M,∀ n N,M≤n→M≤N→f n N=some v
theorem ac_ {v w:α}:Ev (fun _ _=>some v) w↔v=w :=
 ⟨fun ⟨M,h⟩=>Option.some.inj (h M M (Nat.le_refl _) (Nat.le_refl _)),fun h=>⟨0,fun _ _ _ _=>by rw [h]⟩⟩
theorem c2_ {f:Nat→Nat→Option α} {v w:α} (h:Ev f v):Ev f w↔v=w:=by
 constructor
 · rintro ⟨M',h'⟩
   obtain ⟨M,h⟩:=h
   have a:=h (max M M') (max M M') (by omega) (by omega)
   have b:=h' (max M M') (max M M') (by omega) (by omega)
   rw [a] at b
   exact Option.some.inj b
 · rintro rfl;exact h
theorem ab_ {f:Nat→Nat→Option α} {a:α} (h:Ev f a) {g:Nat→Nat→α→Option β} {v:β}:Ev (fun n N=>(f n N).bind (g n N)) v↔Ev (fun n N=>g n N a) v:=by
 obtain ⟨M,h⟩:=h
 constructor
 · rintro ⟨M',h'⟩
   refine ⟨max M M',fun n N h1 h2 => ?_⟩
   have:=h' n N (by omega) (by omega)
   simp only [h n N (by omega) (by omega),Option.bind_some] at this
   exact this
 · rintro ⟨M',h'⟩
   refine ⟨max M M',fun n N h1 h2 => ?_⟩
   simp only [h n N (by omega) (by omega),Option.bind_some]
   exact h' n N (by omega) (by omega)
theorem c1_ {v:α}:Ev (fun _ _=>none) v↔False:=by
 simp only [iff_false]
 rintro ⟨M,h⟩
 cases h M M (Nat.le_refl _) (Nat.le_refl _)
theorem an_ {c:Bool} {f g:Nat→Nat→Option α} {v:α}:Ev (fun n N=>cond c (f n N) (g n N)) v↔(c=true→Ev f v)∧(c=false→Ev g v):=by
 cases c<;>simp
theorem bk_ {i:Int} {len:Nat} {f:Nat→Nat→Option α} {v:α}:Ev (fun n N=>inB i len (f n N)) v↔(0≤i∧i<(len:Int))∧Ev f v:=by
 unfold inB
 rw [an_,an_]
 by_cases h1:0≤i<;>by_cases h2:i<(len:Int)<;>simp [h1,h2,c1_]
theorem aq_ {f:Nat→Nat→Option α} {v:α} (h:Ev (fun n N=>f (n+1) N) v):Ev f v:=by
 obtain ⟨M,h⟩:=h
 refine ⟨M+1,fun n N h1 h2 => ?_⟩
 obtain ⟨m,rfl⟩:∃ m,n=m+1:=⟨n - 1,by omega⟩
 exact h m N (by omega) (by omega)
theorem fb_ {f:Nat→Nat→Option α} {v:α} (h:Ev f v):Ev (fun n _=>f n n) v:=by
 obtain ⟨M,h⟩:=h
 exact ⟨M,fun n N h1 h2=>h n n h1 h1⟩
theorem cx_ {f:Nat→Nat→Option α} {v:α} (h:Ev (fun n N=>f n (N+1)) v):Ev f v:=by
 obtain ⟨M,h⟩:=h
 refine ⟨M+1,fun n N h1 h2 => ?_⟩
 obtain ⟨m,rfl⟩:∃ m,N=m+1:=⟨N - 1,by omega⟩
 exact h n m (by omega) (by omega)
theorem ev_ex {f:Nat→Option α} {v:α} (h:Ev (fun n _=>f n) v):∃ n,f n=some v:=by
 obtain ⟨M,h⟩:=h
 exact ⟨M,h M M (Nat.le_refl _) (Nat.le_refl _)⟩
end
abbrev bO_:Nat:=9223372036854775807
theorem W_id {n:Int} (h : -9223372036854775808≤n) (h':n<9223372036854775808):W n=n:=by
 show IntKind.i64.wrap n=n
 rw [IntKind.wrap_i64];omega
theorem W_up {i:Nat} {len:Nat} (h:i<len) (hl:len≤bO_):W ((i:Int)+1)=((i+1:Nat):Int):=by
 rw [W_id (by omega) (by simp only [bO_] at hl;omega)];omega
theorem fE_ {α:Type} (d:α) {a:List α} {i:Nat} (h:i<a.length):a.drop i=a.getD i d::a.drop (i+1):=by
 rw [List.drop_eq_getElem_cons h,List.getD_eq_getElem?_getD,List.getElem?_eq_getElem h];rfl
theorem aZ_ {α:Type} (d:α) {a:List α} {i:Nat} (h:i<a.length):a.getD i d ∈ a:=by
 rw [List.getD_eq_getElem?_getD,List.getElem?_eq_getElem h];exact List.getElem_mem h
end Go.Pi
end
section
namespace Go.Pi
theorem b9_.turn4 {n N k}:b9_.loop4 n k (N+1)=b9_.step4 n k (b9_.loop4 n k N):=rfl
theorem ay_.turn4 {n N k}:ay_.loop4 n k (N+1)=ay_.step4 n k (ay_.loop4 n k N):=rfl
theorem a1_.turn3 {n N k}:a1_.loop3 n k (N+1)=a1_.step3 n k (a1_.loop3 n k N):=rfl
theorem aN_.turn4 {n N k}:aN_.loop4 n k (N+1)=aN_.step4 n k (aN_.loop4 n k N):=rfl
theorem ca_.turn3 {n N k}:ca_.loop3 n k (N+1)=ca_.step3 n k (ca_.loop3 n k N):=rfl
theorem bc_.turn5 {n N k}:bc_.loop5 n k (N+1)=bc_.step5 n k (bc_.loop5 n k N):=rfl
theorem bx_.turn6 {n N k}:bx_.loop6 n k (N+1)=bx_.step6 n k (bx_.loop6 n k N):=rfl
theorem aE_.turn4 {n N k}:aE_.loop4 n k (N+1)=aE_.step4 n k (aE_.loop4 n k N):=rfl
theorem az_.turn4 {n N k}:az_.loop4 n k (N+1)=az_.step4 n k (az_.loop4 n k N):=rfl
theorem ad_.turn7 {n N k}:ad_.loop7 n k (N+1)=ad_.step7 n k (ad_.loop7 n k N):=rfl
theorem ad_.turn16 {n N k}:ad_.loop16 n k (N+1)=ad_.step16 n k (ad_.loop16 n k N):=rfl
theorem ce_.turn6 {n N k}:ce_.loop6 n k (N+1)=ce_.step6 n k (ce_.loop6 n k N):=rfl
theorem bR_.turn3 {n N k}:bR_.loop3 n k (N+1)=bR_.step3 n k (bR_.loop3 n k N):=rfl
theorem bs_.turn6 {n N k}:bs_.loop6 n k (N+1)=bs_.step6 n k (bs_.loop6 n k N):=rfl
theorem aB_.turn7 {n N k}:aB_.loop7 n k (N+1)=aB_.step7 n k (aB_.loop7 n k N):=rfl
theorem aB_.turn16 {n N k}:aB_.loop16 n k (N+1)=aB_.step16 n k (aB_.loop16 n k N):=rfl
theorem bF_.turn3 {n N k}:bF_.loop3 n k (N+1)=bF_.step3 n k (bF_.loop3 n k N):=rfl
theorem bI_.turn5 {n N k}:bI_.loop5 n k (N+1)=bI_.step5 n k (bI_.loop5 n k N):=rfl
theorem bB_.turn8 {n N k}:bB_.loop8 n k (N+1)=bB_.step8 n k (bB_.loop8 n k N):=rfl
theorem aQ_.turn5 {n N k}:aQ_.loop5 n k (N+1)=aQ_.step5 n k (aQ_.loop5 n k N):=rfl
theorem bM_.turn8 {n N k}:bM_.loop8 n k (N+1)=bM_.step8 n k (bM_.loop8 n k N):=rfl
theorem bL_.turn4 {n N k}:bL_.loop4 n k (N+1)=bL_.step4 n k (bL_.loop4 n k N):=rfl
theorem bY_.turn3 {n N k}:bY_.loop3 n k (N+1)=bY_.step3 n k (bY_.loop3 n k N):=rfl
theorem a8_.turn4 {n N k}:a8_.loop4 n k (N+1)=a8_.step4 n k (a8_.loop4 n k N):=rfl
theorem a0_.turn7 {n N k}:a0_.loop7 n k (N+1)=a0_.step7 n k (a0_.loop7 n k N):=rfl
theorem bG_.turn5 {n N k}:bG_.loop5 n k (N+1)=bG_.step5 n k (bG_.loop5 n k N):=rfl
theorem bE_.turn4 {n N k}:bE_.loop4 n k (N+1)=bE_.step4 n k (bE_.loop4 n k N):=rfl
theorem bV_.turn3 {n N k}:bV_.loop3 n k (N+1)=bV_.step3 n k (bV_.loop3 n k N):=rfl
theorem ae_.turn6 {n N k}:ae_.loop6 n k (N+1)=ae_.step6 n k (ae_.loop6 n k N):=rfl
theorem aR_.turn23 {n N k0 k1}:aR_.loop23 n k0 k1 (N+1)=aR_.step23 n k0 k1 (aR_.loop23 n k0 k1 N):=rfl
theorem cb_.turn4 {n N k}:cb_.loop4 n k (N+1)=cb_.step4 n k (cb_.loop4 n k N):=rfl
theorem ax_.turn6 {n N k0 k1}:ax_.loop6 n k0 k1 (N+1)=ax_.step6 n k0 k1 (ax_.loop6 n k0 k1 N):=rfl
theorem ax_.turn14 {n N k0 k1}:ax_.loop14 n k0 k1 (N+1)=ax_.step14 n k0 k1 (ax_.loop14 n k0 k1 N):=rfl
theorem bA_.turn3 {n N k}:bA_.loop3 n k (N+1)=bA_.step3 n k (bA_.loop3 n k N):=rfl
theorem bQ_.turn3 {n N k}:bQ_.loop3 n k (N+1)=bQ_.step3 n k (bQ_.loop3 n k N):=rfl
theorem bh_.turn5 {n N k}:bh_.loop5 n k (N+1)=bh_.step5 n k (bh_.loop5 n k N):=rfl
theorem cn_.turn3 {n N k}:cn_.loop3 n k (N+1)=cn_.step3 n k (cn_.loop3 n k N):=rfl
theorem aK_.turn3 {n N k}:aK_.loop3 n k (N+1)=aK_.step3 n k (aK_.loop3 n k N):=rfl
theorem aK_.turn11 {n N k}:aK_.loop11 n k (N+1)=aK_.step11 n k (aK_.loop11 n k N):=rfl
theorem bj_.turn4 {n N k0 k1}:bj_.loop4 n k0 k1 (N+1)=bj_.step4 n k0 k1 (bj_.loop4 n k0 k1 N):=rfl
theorem aF_.turn5 {n N k}:aF_.loop5 n k (N+1)=aF_.step5 n k (aF_.loop5 n k N):=rfl
theorem aF_.turn13 {n N k}:aF_.loop13 n k (N+1)=aF_.step13 n k (aF_.loop13 n k N):=rfl
theorem b1_.turn4 {n N k}:b1_.loop4 n k (N+1)=b1_.step4 n k (b1_.loop4 n k N):=rfl
theorem cl_.turn6 {n N k}:cl_.loop6 n k (N+1)=cl_.step6 n k (cl_.loop6 n k N):=rfl
theorem aD_.turn10 {n N k}:aD_.loop10 n k (N+1)=aD_.step10 n k (aD_.loop10 n k N):=rfl
theorem aD_.turn4 {n N k}:aD_.loop4 n k (N+1)=aD_.step4 n k (aD_.loop4 n k N):=rfl
theorem bl_.turn4 {n N k}:bl_.loop4 n k (N+1)=bl_.step4 n k (bl_.loop4 n k N):=rfl
theorem aP_.turn17 {n N k0 k1}:aP_.loop17 n k0 k1 (N+1)=aP_.step17 n k0 k1 (aP_.loop17 n k0 k1 N):=rfl
theorem a4_.turn4 {n N k}:a4_.loop4 n k (N+1)=a4_.step4 n k (a4_.loop4 n k N):=rfl
theorem bo_.turn4 {n N k}:bo_.loop4 n k (N+1)=bo_.step4 n k (bo_.loop4 n k N):=rfl
theorem aC_.turn5 {n N k}:aC_.loop5 n k (N+1)=aC_.step5 n k (aC_.loop5 n k N):=rfl
theorem bt_.turn12 {n N k}:bt_.loop12 n k (N+1)=bt_.step12 n k (bt_.loop12 n k N):=rfl
theorem aT_.turn4 {n N k}:aT_.loop4 n k (N+1)=aT_.step4 n k (aT_.loop4 n k N):=rfl
theorem au_.turn5 {n N k}:au_.loop5 n k (N+1)=au_.step5 n k (au_.loop5 n k N):=rfl
theorem be_.turn4 {n N k}:be_.loop4 n k (N+1)=be_.step4 n k (be_.loop4 n k N):=rfl
theorem b3_.turn3 {n N k}:b3_.loop3 n k (N+1)=b3_.step3 n k (b3_.loop3 n k N):=rfl
theorem aW_.turn4 {n N k}:aW_.loop4 n k (N+1)=aW_.step4 n k (aW_.loop4 n k N):=rfl
theorem a2_.turn3 {n N k}:a2_.loop3 n k (N+1)=a2_.step3 n k (a2_.loop3 n k N):=rfl
theorem am_.turn4 {n N k}:am_.loop4 n k (N+1)=am_.step4 n k (am_.loop4 n k N):=rfl
theorem bT_.turn4 {n N k}:bT_.loop4 n k (N+1)=bT_.step4 n k (bT_.loop4 n k N):=rfl
theorem aA_.turn3 {n N k}:aA_.loop3 n k (N+1)=aA_.step3 n k (aA_.loop3 n k N):=rfl
theorem aw_.turn3 {n N k}:aw_.loop3 n k (N+1)=aw_.step3 n k (aw_.loop3 n k N):=rfl
theorem bz_.turn7 {n N k0 k1}:bz_.loop7 n k0 k1 (N+1)=bz_.step7 n k0 k1 (bz_.loop7 n k0 k1 N):=rfl
theorem bJ_.turn4 {n N k}:bJ_.loop4 n k (N+1)=bJ_.step4 n k (bJ_.loop4 n k N):=rfl
theorem bm_.turn4 {n N k}:bm_.loop4 n k (N+1)=bm_.step4 n k (bm_.loop4 n k N):=rfl
theorem ag_.turn3 {n N k}:ag_.loop3 n k (N+1)=ag_.step3 n k (ag_.loop3 n k N):=rfl
theorem aH_.turn6 {n N k}:aH_.loop6 n k (N+1)=aH_.step6 n k (aH_.loop6 n k N):=rfl
theorem aj_.turn6 {n N k0 k1}:aj_.loop6 n k0 k1 (N+1)=aj_.step6 n k0 k1 (aj_.loop6 n k0 k1 N):=rfl
theorem aV_.turn6 {n N k}:aV_.loop6 n k (N+1)=aV_.step6 n k (aV_.loop6 n k N):=rfl
theorem aY_.turn6 {n N k}:aY_.loop6 n k (N+1)=aY_.step6 n k (aY_.loop6 n k N):=rfl
theorem bX_.turn5 {n N k}:bX_.loop5 n k (N+1)=bX_.step5 n k (bX_.loop5 n k N):=rfl
theorem bu_.turn7 {n N k}:bu_.loop7 n k (N+1)=bu_.step7 n k (bu_.loop7 n k N):=rfl
theorem af_.turn3 {n N k}:af_.loop3 n k (N+1)=af_.step3 n k (af_.loop3 n k N):=rfl
theorem aM_.turn4 {n N k0 k1}:aM_.loop4 n k0 k1 (N+1)=aM_.step4 n k0 k1 (aM_.loop4 n k0 k1 N):=rfl
theorem a7_.turn9 {n N k}:a7_.loop9 n k (N+1)=a7_.step9 n k (a7_.loop9 n k N):=rfl
theorem a7_.turn17 {n N k}:a7_.loop17 n k (N+1)=a7_.step17 n k (a7_.loop17 n k N):=rfl
theorem b2_.turn4 {n N k}:b2_.loop4 n k (N+1)=b2_.step4 n k (b2_.loop4 n k N):=rfl
theorem cm_.turn3 {n N k}:cm_.loop3 n k (N+1)=cm_.step3 n k (cm_.loop3 n k N):=rfl
theorem bP_.turn4 {n N k}:bP_.loop4 n k (N+1)=bP_.step4 n k (bP_.loop4 n k N):=rfl
theorem bn_.turn4 {n N k}:bn_.loop4 n k (N+1)=bn_.step4 n k (bn_.loop4 n k N):=rfl
theorem bN_.turn4 {n N k}:bN_.loop4 n k (N+1)=bN_.step4 n k (bN_.loop4 n k N):=rfl
theorem a6_.turn4 {n N k0 k1}:a6_.loop4 n k0 k1 (N+1)=a6_.step4 n k0 k1 (a6_.loop4 n k0 k1 N):=rfl
theorem ah_.turn6 {n N k}:ah_.loop6 n k (N+1)=ah_.step6 n k (ah_.loop6 n k N):=rfl
theorem a3_.turn6 {n N k}:a3_.loop6 n k (N+1)=a3_.step6 n k (a3_.loop6 n k N):=rfl
theorem aG_.turn3 {n N k}:aG_.loop3 n k (N+1)=aG_.step3 n k (aG_.loop3 n k N):=rfl
theorem bf_.turn7 {n N k}:bf_.loop7 n k (N+1)=bf_.step7 n k (bf_.loop7 n k N):=rfl
end Go.Pi
end
section
namespace Go.Pi
def gI_ (p:Nat→Bool):Nat→Nat→Bool
 |0,_=>true
 |d+1,i=>p i&&gI_ p d (i+1)
def h0_ (p:Nat→Bool) (len:Nat):Bool:=gI_ p len 0
theorem eD_ (L:Nat→Nat→Nat→Option Bool) (p:Nat→Bool) {len:Nat} {v:Bool}
  (h:∀ i w,i<len→Ev (fun n N=>L n N (i+1)) w→Ev (fun n N=>L n (N+1) i) (p i&&w)) (h2:Ev (fun n N=>L n (N+1) len) v) :
  Ev (fun n _=>L n n 0) (h0_ p len&&v):=by
 have key:∀ d i,d+i=len→Ev (fun n N=>L n N i) (gI_ p d i&&v):=by
  intro d
  induction d with
  |zero=>intro i hd;obtain rfl:i=len:=by omega
         simpa [gI_] using cx_ (f:=fun n N=>L n N i) h2
  |succ d ih=>intro i hd
              have:=h i _ (by omega) (ih (i+1) (by omega))
              rw [←Bool.and_assoc] at this
              exact cx_ (f:=fun n N=>L n N i) this
 exact fb_ (f:=fun n N=>L n N 0) (key len 0 (by omega))
theorem e6_ {α:Type} {f:Nat→Nat→Option α} {v w:α} (h:Ev f v) (e:v=w):Ev f w:=e ▸ h
def inn (x lo hi:Int):Bool:=decide (lo≤x)&&decide (x≤hi)
theorem dl_ {x lo hi:Int}:inn x lo hi=true↔lo≤x∧x≤hi:=by simp [inn]
theorem l1In_ev {x lo hi:Int}:Ev (fun n _=>b4_ n x lo hi) (inn x lo hi):=by
 refine aq_ ?_
 simp only [b4_,an_,ac_,inn]
 grind
theorem jt_ {x lo hi:Int}:Ev (fun n _=>aL_ n x lo hi) (inn x lo hi):=by
 refine aq_ ?_
 simp only [aL_,an_,ac_,inn]
 grind
section
variable {β:Type} {x lo hi:Int} {g:Nat→Nat→Bool→Option β} {v:β}
theorem gi_:Ev (fun n N=>(b4_ n x lo hi).bind (g n N)) v↔Ev (fun n N=>g n N (inn x lo hi)) v:=ab_ l1In_ev
theorem ju_:Ev (fun n N=>(aL_ n x lo hi).bind (g n N)) v↔Ev (fun n N=>g n N (inn x lo hi)) v:=ab_ jt_
theorem isNum_b:Ev (fun n N=>(bd_ n x).bind (g n N)) v↔Ev (fun n N=>g n N (inn x (-1000000000) 1000000000)) v :=
 ab_ (aq_ (by simp only [bd_,ju_,ac_]))
end
theorem cy_ {i len:Nat} (h:i<len):decide ((i:Int)<(len:Int))=true:=by simp;omega
theorem b8_ {len:Nat}:decide ((len:Int)<(len:Int))=false:=by simp
theorem cc_ {i len:Nat} (h:i<len):((0:Int)≤(i:Int)∧(i:Int)<(len:Int))↔True:=by simp;omega
end Go.Pi
end
section
namespace Go.Pi
abbrev cap:Nat:=1048576
def hP_ {α:Type} (f:α→Nat):List α→Nat
 |[]=>0
 |x::xs=>f x+hP_ f xs
def jf_ {α:Type} (f:α→Nat) (l:List α):Nat:=l.length+hP_ f l
def pk_ {α:Type} (P:α→Prop) (l:List α):Prop:=l.length≤bO_∧∀ x ∈ l,P x
def szI (_:Int):Nat:=0
def szB (s:Bs):Nat:=s.length
def lenI (_:Int):Prop:=True
def lenB (s:Bs):Prop:=s.length≤bO_
theorem oR_ {α:Type} (f:α→Nat) (d:α) {a:List α} {i:Nat} (h:i<a.length):hP_ f (a.drop i)=f (a.getD i d)+hP_ f (a.drop (i+1)):=by
 rw [fE_ d h];rfl
theorem lh_ {α:Type} (f:α→Nat) {a:List α} {x:α} (h:x ∈ a):f x≤hP_ f a:=by
 induction a with
 |nil=>cases h
 |cons y a ih=>
  simp only [hP_]
  rcases List.mem_cons.1 h with rfl|h
  · omega
  · have:=ih h;omega
end Go.Pi
end
section
namespace Go.Pi
theorem W_dn {i:Nat} (h:i≤bO_):W ((i:Int) - 1)=(i:Int) - 1:=by
 rw [W_id (by omega) (by simp only [bO_] at h;omega)]
theorem k2_ {i:Nat}:((i:Int) - 1).toNat=i - 1:=by omega
theorem e0_ {x lo hi:Int} (h:inn x lo hi=true):lo≤x∧x≤hi:=dl_.1 h
def fl_ {α:Type} (s:Nat→α→α) (v:α):Nat→Nat→α
 |0,_=>v
 |d+1,i=>s i (fl_ s v d (i+1))
theorem iu_ {α:Type} (L:Nat→Nat→Nat→Option α) (s:Nat→α→α) {len:Nat} {v:α}
  (h:∀ i w,i<len→Ev (fun n N=>L n N (i+1)) w→Ev (fun n N=>L n (N+1) i) (s i w)) (h2:Ev (fun n N=>L n (N+1) len) v) :
  Ev (fun n _=>L n n 0) (fl_ s v len 0):=by
 have key:∀ d i,d+i=len→Ev (fun n N=>L n N i) (fl_ s v d i):=by
  intro d
  induction d with
  |zero=>intro i hd;obtain rfl:i=len:=by omega
         exact cx_ (f:=fun n N=>L n N i) h2
  |succ d ih=>intro i hd
              exact cx_ (f:=fun n N=>L n N i) (h i _ (by omega) (ih (i+1) (by omega)))
 exact fb_ (f:=fun n N=>L n N 0) (key len 0 (by omega))
theorem bi_ {α:Type} {n b:Nat} {f:Nat→Nat→Option α} {v:α}:Ev (fun m N=>bv_ n b (f m N)) v↔n*b≤140737488355328∧Ev f v:=by
 unfold bv_
 rw [an_]
 by_cases h:n*b≤140737488355328<;>simp [h,c1_]
theorem mb_ {α β γ:Type} (d:α) (a:List α) (f:α→β) (L:Nat→Nat→Nat→List β→Option γ) (v:γ)
  (h1:∀ i s,i<a.length→s.length=i→∀ F,Ev (fun n N=>L n N (i+1) (s++[f (a.getD i d)])) F→Ev (fun n N=>L n (N+1) i s) F)
  (h2:Ev (fun n N=>L n (N+1) a.length (a.map f)) v):Ev (fun n _=>L n n 0 []) v:=by
 have key:∀ j i,j+i=a.length→Ev (fun n N=>L n N i ((a.take i).map f)) v:=by
  intro j
  induction j with
  |zero=>
   intro i hi
   have:i=a.length:=by omega
   subst this
   rw [List.take_of_length_le (Nat.le_refl _)]
   exact cx_ h2
  |succ j ih=>
   intro i hi
   refine cx_ (h1 i _ (by omega) (by simp;omega) _ ?_)
   have:=ih (i+1) (by omega)
   rw [List.take_add_one,List.map_append] at this
   have e:a[i]?.toList=[a.getD i d]:=by
    rw [List.getD_eq_getElem?_getD,List.getElem?_eq_getElem (by omega)];rfl
   rw [e] at this
   exact this
 have:=key a.length 0 (by omega)
 exact fb_ (f:=fun n N=>L n N 0 []) this
abbrev ey_:Nat:=1073741824
theorem eC_ {α γ:Type} (S:Nat→α) (len:Nat) (L:Nat→Nat→Nat→α→Option γ) (v:γ)
  (h1:∀ i,i<len→∀ F,Ev (fun n N=>L n N (i+1) (S (i+1))) F→Ev (fun n N=>L n (N+1) i (S i)) F)
  (h2:Ev (fun n N=>L n (N+1) len (S len)) v):Ev (fun n _=>L n n 0 (S 0)) v:=by
 have key:∀ j i,j+i=len→Ev (fun n N=>L n N i (S i)) v:=by
  intro j
  induction j with
  |zero=>
   intro i hi
   have:i=len:=by omega
   subst this
   exact cx_ h2
  |succ j ih=>exact fun i hi=>cx_ (h1 i (by omega) _ (ih (i+1) (by omega)))
 exact fb_ (f:=fun n N=>L n N 0 (S 0)) (key len 0 (by omega))
theorem cS_ {α:Type} (d:α) {a:List α} {i:Nat} (h:i<a.length):a.take (i+1)=a.take i++[a.getD i d]:=by
 rw [List.take_add_one,List.getD_eq_getElem?_getD,List.getElem?_eq_getElem h];rfl
theorem fr_ {α:Type} (d:α) (P:α→Bool):∀ (rows:List α),fl_ (fun i (x:Int)=>cond (P (rows.getD i d)) (i:Int) x) (-1) rows.length 0=if rows.findIdx P<rows.length then (rows.findIdx P:Int) else -1:=by
 intro rows
 have key:∀ j i,j+i=rows.length→(∀ k,k<i→P (rows.getD k d)=false)→fl_ (fun i (x:Int)=>cond (P (rows.getD i d)) (i:Int) x) (-1) j i=if rows.findIdx P<rows.length then (rows.findIdx P:Int) else -1:=by
  intro j
  induction j with
  |zero=>
   intro i hi hk
   have:¬ rows.findIdx P<rows.length:=by
    intro h
    have h1:=List.findIdx_getElem (w:=h)
    have h2:=hk _ (show rows.findIdx P<i by omega)
    rw [List.getD_eq_getElem?_getD,List.getElem?_eq_getElem h] at h2
    simp only [Option.getD_some] at h2
    rw [h1] at h2;cases h2
   rw [if_neg this];rfl
  |succ j ih=>
   intro i hi hk
   simp only [fl_]
   cases hp:P (rows.getD i d) with
   |true=>
    have hlt:i<rows.length:=by omega
    rw [List.getD_eq_getElem?_getD,List.getElem?_eq_getElem hlt] at hp
    have e:rows.findIdx P=i:=by
     apply Nat.le_antisymm
     · exact Nat.le_of_not_lt fun h=>by have:=List.not_of_lt_findIdx h;rw [Option.getD_some] at hp;rw [hp] at this;cases this
     · exact Nat.le_of_not_lt fun h=>by
        have h2:=hk _ h
        have hl:rows.findIdx P<rows.length:=by omega
        rw [List.getD_eq_getElem?_getD,List.getElem?_eq_getElem hl] at h2
        rw [Option.getD_some,List.findIdx_getElem (w:=hl)] at h2;cases h2
    rw [e,if_pos hlt];rfl
   |false=>
    rw [cond_false]
    exact ih (i+1) (by omega) fun k hk'=>by
     by_cases e:k=i
     · subst e;exact hp
     · exact hk k (by omega)
 exact key rows.length 0 (by omega) fun k hk=>by omega
theorem g9_ {α:Type} {lo hi:Int} {len:Nat} {f:Nat→Nat→Option α} {v:α}:Ev (fun n N=>iY_ lo hi len (f n N)) v↔(0≤lo∧lo≤hi∧hi≤(len:Int))∧Ev f v:=by
 unfold iY_
 simp only [an_,c1_]
 by_cases h1:0≤lo<;>by_cases h2:lo≤hi<;>by_cases h3:hi≤(len:Int)<;>simp [h1,h2,h3]
theorem cH_ {p:Nat→Bool} {len:Nat}:h0_ p len=true↔∀ i,i<len→p i=true:=by
 have key:∀ d i,d+i=len→(gI_ p d i=true↔∀ k,i≤k→k<len→p k=true):=by
  intro d
  induction d with
  |zero=>intro i hi;simp only [gI_,true_iff];intro k h1 h2;omega
  |succ d ih=>
   intro i hi
   simp only [gI_,Bool.and_eq_true,ih (i+1) (by omega)]
   constructor
   · rintro ⟨h1,h2⟩ k h3 h4
     by_cases e:k=i
     · subst e;exact h1
     · exact h2 k (by omega) h4
   · exact fun h=>⟨h i (Nat.le_refl _) (by omega),fun k h1 h2=>h k (by omega) h2⟩
 have:=key len 0 (by omega)
 unfold h0_
 rw [this]
 exact ⟨fun h i hi=>h i (Nat.zero_le _) hi,fun h i _ hi=>h i hi⟩
end Go.Pi
end
section
namespace Go.Pi
section
variable {α β σ:Type}
def Ans (f:Nat→Nat→Option α) (Q:α→Prop):Prop:=∃ v,Ev f v∧Q v
theorem ans_ev {f:Nat→Nat→Option α} {v:α} (h:Ev f v) {Q:α→Prop}:Ans f Q↔Q v :=
 ⟨fun ⟨w,h1,h2⟩=>(c2_ h).1 h1 ▸ h2,fun hq=>⟨v,h,hq⟩⟩
theorem bg_ {v:α} {Q:α→Prop}:Ans (fun _ _=>some v) Q↔Q v:=ans_ev (ac_.2 rfl)
theorem sb_ {Q:α→Prop}:Ans (fun _ _=>none) Q↔False :=
 ⟨fun ⟨_,h,_⟩=>c1_.1 h,fun h=>h.elim⟩
theorem bC_ {f:Nat→Nat→Option α} {a:α} (h:Ev f a) {g:Nat→Nat→α→Option β} {Q:β→Prop}:Ans (fun n N=>(f n N).bind (g n N)) Q↔Ans (fun n N=>g n N a) Q:=by
 unfold Ans;simp only [ab_ h]
theorem aO_ {f:Nat→Nat→Option α} {P:α→Prop} (h:Ans f P) {g:Nat→Nat→α→Option β} {Q:β→Prop} (k:∀ v,P v→Ans (fun n N=>g n N v) Q):Ans (fun n N=>(f n N).bind (g n N)) Q:=by
 obtain ⟨v,h1,h2⟩:=h
 exact (bC_ h1).2 (k v h2)
theorem cr_ {c:Bool} {f g:Nat→Nat→Option α} {Q:α→Prop}:Ans (fun n N=>cond c (f n N) (g n N)) Q↔(c=true→Ans f Q)∧(c=false→Ans g Q):=by
 cases c<;>simp
theorem el_ {i:Int} {len:Nat} {f:Nat→Nat→Option α} {Q:α→Prop}:Ans (fun n N=>inB i len (f n N)) Q↔(0≤i∧i<(len:Int))∧Ans f Q:=by
 unfold Ans;simp only [bk_]
 exact ⟨fun ⟨v,⟨h1,h2⟩,h3⟩=>⟨h1,v,h2,h3⟩,fun ⟨h1,v,h2,h3⟩=>⟨v,⟨h1,h2⟩,h3⟩⟩
theorem fF_ {n b:Nat} {f:Nat→Nat→Option α} {Q:α→Prop}:Ans (fun m N=>bv_ n b (f m N)) Q↔n*b≤140737488355328∧Ans f Q:=by
 unfold Ans;simp only [bi_]
 exact ⟨fun ⟨v,⟨h1,h2⟩,h3⟩=>⟨h1,v,h2,h3⟩,fun ⟨h1,v,h2,h3⟩=>⟨v,⟨h1,h2⟩,h3⟩⟩
theorem ans_cutB {lo hi:Int} {len:Nat} {f:Nat→Nat→Option α} {Q:α→Prop}:Ans (fun n N=>iY_ lo hi len (f n N)) Q↔(0≤lo∧lo≤hi∧hi≤(len:Int))∧Ans f Q:=by
 unfold Ans;simp only [g9_]
 exact ⟨fun ⟨v,⟨h1,h2⟩,h3⟩=>⟨h1,v,h2,h3⟩,fun ⟨h1,v,h2,h3⟩=>⟨v,⟨h1,h2⟩,h3⟩⟩
theorem cG_ {f:Nat→Nat→Option α} {Q:α→Prop} (h:Ans (fun n N=>f (n+1) N) Q):Ans f Q :=
 let ⟨v,h1,h2⟩:=h;⟨v,aq_ h1,h2⟩
theorem cp_ {f:Nat→Nat→Option α} {Q:α→Prop} (h:Ans (fun n N=>f n (N+1)) Q):Ans f Q :=
 let ⟨v,h1,h2⟩:=h;⟨v,cx_ h1,h2⟩
theorem ew_ {f:Nat→Nat→Option α} {Q:α→Prop} (h:Ans f Q):Ans (fun n _=>f n n) Q :=
 let ⟨v,h1,h2⟩:=h;⟨v,fb_ h1,h2⟩
theorem ans_mono {f:Nat→Nat→Option α} {P Q:α→Prop} (h:Ans f P) (k:∀ v,P v→Q v):Ans f Q :=
 let ⟨v,h1,h2⟩:=h;⟨v,h1,k v h2⟩
theorem ev_ans {f:Nat→Nat→Option α} {v:α} (h:Ans f fun w=>w=v):Ev f v:=let ⟨_,h1,h2⟩:=h;h2 ▸ h1
end
end Go.Pi
end
section
namespace Go.Pi
structure DwOk (c:al_):Prop where
 lo:0≤c.i
 hi:c.i≤(c.b.length:Int)
 len:c.b.length≤1048576
abbrev and64 (x y:Int):Int:=IntKind.i64.wrap (BitVec.ofInt (IntKind.bits .i64) x &&& BitVec.ofInt (IntKind.bits .i64) y).toNat
theorem sc_ (x:Int) (m:Nat) (hm:m<2 ^ 31):0≤and64 x (m:Int)∧and64 x (m:Int)≤m:=by
 have h1:(BitVec.ofInt (IntKind.bits .i64) x &&& BitVec.ofInt (IntKind.bits .i64) (m:Int)).toNat≤m:=by
  rw [BitVec.toNat_and]
  refine Nat.le_trans Nat.and_le_right ?_
  rw [BitVec.ofInt_natCast,BitVec.toNat_ofNat]
  exact Nat.mod_le _ _
 show 0≤W _∧W _≤_
 generalize (BitVec.ofInt (IntKind.bits .i64) x &&& BitVec.ofInt (IntKind.bits .i64) (m:Int)).toNat=k at h1
 rw [W_id (by omega) (by omega)]
 omega
theorem cur_next {c:al_} (h:DwOk c) (hlt:c.i<(c.b.length:Int)) (z:Int):DwOk (al_.mk c.b (W (c.i+1)) z):=by
 have h1:=h.lo;have h2:=h.len
 have e:W (c.i+1)=c.i+1:=W_id (by omega) (by omega)
 exact ⟨by show 0≤W (c.i+1);rw [e];omega,by show W (c.i+1)≤(c.b.length:Int);rw [e];omega,h2⟩
theorem cur_same {c:al_} (h:DwOk c) (z:Int):DwOk (al_.mk c.b c.i z):=⟨h.lo,h.hi,h.len⟩
theorem ci_ (c:al_):al_.mk c.b c.i c.h=c:=rfl
theorem l1New_ans {fN_:List Int} (hc:fN_.length≤1048576):Ans (fun n _=>b9_ n fN_) DwOk:=by
 have key:∀ (m i:Nat) (h:Int),i+m=fN_.length→Ans (fun n N=>b9_.loop4 n (fun xy2 xy3=>(some (al_.mk xy2 0 xy3))) N fN_ h (i:Int)) DwOk:=by
  intro m
  induction m with
  |zero=>
   intro i h hi
   have e:i=fN_.length:=by omega
   subst e
   refine cp_ ?_
   simp only [b9_.turn4,b9_.step4,b8_,cond_false,bg_]
   exact ⟨Int.le_refl _,by simp,hc⟩
  |succ m ih=>
   intro i h hi
   have hlt:i<fN_.length:=by omega
   have hW:=W_up hlt (show fN_.length≤bO_ by simp only [bO_];omega)
   refine cp_ ?_
   simp only [b9_.turn4,b9_.step4,cy_ hlt,cond_true,cr_,el_,bg_,hW]
   exact ⟨fun _=>⟨by omega,ih (i+1) _ (by omega)⟩,fun _=>⟨Int.le_refl _,by simp,hc⟩⟩
 refine cG_ ?_
 simp only [b9_]
 exact ew_ (key fN_.length 0 _ (by omega))
theorem hi_ {c:al_} (hc:DwOk c):Ans (fun n _=>di_ n c) fun r=>0≤r.1∧r.1≤255∧DwOk r.2:=by
 refine cG_ ?_
 simp only [di_,cr_,el_,bg_]
 refine ⟨fun h => ?_,fun _ => ?_⟩
 · have h:=of_decide_eq_true h
   exact ⟨⟨hc.lo,h⟩,(sc_ _ 255 (by decide)).1,(sc_ _ 255 (by decide)).2,cur_next hc h _⟩
 · exact ⟨(sc_ _ 255 (by decide)).1,(sc_ _ 255 (by decide)).2,cur_same hc _⟩
structure Drawn (n:Int) (r:Int × al_):Prop where
 lo:0≤r.1
 hi:r.1<n∨r.1=0
 cur:DwOk r.2
theorem a9_ {c:al_} {k:Int} (hc:DwOk c):Ans (fun n _=>av_ n c k) (Drawn k):=by
 refine cG_ ?_
 simp only [av_,cr_,bg_]
 refine ⟨fun _=>⟨Int.le_refl _,.inr rfl,hc⟩,fun h0=>⟨fun h1 => ?_,fun h1 => ?_⟩⟩
 · have h0:=of_decide_eq_false h0
   refine aO_ (hi_ hc) fun r hr => ?_
   simp only [cr_,sb_,bg_]
   refine ⟨fun h=>by have:=of_decide_eq_true h;omega,fun _=>⟨Int.tmod_nonneg _ hr.1,.inl (Int.tmod_lt_of_pos _ (by omega)),hr.2.2⟩⟩
 · have h0:=of_decide_eq_false h0
   refine aO_ (hi_ hc) fun r1 h2=>aO_ (hi_ h2.2.2) fun r2 h3=>aO_ (hi_ h3.2.2) fun r3 h4=>aO_ (hi_ h4.2.2) fun r4 h5 => ?_
   simp only [cr_,sb_,bg_]
   refine ⟨fun h=>by have:=of_decide_eq_true h;omega,fun _ => ?_⟩
   obtain ⟨a1,a2,_⟩:=h2
   obtain ⟨b1,b2,_⟩:=h3
   obtain ⟨c1,c2,_⟩:=h4
   obtain ⟨d1,d2,hq⟩:=h5
   have e1:W (r1.1*16777216)=r1.1*16777216:=W_id (by omega) (by omega)
   have e2:W (r2.1*65536)=r2.1*65536:=W_id (by omega) (by omega)
   have e3:W (r3.1*256)=r3.1*256:=W_id (by omega) (by omega)
   rw [e1,e2,e3,W_id (n:=r1.1*16777216+r2.1*65536) (by omega) (by omega),W_id (n:=r1.1*16777216+r2.1*65536+r3.1*256) (by omega) (by omega),W_id (n:=r1.1*16777216+r2.1*65536+r3.1*256+r4.1) (by omega) (by omega)]
   exact ⟨Int.tmod_nonneg _ (by omega),.inl (Int.tmod_lt_of_pos _ (by omega)),hq⟩
theorem eZ_ {c:al_} {k:Int} (hc:DwOk c):Ans (fun n _=>cA_ n c k) fun r=>DwOk r.2:=by
 refine cG_ ?_
 simp only [cA_]
 exact aO_ (a9_ hc) fun r hr=>bg_.2 hr.cur
theorem fB_ {c:al_} {l:List Int} (hc:DwOk c) (hl:l≠[]):Ans (fun n _=>bU_ n c l) fun r=>r.1 ∈ l∧DwOk r.2:=by
 have hp:0<l.length:=List.length_pos_iff.2 hl
 refine cG_ ?_
 simp only [bU_]
 refine aO_ (a9_ hc) fun r hr => ?_
 have h1:=hr.lo
 have h2:=hr.hi
 simp only [el_,bg_]
 exact ⟨⟨h1,by omega⟩,aZ_ _ (by omega),hr.cur⟩
end Go.Pi
end
section
namespace Go.Pi
def p9_ (c:Nat) (q:ap_):Prop:=q.where_.length≤c∧q.show_.length≤c
def hg_ (c:Nat) (r:List TRow):Prop:=r.length≤c∧∀ x ∈ r,x.cells.length≤c
def jM_ (c:Nat) (v:aJ_):Prop:=p9_ c v.q∧hg_ c v.rows∧v.kids.length≤c
end Go.Pi
end
section
namespace Go.Pi
def rG_ (c:Nat) (s:bS_):Prop:=jM_ c s.view∧jM_ c s.last
end Go.Pi
end
section
namespace Go.Pi
def dY_ (s:aI_):Bool:=h0_ (fun i=>inn (s.cols.getD i 0) 1 4) s.cols.length&&inn s.cols.length 1 3
theorem hT_ {s:aI_} (hs:s.cols.length≤bO_):Ev (fun n _=>a1_ n s) (dY_ s):=by
 refine aq_ ?_
 simp only [a1_]
 refine eD_ (fun n N i=>a1_.loop3 n _ N (i:Int) s.cols) _ (fun i w hi ih => ?_) ?_
 · simp only [a1_.turn3,a1_.step3,Int.toNat_natCast,an_,bk_,gi_,ac_,W_up hi hs,c2_ ih,cy_ hi,cc_ hi]
   grind
 · simp only [a1_.turn3,a1_.step3,b8_,cond_false,gi_,ac_]
end Go.Pi
end
section
namespace Go.Pi
def FConds (w:Int) (c:List br_):Bool:=h0_ (fun i=>inn (c.getD i br_.dflt).col 0 (W (w - 1))&&(inn (c.getD i br_.dflt).op 1 4&&inn (c.getD i br_.dflt).v (-1000000000) 1000000000)) c.length
def FShow (w:Int) (s:List Int):Bool:=h0_ (fun i=>inn (s.getD i 0) 0 (W (w - 1))&&(decide (i=0)||decide (s.getD (i - 1) 0<s.getD i 0))) s.length
def tk_ (s:aI_) (q:ap_):Bool:=cond q.kids (inn q.kidTable 0 (W ((s.cols.length:Int) - 1))&&inn q.kidCol 0 (W ((s.cols.getD q.kidTable.toNat 0) - 1))) ((q.kidTable == 0)&&(q.kidCol == 0))
def hZ_ (s:aI_) (q:ap_):Bool:=dY_ s&&(inn q.table 0 (W ((s.cols.length:Int) - 1))&&(decide (q.where_.length≤3)&&(FConds (s.cols.getD q.table.toNat 0) q.where_&&(FShow (s.cols.getD q.table.toNat 0) q.show_ &&
 (inn q.order 0 (s.cols.getD q.table.toNat 0)&&(inn q.first 0 24&&(!((q.order == 0)&&q.down)&&tk_ s q)))))))
section
variable {w:Int} {cols sh:List Int} {wh:List br_} {t o f kt kc:Int} {d ks v:Bool}
theorem jA_ {k:Nat→aB_.K7} (hl:wh.length≤bO_) (hk:Ev (fun n N=>k n w cols t wh o d f sh ks kt kc) v) :
  Ev (fun n _=>aB_.loop7 n (k n) n w 0 cols t wh o d f sh ks kt kc) (FConds w wh&&v):=by
 refine eD_ (fun n N i=>aB_.loop7 n (k n) N w (i:Int) cols t wh o d f sh ks kt kc) _ (fun i u hi ih => ?_) ?_
 · simp only [aB_.turn7,aB_.step7,Int.toNat_natCast,W_up hi hl,an_,bk_,gi_,ac_,c2_ ih,cy_ hi,cc_ hi]
   clear ih hk
   repeat' (first|apply And.intro|intro _)
   all_goals (try rw [Bool.eq_iff_iff])
   all_goals (try simp only [Bool.not_eq_true',Bool.not_eq_false',decide_eq_true_eq,decide_eq_false_iff_not,beq_iff_eq,beq_eq_false_iff_ne,Bool.and_eq_true,Bool.or_eq_true,Bool.and_eq_false_iff,Bool.or_eq_false_iff] at *)
   all_goals grind
 · simp only [aB_.turn7,aB_.step7,b8_,cond_false]
   exact hk
theorem je_ {k:Nat→aB_.K16} (hl:sh.length≤bO_) (hk:Ev (fun n N=>k n w cols t wh o d f sh ks kt kc) v) :
  Ev (fun n _=>aB_.loop16 n (k n) n w 0 cols t wh o d f sh ks kt kc) (FShow w sh&&v):=by
 refine eD_ (fun n N i=>aB_.loop16 n (k n) N w (i:Int) cols t wh o d f sh ks kt kc) _ (fun i u hi ih => ?_) ?_
 · simp only [aB_.turn16,aB_.step16,Int.toNat_natCast,W_up hi hl,W_dn (i:=i) (by omega),k2_,an_,bk_,gi_,ac_,c2_ ih,cy_ hi,cc_ hi]
   clear ih hk
   repeat' (first|apply And.intro|intro _)
   all_goals (try rw [Bool.eq_iff_iff])
   all_goals (try simp only [Bool.not_eq_true',Bool.not_eq_false',decide_eq_true_eq,decide_eq_false_iff_not,beq_iff_eq,beq_eq_false_iff_ne,Bool.and_eq_true,Bool.or_eq_true,Bool.and_eq_false_iff,Bool.or_eq_false_iff] at *)
   all_goals grind
 · simp only [aB_.turn16,aB_.step16,b8_,cond_false]
   exact hk
end
theorem eP_ {β:Type} {s:aI_} (hs:s.cols.length≤bO_) {g:Nat→Nat→Bool→Option β} {v:β}:Ev (fun n N=>(a1_ n s).bind (g n N)) v↔Ev (fun n N=>g n N (dY_ s)) v:=ab_ (hT_ hs)
theorem h8_ {s:aI_} {q:ap_} (hs:s.cols.length≤bO_) (hq:p9_ bO_ q):Ev (fun n _=>aB_ n s q) (hZ_ s q):=by
 refine aq_ ?_
 have e:=@W_dn s.cols.length hs
 simp only [aB_,eP_ hs,gi_,an_,bk_,ac_]
 refine ⟨fun h=>by simp at h;simp [hZ_,h],fun h1=>⟨fun h=>by simp at h;simp [hZ_,h],fun h2=>⟨fun h=>by simp at h;simp [hZ_];grind,fun h3=>⟨by simp at h2;have:=e0_ h2;omega,?_⟩⟩⟩⟩
 refine e6_ (jA_ (k:=fun n=>_) hq.1 (je_ (k:=fun n=>_) (v:=inn q.order 0 (s.cols.getD q.table.toNat 0)&&(inn q.first 0 24&&(!((q.order == 0)&&q.down)&&tk_ s q))) hq.2 ?_)) ?_
 · simp only [gi_,an_,bk_,ac_,tk_]
   repeat' (first|apply And.intro|intro _)
   all_goals (try rw [Bool.eq_iff_iff])
   all_goals (try simp only [inn,cond_true,cond_false,Bool.not_eq_true',Bool.not_eq_false',decide_eq_true_eq,decide_eq_false_iff_not,beq_iff_eq,beq_eq_false_iff_ne,Bool.and_eq_true,Bool.or_eq_true,Bool.and_eq_false_iff,Bool.or_eq_false_iff] at *)
   all_goals grind
 · simp [hZ_];grind
end Go.Pi
end
section
namespace Go.Pi
def fu_ (r:TRow) (col:Int):Int:=cond (inn col 0 (W ((r.cells.length:Int) - 1))) (r.cells.getD col.toNat 0) 0
theorem fc_ {r:TRow} {col:Int} (hr:r.cells.length≤bO_):Ev (fun n _=>bH_ n r col) (fu_ r col):=by
 refine aq_ ?_
 have e:=@W_dn r.cells.length hr
 simp only [bH_,gi_,an_,bk_,ac_,fu_]
 cases hi:inn col 0 (W ((r.cells.length:Int) - 1)) with
 |false=>simp
 |true=>have:=e0_ hi;exact ⟨fun h=>(by cases h),fun _=>⟨by omega,rfl⟩⟩
theorem cellOf_ev {r:TRow} {col:Int} (hr:r.cells.length≤bO_):Ev (fun n _=>eu_ n r col) (fu_ r col):=by
 refine aq_ ?_
 have e:=@W_dn r.cells.length hr
 simp only [eu_,ju_,an_,bk_,ac_,fu_]
 cases hi:inn col 0 (W ((r.cells.length:Int) - 1)) with
 |false=>simp
 |true=>have:=e0_ hi;exact ⟨fun h=>(by cases h),fun _=>⟨by omega,rfl⟩⟩
theorem gz_ {rows:List TRow} (hr:hg_ bO_ rows) (i:Nat):(rows.getD i TRow.dflt).cells.length≤bO_:=by
 by_cases h:i<rows.length
 · exact hr.2 _ (aZ_ _ h)
 · rw [List.getD_eq_getElem?_getD,List.getElem?_eq_none (by omega)];exact Nat.zero_le _
end Go.Pi
end
section
namespace Go.Pi
def sl_ (c:List Int):Bool:=h0_ (fun i=>inn (c.getD i 0) (-1000000000) 1000000000) c.length
def FRow (s:aI_) (t:Int) (r:TRow):Bool:=dY_ s&&(inn t 0 (W ((s.cols.length:Int) - 1))&&(inn r.id_ 1 999&&(decide ((r.cells.length:Int)=s.cols.getD t.toNat 0)&&sl_ r.cells)))
theorem jz_ {s:aI_} {t:Int} {r:TRow} (hs:s.cols.length≤bO_) (hr:r.cells.length≤bO_):Ev (fun n _=>ce_ n s t r) (FRow s t r):=by
 refine aq_ ?_
 have e:=@W_dn s.cols.length hs
 have hl:Ev (fun n _=>ce_.loop6 n (some true) n 0 r.id_ r.cells) (sl_ r.cells&&true):=by
  refine eD_ (fun n N i=>ce_.loop6 n (some true) N (i:Int) r.id_ r.cells) _ (fun i u hi ih => ?_) ?_
  · simp only [ce_.turn6,ce_.step6,Int.toNat_natCast,W_up hi hr,an_,bk_,gi_,ac_,c2_ ih,cy_ hi,cc_ hi]
    clear ih
    grind
  · simp only [ce_.turn6,ce_.step6,b8_,cond_false,ac_]
 simp only [ce_,eP_ hs,gi_,an_,bk_,ac_,c2_ hl]
 clear hl
 repeat' (first|apply And.intro|intro _)
 all_goals (try rw [Bool.eq_iff_iff])
 all_goals (try simp only [FRow,inn,bne_iff_ne,bne_eq_false_iff_eq,Bool.not_eq_true',Bool.not_eq_false',decide_eq_true_eq,decide_eq_false_iff_not,beq_iff_eq,beq_eq_false_iff_ne,Bool.and_eq_true,Bool.or_eq_true,Bool.and_eq_false_iff,Bool.or_eq_false_iff] at *)
 all_goals grind
def p6_ (c:br_) (r:TRow):Bool:=inn c.col 0 (W ((r.cells.length:Int) - 1))&&(cond (c.op == 1) (r.cells.getD c.col.toNat 0 == c.v) (cond (c.op == 2) (decide (r.cells.getD c.col.toNat 0<c.v)) (cond (c.op == 3) (decide (r.cells.getD c.col.toNat 0 > c.v)) (cond (c.op == 4) (r.cells.getD c.col.toNat 0 != c.v) false))))
theorem lk_ {c:br_} {r:TRow} (hr:r.cells.length≤bO_):Ev (fun n _=>dJ_ n c r) (p6_ c r):=by
 refine aq_ ?_
 have e:=@W_dn r.cells.length hr
 simp only [dJ_,gi_,an_,bk_,ac_,p6_]
 repeat' (first|apply And.intro|intro _)
 all_goals (try simp only [inn,Bool.not_eq_true',Bool.not_eq_false',decide_eq_true_eq,decide_eq_false_iff_not,Bool.and_eq_true,Bool.and_eq_false_iff] at *)
 all_goals simp_all
 all_goals omega
def e8_ (q:ap_) (r:TRow):Bool:=h0_ (fun i=>p6_ (q.where_.getD i br_.dflt) r) q.where_.length
theorem h9_ {q:ap_} {r:TRow} (hq:q.where_.length≤bO_) (hr:r.cells.length≤bO_):Ev (fun n _=>bF_ n q r) (e8_ q r):=by
 refine aq_ ?_
 simp only [bF_]
 have hH:∀ (c:br_) (g:Nat→Nat→Bool→Option Bool) (v:Bool),Ev (fun n N=>(dJ_ n c (TRow.mk r.id_ r.cells)).bind (g n N)) v↔Ev (fun n N=>g n N (p6_ c r)) v:=fun c g v=>ab_ (lk_ hr)
 refine e6_ (eD_ (fun n N i=>bF_.loop3 n (some true) N (i:Int) q.table q.where_ q.order q.down q.first q.show_ q.kids q.kidTable q.kidCol r.id_ r.cells) (fun i=>p6_ (q.where_.getD i br_.dflt) r) (len:=q.where_.length) (v:=true) (fun i u hi ih => ?_) ?_) (by rw [Bool.and_true];rfl)
 · simp only [bF_.turn3,bF_.step3,Int.toNat_natCast,W_up hi hq,an_,bk_,hH,ac_,c2_ ih,cy_ hi,cc_ hi]
   clear ih hH
   grind
 · simp only [bF_.turn3,bF_.step3,b8_,cond_false,ac_]
def dQ_ (rows:List TRow) (id:Int):Int:=fl_ (fun i x=>cond ((rows.getD i TRow.dflt).id_ == id) (i:Int) x) (-1) rows.length 0
theorem hr_ {rows:List TRow} {id:Int} (hr:rows.length≤bO_):Ev (fun n _=>ca_ n rows id) (dQ_ rows id):=by
 refine aq_ ?_
 simp only [ca_]
 refine iu_ (fun n N i=>ca_.loop3 n (some (-1)) N rows id (i:Int)) _ (fun i u hi ih => ?_) ?_
 · simp only [ca_.turn3,ca_.step3,Int.toNat_natCast,W_up hi hr,an_,bk_,ac_,c2_ ih,cy_ hi,cc_ hi]
   clear ih
   grind
 · simp only [ca_.turn3,ca_.step3,b8_,cond_false,ac_]
def gZ_ (q:ap_) (a b:TRow):Bool:=cond (q.order == 0) (decide (a.id_<b.id_)) (cond (fu_ a (W (q.order - 1)) == fu_ b (W (q.order - 1))) (decide (a.id_<b.id_)) (cond q.down (decide (fu_ a (W (q.order - 1)) > fu_ b (W (q.order - 1)))) (decide (fu_ a (W (q.order - 1))<fu_ b (W (q.order - 1))))))
theorem nS_ {q:ap_} {a b:TRow} (ha:a.cells.length≤bO_) (hb:b.cells.length≤bO_):Ev (fun n _=>eI_ n q a b) (gZ_ q a b):=by
 refine aq_ ?_
 simp only [eI_,ab_ (fc_ ha),ab_ (fc_ hb),an_,ac_,gZ_]
 generalize fu_ a (W (q.order - 1))=x
 generalize fu_ b (W (q.order - 1))=y
 cases hd:q.down<;>grind
end Go.Pi
end
section
namespace Go.Pi
def lenRR (c:Nat) (t:List (List TRow)):Prop:=t.length≤c∧∀ x ∈ t,hg_ c x
def fR_ (c:Nat) (s:ar_):Prop:=s.schema.cols.length≤c∧lenRR c s.tables
theorem f1_ {c:Nat} {t:List (List TRow)} (h:∀ x ∈ t,hg_ c x) (i:Nat):hg_ c (t.getD i []):=by
 by_cases hi:i<t.length
 · exact h _ (aZ_ [] hi)
 · rw [List.getD_eq_getElem?_getD,List.getElem?_eq_none (by omega)]
   exact ⟨Nat.zero_le _,fun x hx=>by cases hx⟩
theorem iJ_ (s:aI_):aI_.mk s.cols=s:=rfl
def oH_ (s:aI_) (t:Int) (rows:List TRow):Bool :=
 h0_ (fun i=>FRow s t (rows.getD i TRow.dflt)&&(decide (i=0)||decide ((rows.getD (i - 1) TRow.dflt).id_<(rows.getD i TRow.dflt).id_))) rows.length&&(dY_ s&&(inn t 0 (W ((s.cols.length:Int) - 1))&&decide ((rows.length:Int)≤24)))
theorem mG_ {s:aI_} {t:Int} {rows:List TRow} (hs:s.cols.length≤bO_) (hr:hg_ bO_ rows):Ev (fun n _=>bR_ n s t rows) (oH_ s t rows):=by
 refine aq_ ?_
 simp only [bR_]
 refine eD_ (fun n N i=>bR_.loop3 n _ N t rows (i:Int) s.cols) _ (fun i u hi ih => ?_) ?_
 · simp only [iJ_,bR_.turn3,bR_.step3,Int.toNat_natCast,W_up hi hr.1,W_dn (i:=i) (by have:=hr.1;omega),k2_,an_,bk_,ab_ (jz_ (s:=s) (t:=t) (r:=rows.getD i TRow.dflt) hs (gz_ hr i)),ac_,c2_ ih,cy_ hi,cc_ hi]
   clear ih
   repeat' (first|apply And.intro|intro _)
   all_goals (try rw [Bool.eq_iff_iff])
   all_goals (try simp only [Bool.not_eq_true',Bool.not_eq_false',decide_eq_true_eq,decide_eq_false_iff_not,beq_iff_eq,beq_eq_false_iff_ne,Bool.and_eq_true,Bool.or_eq_true,Bool.and_eq_false_iff,Bool.or_eq_false_iff] at *)
   all_goals grind
 · simp only [iJ_,bR_.turn3,bR_.step3,b8_,cond_false,eP_ (s:=s) hs,gi_,an_,ac_]
   repeat' (first|apply And.intro|intro _)
   all_goals (try simp_all)
def rb_ (s:aI_) (t:List (List TRow)):Bool:=h0_ (fun i=>oH_ s (i:Int) (t.getD i [])) t.length
def em_ (s:ar_):Bool:=dY_ s.schema&&(inn s.version 0 100000&&(decide (s.tables.length=s.schema.cols.length)&&rb_ s.schema s.tables))
theorem fy_ {s:ar_} (h:fR_ bO_ s):Ev (fun n _=>bs_ n s) (em_ s):=by
 refine aq_ ?_
 have hl:Ev (fun n _=>bs_.loop6 n (some true) n 0 s.schema.cols s.version s.tables) (rb_ s.schema s.tables&&true):=by
  refine eD_ (fun n N i=>bs_.loop6 n (some true) N (i:Int) s.schema.cols s.version s.tables) _ (fun i u hi ih => ?_) ?_
  · simp only [iJ_,bs_.turn6,bs_.step6,Int.toNat_natCast,W_up hi h.2.1,an_,bk_,ab_ (mG_ (s:=s.schema) (t:=(i:Int)) h.1 (f1_ h.2.2 i)),ac_,c2_ ih,cy_ hi,cc_ hi]
    clear ih
    repeat' (first|apply And.intro|intro _)
    all_goals (try simp_all)
  · simp only [iJ_,bs_.turn6,bs_.step6,b8_,cond_false,ac_]
 simp only [bs_,eP_ h.1,gi_,an_,ac_,c2_ hl,em_]
 clear hl
 repeat' (first|apply And.intro|intro _)
 all_goals (try simp_all)
 all_goals (intros;omega)
section
variable {β:Type} {g:Nat→Nat→List Int→Option β} {gr:Nat→Nat→TRow→Option β} {v:β}
theorem nz_ {l:List Int} (h:l.length≤ey_):Ev (fun n N=>(du_ n l).bind (g n N)) v↔Ev (fun n N=>g n N l) v :=
 ab_ (aq_ (by simp only [du_,bi_,ac_,List.nil_append,and_true];simp only [ey_] at h;simp;omega))
theorem copyRow_b {r:TRow} (h:r.cells.length≤ey_):Ev (fun n N=>(eb_ n r).bind (gr n N)) v↔Ev (fun n N=>gr n N r) v :=
 ab_ (aq_ (by simp only [eb_,nz_ h,ac_]))
theorem gT_ {r:TRow} (h:r.cells.length≤ey_):Ev (fun n N=>(cq_ n r).bind (gr n N)) v↔Ev (fun n N=>gr n N r) v :=
 ab_ (aq_ (by simp only [cq_,bi_,ac_,List.nil_append,and_true];simp only [ey_] at h;simp;omega))
end
theorem jl_ {c:Nat} {rows:List TRow} (hr:hg_ c rows) (i:Nat):(rows.getD i TRow.dflt).cells.length≤c:=by
 by_cases hi:i<rows.length
 · exact hr.2 _ (aZ_ TRow.dflt hi)
 · rw [List.getD_eq_getElem?_getD,List.getElem?_eq_none (by omega)]
   exact Nat.zero_le _
theorem qT_ {rows:List TRow} (h:hg_ ey_ rows):Ev (fun n _=>be_ n rows) rows:=by
 refine aq_ ?_
 have hl:=h.1
 simp only [ey_] at hl
 simp only [be_]
 refine mb_ TRow.dflt rows id (fun n N i s=>be_.loop4 n _ N rows (rows.length:Int) (i:Int) s) rows (fun i s hi hs F hF => ?_) ?_
 · simp only [be_.turn4,be_.step4,Int.toNat_natCast,W_up hi (show rows.length≤bO_ by simp only [bO_];omega),an_,bk_,copyRow_b (jl_ h i),bi_,cy_ hi,cc_ hi]
   exact ⟨fun _=>⟨trivial,by simp;omega,hF⟩,fun h=>by cases h⟩
 · simp only [be_.turn4,be_.step4,b8_,cond_false,ac_,List.map_id]
theorem pn_ {rows:List TRow} (h:hg_ ey_ rows):Ev (fun n _=>bL_ n rows) rows:=by
 refine aq_ ?_
 have hl:=h.1
 simp only [ey_] at hl
 simp only [bL_]
 refine mb_ TRow.dflt rows id (fun n N i s=>bL_.loop4 n _ N rows (i:Int) s) rows (fun i s hi hs F hF => ?_) ?_
 · simp only [bL_.turn4,bL_.step4,Int.toNat_natCast,W_up hi (show rows.length≤bO_ by simp only [bO_];omega),an_,bk_,gT_ (jl_ h i),bi_,cy_ hi,cc_ hi]
   exact ⟨fun _=>⟨trivial,by simp;omega,hF⟩,fun h=>by cases h⟩
 · simp only [bL_.turn4,bL_.step4,b8_,cond_false,ac_,List.map_id]
theorem nh_ {β:Type} {s:aI_} {g:Nat→Nat→aI_→Option β} {v:β} (h:s.cols.length≤ey_):Ev (fun n N=>(dn_ n s).bind (g n N)) v↔Ev (fun n N=>g n N s) v :=
 ab_ (aq_ (by simp only [dn_,bi_,ac_,List.nil_append,and_true];simp only [ey_] at h;simp;omega))
theorem lP_ {s:ar_} (h:fR_ ey_ s):Ev (fun n _=>bo_ n s) s:=by
 refine aq_ ?_
 have hl:=h.2.1
 simp only [ey_] at hl
 simp only [bo_,nh_ h.1]
 refine mb_ [] s.tables id (fun n N i q=>bo_.loop4 n _ N (i:Int) s.schema.cols s.version s.tables 0 s.version s.schema.cols q) s (fun i q hi hs F hF => ?_) ?_
 · simp only [bo_.turn4,bo_.step4,Int.toNat_natCast,W_up hi (show s.tables.length≤bO_ by simp only [bO_];omega),an_,bk_,ab_ (pn_ (f1_ h.2.2 i)),bi_,cy_ hi,cc_ hi]
   exact ⟨fun _=>⟨trivial,by simp;omega,hF⟩,fun h=>by cases h⟩
 · simp only [bo_.turn4,bo_.step4,b8_,cond_false,ac_,List.map_id]
end Go.Pi
end
section
namespace Go.Pi
theorem kr_ (rows:List TRow) (id:Int):dQ_ rows id=if rows.findIdx (fun r=>r.id_ == id)<rows.length then (rows.findIdx (fun r=>r.id_ == id):Int) else -1:=fr_ TRow.dflt (fun r=>r.id_ == id) rows
def gM_ (rows:List TRow) (id:Int):List TRow:=rows.eraseIdx (rows.findIdx (fun r=>r.id_ == id))
def iw_ (rows:List TRow) (at_ i:Nat):List TRow:=(rows.take i).eraseIdx at_
theorem qM_ {rows:List TRow} {i:Nat} (h:i<rows.length):iw_ rows i (i+1)=iw_ rows i i:=by
 unfold iw_
 rw [cS_ TRow.dflt h]
 have e:(rows.take i).length=i:=by rw [List.length_take];omega
 rw [List.eraseIdx_of_length_le (l:=rows.take i) (by omega),List.eraseIdx_append_of_length_le (by omega),e,Nat.sub_self]
 simp
theorem pI_ {rows:List TRow} {at_ i:Nat} (h:i<rows.length) (hne:i≠at_):iw_ rows at_ (i+1)=iw_ rows at_ i++[rows.getD i TRow.dflt]:=by
 unfold iw_
 rw [cS_ TRow.dflt h]
 have e:(rows.take i).length=i:=by rw [List.length_take];omega
 by_cases hlt:at_<i
 · rw [List.eraseIdx_append_of_lt_length (by omega)]
 · rw [List.eraseIdx_of_length_le (l:=rows.take i) (by omega),List.eraseIdx_of_length_le (by simp;omega)]
theorem sY_ {rows:List TRow} {at_ i:Nat}:(iw_ rows at_ i).length≤rows.length:=by
 unfold iw_
 have:=List.length_eraseIdx_le (rows.take i) at_
 rw [List.length_take] at this
 omega
theorem gA_ {rows:List TRow} {id:Int} (h:hg_ ey_ rows):Ev (fun n _=>bc_ n rows id) (gM_ rows id):=by
 refine aq_ ?_
 have hl:=h.1
 simp only [ey_] at hl
 have ht:rows.length≤bO_:=by simp only [bO_];omega
 simp only [bc_,ab_ (hr_ (rows:=rows) (id:=id) ht)]
 obtain ⟨p,hp⟩:∃ p,p=rows.findIdx (fun r=>r.id_ == id):=⟨_,rfl⟩
 have hat:∀ i:Nat,i<rows.length→(((i:Int) != dQ_ rows id)=true↔i≠p):=fun i hi=>by
  rw [kr_,←hp,bne_iff_ne]
  split<;>omega
 have hF:gM_ rows id=iw_ rows p rows.length:=by unfold gM_ iw_;rw [List.take_length,hp]
 rw [hF]
 refine eC_ (fun i=>iw_ rows p i) rows.length (fun n N i s=>bc_.loop5 n (fun xy3=>some xy3) N rows (dQ_ rows id) (i:Int) s) _ (fun i hi F hF => ?_) ?_
 · have hlen:=sY_ (rows:=rows) (at_:=p) (i:=i)
   simp only [bc_.turn5,bc_.step5,Int.toNat_natCast,W_up hi ht,an_,bk_,gT_ (jl_ h i),bi_,cy_ hi,cc_ hi]
   refine ⟨fun _=>⟨fun hne=>⟨trivial,by simp;omega,?_⟩,fun heq => ?_⟩,fun h=>by cases h⟩
   · rw [←pI_ hi ((hat i hi).1 hne)];exact hF
   · have:i=p:=Classical.byContradiction fun hn=>by rw [(hat i hi).2 hn] at heq;cases heq
     subst this
     rw [←qM_ hi];exact hF
 · simp only [bc_.turn5,bc_.step5,b8_,cond_false,ac_]
end Go.Pi
end
section
namespace Go.Pi
def st_ (x y:br_):Bool:=cond (x.col == y.col) (cond (x.op == y.op) (cond (x.v == y.v) true false) false) false
def iE_ (a b:List br_):Bool:=decide (a.length=b.length)&&h0_ (fun i=>st_ (a.getD i br_.dflt) (b.getD i br_.dflt)) a.length
def iD_ (a b:List Int):Bool:=decide (a.length=b.length)&&h0_ (fun i=>a.getD i 0 == b.getD i 0) a.length
def fG_ (a b:ap_):Bool:=(a.table == b.table)&&(iE_ a.where_ b.where_&&((a.order == b.order)&&((a.down == b.down)&&((a.first == b.first)&&(iD_ a.show_ b.show_&&((a.kids == b.kids)&&((a.kidTable == b.kidTable)&&(a.kidCol == b.kidCol))))))))
theorem rB_ {n m:Nat} {p:Nat→Bool}:(h0_ p (min n m)&&decide (n=m))=(decide (n=m)&&h0_ p n):=by
 by_cases h:n=m
 · subst h;simp [Nat.min_self,Bool.and_comm]
 · simp [h]
theorem ll_ {a b:List br_} (ha:a.length≤bO_):Ev (fun n _=>bA_ n a b) (iE_ a b):=by
 refine aq_ ?_
 simp only [bA_]
 refine e6_ (eD_ (fun n N i=>bA_.loop3 n (fun x y=>some ((x.length:Int) == (y.length:Int))) N a b (i:Int)) (fun i=>st_ (a.getD i br_.dflt) (b.getD i br_.dflt)) (len:=min a.length b.length) (v:=decide (a.length=b.length)) (fun i u hi ih => ?_) ?_) rB_
 · have h1:i<a.length:=by omega
   have h2:i<b.length:=by omega
   simp only [bA_.turn3,bA_.step3,Int.toNat_natCast,W_up h1 ha,an_,bk_,ac_,c2_ ih,cy_ h1,cc_ h1,cy_ h2,cc_ h2]
   clear ih
   simp only [st_]
   generalize (cond ((a.getD i br_.dflt).col == (b.getD i br_.dflt).col) (cond ((a.getD i br_.dflt).op == (b.getD i br_.dflt).op) (cond ((a.getD i br_.dflt).v == (b.getD i br_.dflt).v) true false) false) false)=c
   cases c<;>simp
 · simp only [bA_.turn3,bA_.step3,an_,ac_,bk_]
   grind
theorem mE_ {a b:List Int} (ha:a.length≤bO_):Ev (fun n _=>bQ_ n a b) (iD_ a b):=by
 refine aq_ ?_
 simp only [bQ_]
 refine e6_ (eD_ (fun n N i=>bQ_.loop3 n (fun x y=>some ((x.length:Int) == (y.length:Int))) N a b (i:Int)) (fun i=>a.getD i 0 == b.getD i 0) (len:=min a.length b.length) (v:=decide (a.length=b.length)) (fun i u hi ih => ?_) ?_) rB_
 · have h1:i<a.length:=by omega
   have h2:i<b.length:=by omega
   simp only [bQ_.turn3,bQ_.step3,Int.toNat_natCast,W_up h1 ha,an_,bk_,ac_,c2_ ih,cy_ h1,cc_ h1,cy_ h2,cc_ h2]
   clear ih
   generalize a.getD i 0=x
   generalize b.getD i 0=y
   grind
 · simp only [bQ_.turn3,bQ_.step3,an_,ac_,bk_]
   grind
theorem j7_ {a b:ap_} (ha:p9_ bO_ a):Ev (fun n _=>dr_ n a b) (fG_ a b):=by
 refine aq_ ?_
 simp only [dr_,ab_ (ll_ ha.1),ab_ (mE_ ha.2),an_,ac_,fG_]
 generalize iE_ a.where_ b.where_=c
 generalize iD_ a.show_ b.show_=d
 cases c<;>cases d<;>grind
theorem oJ_ {a b:List br_} (ha:a.length≤bO_):Ev (fun n _=>aV_ n a b) (iE_ a b):=by
 refine aq_ ?_
 simp only [aV_,an_,ac_]
 refine ⟨fun h => ?_,fun h2 => ?_⟩
 · simp only [bne_iff_ne,ne_eq] at h;have:¬ a.length=b.length:=by omega
   simp [iE_,this]
 · simp only [bne_eq_false_iff_eq] at h2
   have hl:a.length=b.length:=by omega
   refine e6_ (eD_ (fun n N i=>aV_.loop6 n (some true) N a b (a.length:Int) (i:Int)) (fun i=>st_ (a.getD i br_.dflt) (b.getD i br_.dflt)) (len:=a.length) (v:=true) (fun i u hi ih => ?_) ?_) (by simp [iE_,hl])
   · have h2:i<b.length:=by omega
     simp only [aV_.turn6,aV_.step6,Int.toNat_natCast,W_up hi ha,an_,bk_,ac_,c2_ ih,cy_ hi,cc_ hi,cc_ h2]
     clear ih
     simp only [st_]
     generalize (cond ((a.getD i br_.dflt).col == (b.getD i br_.dflt).col) (cond ((a.getD i br_.dflt).op == (b.getD i br_.dflt).op) (cond ((a.getD i br_.dflt).v == (b.getD i br_.dflt).v) true false) false) false)=c
     cases c<;>simp
   · simp only [aV_.turn6,aV_.step6,b8_,cond_false,ac_]
theorem kK_ {a b:List Int} (ha:a.length≤bO_):Ev (fun n _=>aY_ n a b) (iD_ a b):=by
 refine aq_ ?_
 simp only [aY_,an_,ac_]
 refine ⟨fun h => ?_,fun h2 => ?_⟩
 · simp only [bne_iff_ne,ne_eq] at h;have:¬ a.length=b.length:=by omega
   simp [iD_,this]
 · simp only [bne_eq_false_iff_eq] at h2
   have hl:a.length=b.length:=by omega
   refine e6_ (eD_ (fun n N i=>aY_.loop6 n (some true) N a b (a.length:Int) (i:Int)) (fun i=>a.getD i 0 == b.getD i 0) (len:=a.length) (v:=true) (fun i u hi ih => ?_) ?_) (by simp [iD_,hl])
   · have h2:i<b.length:=by omega
     simp only [aY_.turn6,aY_.step6,Int.toNat_natCast,W_up hi ha,an_,bk_,ac_,c2_ ih,cy_ hi,cc_ hi,cc_ h2]
     clear ih
     generalize a.getD i 0=x
     generalize b.getD i 0=y
     grind
   · simp only [aY_.turn6,aY_.step6,b8_,cond_false,ac_]
theorem fT_ {a b:ap_} (ha:p9_ bO_ a):Ev (fun n _=>cU_ n a b) (fG_ a b):=by
 refine aq_ ?_
 simp only [cU_,ab_ (oJ_ ha.1),ab_ (kK_ ha.2),an_,ac_,fG_]
 generalize iE_ a.where_ b.where_=c
 generalize iD_ a.show_ b.show_=d
 repeat' (first|apply And.intro|intro _)
 all_goals (try simp only [beq_iff_eq,beq_eq_false_iff_ne,ne_eq] at *)
 all_goals simp_all
end Go.Pi
end
section
namespace Go.Pi
def mx_ (a b:List TKid):Bool:=decide (a.length=b.length)&&h0_ (fun i=>(cond ((a.getD i TKid.dflt).id_ == (b.getD i TKid.dflt).id_) (cond ((a.getD i TKid.dflt).n_ == (b.getD i TKid.dflt).n_) true false) false)) a.length
def ti_ (a b:TRow):Bool:=(a.id_ == b.id_)&&iD_ a.cells b.cells
def mu_ (a b:List TRow):Bool:=decide (a.length=b.length)&&h0_ (fun i=>ti_ (a.getD i TRow.dflt) (b.getD i TRow.dflt)) a.length
def sh_ (a b:aJ_):Bool:=fG_ a.q b.q&&(mu_ a.rows b.rows&&mx_ a.kids b.kids)
theorem p7_ {a b:List TKid} (ha:a.length≤bO_):Ev (fun n _=>a3_ n a b) (mx_ a b):=by
 refine aq_ ?_
 simp only [a3_,an_,ac_]
 refine ⟨fun h => ?_,fun h2 => ?_⟩
 · simp only [bne_iff_ne,ne_eq] at h;have:¬ a.length=b.length:=by omega
   simp [mx_,this]
 · simp only [bne_eq_false_iff_eq] at h2
   have hl:a.length=b.length:=by omega
   refine e6_ (eD_ (fun n N i=>a3_.loop6 n (some true) N a b (a.length:Int) (i:Int)) (fun i=>(cond ((a.getD i TKid.dflt).id_ == (b.getD i TKid.dflt).id_) (cond ((a.getD i TKid.dflt).n_ == (b.getD i TKid.dflt).n_) true false) false)) (len:=a.length) (v:=true) (fun i u hi ih => ?_) ?_) (by simp [mx_,hl])
   · have h2:i<b.length:=by omega
     simp only [a3_.turn6,a3_.step6,Int.toNat_natCast,W_up hi ha,an_,bk_,ac_,c2_ ih,cy_ hi,cc_ hi,cc_ h2]
     clear ih
     generalize (cond ((a.getD i TKid.dflt).id_ == (b.getD i TKid.dflt).id_) (cond ((a.getD i TKid.dflt).n_ == (b.getD i TKid.dflt).n_) true false) false)=c
     cases c<;>simp
   · simp only [a3_.turn6,a3_.step6,b8_,cond_false,ac_]
theorem l7_ {a b:TRow} (ha:a.cells.length≤bO_):Ev (fun n _=>ee_ n a b) (ti_ a b):=by
 refine aq_ ?_
 simp only [ee_,ab_ (kK_ ha),an_,ac_,ti_]
 generalize iD_ a.cells b.cells=d
 cases d<;>grind
theorem kZ_ {a b:List TRow} (ha:hg_ bO_ a):Ev (fun n _=>ah_ n a b) (mu_ a b):=by
 refine aq_ ?_
 simp only [ah_,an_,ac_]
 refine ⟨fun h => ?_,fun h2 => ?_⟩
 · simp only [bne_iff_ne,ne_eq] at h;have:¬ a.length=b.length:=by omega
   simp [mu_,this]
 · simp only [bne_eq_false_iff_eq] at h2
   have hl:a.length=b.length:=by omega
   refine e6_ (eD_ (fun n N i=>ah_.loop6 n (some true) N b a (a.length:Int) (i:Int)) (fun i=>ti_ (a.getD i TRow.dflt) (b.getD i TRow.dflt)) (len:=a.length) (v:=true) (fun i u hi ih => ?_) ?_) (by simp [mu_,hl])
   · have h2:i<b.length:=by omega
     simp only [ah_.turn6,ah_.step6,Int.toNat_natCast,W_up hi ha.1,an_,bk_,ab_ (l7_ (gz_ ha i)),ac_,c2_ ih,cy_ hi,cc_ hi,cc_ h2]
     clear ih
     generalize ti_ (a.getD i TRow.dflt) (b.getD i TRow.dflt)=c
     cases c<;>simp
   · simp only [ah_.turn6,ah_.step6,b8_,cond_false,ac_]
theorem hV_ {a b:aJ_} (ha:jM_ bO_ a):Ev (fun n _=>dv_ n a b) (sh_ a b):=by
 refine aq_ ?_
 simp only [dv_,ab_ (fT_ ha.1),ab_ (kZ_ ha.2.1),ab_ (p7_ ha.2.2),an_,ac_,sh_]
 generalize fG_ a.q b.q=c
 generalize mu_ a.rows b.rows=d
 generalize mx_ a.kids b.kids=e
 cases c<;>cases d<;>cases e<;>simp
end Go.Pi
end
section
namespace Go.Pi
def eQ_ (rows:List TRow) (id:Int):Nat:=rows.findIdx (fun x=>decide (x.id_ > id))
def eU_ (rows:List TRow) (r:TRow):List TRow :=
 cond (decide (dQ_ rows r.id_≥0)) (rows.set (dQ_ rows r.id_).toNat r) (rows.take (eQ_ rows r.id_)++[r]++rows.drop (eQ_ rows r.id_))
theorem q1_ (rows:List TRow) (id:Int):(∃ p,p<rows.length∧dQ_ rows id=(p:Int)∧rows.findIdx (fun r=>r.id_ == id)=p)∨(dQ_ rows id = -1∧gM_ rows id=rows):=by
 rw [kr_]
 by_cases h:rows.findIdx (fun r=>r.id_ == id)<rows.length
 · exact .inl ⟨_,h,if_pos h,rfl⟩
 · refine .inr ⟨if_neg h,?_⟩
   unfold gM_
   rw [List.eraseIdx_of_length_le (by omega)]
theorem idx_down (rows:List TRow) (P:TRow→Bool) {j:Nat} (hj:j<rows.length) :
  j+(rows.drop j).findIdx P=cond (P (rows.getD j TRow.dflt)) j (j+1+(rows.drop (j+1)).findIdx P):=by
 rw [fE_ TRow.dflt hj,List.findIdx_cons]
 cases P (rows.getD j TRow.dflt)<;>simp only [cond_true,cond_false]<;>omega
theorem g3_ {rows:List TRow} {r:TRow} (h:hg_ ey_ rows) (hr:r.cells.length≤ey_):Ev (fun n _=>bx_ n rows r) (eU_ rows r):=by
 refine aq_ ?_
 have hl:=h.1
 simp only [ey_] at hl
 have ht:rows.length≤bO_:=by simp only [bO_];omega
 have e0:∀ r:TRow,TRow.mk r.id_ r.cells=r:=fun _=>rfl
 simp only [bx_,ab_ (gA_ (id:=r.id_) h),ab_ (hr_ (rows:=rows) (id:=r.id_) ht),an_]
 rcases q1_ rows r.id_ with ⟨p,hp,e1,e2⟩|⟨e1,e2⟩
 · have hd:gM_ rows r.id_=rows.take p++rows.drop (p+1):=by unfold gM_;rw [e2,List.eraseIdx_eq_take_drop_succ]
   have hdl:(gM_ rows r.id_).length=rows.length - 1:=by rw [hd];simp;omega
   refine ⟨fun _ => ?_,fun h=>by rw [e1] at h;simp at h⟩
   rw [e1]
   simp only [g9_,bi_,gT_ hr,ac_,Int.toNat_natCast,List.length_nil,List.nil_append,List.drop_zero,hdl]
   refine ⟨by omega,by simp;omega,by simp;omega,by omega,by simp;omega,?_⟩
   unfold eU_
   rw [e1,decide_eq_true (by omega),cond_true,Int.toNat_natCast,hd,List.set_eq_take_append_cons_drop,if_pos hp]
   have t1:(rows.take p++rows.drop (p+1)).take p=rows.take p:=by rw [List.take_append_of_le_length (by simp;omega),List.take_take,Nat.min_self]
   have t2:((rows.take p++rows.drop (p+1)).take (rows.length - 1)).drop p=rows.drop (p+1):=by
    rw [List.take_of_length_le (by simp;omega),List.drop_append_of_le_length (by simp;omega),List.drop_eq_nil_of_le (by simp;omega),List.nil_append]
   rw [t1,t2];simp
 · refine ⟨fun h=>by rw [e1] at h;simp at h,fun _ => ?_⟩
   rw [e2]
   have hF:eU_ rows r=rows.take (eQ_ rows r.id_)++[r]++rows.drop (eQ_ rows r.id_):=by unfold eU_;rw [e1];rfl
   rw [hF]
   obtain ⟨S,hS⟩:∃ S:Nat→Int,S=fun i=>(((rows.length - i)+(rows.drop (rows.length - i)).findIdx (fun x=>decide (x.id_ > r.id_)):Nat):Int):=⟨_,rfl⟩
   have hS0:S 0=(rows.length:Int):=by rw [hS];simp
   have:=eC_ S rows.length (fun n N i (s:Int)=>bx_.loop6 n (fun xy5 xy6 xy7 xy8=>(iY_ 0 xy5 xy8.length (bv_ (([]:List TRow).length+((xy8.take xy5.toNat).drop 0).length) 32 ((cq_ n (TRow.mk xy6 xy7)).bind fun xr9=>(bv_ ((([]:List TRow)++((xy8.take xy5.toNat).drop 0)).length+([xr9]:List TRow).length) 32 (iY_ xy5 (xy8.length:Int) xy8.length (bv_ (((([]:List TRow)++((xy8.take xy5.toNat).drop 0))++([xr9]:List TRow)).length+((xy8.take ((xy8.length:Int).toNat)).drop xy5.toNat).length) 32 (some (((([]:List TRow)++((xy8.take xy5.toNat).drop 0))++([xr9]:List TRow))++((xy8.take ((xy8.length:Int).toNat)).drop xy5.toNat)))))))))) N s (((rows.length - i:Nat):Int) - 1) r.id_ r.cells rows) (rows.take (eQ_ rows r.id_)++[r]++rows.drop (eQ_ rows r.id_)) (fun i hi F hF => ?_) ?_
   · rw [hS0] at this
     rw [W_dn ht]
     simpa using this
   · obtain ⟨j,hj⟩:∃ j,j=rows.length - i - 1:=⟨_,rfl⟩
     have hji:rows.length - i=j+1:=by omega
     have hji2:rows.length - (i+1)=j:=by omega
     have hjl:j<rows.length:=by omega
     have hstep:=idx_down rows (fun x=>decide (x.id_ > r.id_)) hjl
     have s1:S i=((j+1+(rows.drop (j+1)).findIdx (fun x=>decide (x.id_ > r.id_)):Nat):Int):=by rw [hS];simp only [hji]
     have s2:S (i+1)=((j+(rows.drop j).findIdx (fun x=>decide (x.id_ > r.id_)):Nat):Int):=by rw [hS];simp only [hji2]
     have ei:((rows.length - i:Nat):Int) - 1=(j:Int):=by omega
     have ei2:W ((j:Int) - 1)=((rows.length - (i+1):Nat):Int) - 1:=by rw [W_dn (by omega),hji2]
     rw [s2,hstep] at hF
     rw [ei,s1]
     simp only [bx_.turn6,bx_.step6,an_,bk_,Int.toNat_natCast,ei2]
     refine ⟨fun _=>⟨by omega,fun hc => ?_,fun hc => ?_⟩,fun h=>by simp at h⟩
     · rw [hc] at hF;exact hF
     · rw [hc] at hF;exact hF
   · have s1:S rows.length=(eQ_ rows r.id_:Int):=by rw [hS];simp [eQ_]
     have hpl:eQ_ rows r.id_≤rows.length:=List.findIdx_le_length
     rw [s1]
     simp only [bx_.turn6,bx_.step6,Nat.sub_self,e0]
     rw [show decide (((0:Nat):Int) - 1≥0)=false from by simp]
     simp only [cond_false,g9_,bi_,gT_ hr,ac_,Int.toNat_natCast,List.length_nil,List.nil_append,List.drop_zero]
     refine ⟨by omega,by simp;omega,by simp;omega,by omega,by simp;omega,?_⟩
     rw [List.take_length]
end Go.Pi
end
section
namespace Go.Pi
def qa_ (c:Nat) (x:aS_):Prop:=x.old.cells.length≤c∧x.new.cells.length≤c
theorem hq_ {c n:Nat} (h:n≤c) (hc:c≤ey_):n≤bO_:=by simp only [ey_] at hc;simp only [bO_];omega
theorem hg_.upto {c d:Nat} {r:List TRow} (h:hg_ c r) (hc:c≤d):hg_ d r:=⟨Nat.le_trans h.1 hc,fun x hx=>Nat.le_trans (h.2 x hx) hc⟩
theorem fR_.upto {c d:Nat} {s:ar_} (h:fR_ c s) (hc:c≤d):fR_ d s:=⟨Nat.le_trans h.1 hc,Nat.le_trans h.2.1 hc,fun x hx=>(h.2.2 x hx).upto hc⟩
theorem my_ {c:Nat} {rows:List TRow} {id:Int} (h:hg_ c rows):hg_ c (gM_ rows id):=by
 unfold gM_
 exact ⟨Nat.le_trans (List.length_eraseIdx_le _ _) h.1,fun x hx=>h.2 x (List.mem_of_mem_eraseIdx hx)⟩
theorem mv_ {c:Nat} {rows:List TRow} {r:TRow} (h:hg_ c rows) (hr:r.cells.length≤c):hg_ (c+1) (eU_ rows r):=by
 unfold eU_
 have h1:=h.1
 cases decide (dQ_ rows r.id_≥0)<;>simp only [cond_true,cond_false]
 · refine ⟨by simp;omega,fun x hx => ?_⟩
   rcases List.mem_append.1 hx with hx|hx
   · rcases List.mem_append.1 hx with hx|hx
     · exact Nat.le_succ_of_le (h.2 x (List.mem_of_mem_take hx))
     · rw [List.mem_singleton.1 hx];omega
   · exact Nat.le_succ_of_le (h.2 x (List.mem_of_mem_drop hx))
 · refine ⟨by simp;omega,fun x hx => ?_⟩
   rcases List.mem_or_eq_of_mem_set hx with hx|rfl
   · exact Nat.le_succ_of_le (h.2 x hx)
   · omega
end Go.Pi
end
section
namespace Go.Pi
def br_.size (s:br_):Nat:=0
def br_.len (s:br_):Prop:=True
def ap_.size (s:ap_):Nat:=(jf_ br_.size) s.where_+(jf_ szI) s.show_
def ap_.len (s:ap_):Prop:=(pk_ br_.len) s.where_∧(pk_ lenI) s.show_
def TRow.size (s:TRow):Nat:=(jf_ szI) s.cells
def TRow.len (s:TRow):Prop:=(pk_ lenI) s.cells
def TKid.size (s:TKid):Nat:=0
def TKid.len (s:TKid):Prop:=True
def aJ_.size (s:aJ_):Nat:=ap_.size s.q+(jf_ TRow.size) s.rows+(jf_ TKid.size) s.kids
def aJ_.len (s:aJ_):Prop:=ap_.len s.q∧(pk_ TRow.len) s.rows∧(pk_ TKid.len) s.kids
def bS_.size (s:bS_):Nat:=aJ_.size s.view+aJ_.size s.last
def bS_.len (s:bS_):Prop:=aJ_.len s.view∧aJ_.len s.last
def al_.size (s:al_):Nat:=(jf_ szI) s.b
def al_.len (s:al_):Prop:=(pk_ lenI) s.b
def aI_.size (s:aI_):Nat:=(jf_ szI) s.cols
def aI_.len (s:aI_):Prop:=(pk_ lenI) s.cols
def ar_.size (s:ar_):Nat:=aI_.size s.schema+(jf_ (jf_ TRow.size)) s.tables
def ar_.len (s:ar_):Prop:=aI_.len s.schema∧(pk_ (pk_ TRow.len)) s.tables
mutual
def aa_.size:aa_→Nat
 |⟨_,_,s,l,ns⟩=>s.length+((l.length+aa_.sizes l)+jf_ szB ns)
def aa_.sizes:List aa_→Nat
 |[]=>0
 |x::l=>aa_.size x+aa_.sizes l
end
mutual
def aa_.len:aa_→Prop
 |⟨_,_,s,l,ns⟩=>s.length≤bO_∧(l.length≤bO_∧aa_.lens l)∧pk_ lenB ns
def aa_.lens:List aa_→Prop
 |[]=>True
 |x::l=>aa_.len x∧aa_.lens l
end
theorem aa_.sizes_eq:∀ l:List aa_,aa_.sizes l=hP_ aa_.size l
 |[]=>by simp only [aa_.sizes,hP_]
 |x::l=>by simp only [aa_.sizes,hP_,aa_.sizes_eq l]
theorem aa_.lens_iff:∀ l:List aa_,aa_.lens l↔∀ x ∈ l,aa_.len x
 |[]=>by simp [aa_.lens]
 |x::l=>by simp [aa_.lens,aa_.lens_iff l]
theorem aa_.size_eq (j:aa_):aa_.size j=j.s.length+(jf_ aa_.size j.list+jf_ szB j.names):=by
 cases j;simp only [aa_.size,aa_.sizes_eq,jf_]
theorem aa_.len_iff (j:aa_):aa_.len j↔j.s.length≤bO_∧pk_ aa_.len j.list∧pk_ lenB j.names:=by
 cases j;simp only [aa_.len,aa_.lens_iff,pk_]
theorem aa_.re_eq (j:aa_):aa_.re j=j:=by cases j;rfl
theorem aa_.dec {x:aa_} {a:List aa_} (h:x ∈ a):SizeOf.sizeOf x.list<SizeOf.sizeOf a:=by
 have h1:=List.sizeOf_lt_of_mem h
 have h2:SizeOf.sizeOf x.list<SizeOf.sizeOf x:=by cases x;simp;omega
 omega
def TOp.size (s:TOp):Nat:=(jf_ szB) s.way+aa_.size s.value
def TOp.len (s:TOp):Prop:=(pk_ lenB) s.way∧aa_.len s.value
theorem TOp.eta (x:TOp):TOp.mk x.kind x.way x.value=x:=rfl
def c0_.size (s:c0_):Nat:=aa_.size s.doc+(jf_ TOp.size) s.ops
def c0_.len (s:c0_):Prop:=aa_.len s.doc∧(pk_ TOp.len) s.ops
theorem c0_.eta (x:c0_):c0_.mk x.kind x.version x.base x.doc x.ops=x:=rfl
def TMut.size (s:TMut):Nat:=TRow.size s.row
def TMut.len (s:TMut):Prop:=TRow.len s.row
def aS_.size (s:aS_):Nat:=TRow.size s.old+TRow.size s.new
def aS_.len (s:aS_):Prop:=TRow.len s.old∧TRow.len s.new
def ao_.size (s:ao_):Nat:=aa_.size s.value
def ao_.len (s:ao_):Prop:=aa_.len s.value
theorem ao_.eta (x:ao_):ao_.mk x.key x.value=x:=rfl
end Go.Pi
end
section
namespace Go.Pi
def fk_ (s:aI_):ar_:=⟨s,0,List.replicate s.cols.length []⟩
theorem lenSt_new {c:Nat} {s:aI_} (hs:s.cols.length≤c):fR_ c (fk_ s):=by
 refine ⟨hs,?_,fun x hx => ?_⟩
 · simp only [fk_,List.length_replicate];exact hs
 · simp only [fk_] at hx
   rw [List.eq_of_mem_replicate hx]
   exact ⟨Nat.zero_le _,fun x hx=>by cases hx⟩
def zStore:ar_:=⟨⟨[]⟩,0,[]⟩
def FNew (s:aI_):ar_ × Bool:=cond (dY_ s) (fk_ s,true) (zStore,false)
theorem hR_ {s:aI_} (hs:s.cols.length≤cap):Ev (fun n _=>dC_ n s) (FNew s):=by
 refine aq_ ?_
 simp only [cap] at hs
 simp only [dC_,eP_ (show s.cols.length≤bO_ by simp only [bO_];omega),nh_ (show s.cols.length≤ey_ by simp only [ey_];omega),an_,ac_,c1_,FNew,fk_,zStore,Int.toNat_natCast]
 repeat' (first|apply And.intro|intro _)
 all_goals (try simp_all)
 all_goals (try omega)
end Go.Pi
end
section
namespace Go.Pi
theorem Wn {x:Int} (h1 : -1000000000000≤x) (h2:x≤1000000000000):W x=x:=W_id (by omega) (by omega)
theorem d4_ {a b:Int}:Ev (fun n _=>cz_ n a b) (max a b):=by
 refine aq_ ?_
 simp only [cz_,an_,ac_]
 exact ⟨fun h=>by have:=of_decide_eq_true h;omega,fun h=>by have:=of_decide_eq_false h;omega⟩
theorem kO_ {c:al_} (hc:DwOk c):Ans (fun n _=>ay_ n c) fun r=>r.1.cols.length≤3∧(∀ x ∈ r.1.cols,x≤4)∧DwOk r.2:=by
 have key:∀ (m i:Nat) (c:al_) (o:List Int),i+m=3→DwOk c→o.length=i→(∀ x ∈ o,x≤4) →
   Ans (fun n N=>ay_.loop4 n (fun xy3 xy4 xy5 xy6=>(some ((aI_.mk xy6),(al_.mk xy3 xy4 xy5)))) N (i:Int) c.b c.i c.h o) fun r=>r.1.cols.length≤3∧(∀ x ∈ r.1.cols,x≤4)∧DwOk r.2:=by
  intro m
  induction m with
  |zero=>
   intro i c o hi hc ho hx
   refine cp_ ?_
   simp only [ay_.turn4,ay_.step4,ci_]
   refine aO_ (a9_ hc) fun r hr => ?_
   have h1:=hr.lo;have h2:=hr.hi
   rw [Wn (by omega) (by omega),decide_eq_false (by omega)]
   simp only [cond_false,ci_,bg_]
   exact ⟨by omega,hx,hr.cur⟩
  |succ m ih=>
   intro i c o hi hc ho hx
   refine cp_ ?_
   simp only [ay_.turn4,ay_.step4,ci_]
   refine aO_ (a9_ hc) fun r hr => ?_
   simp only [cr_,ci_,bg_]
   refine ⟨fun _=>aO_ (a9_ hr.cur) fun r2 hr2 => ?_,fun _=>⟨by omega,hx,hr.cur⟩⟩
   have h1:=hr2.lo;have h2:=hr2.hi
   have e1:W ((i:Int)+1)=((i+1:Nat):Int):=by rw [Wn (by omega) (by omega)];rfl
   rw [Wn (x:=1+r2.1) (by omega) (by omega),e1]
   simp only [fF_]
   refine ⟨by simp;omega,ih (i+1) r2.2 _ (by omega) hr2.cur (by simp;omega) fun x hx' => ?_⟩
   rcases List.mem_append.1 hx' with h|h
   · exact hx x h
   · rw [List.mem_singleton.1 h];omega
 refine cG_ ?_
 simp only [ay_]
 exact ew_ (key 3 0 c [] rfl hc rfl fun x hx=>(by cases hx))
theorem jO_ {c:al_} {cols:Int} (hc:DwOk c) (hcol:cols≤1000):Ans (fun n _=>aN_ n c cols) fun r=>r.1.cells.length≤1000∧DwOk r.2:=by
 have key:∀ (m i:Nat) (c:al_) (id:Int) (o:List Int),i+m=1000→DwOk c→o.length=i →
   Ans (fun n N=>aN_.loop4 n (fun xy3 xy4 xy5 xy6 xy7 xy8=>(some ((TRow.mk xy7 xy8),(al_.mk xy3 xy4 xy5)))) N cols (i:Int) c.b c.i c.h 0 id o) fun r=>r.1.cells.length≤1000∧DwOk r.2:=by
  intro m
  induction m with
  |zero=>
   intro i c id o hi hc ho
   refine cp_ ?_
   simp only [aN_.turn4,aN_.step4,ci_]
   rw [decide_eq_false (by omega)]
   simp only [cond_false,ci_,bg_]
   exact ⟨by omega,hc⟩
  |succ m ih=>
   intro i c id o hi hc ho
   refine cp_ ?_
   simp only [aN_.turn4,aN_.step4,ci_,cr_,bg_]
   refine ⟨fun _=>aO_ (a9_ hc) fun r2 hr2 => ?_,fun _=>⟨by omega,hc⟩⟩
   have e1:W ((i:Int)+1)=((i+1:Nat):Int):=by rw [Wn (by omega) (by omega)];rfl
   rw [e1]
   simp only [fF_]
   exact ⟨by simp;omega,ih (i+1) r2.2 _ _ (by omega) hr2.cur (by simp;omega)⟩
 refine cG_ ?_
 simp only [aN_]
 exact aO_ (a9_ hc) fun r hr=>ew_ (key 1000 0 r.2 _ [] rfl hr.cur rfl)
theorem mN_ {c:al_} {cols:Int} (hc:DwOk c) (hcol:cols≤1000):Ans (fun n _=>aE_ n c cols) fun r=>hg_ 1010 r.1∧DwOk r.2:=by
 have key:∀ (m i:Nat) (c:al_) (o:List TRow),i+m=9→DwOk c→hg_ (1000+i) o →
   Ans (fun n N=>aE_.loop4 n (fun xy4 xy5 xy6 xy7=>(some (xy7,(al_.mk xy4 xy5 xy6)))) N cols (i:Int) c.b c.i c.h o) fun r=>hg_ 1010 r.1∧DwOk r.2:=by
  intro m
  induction m with
  |zero=>
   intro i c o hi hc ho
   refine cp_ ?_
   simp only [aE_.turn4,aE_.step4,ci_]
   refine aO_ (a9_ hc) fun r hr => ?_
   have h1:=hr.lo;have h2:=hr.hi
   rw [decide_eq_false (by omega)]
   simp only [cond_false,ci_,bg_]
   exact ⟨ho.upto (by omega),hr.cur⟩
  |succ m ih=>
   intro i c o hi hc ho
   refine cp_ ?_
   simp only [aE_.turn4,aE_.step4,ci_]
   refine aO_ (a9_ hc) fun r hr => ?_
   simp only [cr_,ci_,bg_]
   refine ⟨fun _=>aO_ (jO_ hr.cur hcol) fun r2 hr2 => ?_,fun _=>⟨ho.upto (by omega),hr.cur⟩⟩
   have e1:W ((i:Int)+1)=((i+1:Nat):Int):=by rw [Wn (by omega) (by omega)];rfl
   have hP:=g3_ (rows:=o) (r:=r2.1) (ho.upto (by simp only [ey_];omega)) (by have:=hr2.1;simp only [ey_];omega)
   rw [bC_ hP,e1]
   exact ih (i+1) r2.2 _ (by omega) hr2.2 (by rw [←Nat.add_assoc];exact mv_ ho (by have:=hr2.1;omega))
 refine cG_ ?_
 simp only [aE_]
 exact ew_ (key 9 0 c [] rfl hc ⟨Nat.zero_le _,fun x hx=>(by cases hx)⟩)
structure StIn (c:Nat) (s:ar_):Prop where
 len:fR_ c s
 col:∀ x ∈ s.schema.cols,x≤1000
theorem StIn.upto {c d:Nat} {s:ar_} (h:StIn c s) (hc:c≤d):StIn d s:=⟨h.len.upto hc,h.col⟩
theorem StIn.getD {c:Nat} {s:ar_} (h:StIn c s) (i:Nat):s.schema.cols.getD i 0≤1000:=by
 by_cases hi:i<s.schema.cols.length
 · exact h.col _ (aZ_ _ hi)
 · rw [List.getD_eq_getElem?_getD,List.getElem?_eq_none (by omega)];decide
theorem gD_ {c:al_} (hc:DwOk c):Ans (fun n _=>az_ n c) fun r=>StIn 1010 r.1∧DwOk r.2:=by
 have key:∀ (m i:Nat) (c:al_) (s:ar_),i+m=s.tables.length→s.tables.length≤s.schema.cols.length→DwOk c→StIn 1010 s →
   Ans (fun n N=>az_.loop4 n (fun xy5 xy6 xy7 xy8 xy9 xy10 xy11=>((av_ n (al_.mk xy5 xy6 xy7) 5).bind fun xr12=>(some ((ar_.mk (aI_.mk xy10) xr12.1 xy11),xr12.2)))) N (i:Int) c.b c.i c.h 0 s.version s.schema.cols s.tables) fun r=>StIn 1010 r.1∧DwOk r.2:=by
  intro m
  induction m with
  |zero=>
   intro i c s hi hl hc hs
   have e:i=s.tables.length:=by omega
   subst e
   refine cp_ ?_
   simp only [az_.turn4,az_.step4,b8_,cond_false,ci_]
   exact aO_ (a9_ hc) fun r hr=>bg_.2 ⟨⟨hs.len,hs.col⟩,hr.cur⟩
  |succ m ih=>
   intro i c s hi hl hc hs
   have hlt:i<s.tables.length:=by omega
   have h3:=hs.len.2.1
   have hW:=W_up hlt (show s.tables.length≤bO_ by simp only [bO_];omega)
   refine cp_ ?_
   simp only [az_.turn4,az_.step4,cy_ hlt,cond_true,ci_,el_,Int.toNat_natCast]
   refine ⟨⟨by omega,by omega⟩,aO_ (mN_ hc (hs.getD i)) fun r hr => ?_⟩
   simp only [el_,hW]
   refine ⟨⟨by omega,by omega⟩,?_⟩
   have:=ih (i+1) r.2 (ar_.mk s.schema s.version (s.tables.set i r.1)) (by simp;omega) (by simp;exact hl) hr.2 ⟨⟨hs.len.1,by simp only [List.length_set];exact h3,fun x hx=>by
    rcases List.mem_or_eq_of_mem_set hx with hx|rfl
    · exact hs.len.2.2 x hx
    · exact hr.1⟩,hs.col⟩
   exact this
 refine cG_ ?_
 simp only [az_]
 refine aO_ (kO_ hc) fun r hr => ?_
 have hN:=hR_ (s:=r.1) (by have:=hr.1;simp only [cap];omega)
 rw [bC_ hN]
 refine ew_ (f:=fun n N=>az_.loop4 n (fun xy5 xy6 xy7 xy8 xy9 xy10 xy11=>((av_ n (al_.mk xy5 xy6 xy7) 5).bind fun xr12=>(some ((ar_.mk (aI_.mk xy10) xr12.1 xy11),xr12.2)))) N 0 r.2.b r.2.i r.2.h 0 (FNew r.1).1.version (FNew r.1).1.schema.cols (FNew r.1).1.tables) (key (FNew r.1).1.tables.length 0 r.2 (FNew r.1).1 (Nat.zero_add _) ?_ hr.2.2 ?_)
 · unfold FNew
   cases dY_ r.1
   · exact Nat.le_refl _
   · simp [fk_]
 · unfold FNew
   cases dY_ r.1
   · exact ⟨⟨Nat.zero_le _,Nat.zero_le _,fun x hx=>(by cases hx)⟩,fun x hx=>(by cases hx)⟩
   · exact ⟨lenSt_new (Nat.le_trans hr.1 (by decide)),fun x hx=>Int.le_trans (hr.2.1 x hx) (by decide)⟩
end Go.Pi
end
section
namespace Go.Pi
def mL_:TRow:=TRow.mk 0 []
def noCh:aS_:=aS_.mk 0 false false mL_ mL_
def zeroSt:ar_:=ar_.mk (aI_.mk []) 0 []
def gY_ (s:aI_) (m:TMut):Bool:=cond (m.kind == 3) (dY_ s&&(inn m.table 0 (W ((s.cols.length:Int) - 1))&&(inn m.row.id_ 1 999&&((m.row.cells.length:Int) == 0)))) (inn m.kind 1 2&&FRow s m.table m.row)
def eN_ (s:ar_) (m:TMut):List TRow:=s.tables.getD m.table.toNat []
def mz_ (s:ar_) (m:TMut):Bool:=(decide (dQ_ (eN_ s m) m.row.id_≥0) == (m.kind != 1)) && !((m.kind == 1)&&(((eN_ s m).length:Int) == 24))
def FDo (s:ar_) (m:TMut):ar_:=ar_.mk s.schema s.version (s.tables.set m.table.toNat (cond (m.kind != 3) (eU_ (eN_ s m) m.row) (gM_ (eN_ s m) m.row.id_)))
def fO_ (s:ar_) (m:TMut):aS_:=aS_.mk m.table (m.kind != 1) (m.kind != 3) (cond (m.kind != 1) ((eN_ s m).getD (dQ_ (eN_ s m) m.row.id_).toNat TRow.dflt) mL_) (cond (m.kind != 3) m.row mL_)
def f7_ (s:ar_) (m:TMut):ar_ × aS_ × Bool:=cond (em_ s) (cond (gY_ s.schema m&&mz_ s m) (FDo s m,fO_ s m,true) (s,noCh,false)) (zeroSt,noCh,false)
theorem k3_ (r:TRow):TRow.mk r.id_ r.cells=r:=rfl
theorem eV_ (s:ar_):ar_.mk s.schema s.version s.tables=s:=rfl
theorem fn_ (s:aI_):aI_.mk s.cols=s:=rfl
theorem n7_ (m:TMut):TMut.mk m.kind m.table m.row=m:=rfl
theorem nQ_ {s:aI_} {m:TMut} (hs:s.cols.length≤bO_) (hr:m.row.cells.length≤bO_):Ev (fun n _=>eY_ n s m) (gY_ s m):=by
 refine aq_ ?_
 simp only [eY_,ab_ (hT_ hs),ab_ (jz_ (t:=m.table) hs hr),gi_,an_,ac_,gY_]
 generalize (m.kind == 3)=a
 generalize dY_ s=b
 generalize inn m.table 0 _=c
 generalize inn m.row.id_ 1 999=d
 generalize inn m.kind 1 2=e
 cases a<;>cases b<;>cases c<;>cases d<;>cases e<;>simp
theorem qw_ {s:ar_} {m:TMut} (hs:em_ s=true) (hm:gY_ s.schema m=true) (hc:s.schema.cols.length≤bO_):0≤m.table∧m.table<(s.tables.length:Int):=by
 have e:=@W_dn s.schema.cols.length hc
 have hl:s.tables.length=s.schema.cols.length:=by
  unfold em_ at hs
  simp only [Bool.and_eq_true] at hs
  exact of_decide_eq_true hs.2.2.1
 have:inn m.table 0 (W ((s.schema.cols.length:Int) - 1))=true:=by
  unfold gY_ at hm
  cases h3:(m.kind == 3)<;>rw [h3] at hm
  · simp only [cond_false,Bool.and_eq_true] at hm
    have:=hm.2
    unfold FRow at this
    simp only [Bool.and_eq_true] at this
    exact this.2.1
  · simp only [cond_true,Bool.and_eq_true] at hm
    exact hm.2.1
 have:=dl_.1 this
 rw [e] at this
 omega
theorem ql_ (rows:List TRow) (id:Int):dQ_ rows id = -1∨0≤dQ_ rows id∧dQ_ rows id<(rows.length:Int):=by
 rcases q1_ rows id with ⟨p,h1,h2,_⟩|⟨h,_⟩
 · exact .inr ⟨by omega,by omega⟩
 · exact .inl h
theorem oU_ {s:ar_} {m:TMut} (hl:fR_ ey_ s) (hr:m.row.cells.length≤ey_) (ht:0≤m.table∧m.table<(s.tables.length:Int)):Ev (fun n _=>fw_ n s m) (cond (mz_ s m) (FDo s m,fO_ s m,true) (s,noCh,false)):=by
 have hT:hg_ ey_ (eN_ s m):=f1_ hl.2.2 _
 have hT1:(eN_ s m).length≤bO_:=hq_ hT.1 (Nat.le_refl _)
 have hrow:∀ i,((eN_ s m).getD i TRow.dflt).cells.length≤ey_:=fun i=>by
  by_cases hi:i<(eN_ s m).length
  · exact hT.2 _ (aZ_ _ hi)
  · rw [List.getD_eq_getElem?_getD,List.getElem?_eq_none (by omega)];exact Nat.zero_le _
 have hat:=ql_ (eN_ s m) m.row.id_
 have e0:s.tables.getD m.table.toNat []=eN_ s m:=rfl
 refine aq_ ?_
 simp only [fw_,e0,k3_,bk_,ht,true_and,and_true,ab_ (hr_ (id:=m.row.id_) hT1),gT_ (hrow _),gT_ hr,ab_ (g3_ hT hr),ab_ (gA_ (id:=m.row.id_) hT),an_,ac_]
 unfold mz_ FDo fO_ noCh mL_
 generalize eU_ (eN_ s m) m.row=p
 generalize gM_ (eN_ s m) m.row.id_=q
 generalize dQ_ (eN_ s m) m.row.id_=a at hat ⊢
 have hb:(m.kind == 1)=true→(m.kind != 1)=false:=by simp [bne]
 have hb':(m.kind == 1)=false→(m.kind != 1)=true:=by intro h;simp [bne,h]
 generalize (m.kind != 1)=k1 at hb hb' ⊢
 cases hk:(m.kind == 1)<;>rw [hk] at hb hb'
 · have:=hb' rfl
   subst this
   cases ha:decide (a≥0)
   · simp
   · have ha:=of_decide_eq_true ha
     cases (m.kind != 3)<;>simp<;>omega
 · have:=hb rfl
   subst this
   cases ha:decide (a≥0)<;>cases (((eN_ s m).length:Int) == 24)<;>cases (m.kind != 3)<;>simp
theorem jB_ {s:ar_} {m:TMut} (hl:fR_ ey_ s) (hr:m.row.cells.length≤ey_):Ev (fun n _=>eH_ n s m) (f7_ s m):=by
 have hs:s.schema.cols.length≤bO_:=hq_ hl.1 (Nat.le_refl _)
 have hrt:m.row.cells.length≤bO_:=hq_ hr (Nat.le_refl _)
 refine aq_ ?_
 simp only [eH_,eV_,n7_,k3_,ab_ (fy_ (hl.upto (show ey_≤bO_ by decide))),ab_ (nQ_ hs hrt),ab_ (lP_ hl),an_,ac_]
 unfold f7_
 cases h1:em_ s
 · exact ⟨fun _=>rfl,fun h=>(by cases h)⟩
 · refine ⟨fun h=>(by cases h),fun _ => ?_⟩
   cases h2:gY_ s.schema m
   · exact ⟨fun _=>rfl,fun h=>(by cases h)⟩
   · refine ⟨fun h=>(by cases h),fun _ => ?_⟩
     simp only [ab_ (oU_ hl hr (qw_ h1 h2 hs)),an_,ac_]
     cases mz_ s m<;>simp [noCh,mL_,ab_ (lP_ hl),ac_]
theorem FDo_len {c:Nat} {s:ar_} {m:TMut} (h:fR_ c s) (hr:m.row.cells.length≤c):fR_ (c+1) (FDo s m):=by
 have hT:hg_ c (eN_ s m):=f1_ h.2.2 _
 refine ⟨Nat.le_succ_of_le h.1,by simp only [FDo,List.length_set];exact Nat.le_succ_of_le h.2.1,fun x hx => ?_⟩
 rcases List.mem_or_eq_of_mem_set hx with hx|rfl
 · exact (h.2.2 x hx).upto (Nat.le_succ _)
 · cases (m.kind != 3)
   · exact (my_ hT).upto (Nat.le_succ _)
   · exact mv_ hT hr
theorem FDoCh_len {c:Nat} {s:ar_} {m:TMut} (h:fR_ c s) (hr:m.row.cells.length≤c):qa_ c (fO_ s m):=by
 have hT:hg_ c (eN_ s m):=f1_ h.2.2 _
 refine ⟨?_,?_⟩
 · show (cond (m.kind != 1) _ mL_).cells.length≤c
   cases (m.kind != 1)
   · exact Nat.zero_le _
   · by_cases hi:(dQ_ (eN_ s m) m.row.id_).toNat<(eN_ s m).length
     · exact hT.2 _ (aZ_ _ hi)
     · simp only [cond_true];rw [List.getD_eq_getElem?_getD,List.getElem?_eq_none (by omega)];exact Nat.zero_le _
 · show (cond (m.kind != 3) m.row mL_).cells.length≤c
   cases (m.kind != 3)
   · exact Nat.zero_le _
   · exact hr
theorem kt_ {c:Nat} {s:ar_} {m:TMut} (h:fR_ c s) (hr:m.row.cells.length≤c):fR_ (c+1) (f7_ s m).1∧qa_ c (f7_ s m).2.1:=by
 have z:qa_ c noCh:=⟨Nat.zero_le _,Nat.zero_le _⟩
 unfold f7_
 cases em_ s
 · exact ⟨⟨Nat.zero_le _,Nat.zero_le _,fun x hx=>(by cases hx)⟩,z⟩
 · cases (gY_ s.schema m&&mz_ s m)
   · exact ⟨h.upto (Nat.le_succ _),z⟩
   · exact ⟨FDo_len h hr,FDoCh_len h hr⟩
end Go.Pi
end
section
namespace Go.Pi
def fL_:ar_→List TMut→List aS_→Option (ar_ × List aS_)
 |s,[],l=>some (s,l)
 |s,m::r,l=>cond (f7_ s m).2.2 (fL_ (f7_ s m).1 r (l++[(f7_ s m).2.1])) none
def mA_ (s:ar_):Option (ar_ × List aS_)→ar_ × List aS_ × Bool
 |some p=>(ar_.mk p.1.schema (W (s.version+1)) p.1.tables,p.2,true)
 |none=>(s,[],false)
def ex_ (s:ar_) (l:List TMut):ar_ × List aS_ × Bool:=cond (em_ s) (cond (inn (l.length:Int) 1 5 && !(s.version == 100000)) (mA_ s (fL_ s l [])) (s,[],false)) (zeroSt,[],false)
def lM_ (c:Nat) (l:List TMut):Prop:=∀ m ∈ l,m.row.cells.length≤c
theorem lr_ {c:Nat} {s:ar_} {l:List TMut} (hl:fR_ c s) (hm:lM_ c l) (hc:c+l.length≤1000000):Ev (fun n _=>bt_ n s l) (ex_ s l):=by
 have hcR:fR_ ey_ s:=hl.upto (by simp only [ey_];omega)
 have hC:=lP_ hcR
 refine aq_ ?_
 simp only [bt_,eV_,ab_ (fy_ (hcR.upto (show ey_≤bO_ by decide))),gi_,ab_ hC,an_,ac_]
 unfold ex_
 cases h1:em_ s
 · exact ⟨fun _=>rfl,fun h=>(by cases h)⟩
 refine ⟨fun h=>(by cases h),fun _ => ?_⟩
 cases h2:inn (l.length:Int) 1 5
 · exact ⟨fun _=>rfl,fun h=>(by cases h)⟩
 refine ⟨fun h=>(by cases h),fun _ => ?_⟩
 cases h3:(s.version == 100000)
 · refine ⟨fun h=>(by cases h),fun _ => ?_⟩
   have key:∀ (m i:Nat) (t:ar_) (o:List aS_),i+m=l.length→fR_ (c+i) t→o.length≤i →
     Ev (fun n N=>bt_.loop12 n (fun xy8 xy9 xy10 xy11 xy12 xy13 xy14 xy15=>(some ((ar_.mk (aI_.mk xy14) (W (xy9+1)) xy15),xy13,true))) N l (i:Int) s.schema.cols s.version s.tables 0 [] t.version o t.schema.cols t.tables) (mA_ s (fL_ t (l.drop i) o)):=by
    intro m
    induction m with
    |zero=>
     intro i t o hi ht ho
     have e:i=l.length:=by omega
     subst e
     refine cx_ ?_
     simp only [bt_.turn12,bt_.step12,b8_,cond_false,ac_,List.drop_length,fL_,mA_]
    |succ m ih=>
     intro i t o hi ht ho
     have hlt:i<l.length:=by omega
     have hr:=hm _ (aZ_ TMut.dflt hlt)
     have hD:=jB_ (m:=l.getD i TMut.dflt) (ht.upto (show c+i≤ey_ by simp only [ey_];omega)) (Nat.le_trans hr (by simp only [ey_];omega))
     have hW:=W_up hlt (show l.length≤bO_ by simp only [bO_];omega)
     have hn:=kt_ (m:=l.getD i TMut.dflt) ht (Nat.le_trans hr (Nat.le_add_right _ _))
     rw [fE_ TMut.dflt hlt]
     refine cx_ ?_
     simp only [bt_.turn12,bt_.step12,fn_,eV_,n7_,k3_,cy_ hlt,cond_true,bk_,cc_ hlt,true_and,Int.toNat_natCast,hW,ab_ hD,an_,ac_,ab_ hC,bi_,fL_]
     cases hq:(f7_ t (l.getD i TMut.dflt)).2.2
     · exact ⟨fun _=>rfl,fun h=>(by cases h)⟩
     · exact ⟨fun h=>(by cases h),fun _=>⟨by simp;omega,ih (i+1) _ _ (by omega) (by rw [←Nat.add_assoc];exact hn.1) (by simp;omega)⟩⟩
   exact fb_ (key l.length 0 s [] (by omega) hl (Nat.le_refl _))
 · exact ⟨fun _=>rfl,fun h=>(by cases h)⟩
theorem mB_ {c:Nat}:∀ {l:List TMut} {s:ar_} {o:List aS_} {k:Nat},fR_ (c+k) s→lM_ c l→(∀ x ∈ o,qa_ (c+k) x)→∀ p,fL_ s l o=some p→fR_ (c+k+l.length) p.1∧p.2.length=o.length+l.length∧∀ x ∈ p.2,qa_ (c+k+l.length) x
 |[],s,o,k,h,_,ho,p,e=>by cases e;exact ⟨h,rfl,ho⟩
 |m::r,s,o,k,h,hm,ho,p,e=>by
  unfold fL_ at e
  cases hq:(f7_ s m).2.2<;>rw [hq] at e
  · cases e
  · have hr:=hm m (List.mem_cons_self ..)
    have hn:=kt_ (m:=m) h (Nat.le_trans hr (Nat.le_add_right _ _))
    have:=mB_ (l:=r) (k:=k+1) (by rw [←Nat.add_assoc];exact hn.1) (fun x hx=>hm x (List.mem_cons_of_mem _ hx)) (fun x hx=>by
     rcases List.mem_append.1 hx with hx|hx
     · exact ⟨Nat.le_succ_of_le (ho x hx).1,Nat.le_succ_of_le (ho x hx).2⟩
     · rw [List.mem_singleton.1 hx];exact ⟨Nat.le_succ_of_le hn.2.1,Nat.le_succ_of_le hn.2.2⟩) p e
    simp only [List.length_append,List.length_cons,List.length_nil] at this ⊢
    refine ⟨this.1.upto (by omega),by omega,fun x hx=>⟨Nat.le_trans (this.2.2 x hx).1 (by omega),Nat.le_trans (this.2.2 x hx).2 (by omega)⟩⟩
theorem kJ_ {c:Nat} {s:ar_} {l:List TMut} (h:fR_ c s) (hm:lM_ c l):fR_ (c+l.length) (ex_ s l).1∧(ex_ s l).2.1.length≤5∧∀ x ∈ (ex_ s l).2.1,qa_ (c+l.length) x:=by
 unfold ex_
 cases em_ s
 · exact ⟨⟨Nat.zero_le _,Nat.zero_le _,fun x hx=>(by cases hx)⟩,Nat.zero_le _,fun x hx=>(by cases hx)⟩
 · cases h2:(inn (l.length:Int) 1 5 && !(s.version == 100000))
   · exact ⟨h.upto (Nat.le_add_right _ _),Nat.zero_le _,fun x hx=>(by cases hx)⟩
   · simp only [cond_true]
     cases hb:fL_ s l [] with
     |none=>exact ⟨h.upto (Nat.le_add_right _ _),Nat.zero_le _,fun x hx=>(by cases hx)⟩
     |some p=>
      have:=mB_ (c:=c) (k:=0) (o:=[]) h hm (fun x hx=>(by cases hx)) p hb
      rw [Bool.and_eq_true] at h2
      have h5:=dl_.1 h2.1
      simp only [Nat.add_zero,List.length_nil,Nat.zero_add] at this
      exact ⟨this.1,by show p.2.length≤5;omega,this.2.2⟩
end Go.Pi
end
section
namespace Go.Pi
structure QIn (q:ap_):Prop where
 len:p9_ 1010 q
 show_:∀ x ∈ q.show_,0≤x∧x≤1000
theorem up1 {i:Nat} (h:i≤1000000):W ((i:Int)+1)=((i+1:Nat):Int):=by rw [Wn (by omega) (by omega)];rfl
theorem l9loop7 {K:Nat→ad_.K7} {P:ap_ × al_→Prop} {t6 t30 t40 t42 t43 t44 t46 t47 t48 t50 t52 t53 t54 t56 t57 t58} (hK:∀ c o,DwOk c→o.length≤3→Ans (fun n _=>K n t6 c.b c.i c.h t30 t40 t42 t43 t44 t46 t47 t48 t50 t52 t53 t54 t56 t57 t58 o) P) {c:al_} (hc:DwOk c) :
  Ans (fun n _=>ad_.loop7 n (K n) n t6 0 c.b c.i c.h t30 t40 t42 t43 t44 t46 t47 t48 t50 t52 t53 t54 t56 t57 t58 []) P:=by
 have key:∀ (m i:Nat) (c:al_) (o:List br_),i+m=3→DwOk c→o.length=i→Ans (fun n N=>ad_.loop7 n (K n) N t6 (i:Int) c.b c.i c.h t30 t40 t42 t43 t44 t46 t47 t48 t50 t52 t53 t54 t56 t57 t58 o) P:=by
  intro m
  induction m with
  |zero=>
   intro i c o hi hc ho
   refine cp_ ?_
   simp only [ad_.turn7,ad_.step7,ci_]
   refine aO_ (a9_ hc) fun r hr => ?_
   have h1:=hr.lo;have h2:=hr.hi
   rw [decide_eq_false (by omega)]
   simp only [cond_false]
   exact hK _ _ hr.cur (by omega)
  |succ m ih=>
   intro i c o hi hc ho
   refine cp_ ?_
   simp only [ad_.turn7,ad_.step7,ci_]
   refine aO_ (a9_ hc) fun r hr => ?_
   simp only [cr_]
   refine ⟨fun _=>aO_ (a9_ hr.cur) fun r2 h2=>aO_ (a9_ h2.cur) fun r3 h3=>aO_ (a9_ h3.cur) fun r4 h4 => ?_,fun _=>hK _ _ hr.cur (by omega)⟩
   simp only [fF_,up1 (show i≤1000000 by omega)]
   exact ⟨by simp;omega,ih (i+1) r4.2 _ (by omega) h4.cur (by simp;omega)⟩
 exact ew_ (key 3 0 c [] rfl hc rfl)
theorem l9loop16 {K:Nat→ad_.K16} {P:ap_ × al_→Prop} {t6 t30 t40 t42 t43 t44 t46 t47 t48 t50 t52 t53 t54 t56 t57 t58 t51} (h6:t6≤1000) (hK:∀ c o,DwOk c→o.length≤1000→(∀ x ∈ o,0≤x∧x≤1000)→Ans (fun n _=>K n c.b c.i c.h t30 t40 t42 t43 t44 t46 t47 t48 t50 t52 t53 t54 t56 t57 t58 t51 o) P) {c:al_} (hc:DwOk c) :
  Ans (fun n _=>ad_.loop16 n (K n) n t6 0 c.b c.i c.h t30 t40 t42 t43 t44 t46 t47 t48 t50 t52 t53 t54 t56 t57 t58 t51 []) P:=by
 have key:∀ (m i:Nat) (c:al_) (o:List Int),i+m=1000→DwOk c→o.length≤i→(∀ x ∈ o,0≤x∧x≤1000)→Ans (fun n N=>ad_.loop16 n (K n) N t6 (i:Int) c.b c.i c.h t30 t40 t42 t43 t44 t46 t47 t48 t50 t52 t53 t54 t56 t57 t58 t51 o) P:=by
  intro m
  induction m with
  |zero=>
   intro i c o hi hc ho hx
   refine cp_ ?_
   simp only [ad_.turn16,ad_.step16,ci_]
   rw [decide_eq_false (by omega)]
   simp only [cond_false]
   exact hK _ _ hc (by omega) hx
  |succ m ih=>
   intro i c o hi hc ho hx
   refine cp_ ?_
   simp only [ad_.turn16,ad_.step16,ci_,cr_]
   refine ⟨fun _=>aO_ (eZ_ hc) fun r hr => ?_,fun _=>hK _ _ hc (by omega) hx⟩
   simp only [cr_,fF_,up1 (show i≤1000000 by omega)]
   refine ⟨fun _=>⟨by simp;omega,ih (i+1) r.2 _ (by omega) hr (by simp;omega) fun x hx' => ?_⟩,fun _=>ih (i+1) r.2 _ (by omega) hr (by omega) hx⟩
   rcases List.mem_append.1 hx' with h|h
   · exact hx x h
   · rw [List.mem_singleton.1 h];omega
 exact ew_ (key 1000 0 c [] rfl hc (Nat.le_refl _) fun x hx=>(by cases hx))
theorem gC_ {c:al_} {s:aI_} (hc:DwOk c) (hs:∀ x ∈ s.cols,x≤1000):Ans (fun n _=>ad_ n c s) fun r=>QIn r.1∧DwOk r.2:=by
 have hg:∀ i,s.cols.getD i 0≤1000:=fun i=>by
  by_cases hi:i<s.cols.length
  · exact hs _ (aZ_ _ hi)
  · rw [List.getD_eq_getElem?_getD,List.getElem?_eq_none (by omega)];decide
 have hm:∀ i,max (s.cols.getD i 0) 1≤1000:=fun i=>by have:=hg i;omega
 refine cG_ ?_
 simp only [ad_]
 repeat' (first
  |(rw [bC_ d4_])
  |(refine aO_ (a9_ (by assumption)) fun _ hd => ?_;obtain ⟨_,_,_⟩:=hd)
  |(refine aO_ (eZ_ (by assumption)) fun _ _ => ?_)
  |(refine aO_ (fB_ (by assumption) (by simp)) fun _ hd => ?_;obtain ⟨_,_⟩:=hd)
  |(with_reducible refine cr_.2 ⟨fun _ => ?_,fun _ => ?_⟩)
  |(with_reducible refine el_.2 ⟨⟨?_,?_⟩,?_⟩)
  |(refine l9loop7 (fun _ _ _ _ => ?_) (by assumption))
  |(refine l9loop16 (by first|exact hm _|decide) (fun _ _ _ _ _ => ?_) (by assumption))
  |((with_reducible refine bg_.2 ?_);refine ⟨⟨⟨?_,?_⟩,?_⟩,?_⟩))
 all_goals (first|assumption|(simp only [decide_eq_true_eq] at *;assumption)|(refine Nat.le_trans ?_ (show 3≤1010 by decide);assumption)|(refine Nat.le_trans ?_ (show 1000≤1010 by decide);assumption))
theorem od_ {k:Nat} {c:al_} {s:ar_} (hc:DwOk c) (hs:StIn k s):Ans (fun n _=>do_ n c s) fun r=>r.1.row.cells.length≤1000∧DwOk r.2:=by
 refine cG_ ?_
 simp only [do_]
 repeat' (first
  |(rw [bC_ d4_])
  |(refine aO_ (a9_ (by assumption)) fun _ hd => ?_;obtain ⟨_,_,_⟩:=hd)
  |(refine aO_ (eZ_ (by assumption)) fun _ _ => ?_)
  |(refine aO_ (fB_ (by assumption) (by simp)) fun _ hd => ?_;obtain ⟨_,_⟩:=hd)
  |(refine aO_ (jO_ (by assumption) (hs.getD _)) fun _ hd => ?_;obtain ⟨_,_⟩:=hd)
  |(with_reducible refine cr_.2 ⟨fun _ => ?_,fun _ => ?_⟩)
  |(with_reducible refine el_.2 ⟨⟨?_,?_⟩,?_⟩)
  |(with_reducible refine bg_.2 ⟨?_,by assumption⟩))
 all_goals (first|assumption|exact Nat.zero_le _|(simp only [decide_eq_true_eq,decide_eq_false_iff_not] at *;omega))
theorem FMutDo_in {k:Nat} {s:ar_} {m:TMut} (h:StIn k s) (hr:m.row.cells.length≤k):StIn (k+1) (f7_ s m).1:=by
 refine ⟨(kt_ h.len hr).1,?_⟩
 unfold f7_
 cases em_ s
 · exact fun x hx=>(by cases hx)
 · cases (gY_ s.schema m&&mz_ s m)<;>exact h.col
theorem rg_ {k:Nat} {s:ar_} {l:List TMut} (h:StIn k s) (hm:lM_ k l):StIn (k+l.length) (ex_ s l).1:=by
 refine ⟨(kJ_ h.len hm).1,?_⟩
 unfold ex_
 cases em_ s
 · exact fun x hx=>(by cases hx)
 · cases (inn (l.length:Int) 1 5 && !(s.version == 100000))
   · exact h.col
   · have key:∀ (l:List TMut) (t:ar_) (o:List aS_),(∀ x ∈ t.schema.cols,x≤1000)→∀ p,fL_ t l o=some p→∀ x ∈ p.1.schema.cols,x≤1000:=by
      intro l
      induction l with
      |nil=>intro t o ht p e;cases e;exact ht
      |cons m r ih=>
       intro t o ht p e
       unfold fL_ at e
       cases hq:(f7_ t m).2.2<;>rw [hq] at e
       · cases e
       · refine ih _ _ ?_ p e
         unfold f7_
         cases em_ t
         · exact fun x hx=>(by cases hx)
         · cases (gY_ t.schema m&&mz_ t m)<;>exact ht
     simp only [cond_true]
     cases hb:fL_ s l [] with
     |none=>exact h.col
     |some p=>exact key l s [] h.col p hb
theorem lO_ {k:Nat} {c:al_} {s:ar_} (hc:DwOk c) (hs:StIn k s) (hk:1000≤k) (hk2:k≤90000):Ans (fun n _=>aC_ n c s) fun r=>r.1.length≤3∧lM_ 1000 r.1∧DwOk r.2:=by
 have key:∀ (m i:Nat) (c:al_) (s:ar_) (o:List TMut),i+m=3→DwOk c→StIn (k+i) s→o.length≤i→lM_ 1000 o →
   Ans (fun n N=>aC_.loop5 n (fun xy14 xy15 xy16 xy17=>(some (xy17,(al_.mk xy14 xy15 xy16)))) N (i:Int) c.b c.i c.h s.schema.cols s.version s.tables o) fun r=>r.1.length≤3∧lM_ 1000 r.1∧DwOk r.2:=by
  intro m
  induction m with
  |zero=>
   intro i c s o hi hc hs ho hm
   refine cp_ ?_
   simp only [aC_.turn5,aC_.step5,ci_]
   refine aO_ (a9_ hc) fun r hr => ?_
   have h1:=hr.lo;have h2:=hr.hi
   rw [Wn (x:=1+r.1) (by omega) (by omega),decide_eq_false (by omega)]
   simp only [cond_false,ci_,bg_]
   exact ⟨by omega,hm,hr.cur⟩
  |succ m ih=>
   intro i c s o hi hc hs ho hm
   refine cp_ ?_
   simp only [aC_.turn5,aC_.step5,ci_]
   refine aO_ (a9_ hc) fun r hr => ?_
   simp only [cr_,ci_,bg_,fn_,eV_]
   refine ⟨fun _=>aO_ (od_ hr.cur hs) fun r2 h2 => ?_,fun _=>⟨by omega,hm,hr.cur⟩⟩
   have hD:=jB_ (s:=s) (m:=r2.1) (hs.len.upto (by simp only [ey_];omega)) (Nat.le_trans h2.1 (by decide))
   have hn:=FMutDo_in (m:=r2.1) hs (Nat.le_trans h2.1 (by omega))
   have hm2:lM_ 1000 (o++[r2.1]):=fun x hx=>by
    rcases List.mem_append.1 hx with h|h
    · exact hm x h
    · rw [List.mem_singleton.1 h];exact h2.1
   have e1:=up1 (show i≤1000000 by omega)
   have hnow:StIn (k+(i+1)) s:=hs.upto (by omega)
   have hgo:∀ (t:ar_) (c:al_) (q:List TMut),StIn (k+(i+1)) t→DwOk c→q.length≤i+1→lM_ 1000 q→Ans (fun n N=>aC_.loop5 n (fun xy14 xy15 xy16 xy17=>(some (xy17,(al_.mk xy14 xy15 xy16)))) N ((i+1:Nat):Int) c.b c.i c.h t.schema.cols t.version t.tables q) fun r=>r.1.length≤3∧lM_ 1000 r.1∧DwOk r.2:=fun t c q h1 h2 h3 h4=>ih (i+1) c t q (by omega) h2 h1 h3 h4
   simp only [aC_.tail9,fn_,eV_,n7_,k3_,bC_ hD,e1,ci_]
   repeat' (first
    |(with_reducible refine cr_.2 ⟨fun _ => ?_,fun _ => ?_⟩)
    |(refine aO_ (eZ_ h2.2) fun r3 h3 => ?_)
    |(with_reducible refine fF_.2 ⟨by simp;omega,?_⟩))
   all_goals (first
    |exact hgo _ _ _ hn h2.2 (by simp;omega) hm2
    |exact hgo _ _ _ hn (by assumption) (by simp;omega) hm2
    |exact hgo _ _ _ hn (by assumption) (by omega) hm
    |exact hgo s _ _ hnow h2.2 (by simp;omega) hm2
    |exact hgo s _ _ hnow (by assumption) (by simp;omega) hm2
    |exact hgo s _ _ hnow (by assumption) (by omega) hm)
 refine cG_ ?_
 simp only [aC_]
 exact ew_ (key 3 0 c s [] rfl hc hs (Nat.le_refl _) fun x hx=>(by cases hx))
end Go.Pi
end
section
namespace Go.Pi
def FPut (q:ap_) (rows:List TRow) (r:TRow):List TRow:=rows.take (rows.findIdx (fun x=>gZ_ q r x))++[r]++rows.drop (rows.findIdx (fun x=>gZ_ q r x))
theorem take_mid {α:Type} (d:α) {a m:List α} {i p:Nat} (hi:i<a.length) (h:p≤i):a.take p++m++(a.take (i+1)).drop p=a.take p++m++(a.take i).drop p++[a.getD i d]:=by
 rw [cS_ d hi,List.drop_append_of_le_length (by simp;omega)]
 simp
theorem ahead_idx {q:ap_} {r:TRow} {rows:List TRow} {i:Nat} (hi:i<rows.length) (hle:i≤rows.findIdx (fun x=>gZ_ q r x)):gZ_ q r (rows.getD i TRow.dflt)=decide (i=rows.findIdx (fun x=>gZ_ q r x)):=by
 rw [List.getD_eq_getElem?_getD,List.getElem?_eq_getElem hi,Option.getD_some]
 by_cases h:i=rows.findIdx (fun x=>gZ_ q r x)
 · rw [decide_eq_true h]
   have:=List.findIdx_getElem (xs:=rows) (p:=fun x=>gZ_ q r x) (w:=by omega)
   simp only [←h] at this
   exact this
 · rw [decide_eq_false h]
   have:=List.not_of_lt_findIdx (xs:=rows) (p:=fun x=>gZ_ q r x) (i:=i) (by omega)
   simpa using this
theorem g1_ {q:ap_} {rows:List TRow} {r:TRow} (h:hg_ ey_ rows) (hr:r.cells.length≤ey_):Ev (fun n _=>bI_ n q rows r) (FPut q rows r):=by
 refine aq_ ?_
 have hl:=h.1
 simp only [ey_] at hl
 have ht:rows.length≤bO_:=by simp only [bO_];omega
 have hrt:r.cells.length≤bO_:=by simp only [bO_];simp only [ey_] at hr;omega
 simp only [bI_]
 have e0:∀ r:TRow,TRow.mk r.id_ r.cells=r:=fun _=>rfl
 have hA:∀ (x:TRow) (g:Nat→Nat→Bool→Option (List TRow)) (v:List TRow),x.cells.length≤bO_→(Ev (fun n N=>(eI_ n (ap_.mk q.table q.where_ q.order q.down q.first q.show_ q.kids q.kidTable q.kidCol) r x).bind (g n N)) v↔Ev (fun n N=>g n N (gZ_ q r x)) v):=fun x g v hx=>ab_ (nS_ hrt hx)
 obtain ⟨p,hp⟩:∃ p,p=rows.findIdx (fun x=>gZ_ q r x):=⟨_,rfl⟩
 have hpl:p≤rows.length:=by rw [hp];exact List.findIdx_le_length
 let S:Nat→Bool × List TRow:=fun i=>if i≤p then (false,rows.take i) else (true,rows.take p++[r]++(rows.take i).drop p)
 have hS0:S 0=(false,[]):=by simp [S]
 have:=eC_ S rows.length (fun n N i (s:Bool × List TRow)=>bI_.loop5 n (fun xy3 xy4 xy5 xy6=>(cond (!xy3) ((cq_ n (TRow.mk xy4 xy5)).bind fun xr7=>(bv_ (xy6.length+([xr7]:List TRow).length) 32 (some (xy6++([xr7]:List TRow))))) (some xy6))) N rows s.1 (i:Int) q.table q.where_ q.order q.down q.first q.show_ q.kids q.kidTable q.kidCol r.id_ r.cells s.2) (FPut q rows r) (fun i hi F hF => ?_) ?_
 · rw [hS0] at this;exact this
 · simp only [bI_.turn5,bI_.step5,Int.toNat_natCast,W_up hi ht,e0]
   have hx:=ahead_idx (q:=q) (r:=r) hi
   rw [←hp] at hx
   have hlt:(S i).2.length≤rows.length+1:=by simp only [S];split<;>simp<;>omega
   simp only [an_,bk_,hA _ _ _ (gz_ (rows:=rows) ⟨ht,fun x hx=>by have:=h.2 x hx;simp only [ey_] at this;simp only [bO_];omega⟩ i),gT_ hr,bi_,cy_ hi,cc_ hi]
   refine ⟨fun _=>⟨fun hn=>⟨trivial,fun ha=>⟨by simp;omega,trivial,by simp;omega,?_⟩,fun ha=>⟨trivial,by simp;omega,?_⟩⟩,fun hn=>⟨trivial,by simp;omega,?_⟩⟩,fun h=>by cases h⟩
   all_goals (by_cases hle:i≤p)
   · have e:i=p:=by rw [hx hle] at ha;exact of_decide_eq_true ha
     subst e
     simp only [S,if_neg (show ¬ i+1≤i by omega),if_pos (Nat.le_refl i),cS_ TRow.dflt hi,List.drop_append_of_le_length (show i≤(rows.take i).length by simp;omega),List.drop_eq_nil_of_le (show (rows.take i).length≤i by simp;omega),List.nil_append] at hF ⊢
     exact hF
   · simp only [S,if_neg hle] at hn;cases hn
   · have e:i≠p:=by rw [hx hle] at ha;exact of_decide_eq_false ha
     simp only [S,if_pos hle,if_pos (show i+1≤p by omega),cS_ TRow.dflt hi] at hF ⊢
     exact hF
   · simp only [S,if_neg hle] at hn;cases hn
   · simp only [S,if_pos hle] at hn;cases hn
   · simp only [S,if_neg hle,if_neg (show ¬ i+1≤p by omega),take_mid TRow.dflt hi (show p≤i by omega)] at hF ⊢
     exact hF
 · simp only [bI_.turn5,bI_.step5,b8_,cond_false,e0,an_,gT_ hr,bi_,ac_]
   unfold FPut
   rw [←hp]
   by_cases hle:rows.length≤p
   · have e:rows.length=p:=by omega
     simp only [S,if_pos hle,←e]
     simp;omega
   · simp only [S,if_neg hle]
     simp
end Go.Pi
end
section
namespace Go.Pi
def gj_ (kids:List TKid) (id:Int):Nat:=kids.findIdx (fun k=>decide (k.id_≥id))
def ni_ (k:TKid) (id by_:Int):List TKid :=
 cond (k.id_ == id) (cond (decide (W (k.n_+by_) > 0)) [TKid.mk id (W (k.n_+by_))] []) (cond (decide (by_ > 0)) [TKid.mk id by_,k] [k])
def FKid (kids:List TKid) (id by_:Int):List TKid :=
 cond (decide (gj_ kids id<kids.length)) (kids.take (gj_ kids id)++ni_ (kids.getD (gj_ kids id) TKid.dflt) id by_++kids.drop (gj_ kids id+1)) (cond (decide (by_ > 0)) (kids++[TKid.mk id by_]) kids)
theorem kid_idx {kids:List TKid} {id:Int} {i:Nat} (hi:i<kids.length) (hle:i≤gj_ kids id):((kids.getD i TKid.dflt).id_≥id↔i=gj_ kids id)∧((kids.getD i TKid.dflt).id_<id↔i≠gj_ kids id):=by
 have key:(kids.getD i TKid.dflt).id_≥id↔i=gj_ kids id:=by
  rw [List.getD_eq_getElem?_getD,List.getElem?_eq_getElem hi,Option.getD_some]
  unfold gj_ at hle ⊢
  constructor
  · intro h
    refine Classical.byContradiction fun hne => ?_
    have:=List.not_of_lt_findIdx (xs:=kids) (p:=fun k=>decide (k.id_≥id)) (i:=i) (by omega)
    rw [decide_eq_true h] at this;cases this
  · intro h
    have:=List.findIdx_getElem (xs:=kids) (p:=fun k=>decide (k.id_≥id)) (w:=by omega)
    simp only [←h] at this
    exact of_decide_eq_true this
 exact ⟨key,fun h e=>by have:=key.2 e;omega,fun h=>by have:=fun g=>h (key.1 g);omega⟩
theorem kf_ (k:TKid) (id by_:Int):(ni_ k id by_).length≤2:=by
 unfold ni_
 cases (k.id_ == id)<;>simp only [cond_true,cond_false]
 · cases decide (by_ > 0)<;>simp
 · cases decide (W (k.n_+by_) > 0)<;>simp
theorem take_midK {a m:List TKid} {i p:Nat} (hi:i<a.length) (h:p+1≤i):a.take p++m++(a.take (i+1)).drop (p+1)=a.take p++m++(a.take i).drop (p+1)++[a.getD i TKid.dflt]:=by
 rw [cS_ TKid.dflt hi,List.drop_append_of_le_length (by simp;omega)]
 simp
theorem fZ_ {kids:List TKid} {id by_:Int} (h:kids.length≤ey_):Ev (fun n _=>aQ_ n kids id by_) (FKid kids id by_):=by
 refine aq_ ?_
 have hl:=h
 simp only [ey_] at hl
 have ht:kids.length≤bO_:=by simp only [bO_];omega
 simp only [aQ_]
 obtain ⟨p,hp⟩:∃ p,p=gj_ kids id:=⟨_,rfl⟩
 have hpl:p≤kids.length:=by rw [hp];exact List.findIdx_le_length
 obtain ⟨m,hm⟩:∃ m,m=ni_ (kids.getD p TKid.dflt) id by_:=⟨_,rfl⟩
 have hml:m.length≤2:=by rw [hm];exact kf_ _ _ _
 let S:Nat→Bool × List TKid:=fun i=>if i≤p then (false,kids.take i) else (true,kids.take p++m++(kids.take i).drop (p+1))
 have hS0:S 0=(false,[]):=by simp [S]
 have:=eC_ S kids.length (fun n N i (s:Bool × List TKid)=>aQ_.loop5 n (fun xy1 xy2 xy3 xy4=>(cond (!xy3) (cond (decide (xy2 > 0)) (bv_ (xy4.length+([(TKid.mk xy1 xy2)]:List TKid).length) 16 (some (xy4++([(TKid.mk xy1 xy2)]:List TKid)))) (some xy4)) (some xy4))) N kids id by_ s.1 (i:Int) s.2) (FKid kids id by_) (fun i hi F hF => ?_) ?_
 · rw [hS0] at this;exact this
 · have hx:=kid_idx (kids:=kids) (id:=id) hi
   rw [←hp] at hx
   have hlt:(S i).2.length≤kids.length+2:=by simp only [S];split<;>simp<;>omega
   obtain ⟨k,hk⟩:∃ k,k=kids.getD i TKid.dflt:=⟨_,rfl⟩
   simp only [aQ_.turn5,aQ_.step5,Int.toNat_natCast,W_up hi ht,an_,bk_,bi_,cy_ hi,cc_ hi,←hk]
   refine ⟨fun _=>⟨trivial,?_⟩,fun h=>by cases h⟩
   by_cases hle:i≤p
   · have s1:S i=(false,kids.take i):=by simp only [S,if_pos hle]
     rw [s1] at hlt ⊢
     by_cases e:i=p
     · have hge:k.id_≥id:=by rw [hk];exact (hx hle).1.2 e
       subst e
       have s2:S (i+1)=(true,kids.take i++m):=by
        simp only [S,if_neg (show ¬ i+1≤i by omega)]
        rw [List.drop_eq_nil_of_le (by simp;omega),List.append_nil]
       rw [s2,hm,←hk] at hF
       unfold ni_ at hF
       simp only [hge,decide_true,Bool.not_false,cond_true] at hF ⊢
       cases h1:(k.id_ == id)<;>cases h2:decide (by_ > 0)<;>cases h3:decide (W (k.n_+by_) > 0)<;>simp only [h1,h2,h3,cond_true,cond_false] at hF ⊢
       all_goals (repeat' (first|apply And.intro|intro _))
       all_goals (first|contradiction|exact hF|(simpa using hF)|(simp;omega))
     · have hlt2:¬ k.id_≥id:=by rw [hk];exact fun h=>e ((hx hle).1.1 h)
       have s2:S (i+1)=(false,kids.take i++[k]):=by
        simp only [S,if_pos (show i+1≤p by omega),hk,cS_ TKid.dflt hi]
       rw [s2] at hF
       simp only [hlt2,decide_false]
       repeat' (first|apply And.intro|intro _)
       all_goals (first|contradiction|exact hF|(simpa using hF)|(simp;omega))
   · have s1:S i=(true,kids.take p++m++(kids.take i).drop (p+1)):=by simp only [S,if_neg hle]
     have s2:S (i+1)=(true,kids.take p++m++(kids.take i).drop (p+1)++[k]):=by
      simp only [S,if_neg (show ¬ i+1≤p by omega),hk]
      rw [take_midK hi (by omega)]
     rw [s1] at hlt ⊢
     rw [s2] at hF
     repeat' (first|apply And.intro|intro _)
     all_goals (first|contradiction|exact hF|(simp at hlt ⊢;omega))
 · simp only [aQ_.turn5,aQ_.step5,b8_,cond_false,an_,bi_,ac_]
   unfold FKid
   rw [←hp,←hm]
   by_cases hle:kids.length≤p
   · have e:p=kids.length:=by omega
     have s1:S kids.length=(false,kids):=by simp only [S,if_pos hle,List.take_length]
     rw [s1,decide_eq_false (show ¬ p<kids.length by omega)]
     simp only [cond_false]
     refine ⟨fun _=>⟨fun h=>⟨by simp;omega,by rw [h];rfl⟩,fun h=>by rw [h];rfl⟩,fun h=>by cases h⟩
   · have s1:S kids.length=(true,kids.take p++m++kids.drop (p+1)):=by simp only [S,if_neg hle,List.take_length]
     rw [s1,decide_eq_true (show p<kids.length by omega)]
     exact ⟨fun h=>(by cases h),fun _=>rfl⟩
end Go.Pi
end
section
namespace Go.Pi
theorem jM_.upto {c d:Nat} {v:aJ_} (h:jM_ c v) (hc:c≤d):jM_ d v:=⟨⟨Nat.le_trans h.1.1 hc,Nat.le_trans h.1.2 hc⟩,h.2.1.upto hc,Nat.le_trans h.2.2 hc⟩
section
variable {β:Type}
theorem rJ_ {q:ap_} (h:p9_ ey_ q) {g:Nat→Nat→ap_→Option β} {v:β}:Ev (fun n N=>(eg_ n q).bind (g n N)) v↔Ev (fun n N=>g n N q) v :=
 ab_ (aq_ (by have h1:=h.1;have h2:=h.2;simp only [ey_] at h1 h2;simp only [eg_,bi_,ac_,List.nil_append,and_true,List.length_nil];omega))
theorem qU_ {q:ap_} (h:p9_ ey_ q) {g:Nat→Nat→ap_→Option β} {v:β}:Ev (fun n N=>(dt_ n q).bind (g n N)) v↔Ev (fun n N=>g n N q) v :=
 ab_ (aq_ (by have h1:=h.1;have h2:=h.2;simp only [ey_] at h1 h2;simp only [dt_,nz_ h.2,bi_,ac_,List.nil_append,and_true,List.length_nil];omega))
theorem in_ {x:aJ_} (h:jM_ ey_ x) {g:Nat→Nat→aJ_→Option β} {v:β}:Ev (fun n N=>(cI_ n x).bind (g n N)) v↔Ev (fun n N=>g n N x) v :=
 ab_ (aq_ (by have h1:=h.2.2;simp only [ey_] at h1;simp only [cI_,rJ_ h.1,ab_ (pn_ h.2.1),bi_,ac_,List.nil_append,and_true,List.length_nil];omega))
theorem ko_ {x:aJ_} (h:jM_ ey_ x) {g:Nat→Nat→aJ_→Option β} {v:β}:Ev (fun n N=>(cP_ n x).bind (g n N)) v↔Ev (fun n N=>g n N x) v :=
 ab_ (aq_ (by have h1:=h.2.2;simp only [ey_] at h1;simp only [cP_,qU_ h.1,ab_ (qT_ h.2.1),bi_,ac_,List.nil_append,and_true,List.length_nil];omega))
theorem po_ {x:bS_} (h:rG_ ey_ x) {g:Nat→Nat→bS_→Option β} {v:β}:Ev (fun n N=>(dK_ n x).bind (g n N)) v↔Ev (fun n N=>g n N x) v :=
 ab_ (aq_ (by simp only [dK_,in_ h.1,in_ h.2,ac_]))
theorem s1_ {x:bS_} (h:rG_ ey_ x) {g:Nat→Nat→bS_→Option β} {v:β}:Ev (fun n N=>(dF_ n x).bind (g n N)) v↔Ev (fun n N=>g n N x) v :=
 ab_ (aq_ (by simp only [dF_,ko_ h.1,ko_ h.2,ac_]))
end
def kG_ (v:aJ_) (c:aS_):List TRow :=
 cond (c.table == v.q.table) (cond (c.has&&e8_ v.q c.new) (FPut v.q (cond c.had (gM_ v.rows c.old.id_) v.rows) c.new) (cond c.had (gM_ v.rows c.old.id_) v.rows)) v.rows
def nI_ (v:aJ_) (c:aS_):List TKid :=
 cond (v.q.kids&&(c.table == v.q.kidTable)) (cond c.has (FKid (cond c.had (FKid v.kids (fu_ c.old v.q.kidCol) (-1)) v.kids) (fu_ c.new v.q.kidCol) 1) (cond c.had (FKid v.kids (fu_ c.old v.q.kidCol) (-1)) v.kids)) v.kids
def gN_ (v:aJ_) (c:aS_):aJ_:=⟨v.q,kG_ v c,nI_ v c⟩
theorem la_ {c:Nat} {q:ap_} {rows:List TRow} {r:TRow} (h:hg_ c rows) (hr:r.cells.length≤c):hg_ (c+1) (FPut q rows r):=by
 unfold FPut
 refine ⟨by have:=h.1;simp;omega,fun x hx => ?_⟩
 rcases List.mem_append.1 hx with hx|hx
 · rcases List.mem_append.1 hx with hx|hx
   · exact Nat.le_succ_of_le (h.2 x (List.mem_of_mem_take hx))
   · rw [List.mem_singleton.1 hx];omega
 · exact Nat.le_succ_of_le (h.2 x (List.mem_of_mem_drop hx))
theorem lb_ {kids:List TKid} {id by_:Int}:(FKid kids id by_).length≤kids.length+1:=by
 unfold FKid
 have:=kf_ (kids.getD (gj_ kids id) TKid.dflt) id by_
 by_cases h:gj_ kids id<kids.length
 · rw [decide_eq_true h,cond_true];simp only [List.length_append,List.length_take,List.length_drop];omega
 · rw [decide_eq_false h];cases decide (by_ > 0)<;>simp
theorem jy_ {c:Nat} {v:aJ_} {x:aS_} (h:jM_ c v) (hx:qa_ c x) (hc:c+1≤ey_):Ev (fun n _=>c8_ n v x) (gN_ v x):=by
 refine aq_ ?_
 have hv:=h.upto (show c≤ey_ by omega)
 have hd:=my_ (id:=x.old.id_) hv.2.1
 have hr:x.new.cells.length≤ey_:=by have:=hx.2;omega
 have hk:=hv.2.2
 have hk2:∀ id b,(FKid v.kids id b).length≤ey_:=fun id b=>by have:=lb_ (kids:=v.kids) (id:=id) (by_:=b);have:=h.2.2;omega
 simp only [c8_,in_ hv,an_,ab_ (gA_ (id:=x.old.id_) hv.2.1),ab_ (h9_ (q:=v.q) (r:=x.new) (hq_ hv.1.1 (Nat.le_refl _)) (hq_ hr (Nat.le_refl _))),ab_ (g1_ (q:=v.q) (r:=x.new) hd hr),ab_ (g1_ (q:=v.q) (r:=x.new) hv.2.1 hr),
  ab_ (fc_ (r:=x.old) (col:=v.q.kidCol) (hq_ hx.1 (by omega))),ab_ (fc_ (r:=x.new) (col:=v.q.kidCol) (hq_ hx.2 (by omega))),
  ab_ (fZ_ (kids:=v.kids) (id:=fu_ x.old v.q.kidCol) (by_:=-1) hk),ab_ (fZ_ (kids:=v.kids) (id:=fu_ x.new v.q.kidCol) (by_:=1) hk),ab_ (fZ_ (id:=fu_ x.new v.q.kidCol) (by_:=1) (hk2 (fu_ x.old v.q.kidCol) (-1))),ac_]
 unfold gN_ kG_ nI_
 cases h1:(x.table == v.q.table)<;>cases h2:x.had<;>cases h3:x.has<;>cases h4:e8_ v.q x.new<;>cases h5:v.q.kids<;>cases h6:(x.table == v.q.kidTable)<;>simp
end Go.Pi
end
section
namespace Go.Pi
def gf_ (q:ap_) (o:List TRow) (rows:List TRow):List TRow:=rows.foldl (fun o r=>cond (e8_ q r) (FPut q o r) o) o
def FSQ (s:ar_) (q:ap_):Bool:=em_ s&&hZ_ s.schema q
def e7_ (s:ar_) (q:ap_):List TRow:=cond (FSQ s q) (gf_ q [] (s.tables.getD q.table.toNat [])) []
def iC_ (q:ap_) (k:List TKid) (rows:List TRow):List TKid:=rows.foldl (fun k r=>FKid k (r.cells.getD q.kidCol.toNat 0) 1) k
def hK_ (s:ar_) (q:ap_):List TKid:=cond q.kids (iC_ q [] (s.tables.getD q.kidTable.toNat [])) []
def zeroQ:ap_:=ap_.mk 0 [] 0 false 0 [] false 0 0
def oN_:aJ_:=aJ_.mk zeroQ [] []
def fo_ (s:ar_) (q:ap_):aJ_ × Bool:=cond (FSQ s q) (aJ_.mk q (e7_ s q) (hK_ s q),true) (oN_,false)
theorem ka_ (q:ap_):ap_.mk q.table q.where_ q.order q.down q.first q.show_ q.kids q.kidTable q.kidCol=q:=rfl
structure SQ (s:ar_) (q:ap_):Prop where
 tab:0≤q.table∧q.table<(s.tables.length:Int)
 kid:0≤q.kidTable∧q.kidTable<(s.tables.length:Int)
 col:q.kids=true→∀ r ∈ s.tables.getD q.kidTable.toNat [],0≤q.kidCol∧q.kidCol<(r.cells.length:Int)
theorem sq_of {s:ar_} {q:ap_} (h:FSQ s q=true) (hc:s.schema.cols.length≤bO_) (hct:s.tables.length≤bO_) (hrl:∀ x ∈ s.tables,x.length≤bO_∧∀ r ∈ x,r.cells.length≤bO_):SQ s q:=by
 have e:=@W_dn s.schema.cols.length hc
 unfold FSQ at h
 rw [Bool.and_eq_true] at h
 obtain ⟨h1,h2⟩:=h
 unfold em_ at h1
 simp only [Bool.and_eq_true] at h1
 have hl:s.tables.length=s.schema.cols.length:=of_decide_eq_true h1.2.2.1
 have hT:=h1.2.2.2
 unfold hZ_ at h2
 simp only [Bool.and_eq_true] at h2
 have ht:=dl_.1 h2.2.1
 rw [e] at ht
 have hcl:1≤s.schema.cols.length:=by omega
 have hk:tk_ s.schema q=true:=by
  have:=h2.2.2.2.2.2
  grind
 unfold tk_ at hk
 cases hkk:q.kids<;>rw [hkk] at hk
 · simp only [cond_false,Bool.and_eq_true,beq_iff_eq] at hk
   exact ⟨by omega,by omega,fun h=>by rw [hkk] at h;cases h⟩
 · simp only [cond_true,Bool.and_eq_true] at hk
   have k1:=dl_.1 hk.1
   have k2:=dl_.1 hk.2
   rw [e] at k1
   refine ⟨by omega,by omega,fun _ r hr => ?_⟩
   have hi:q.kidTable.toNat<s.tables.length:=by omega
   have hrow:=cH_.1 hT q.kidTable.toNat hi
   unfold oH_ at hrow
   obtain ⟨j,hj,rfl⟩:=List.mem_iff_getElem.1 hr
   simp only [Bool.and_eq_true] at hrow
   have hf:FRow s.schema (q.kidTable.toNat:Int) ((s.tables.getD q.kidTable.toNat []).getD j TRow.dflt)=true:=by
    have:=cH_.1 hrow.1 j hj
    simp only [Bool.and_eq_true] at this
    exact this.1
   unfold FRow at hf
   simp only [Bool.and_eq_true] at hf
   have hlen:=of_decide_eq_true hf.2.2.2.1
   rw [List.getD_eq_getElem?_getD,List.getElem?_eq_getElem hj,Option.getD_some,Int.toNat_natCast] at hlen
   have hle:((s.tables.getD q.kidTable.toNat [])[j]).cells.length≤bO_:=(hrl _ (aZ_ _ hi)).2 _ hr
   rw [←hlen,W_dn hle] at k2
   omega
theorem mt_ {c:Nat} {q:ap_}:∀ {rows o:List TRow} {k:Nat},hg_ (c+k) o→(∀ r ∈ rows,r.cells.length≤c)→hg_ (c+k+rows.length) (gf_ q o rows)
 |[],o,k,h,_=>h
 |r::rows,o,k,h,hr=>by
  have h1:=hr r (List.mem_cons_self ..)
  have h2:hg_ (c+(k+1)) (cond (e8_ q r) (FPut q o r) o):=by
   cases e8_ q r
   · exact h.upto (by omega)
   · exact la_ h (Nat.le_trans h1 (Nat.le_add_right _ _))
  have:=mt_ (q:=q) (rows:=rows) h2 fun x hx=>hr x (List.mem_cons_of_mem _ hx)
  exact this.upto (by simp;omega)
theorem p5_ {kids:List TKid} {id by_:Int}:(FKid kids id by_).length≤kids.length+1:=by
 have:=kf_ (kids.getD (gj_ kids id) TKid.dflt) id by_
 unfold FKid
 cases h:decide (gj_ kids id<kids.length)
 · cases decide (by_ > 0)<;>simp
 · have:=of_decide_eq_true h
   simp only [cond_true,List.length_append,List.length_take,List.length_drop];omega
theorem mw_ {q:ap_}:∀ {rows:List TRow} {k:List TKid},(iC_ q k rows).length≤k.length+rows.length
 |[],k=>Nat.le_refl _
 |r::rows,k=>by
  have h1:=p5_ (kids:=k) (id:=r.cells.getD q.kidCol.toNat 0) (by_:=1)
  have h2:=mw_ (q:=q) (rows:=rows) (k:=FKid k (r.cells.getD q.kidCol.toNat 0) 1)
  show (iC_ q _ rows).length≤_
  simp only [List.length_cons];omega
section
variable {s:ar_} {q:ap_} {c:Nat} (hl:fR_ c s) (hq:p9_ 100000 q) (hc:c≤100000)
include hl hq hc
theorem lq_:Ev (fun n _=>bB_ n s q) (e7_ s q):=by
 have hs:s.schema.cols.length≤bO_:=hq_ (Nat.le_trans hl.1 hc) (by decide)
 have hL:fR_ bO_ s:=hl.upto (Nat.le_trans hc (by decide))
 have hqT:p9_ bO_ q:=⟨Nat.le_trans hq.1 (by decide),Nat.le_trans hq.2 (by decide)⟩
 refine aq_ ?_
 simp only [bB_,ab_ (fy_ hL),ab_ (h8_ hs hqT),an_,ac_,bk_]
 unfold e7_ FSQ
 cases h1:em_ s
 · exact ⟨fun _=>rfl,fun h=>(by cases h)⟩
 refine ⟨fun h=>(by cases h),fun _ => ?_⟩
 cases h2:hZ_ s.schema q
 · exact ⟨fun _=>rfl,fun h=>(by cases h)⟩
 refine ⟨fun h=>(by cases h),fun _ => ?_⟩
 have hS:=sq_of (s:=s) (q:=q) (by unfold FSQ;rw [h1,h2];rfl) hs hL.2.1 hL.2.2
 refine ⟨hS.tab,?_⟩
 have hT:hg_ c (s.tables.getD q.table.toNat []):=f1_ hl.2.2 _
 simp only [Bool.and_self,cond_true]
 generalize s.tables.getD q.table.toNat []=rows at hT ⊢
 have key:∀ (m i:Nat) (o:List TRow),i+m=rows.length→hg_ (c+i) o→Ev (fun n N=>bB_.loop8 n (fun xy5=>(some xy5)) N rows (i:Int) q.table q.where_ q.order q.down q.first q.show_ q.kids q.kidTable q.kidCol o) (gf_ q o (rows.drop i)):=by
  intro m
  induction m with
  |zero=>
   intro i o hi ho
   have e:i=rows.length:=by omega
   subst e
   refine cx_ ?_
   simp only [bB_.turn8,bB_.step8,b8_,cond_false,ac_,List.drop_length,gf_,List.foldl_nil]
  |succ m ih=>
   intro i o hi ho
   have hlt:i<rows.length:=by omega
   have h1:=hT.1
   have hr:=hT.2 _ (aZ_ TRow.dflt hlt)
   have hM:=h9_ (q:=q) (r:=rows.getD i TRow.dflt) hqT.1 (by simp only [bO_];omega)
   have hP:=g1_ (q:=q) (rows:=o) (r:=rows.getD i TRow.dflt) (ho.upto (by simp only [ey_];omega)) (by simp only [ey_];omega)
   have hW:=W_up hlt (show rows.length≤bO_ by simp only [bO_];omega)
   have e1:gf_ q o (rows.drop i)=gf_ q (cond (e8_ q (rows.getD i TRow.dflt)) (FPut q o (rows.getD i TRow.dflt)) o) (rows.drop (i+1)):=by rw [fE_ TRow.dflt hlt];rfl
   rw [e1]
   refine cx_ ?_
   simp only [bB_.turn8,bB_.step8,ka_,cy_ hlt,cond_true,bk_,cc_ hlt,true_and,Int.toNat_natCast,hW,ab_ hM,ab_ hP,an_]
   cases hf:e8_ q (rows.getD i TRow.dflt)
   · exact ⟨fun h=>(by cases h),fun _=>ih (i+1) _ (by omega) (ho.upto (by omega))⟩
   · exact ⟨fun _=>ih (i+1) _ (by omega) (la_ ho (Nat.le_trans hr (Nat.le_add_right _ _))),fun h=>(by cases h)⟩
 exact fb_ (key rows.length 0 [] (by omega) ⟨Nat.zero_le _,fun x hx=>(by cases hx)⟩)
theorem g2_:Ev (fun n _=>bM_ n s q) (fo_ s q):=by
 have hs:s.schema.cols.length≤bO_:=hq_ (Nat.le_trans hl.1 hc) (by decide)
 have hL:fR_ bO_ s:=hl.upto (Nat.le_trans hc (by decide))
 have hR:=lq_ hl hq hc
 have hqT:p9_ bO_ q:=⟨Nat.le_trans hq.1 (by decide),Nat.le_trans hq.2 (by decide)⟩
 refine aq_ ?_
 simp only [bM_,ab_ (fy_ hL),ab_ (h8_ hs hqT),an_,ac_]
 unfold fo_
 have e0:FSQ s q=(em_ s&&hZ_ s.schema q):=rfl
 cases h1:em_ s
 · rw [e0,h1];exact ⟨fun _=>rfl,fun h=>(by cases h)⟩
 refine ⟨fun h=>(by cases h),fun _ => ?_⟩
 cases h2:hZ_ s.schema q
 · rw [e0,h1,h2];exact ⟨fun _=>rfl,fun h=>(by cases h)⟩
 refine ⟨fun h=>(by cases h),fun _ => ?_⟩
 have hS:=sq_of (s:=s) (q:=q) (by rw [e0,h1,h2];rfl) hs hL.2.1 hL.2.2
 have hqR:p9_ ey_ q:=⟨Nat.le_trans hq.1 (by decide),Nat.le_trans hq.2 (by decide)⟩
 rw [e0,h1,h2]
 simp only [rJ_ hqR,ab_ hR,bk_,Bool.and_self,cond_true]
 refine ⟨hS.kid,?_⟩
 have hT:hg_ c (s.tables.getD q.kidTable.toNat []):=f1_ hl.2.2 _
 have hcol:=hS.col
 unfold hK_
 generalize s.tables.getD q.kidTable.toNat []=rows at hT hcol ⊢
 have key:∀ (m i:Nat) (k:List TKid),i+m=rows.length→k.length≤i→Ev (fun n N=>bM_.loop8 n (fun xy6 xy7 xy8 xy9 xy10 xy11 xy12 xy13 xy14 xy15 xy16 xy17 xy18 xy19 xy20 xy21 xy22 xy23=>(some ((aJ_.mk (ap_.mk xy13 xy20 xy14 xy15 xy16 xy21 xy17 xy18 xy19) xy22 xy23),true))) N rows (i:Int) q.table q.where_ q.order q.down q.first q.show_ q.kids q.kidTable q.kidCol 0 0 false 0 false 0 0 q.table q.order q.down q.first q.kids q.kidTable q.kidCol q.where_ q.show_ (e7_ s q) k) (aJ_.mk q (e7_ s q) (cond q.kids (iC_ q k (rows.drop i)) k),true):=by
  intro m
  induction m with
  |zero=>
   intro i k hi ho
   have e:i=rows.length:=by omega
   subst e
   refine cx_ ?_
   simp only [bM_.turn8,bM_.step8,b8_,cond_false,ac_,List.drop_length,iC_,List.foldl_nil]
   have e:(cond q.kids k k)=k:=by cases q.kids<;>rfl
   rw [e]
  |succ m ih=>
   intro i k hi ho
   have hlt:i<rows.length:=by omega
   have h1:=hT.1
   have hP:=fZ_ (kids:=k) (id:=(rows.getD i TRow.dflt).cells.getD q.kidCol.toNat 0) (by_:=1) (by simp only [ey_];omega)
   have hW:=W_up hlt (show rows.length≤bO_ by simp only [bO_];omega)
   have hn:=p5_ (kids:=k) (id:=(rows.getD i TRow.dflt).cells.getD q.kidCol.toNat 0) (by_:=1)
   have e1:iC_ q k (rows.drop i)=iC_ q (FKid k ((rows.getD i TRow.dflt).cells.getD q.kidCol.toNat 0) 1) (rows.drop (i+1)):=by rw [fE_ TRow.dflt hlt];rfl
   refine cx_ ?_
   simp only [bM_.turn8,bM_.step8,ka_,cy_ hlt,cond_true,bk_,cc_ hlt,true_and,Int.toNat_natCast,hW,ab_ hP,an_,ac_]
   cases hk:q.kids
   · exact ⟨fun h=>(by cases h),fun _=>rfl⟩
   · refine ⟨fun _=>⟨hcol hk _ (aZ_ TRow.dflt hlt),?_⟩,fun h=>(by cases h)⟩
     have:=ih (i+1) (FKid k ((rows.getD i TRow.dflt).cells.getD q.kidCol.toNat 0) 1) (by omega) (by omega)
     rw [hk] at this
     simp only [cond_true,e1] at this ⊢
     exact this
 exact fb_ (key rows.length 0 [] (by omega) (Nat.le_refl _))
end
end Go.Pi
end
section
namespace Go.Pi
theorem bp_ (j:aa_):aa_.re j=j:=by cases j;rfl
def hm_ (s:Bs):Bool:=h0_ (fun i=>inn ((s.getD i 0).toNat:Int) 32 126) s.length&&decide ((s.length:Int)≤60)
theorem byte_W (b:UInt8):W ((b.toNat:Int))=(b.toNat:Int):=W_id (by omega) (by have:=b.toNat_lt;omega)
theorem g0_ {s:Bs} (hs:s.length≤bO_):Ev (fun n _=>bV_ n s) (hm_ s):=by
 refine aq_ ?_
 simp only [bV_]
 refine eD_ (fun n N i=>bV_.loop3 n (fun xy1=>(some (decide ((xy1.length:Int)≤60)))) N s (i:Int)) _ (fun i w hi ih => ?_) ?_
 · simp only [bV_.turn3,bV_.step3,Int.toNat_natCast,an_,bk_,ac_,W_up hi hs,c2_ ih,cy_ hi,cc_ hi]
   clear ih
   simp only [inn]
   by_cases h1:(((s.getD i 0).toNat:Nat):Int)<32<;>by_cases h2:(((s.getD i 0).toNat:Nat):Int) > 126<;>simp [h1,h2]<;>(intros;omega)
 · simp only [bV_.turn3,bV_.step3,b8_,cond_false,ac_]
theorem g7_ {s:Bs} (hs:s.length≤bO_):Ev (fun n _=>aA_ n s) (hm_ s):=by
 refine aq_ ?_
 simp only [aA_]
 refine eD_ (fun n N i=>aA_.loop3 n (fun xy1=>(some (decide ((xy1.length:Int)≤60)))) N s (s.length:Int) (i:Int)) _ (fun i w hi ih => ?_) ?_
 · simp only [aA_.turn3,aA_.step3,Int.toNat_natCast,an_,bk_,ju_,byte_W,ac_,W_up hi hs,c2_ ih,cy_ hi,cc_ hi]
   clear ih
   grind
 · simp only [aA_.turn3,aA_.step3,b8_,cond_false,ac_]
def sG_ (c:Nat) (l:List Bs):Prop:=l.length≤c∧∀ x ∈ l,x.length≤c
theorem jV_ {c:Nat} {l:List Bs} (h:sG_ c l) (i:Nat):(l.getD i []).length≤c:=by
 by_cases hi:i<l.length
 · exact h.2 _ (aZ_ [] hi)
 · rw [List.getD_eq_getElem?_getD,List.getElem?_eq_none (by omega)];exact Nat.zero_le _
def iB_ (l:List Bs):Bool:=h0_ (fun i=>hm_ (l.getD i [])&&(decide (i=0)||Op.bytesLess (l.getD (i - 1) []) (l.getD i []))) l.length
theorem l3_ {l:List Bs} (h:sG_ bO_ l):Ev (fun n _=>aw_ n l) (iB_ l):=by
 refine aq_ ?_
 simp only [aw_]
 refine e6_ (eD_ (fun n N i=>aw_.loop3 n (some true) N l l (l.length:Int) (i:Int)) (fun i=>hm_ (l.getD i [])&&(decide (i=0)||Op.bytesLess (l.getD (i - 1) []) (l.getD i []))) (len:=l.length) (v:=true) (fun i w hi ih => ?_) ?_) (by rw [Bool.and_true];rfl)
 · simp only [aw_.turn3,aw_.step3,Int.toNat_natCast,W_up hi h.1,W_dn (i:=i) (by have:=h.1;omega),k2_,an_,bk_,ab_ (g7_ (jV_ h i)),ac_,c2_ ih,cy_ hi,cc_ hi]
   clear ih
   repeat' (first|apply And.intro|intro _)
   all_goals (try rw [Bool.eq_iff_iff])
   all_goals (try simp only [Bool.not_eq_true',Bool.not_eq_false',decide_eq_true_eq,decide_eq_false_iff_not,Bool.and_eq_true,Bool.or_eq_true,Bool.and_eq_false_iff,Bool.or_eq_false_iff] at *)
   all_goals grind
 · simp only [aw_.turn3,aw_.step3,b8_,cond_false,ac_]
def re_ (j:aa_):Bool:=cond (j.kind != 5) ((j.names.length:Int) == 0) (iB_ j.names&&((j.names.length:Int) == (j.list.length:Int)))
theorem lm_ {j:aa_} (h:sG_ bO_ j.names):Ev (fun n _=>ae_ n j) (re_ j):=by
 refine aq_ ?_
 have hl:Ev (fun n _=>ae_.loop6 n (fun xy2 xy3 xy4 xy5 xy6=>(some ((xy6.length:Int) == (xy5.length:Int)))) n 0 j.kind j.n_ j.s j.list j.names) (iB_ j.names&&((j.names.length:Int) == (j.list.length:Int))):=by
  refine eD_ (fun n N i=>ae_.loop6 n (fun xy2 xy3 xy4 xy5 xy6=>(some ((xy6.length:Int) == (xy5.length:Int)))) N (i:Int) j.kind j.n_ j.s j.list j.names) _ (fun i w hi ih => ?_) ?_
  · simp only [ae_.turn6,ae_.step6,Int.toNat_natCast,W_up hi h.1,W_dn (i:=i) (by have:=h.1;omega),k2_,an_,bk_,ab_ (g0_ (jV_ h i)),ac_,c2_ ih,cy_ hi,cc_ hi]
    clear ih
    repeat' (first|apply And.intro|intro _)
    all_goals (try rw [Bool.eq_iff_iff])
    all_goals (try simp only [Bool.not_eq_true',Bool.not_eq_false',decide_eq_true_eq,decide_eq_false_iff_not,Bool.and_eq_true,Bool.or_eq_true,Bool.and_eq_false_iff,Bool.or_eq_false_iff] at *)
    all_goals grind
  · simp only [ae_.turn6,ae_.step6,b8_,cond_false,ac_]
 simp only [ae_,an_,ac_,c2_ hl,re_]
 cases (j.kind != 5)<;>simp
end Go.Pi
end
section
namespace Go.Pi
theorem lT_ (k:Int):k=0∨k=1∨k=2∨k=3∨k=4∨k=5∨(k≠0∧k≠1∧k≠2∧k≠3∧k≠4∧k≠5):=by omega
theorem oa_ {α:Type} (l:List α):decide (l.length=0) = !decide ((l.length:Int) > 0):=by
 by_cases hz:l.length=0
 · rw [hz];rfl
 · rw [decide_eq_false hz,decide_eq_true (show (l.length:Int) > 0 by omega)];rfl
def rd_ (j:aa_):Bool :=
 cond (j.kind == 1) (inn j.n_ 0 1) (cond (j.kind == 2) (inn j.n_ (-1000000000) 1000000000) (cond (j.kind == 3) (hm_ j.s) (cond (j.kind == 5) (((j.names.length:Int) == (j.list.length:Int))&&iB_ j.names) ((j.kind == 0)||(j.kind == 4)))))
def FOwn (j:aa_):Bool :=
 (decide (j.list.length=0)||((j.kind == 4)||(j.kind == 5)))&&((decide (j.names.length=0)||(j.kind == 5))&&(((j.n_ == 0)||((j.kind == 1)||(j.kind == 2)))&&(((j.s == [])||(j.kind == 3))&&rd_ j)))
def lenJ1 (j:aa_):Prop:=j.s.length≤bO_∧sG_ bO_ j.names
theorem ok_ {j:aa_} (h:lenJ1 j):Ev (fun n _=>e2_ n j) (FOwn j):=by
 refine aq_ ?_
 simp only [e2_,an_,ju_,isNum_b,ab_ (g7_ h.1),ab_ (l3_ h.2),ac_]
 unfold FOwn rd_
 have e1:=oa_ j.list
 have e2:=oa_ j.names
 rw [e1,e2]
 generalize decide ((j.list.length:Int) > 0)=a
 generalize decide ((j.names.length:Int) > 0)=b
 generalize (j.s == [])=c
 have e3:(j.n_ != 0) = !(j.n_ == 0):=rfl
 rw [e3]
 generalize hd:(j.n_ == 0)=d
 generalize hm_ j.s=ft
 generalize iB_ j.names=fn
 generalize ((j.names.length:Int) == (j.list.length:Int))=eq
 rcases lT_ j.kind with hk|hk|hk|hk|hk|hk|⟨k0,k1,k2,k3,k4,k5⟩
 all_goals (first|simp only [hk]|simp only [beq_eq_false_iff_ne.2 k0,beq_eq_false_iff_ne.2 k1,beq_eq_false_iff_ne.2 k2,beq_eq_false_iff_ne.2 k3,beq_eq_false_iff_ne.2 k4,beq_eq_false_iff_ne.2 k5,bne])
 all_goals (cases a<;>cases b<;>cases c<;>cases d<;>simp)
 all_goals (cases eq<;>simp)
def cd_:Nat→aa_→Nat
 |0,_=>401
 |d+1,j=>cond (FOwn j) (min 401 (1+hP_ (cd_ d) j.list)) 401
theorem sj_:∀ (d:Nat) (j:aa_),cd_ d j≤401
 |0,_=>Nat.le_refl _
 |d+1,j=>by
  simp only [cd_]
  cases FOwn j<;>simp only [cond_true,cond_false]<;>omega
def gh_:Nat→aa_→Prop
 |0,_=>True
 |d+1,j=>lenJ1 j∧j.list.length≤bO_∧∀ x ∈ j.list,gh_ d x
theorem getD_json {d:Nat} {l:List aa_} (h:∀ x ∈ l,gh_ d x) {i:Nat} (hi:i<l.length):gh_ d (l.getD i aa_.dflt):=h _ (aZ_ _ hi)
theorem i6_:∀ (d:Nat) (j:aa_),d≤1000→gh_ d j→Ev (fun n _=>bz_ n j (d:Int)) (cd_ d j:Int)
 |0,j,_,_=>by
  refine aq_ ?_
  simp only [bz_,an_,ac_]
  exact ⟨fun _=>rfl,fun h=>by simp at h⟩
 |d+1,j,hd,h=>by
  refine aq_ ?_
  have hW:W (((d+1:Nat):Int) - 1)=(d:Int):=by rw [W_id (by omega) (by omega)];omega
  simp only [bz_,bp_,an_,ab_ (ok_ h.1),ac_,cd_]
  refine ⟨fun hc=>by have:=of_decide_eq_true hc;omega,fun _ => ?_⟩
  cases ho:FOwn j with
  |false=>exact ⟨fun _=>rfl,fun h=>by cases h⟩
  |true=>
   refine ⟨fun h=>(by cases h),fun _ => ?_⟩
   have ht:=h.2.1
   have key:∀ (k i:Nat) (s:Nat),k+i=j.list.length→s≤400→Ev (fun n N=>bz_.loop7 n (bz_ n) (fun xy3=>some xy3) N ((d+1:Nat):Int) (s:Int) j.list (j.list.length:Int) (i:Int)) ((min 401 (s+hP_ (cd_ d) (j.list.drop i)):Nat):Int):=by
    intro k
    induction k with
    |zero=>
     intro i s hi hs
     have:i=j.list.length:=by omega
     subst this
     refine cx_ ?_
     simp only [bz_.turn7,bz_.step7,b8_,cond_false,ac_,List.drop_length,hP_]
     omega
    |succ k ih=>
     intro i s hi hs
     have hlt:i<j.list.length:=by omega
     refine cx_ ?_
     have hc:=i6_ d (j.list.getD i aa_.dflt) (by omega) (getD_json h.2.2 hlt)
     have hle:=sj_ d (j.list.getD i aa_.dflt)
     have hw:W ((s:Int)+(cd_ d (j.list.getD i aa_.dflt):Int))=((s+cd_ d (j.list.getD i aa_.dflt):Nat):Int):=by rw [W_id (by omega) (by omega)];omega
     simp only [bz_.turn7,bz_.step7,bp_,Int.toNat_natCast,hW,W_up hlt ht,an_,bk_,cy_ hlt,cc_ hlt,ab_ hc,hw,ac_]
     rw [oR_ (cd_ d) aa_.dflt hlt]
     refine ⟨fun _=>⟨trivial,fun hg => ?_,fun hg => ?_⟩,fun h=>(by cases h)⟩
     · have:=of_decide_eq_true hg;omega
     · have:=of_decide_eq_false hg
       rw [show s+(cd_ d (j.list.getD i aa_.dflt)+hP_ (cd_ d) (j.list.drop (i+1)))=(s+cd_ d (j.list.getD i aa_.dflt))+hP_ (cd_ d) (j.list.drop (i+1)) by omega]
       exact ih (i+1) _ (by omega) (by omega)
   have:=key j.list.length 0 1 (by omega) (by omega)
   rw [List.drop_zero] at this
   exact fb_ (f:=fun n N=>bz_.loop7 n (bz_ n) (fun xy3=>some xy3) N ((d+1:Nat):Int) 1 j.list (j.list.length:Int) 0) this
def bw_ (j:aa_):Bool:=decide (cd_ 6 j≤400)
theorem dx_ {j:aa_} (h:gh_ 6 j):Ev (fun n _=>cD_ n j) (bw_ j):=by
 refine aq_ ?_
 have e:Ev (fun n _=>bz_ n j 6) (cd_ 6 j:Int):=i6_ 6 j (by omega) h
 simp only [cD_,bp_,ab_ e,ac_,bw_]
 by_cases hq:cd_ 6 j≤400
 · rw [decide_eq_true hq,decide_eq_true (by omega)]
 · rw [decide_eq_false hq,decide_eq_false (by omega)]
end Go.Pi
end
section
namespace Go.Pi
def Great (d:Nat) (j:aa_):Prop:=∃ v:Nat,v≤401+401*d∧min 401 v=cd_ d j∧Ev (fun n _=>aR_ n j (d:Int)) (v:Int)
theorem sP_ {d:Nat} {l:List aa_} (hd:d≤1000) (ht:l.length≤bO_) (ih:∀ x ∈ l,Great d x) (kd nn:Int) (s:Bs) (ns:List Bs) :
  ∃ w:Nat,w≤401+401*(d+1)∧min 401 w=min 401 (1+hP_ (cd_ d) l)∧∀ (K:Nat→aR_.K23_1) (F:Int),Ev (fun n N=>K n 401 (w:Int) kd nn s l ns) F→Ev (fun n _=>aR_.loop23 n (aR_ n) (K n) n ((d+1:Nat):Int) 401 1 0 kd nn s l ns) F:=by
 have hW:W (((d+1:Nat):Int) - 1)=(d:Int):=by rw [W_id (by omega) (by omega)];omega
 have key:∀ (k i:Nat) (m:Nat),k+i=l.length→m≤401+401*(d+1)→∃ w:Nat,w≤401+401*(d+1)∧min 401 w=min 401 (m+hP_ (cd_ d) (l.drop i))∧∀ (K:Nat→aR_.K23_1) (F:Int),Ev (fun n N=>K n 401 (w:Int) kd nn s l ns) F →
   Ev (fun n N=>aR_.loop23 n (aR_ n) (K n) N ((d+1:Nat):Int) 401 (m:Int) (i:Int) kd nn s l ns) F:=by
  intro k
  induction k with
  |zero=>
   intro i m hi hm
   have:i=l.length:=by omega
   subst this
   refine ⟨m,hm,by simp [hP_],fun K F hF=>cx_ ?_⟩
   simp only [aR_.turn23,aR_.step23,b8_,cond_false]
   exact hF
  |succ k ihk=>
   intro i m hi hm
   have hlt:i<l.length:=by omega
   by_cases hg:m≤400
   · obtain ⟨v,hv1,hv2,hv3⟩:=ih _ (aZ_ aa_.dflt hlt)
     have hw:W ((m:Int)+(v:Int))=((m+v:Nat):Int):=by rw [W_id (by omega) (by omega)];omega
     obtain ⟨w,a1,a2,a3⟩:=ihk (i+1) (m+v) (by omega) (by omega)
     refine ⟨w,a1,?_,fun K F hF=>cx_ ?_⟩
     · rw [a2,oR_ (cd_ d) aa_.dflt hlt,←hv2];omega
     · simp only [aR_.turn23,aR_.step23,bp_,Int.toNat_natCast,hW,W_up hlt ht,an_,bk_,cy_ hlt,cc_ hlt,ab_ hv3,hw]
       exact ⟨fun _=>⟨fun _=>⟨trivial,a3 K F hF⟩,fun h=>by have:=of_decide_eq_false h;omega⟩,fun h=>(by cases h)⟩
   · refine ⟨m,hm,by omega,fun K F hF=>cx_ ?_⟩
     simp only [aR_.turn23,aR_.step23,Int.toNat_natCast,an_,cy_ hlt]
     exact ⟨fun _=>⟨fun h=>by have:=of_decide_eq_true h;omega,fun _=>hF⟩,fun h=>(by cases h)⟩
 obtain ⟨w,a1,a2,a3⟩:=key l.length 0 1 (by omega) (by omega)
 rw [List.drop_zero] at a2
 exact ⟨w,a1,a2,fun K F hF=>fb_ (f:=fun n N=>aR_.loop23 n (aR_ n) (K n) N ((d+1:Nat):Int) 401 1 0 kd nn s l ns) (a3 K F hF)⟩
theorem eM_ (j:aa_):aa_.mk j.kind j.n_ j.s j.list j.names=j:=by cases j;rfl
theorem h5_:∀ (d:Nat) (j:aa_),d≤1000→gh_ d j→Great d j
 |0,j,_,_=>by
  refine ⟨401,by omega,rfl,aq_ ?_⟩
  simp only [aR_,an_,ac_]
  exact ⟨fun _=>rfl,fun h=>by simp at h⟩
 |d+1,j,hd,h=>by
  obtain ⟨w,w1,w2,w3⟩:=sP_ (d:=d) (l:=j.list) (by omega) h.2.1 (fun x hx=>h5_ d x (by omega) (h.2.2 x hx)) j.kind j.n_ j.s j.names
  have hz:((((d+1:Nat):Int)) == 0)=false:=by simp;omega
  have hN:=lm_ (j:=j) h.1.2
  obtain ⟨v,hv⟩:∃ v:Nat,v=cond (FOwn j) (cond ((j.kind == 4)||(j.kind == 5)) w 1) 401:=⟨_,rfl⟩
  refine ⟨v,?_,?_,aq_ ?_⟩
  · rw [hv];cases FOwn j<;>cases ((j.kind == 4)||(j.kind == 5))<;>simp only [cond_true,cond_false]<;>omega
  · rw [hv]
    simp only [cd_]
    cases ho:FOwn j with
    |false=>rfl
    |true=>
     cases hk:((j.kind == 4)||(j.kind == 5)) with
     |true=>simp only [cond_true];exact w2
     |false=>
      have:j.list=[]:=by
       unfold FOwn at ho
       rw [hk,Bool.or_false] at ho
       simp only [Bool.and_eq_true,decide_eq_true_eq] at ho
       exact List.eq_nil_of_length_eq_zero ho.1
      rw [this];rfl
  · have hT:=g0_ (s:=j.s) h.1.1
    have e1:=oa_ j.list
    have e2:=oa_ j.names
    have e4:((j.names.length:Int) == 0) = !decide ((j.names.length:Int) > 0):=by
     by_cases hz:j.names.length=0
     · rw [hz];rfl
     · rw [beq_eq_false_iff_ne.2 (show (j.names.length:Int)≠0 by omega),decide_eq_true (show (j.names.length:Int) > 0 by omega)];rfl
    subst hv
    unfold FOwn rd_
    unfold re_ at hN
    rw [e1,e2]
    rw [e4] at hN
    simp only [aR_,bp_,hz,cond_false,an_,gi_,ab_ hT,ab_ hN,ac_,bne]
    rcases lT_ j.kind with hk|hk|hk|hk|hk|hk|⟨k0,k1,k2,k3,k4,k5⟩
    case inr.inr.inr.inr.inl=>
     have hj:aa_.mk 4 j.n_ j.s j.list j.names=j:=by rw [←hk];exact eM_ j
     rw [hk] at w3
     simp only [hk,Int.reduceBEq,Int.reduceLT,Int.reduceLE,Int.reduceNeg,ge_iff_le,gt_iff_lt,decide_true,decide_false,Bool.not_false,Bool.not_true,Bool.or_true,Bool.true_or,Bool.or_false,Bool.false_or,Bool.and_true,Bool.true_and,Bool.not_not,forall_const,reduceCtorEq,false_implies,true_and,and_true,implies_true,cond_true,cond_false] at hN ⊢
     refine w3 _ _ ?_
     simp only [hj,an_,ab_ hN,ac_,Int.reduceBEq,Int.reduceLT,Int.reduceLE,Int.reduceNeg,ge_iff_le,gt_iff_lt,decide_true,decide_false,Bool.not_false,Bool.not_true,Bool.or_true,Bool.true_or,Bool.or_false,Bool.false_or,Bool.and_true,Bool.true_and,Bool.not_not,forall_const,reduceCtorEq,false_implies,true_and,and_true,implies_true,cond_true,cond_false]
     clear hN w3 hT e1 e2 e4 hj
     generalize decide (0<(j.names.length:Int))=b
     generalize (j.s == [])=c
     generalize hd:(j.n_ == 0)=dd
     cases b<;>cases c<;>cases dd<;>simp
    case inr.inr.inr.inr.inr.inl=>
     have hj:aa_.mk 5 j.n_ j.s j.list j.names=j:=by rw [←hk];exact eM_ j
     rw [hk] at w3
     simp only [hk,Int.reduceBEq,Int.reduceLT,Int.reduceLE,Int.reduceNeg,ge_iff_le,gt_iff_lt,decide_true,decide_false,Bool.not_false,Bool.not_true,Bool.or_true,Bool.true_or,Bool.or_false,Bool.false_or,Bool.and_true,Bool.true_and,Bool.not_not,forall_const,reduceCtorEq,false_implies,true_and,and_true,implies_true,cond_true,cond_false] at hN ⊢
     refine w3 _ _ ?_
     simp only [hj,an_,ab_ hN,ac_,Int.reduceBEq,Int.reduceLT,Int.reduceLE,Int.reduceNeg,ge_iff_le,gt_iff_lt,decide_true,decide_false,Bool.not_false,Bool.not_true,Bool.or_true,Bool.true_or,Bool.or_false,Bool.false_or,Bool.and_true,Bool.true_and,Bool.not_not,forall_const,reduceCtorEq,false_implies,true_and,and_true,implies_true,cond_true,cond_false]
     clear hN w3 hT e1 e2 e4 hj
     generalize iB_ j.names=fn
     generalize ((j.names.length:Int) == (j.list.length:Int))=eq
     generalize (j.s == [])=c
     generalize hd:(j.n_ == 0)=dd
     cases fn<;>cases eq<;>cases c<;>cases dd<;>simp
    case inr.inr.inr.inr.inr.inr=>
     simp only [beq_eq_false_iff_ne.2 k0,beq_eq_false_iff_ne.2 k1,beq_eq_false_iff_ne.2 k2,beq_eq_false_iff_ne.2 k3,beq_eq_false_iff_ne.2 k4,beq_eq_false_iff_ne.2 k5,Int.reduceBEq,Int.reduceLT,Int.reduceLE,Int.reduceNeg,ge_iff_le,gt_iff_lt,decide_true,decide_false,Bool.not_false,Bool.not_true,Bool.or_true,Bool.true_or,Bool.or_false,Bool.false_or,Bool.and_true,Bool.true_and,Bool.not_not,forall_const,reduceCtorEq,false_implies,true_and,and_true,implies_true,cond_true,cond_false,Bool.and_false,Bool.false_and]
     rfl
    all_goals (
     simp only [hk,Int.reduceBEq,Int.reduceLT,Int.reduceLE,Int.reduceNeg,ge_iff_le,gt_iff_lt,decide_true,decide_false,Bool.not_false,Bool.not_true,Bool.or_true,Bool.true_or,Bool.or_false,Bool.false_or,Bool.and_true,Bool.true_and,Bool.not_not,forall_const,reduceCtorEq,false_implies,true_and,and_true,implies_true,cond_true,cond_false]
     clear hN w3 hT e1 e2 e4
     generalize decide (0<(j.names.length:Int))=b
     generalize decide (0<(j.list.length:Int))=a
     generalize (j.s == [])=c
     generalize hd:(j.n_ == 0)=dd
     generalize inn j.n_ 0 1=i1
     generalize inn j.n_ (-1000000000) 1000000000=i2
     generalize hm_ j.s=ft
     cases a<;>cases b<;>cases c<;>cases dd<;>cases i1<;>cases i2<;>cases ft<;>simp)
theorem dM_ {j:aa_} (h:gh_ 6 j):Ev (fun n _=>cJ_ n j) (bw_ j):=by
 refine aq_ ?_
 obtain ⟨v,v1,v2,v3⟩:=h5_ 6 j (by omega) h
 have e:Ev (fun n _=>aR_ n j 6) (v:Int):=v3
 simp only [cJ_,bp_,ab_ e,ac_,bw_]
 by_cases hq:cd_ 6 j≤400
 · rw [decide_eq_true hq,decide_eq_true (by omega)]
 · rw [decide_eq_false hq,decide_eq_false (by omega)]
end Go.Pi
end
section
namespace Go.Pi
def kn_:Nat→aa_→Prop
 |0,_=>False
 |d+1,j=>∀ x ∈ j.list,kn_ d x
theorem fs_:∀ (d:Nat) (j:aa_),cd_ d j≤400→kn_ d j
 |0,j,h=>by simp only [cd_] at h;omega
 |d+1,j,h=>fun x hx=>by
  refine fs_ d x ?_
  simp only [cd_] at h
  have:=lh_ (cd_ d) hx
  cases ho:FOwn j with
  |false=>rw [ho] at h;simp only [cond_false] at h;omega
  |true=>rw [ho] at h;simp only [cond_true] at h;omega
def hb_ (a b:List Bs):Bool:=decide (a.length=b.length)&&h0_ (fun i=>a.getD i [] == b.getD i []) a.length
def ef_:Nat→aa_→aa_→Bool
 |0,_,_=>true
 |d+1,a,b=>(a.kind == b.kind)&&((a.n_ == b.n_)&&((a.s == b.s)&&(hb_ a.names b.names&&(decide (a.list.length=b.list.length)&&h0_ (fun i=>ef_ d (a.list.getD i aa_.dflt) (b.list.getD i aa_.dflt)) a.list.length))))
theorem ne_ {n m:Nat}:((n:Int) != (m:Int)) = !decide (n=m):=by
 by_cases h:n=m
 · rw [h,decide_eq_true rfl];simp
 · rw [decide_eq_false h];simp;omega
theorem fX_:∀ (d:Nat) (a b:aa_),kn_ d a→gh_ d a→Ev (fun n _=>ax_ n a b) (ef_ d a b)
 |0,a,b,h,_=>h.elim
 |d+1,a,b,h,hl=>by
  refine aq_ ?_
  simp only [ax_,ne_,an_,ac_,ef_,hb_]
  by_cases hq:a.list.length=b.list.length
  · by_cases hq2:a.names.length=b.names.length
    · have hN:Ev (fun n _=>ax_.loop14 n (ax_ n) (some true) n 0 a.kind a.n_ a.s a.list a.names b.kind b.n_ b.s b.list b.names) (h0_ (fun i=>a.names.getD i [] == b.names.getD i []) a.names.length):=by
       refine e6_ (eD_ (fun n N i=>ax_.loop14 n (ax_ n) (some true) N (i:Int) a.kind a.n_ a.s a.list a.names b.kind b.n_ b.s b.list b.names) (fun i=>a.names.getD i [] == b.names.getD i []) (len:=a.names.length) (v:=true) (fun i w hi ih => ?_) ?_) (by rw [Bool.and_true])
       · simp only [ax_.turn14,ax_.step14,Int.toNat_natCast,W_up hi hl.1.2.1,an_,bk_,ac_,c2_ ih,cy_ hi,cc_ hi,cc_ (hq2 ▸ hi)]
         cases (a.names.getD i [] == b.names.getD i [])<;>simp
       · simp only [ax_.turn14,ax_.step14,b8_,cond_false,ac_]
      have hL:Ev (fun n _=>ax_.loop6 n (ax_ n) (fun xy2 xy3 xy4 xy5 xy6 xy7 xy8 xy9 xy10 xy11=>(ax_.loop14 n (ax_ n) (some true) n 0 xy2 xy3 xy4 xy5 xy6 xy7 xy8 xy9 xy10 xy11)) n 0 a.kind a.n_ a.s a.list a.names b.kind b.n_ b.s b.list b.names) (h0_ (fun i=>ef_ d (a.list.getD i aa_.dflt) (b.list.getD i aa_.dflt)) a.list.length&&h0_ (fun i=>a.names.getD i [] == b.names.getD i []) a.names.length):=by
       refine eD_ (fun n N i=>ax_.loop6 n (ax_ n) (fun xy2 xy3 xy4 xy5 xy6 xy7 xy8 xy9 xy10 xy11=>(ax_.loop14 n (ax_ n) (some true) n 0 xy2 xy3 xy4 xy5 xy6 xy7 xy8 xy9 xy10 xy11)) N (i:Int) a.kind a.n_ a.s a.list a.names b.kind b.n_ b.s b.list b.names) _ (fun i w hi ih => ?_) ?_
       · have hx:=fX_ d (a.list.getD i aa_.dflt) (b.list.getD i aa_.dflt) (h _ (aZ_ _ hi)) (hl.2.2 _ (aZ_ _ hi))
         simp only [ax_.turn6,ax_.step6,bp_,Int.toNat_natCast,W_up hi hl.2.1,an_,bk_,ab_ hx,ac_,c2_ ih,cy_ hi,cc_ hi,cc_ (hq ▸ hi)]
         cases ef_ d (a.list.getD i aa_.dflt) (b.list.getD i aa_.dflt)<;>simp
       · simp only [ax_.turn6,ax_.step6,b8_,cond_false]
         exact hN
      rw [decide_eq_true hq,decide_eq_true hq2]
      simp only [c2_ hL,bne]
      generalize h0_ (fun i=>ef_ d (a.list.getD i aa_.dflt) (b.list.getD i aa_.dflt)) a.list.length=u
      generalize h0_ (fun i=>a.names.getD i [] == b.names.getD i []) a.names.length=w
      cases (a.kind == b.kind)<;>cases (a.n_ == b.n_)<;>cases (a.s == b.s)<;>cases u<;>cases w<;>simp
    · rw [decide_eq_false hq2]
      simp only [bne]
      cases (a.kind == b.kind)<;>cases (a.n_ == b.n_)<;>cases (a.s == b.s)<;>cases decide (a.list.length=b.list.length)<;>simp
  · rw [decide_eq_false hq]
    simp only [bne]
    cases (a.kind == b.kind)<;>cases (a.n_ == b.n_)<;>cases (a.s == b.s)<;>simp
end Go.Pi
end
section
namespace Go.Pi
theorem mC_ {a b:List Bs} (ha:a.length≤bO_):Ev (fun n _=>aH_ n a b) (hb_ a b):=by
 refine aq_ ?_
 simp only [aH_,ne_,an_,ac_]
 unfold hb_
 by_cases hl:a.length=b.length
 · rw [decide_eq_true hl]
   refine ⟨fun h=>(by cases h),fun _ => ?_⟩
   refine e6_ (eD_ (fun n N i=>aH_.loop6 n (some true) N a b (a.length:Int) (i:Int)) (fun i=>a.getD i [] == b.getD i []) (len:=a.length) (v:=true) (fun i w hi ih => ?_) ?_) (by rw [Bool.and_true,Bool.true_and])
   · simp only [aH_.turn6,aH_.step6,Int.toNat_natCast,W_up hi ha,an_,bk_,ac_,c2_ ih,cy_ hi,cc_ hi,cc_ (hl ▸ hi)]
     cases (a.getD i [] == b.getD i [])<;>simp
   · simp only [aH_.turn6,aH_.step6,b8_,cond_false,ac_]
 · rw [decide_eq_false hl]
   exact ⟨fun _=>rfl,fun h=>(by cases h)⟩
theorem gt_:∀ (d:Nat) (a b:aa_),kn_ d a→gh_ d a→Ev (fun n _=>dm_ n a b) (ef_ d a b)
 |0,a,b,h,_=>h.elim
 |d+1,a,b,h,hl=>by
  refine aq_ ?_
  have hE:Ev (fun n _=>aj_ n a.list b.list) (decide (a.list.length=b.list.length)&&h0_ (fun i=>ef_ d (a.list.getD i aa_.dflt) (b.list.getD i aa_.dflt)) a.list.length):=by
   refine aq_ ?_
   simp only [aj_,ne_,an_,ac_]
   by_cases hq:a.list.length=b.list.length
   · rw [decide_eq_true hq]
     refine ⟨fun h=>(by cases h),fun _ => ?_⟩
     refine e6_ (eD_ (fun n N i=>aj_.loop6 n (dm_ n) (some true) N b.list a.list (a.list.length:Int) (i:Int)) (fun i=>ef_ d (a.list.getD i aa_.dflt) (b.list.getD i aa_.dflt)) (len:=a.list.length) (v:=true) (fun i w hi ih => ?_) ?_) (by rw [Bool.and_true,Bool.true_and])
     · have hx:=gt_ d (a.list.getD i aa_.dflt) (b.list.getD i aa_.dflt) (h _ (aZ_ _ hi)) (hl.2.2 _ (aZ_ _ hi))
       simp only [aj_.turn6,aj_.step6,bp_,Int.toNat_natCast,W_up hi hl.2.1,an_,bk_,ab_ hx,ac_,c2_ ih,cy_ hi,cc_ hi,cc_ (hq ▸ hi)]
       cases ef_ d (a.list.getD i aa_.dflt) (b.list.getD i aa_.dflt)<;>simp
     · simp only [aj_.turn6,aj_.step6,b8_,cond_false,ac_]
   · rw [decide_eq_false hq]
     exact ⟨fun _=>rfl,fun h=>(by cases h)⟩
  simp only [dm_,an_,ab_ (mC_ (b:=b.names) hl.1.2.1),ab_ hE,ac_,ef_]
  cases (a.kind == b.kind)<;>cases (a.n_ == b.n_)<;>cases (a.s == b.s)<;>cases hb_ a.names b.names<;>simp
end Go.Pi
end
section
namespace Go.Pi
def bi (l:Bs):List Int:=l.map fun c=>((c.toNat:Nat):Int)
theorem toBs_bi (l:Bs):so_ (bi l)=l:=by
 unfold so_ bi
 rw [List.map_map]
 refine (List.map_congr_left fun c _ => ?_).trans (List.map_id l)
 simp
theorem pT_ (l:Bs):(bi l).length=l.length:=List.length_map _
theorem bi_app (a b:Bs):bi (a++b)=bi a++bi b:=List.map_append
theorem r8_ (c:UInt8) (k:Nat) (d:UInt8) (hd:d.toNat=k):(((c.toNat:Nat):Int) == (k:Int))=decide (c=d):=by
 by_cases h:c=d
 · subst h;rw [hd];simp
 · rw [decide_eq_false h,beq_eq_false_iff_ne]
   intro e
   exact h (UInt8.toNat_inj.1 (by omega))
theorem byte34 (c:UInt8):(((c.toNat:Nat):Int) == 34)=decide (c=34):=r8_ c 34 34 rfl
theorem byte92 (c:UInt8):(((c.toNat:Nat):Int) == 92)=decide (c=92):=r8_ c 92 92 rfl
theorem byte126 (c:UInt8):(((c.toNat:Nat):Int) == 126)=decide (c=126):=r8_ c 126 126 rfl
theorem byte47 (c:UInt8):(((c.toNat:Nat):Int) == 47)=decide (c=47):=r8_ c 47 47 rfl
theorem gu_ (f:UInt8→Bs) (h:∀ c,(f c).length≤2):∀ s:Bs,(s.flatMap f).length≤2*s.length
 |[]=>Nat.le_refl _
 |c::s=>by
  have:=gu_ f h s
  have:=h c
  simp only [List.flatMap_cons,List.length_append,List.length_cons];omega
theorem pE_ (f:UInt8→Bs) {s:Bs} {i:Nat} (h:i<s.length):(s.take (i+1)).flatMap f=(s.take i).flatMap f++f (s.getD i 0):=by
 rw [cS_ 0 h,List.flatMap_append];simp
def oK_ (c:UInt8):Bs:=if c=34∨c=92 then [92,c] else [c]
theorem jG_ (c:UInt8):(oK_ c).length≤2:=by unfold oK_;split<;>simp
def iA_ (s:Bs):Bs:=34::s.flatMap oK_++[34]
theorem hn_ (s:Bs):(iA_ s).length≤2*s.length+2:=by
 have:=gu_ oK_ jG_ s
 simp only [iA_,List.cons_append,List.length_cons,List.length_append,List.length_nil];omega
theorem q2 (o:Bs) (c:UInt8):bi (34::(o++[92,c]))=(bi (34::o)++[92])++[((c.toNat:Nat):Int)]:=by simp [bi]
theorem q1 (o:Bs) (c:UInt8):bi (34::(o++[c]))=bi (34::o)++[((c.toNat:Nat):Int)]:=by simp [bi]
theorem qEnd (o:Bs):so_ (bi (34::o)++[34])=34::o++[34]:=by
 have:bi (34::o)++[34]=bi (34::o++[34]):=by simp [bi]
 rw [this,toBs_bi]
theorem h4_ {s:Bs} (hs:s.length≤1000000):Ev (fun n _=>bl_ n s) (iA_ s):=by
 refine aq_ ?_
 have ht:s.length≤bO_:=by simp only [bO_];omega
 simp only [bl_]
 have:=eC_ (fun i=>bi (34::(s.take i).flatMap oK_)) s.length (fun n N i (o:List Int)=>bl_.loop4 n (fun xy1=>(bv_ (xy1.length+([34]:List Int).length) 1 (some (so_ (xy1++([34]:List Int)))))) N s (i:Int) o) (iA_ s) (fun i hi F hF => ?_) ?_
 · exact this
 · have hl:=gu_ oK_ jG_ (s.take i)
   rw [List.length_take] at hl
   rw [pE_ oK_ hi] at hF
   generalize (s.take i).flatMap oK_=o at hF hl ⊢
   have hb:=pT_ (34::o)
   simp only [List.length_cons] at hb
   simp only [bl_.turn4,bl_.step4,Int.toNat_natCast,W_up hi ht,an_,bk_,bi_,cy_ hi,cc_ hi,byte34,byte92]
   generalize s.getD i 0=c at hF ⊢
   unfold oK_ at hF
   by_cases h1:c=34
   · rw [if_pos (.inl h1),q2] at hF
     simp only [h1,decide_true] at hF ⊢
     repeat' (first|apply And.intro|intro _)
     all_goals (first|contradiction|exact hF|trivial|(simp [hb];omega))
   · by_cases h2:c=92
     · rw [if_pos (.inr h2),q2] at hF
       simp only [h2,decide_true] at hF ⊢
       repeat' (first|apply And.intro|intro _)
       all_goals (first|contradiction|exact hF|trivial|(simp [hb];omega))
     · rw [if_neg (fun h=>h.elim h1 h2),q1] at hF
       simp only [h1,h2,decide_false] at hF ⊢
       repeat' (first|apply And.intro|intro _)
       all_goals (first|contradiction|exact hF|trivial|(simp [hb];omega))
 · have hl:=gu_ oK_ jG_ s
   have hb:=pT_ (34::s.flatMap oK_)
   simp only [List.length_cons] at hb
   simp only [bl_.turn4,bl_.step4,b8_,cond_false,bi_,List.take_length,ac_,qEnd]
   exact ⟨by simp only [hb,List.length_cons,List.length_nil];omega,rfl⟩
theorem i7_ {s:Bs} (hs:s.length≤1000000):Ev (fun n _=>bN_ n s) (iA_ s):=by
 refine aq_ ?_
 have ht:s.length≤bO_:=by simp only [bO_];omega
 simp only [bN_]
 have:=eC_ (fun i=>bi (34::(s.take i).flatMap oK_)) s.length (fun n N i (o:List Int)=>bN_.loop4 n (fun xy1=>(bv_ (xy1.length+([34]:List Int).length) 1 (some (so_ (xy1++([34]:List Int)))))) N s (s.length:Int) (i:Int) o) (iA_ s) (fun i hi F hF => ?_) ?_
 · exact this
 · have hl:=gu_ oK_ jG_ (s.take i)
   rw [List.length_take] at hl
   rw [pE_ oK_ hi] at hF
   generalize (s.take i).flatMap oK_=o at hF hl ⊢
   have hb:=pT_ (34::o)
   simp only [List.length_cons] at hb
   simp only [bN_.turn4,bN_.step4,Int.toNat_natCast,W_up hi ht,an_,bk_,bi_,cy_ hi,cc_ hi,byte34,byte92]
   generalize s.getD i 0=c at hF ⊢
   unfold oK_ at hF
   by_cases h1:c=34
   · rw [if_pos (.inl h1),q2] at hF
     simp only [h1,decide_true] at hF ⊢
     repeat' (first|apply And.intro|intro _)
     all_goals (first|contradiction|exact hF|trivial|(simp [hb];omega))
   · by_cases h2:c=92
     · rw [if_pos (.inr h2),q2] at hF
       simp only [h2,decide_true] at hF ⊢
       repeat' (first|apply And.intro|intro _)
       all_goals (first|contradiction|exact hF|trivial|(simp [hb];omega))
     · rw [if_neg (fun h=>h.elim h1 h2),q1] at hF
       simp only [h1,h2,decide_false] at hF ⊢
       repeat' (first|apply And.intro|intro _)
       all_goals (first|contradiction|exact hF|trivial|(simp [hb];omega))
 · have hl:=gu_ oK_ jG_ s
   have hb:=pT_ (34::s.flatMap oK_)
   simp only [List.length_cons] at hb
   simp only [bN_.turn4,bN_.step4,b8_,cond_false,bi_,List.take_length,ac_,qEnd]
   exact ⟨by simp only [hb,List.length_cons,List.length_nil];omega,rfl⟩
end Go.Pi
end
section
namespace Go.Pi
theorem iO_ (a b:UInt8) (l:Bs):Lib.index (b::l) [a]=if a=b then 0 else if Lib.index l [a] = -1 then -1 else Lib.index l [a]+1:=by
 rw [Lib.index]
 have:List.isPrefixOf [a] (b::l)=decide (a=b):=by
  simp only [List.isPrefixOf,Bool.and_true]
  exact Bool.eq_iff_iff.2 (by simp)
 rw [this]
 by_cases h:a=b
 · rw [decide_eq_true h,if_pos rfl,if_pos h]
 · rw [decide_eq_false h,if_neg (by simp),if_neg h]
   by_cases h2:Lib.index l [a] = -1
   · rw [h2,if_pos rfl,if_pos (by decide)]
   · rw [if_neg h2,if_neg (by simpa using h2)]
theorem qn_ {a b:UInt8} (h:a≠b) (new l:Bs):∀ k,Lib.replaceK [a] new k (b::l)=b::Lib.replaceK [a] new k l
 |0=>rfl
 |k+1=>by
  rw [Lib.replaceK,Lib.replaceK,iO_,if_neg h]
  by_cases h2:Lib.index l [a] = -1
  · rw [if_pos h2,if_pos (by decide),h2,if_pos (by decide)]
  · have:=Lib.index_ge l [a]
    obtain ⟨i,hi⟩:∃ i:Nat,Lib.index l [a]=i:=⟨(Lib.index l [a]).toNat,by omega⟩
    rw [if_neg h2,if_neg (by rw [hi];simp<;>omega),if_neg (by rw [hi];simp<;>omega),hi,show ((i:Int)+1).toNat=i+1 by omega,show ((i:Int)).toNat=i by omega]
    rfl
theorem qo_ (a:UInt8) (new l:Bs) (k:Nat):Lib.replaceK [a] new (k+1) (a::l)=new++Lib.replaceK [a] new k l:=by
 rw [Lib.replaceK,iO_,if_pos rfl,if_neg (by decide)]
 rfl
theorem ie_ (a:UInt8) (new:Bs):∀ (s:Bs) (k:Nat),s.count a≤k→Lib.replaceK [a] new k s=s.flatMap fun c=>if c=a then new else [c]
 |[],0,_=>rfl
 |[],k+1,_=>by
  rw [Lib.replaceK]
  have:Lib.index [] [a] = -1:=rfl
  rw [this,if_pos (by decide)];rfl
 |b::l,k,h=>by
  by_cases e:b=a
  · subst e
    rw [List.count_cons_self] at h
    obtain ⟨k,rfl⟩:∃ m,k=m+1:=⟨k - 1,by omega⟩
    rw [qo_,ie_ b new l k (by omega),List.flatMap_cons,if_pos rfl]
  · rw [List.count_cons_of_ne e] at h
    rw [qn_ (fun h=>e h.symm),ie_ a new l k h,List.flatMap_cons,if_neg e];rfl
theorem hC_ (a:UInt8):∀ (s:Bs) (f:Nat),s.length<f→Lib.countFrom [a] f s=s.count a
 |[],f+1,_=>by
  rw [Lib.countFrom]
  have:Lib.index [] [a] = -1:=rfl
  rw [this,if_pos (by decide)];rfl
 |b::l,f+1,h=>by
  have hl:l.length<f:=by simpa using h
  by_cases e:a=b
  · subst e
    rw [List.count_cons_self,Lib.countFrom,iO_,if_pos rfl,if_neg (by decide)]
    show 1+Lib.countFrom [a] f l=_
    rw [hC_ a l f hl];omega
  · rw [List.count_cons_of_ne (fun h=>e h.symm),←hC_ a l (f+1) (by omega),Lib.countFrom,Lib.countFrom,iO_,if_neg e]
    by_cases h2:Lib.index l [a] = -1
    · rw [if_pos h2,if_pos (by decide),h2,if_pos (by decide)]
    · have:=Lib.index_ge l [a]
      obtain ⟨i,hi⟩:∃ i:Nat,Lib.index l [a]=i:=⟨(Lib.index l [a]).toNat,by omega⟩
      rw [if_neg h2,if_neg (by rw [hi];simp<;>omega),if_neg (by rw [hi];simp<;>omega),hi,show ((i:Int)+1).toNat=i+1 by omega,show ((i:Int)).toNat=i by omega]
      rfl
theorem pN_ (a:UInt8) (s:Bs):Lib.count s [a]=s.count a:=hC_ a s _ (Nat.lt_succ_self _)
theorem mJ_ (a:UInt8) (new s:Bs) (hne:([a] == new)=false):Lib.replaceAll s [a] new=s.flatMap fun c=>if c=a then new else [c]:=by
 unfold Lib.replaceAll Lib.replace Lib.replaceNum
 rw [hne,if_neg (by simp),if_pos (.inl (by decide)),pN_]
 exact ie_ a new s _ (Nat.le_refl _)
theorem j1_ {a b c:UInt8} {s:Bs} (hs:s.length≤1000000) (hne:([a] == [b,c])=false):Ev (fun n _=>strings_ReplaceAll n s [a] [b,c]) (s.flatMap fun x=>if x=a then [b,c] else [x]):=by
 refine aq_ ?_
 have:=List.count_le_length (a:=a) (l:=s)
 simp only [strings_ReplaceAll,hw_,pN_,mJ_ a [b,c] s hne,an_,ac_,c1_]
 refine ⟨fun _=>trivial,fun h => ?_⟩
 have e1:decide (s.length<4294967281)=true:=decide_eq_true (by omega)
 have e2:decide (1≤[a].length)=true:=rfl
 have e3:decide (s.length+List.count a s*[b,c].length≤140737488355328)=true:=decide_eq_true (by simp only [List.length_cons,List.length_nil];omega)
 rw [e1,e2,e3] at h;cases h
def ri_ (c:UInt8):Bs:=if c=126 then [126,48] else if c=47 then [126,49] else [c]
theorem rh_ (c:UInt8):(ri_ c).length≤2:=by
 unfold ri_
 split
 · simp
 · split<;>simp
theorem wesc_two (s:Bs):((s.flatMap fun x=>if x=126 then [126,48] else [x]).flatMap fun x=>if x=47 then [126,49] else [x])=s.flatMap ri_:=by
 induction s with
 |nil=>rfl
 |cons c s ih=>
  rw [List.flatMap_cons,List.flatMap_append,ih,List.flatMap_cons]
  congr 1
  unfold ri_
  by_cases h1:c=126
  · subst h1;rfl
  · by_cases h2:c=47
    · subst h2;rfl
    · rw [if_neg h1,if_neg h1,if_neg h2];simp [h2]
def FWay (w:List Bs):Bs:=w.flatMap fun s=>47::s.flatMap ri_
theorem rj_ {w:List Bs} {i:Nat} (h:i<w.length):FWay (w.take (i+1))=FWay (w.take i)++(47::(w.getD i []).flatMap ri_):=by
 unfold FWay
 rw [cS_ [] h,List.flatMap_append];simp
theorem oF_ {w:List Bs} {c:Nat} (h:∀ s ∈ w,s.length≤c):(FWay w).length≤w.length*(2*c+1):=by
 induction w with
 |nil=>exact Nat.zero_le _
 |cons s w ih=>
  have h1:=gu_ ri_ rh_ s
  have h2:=h s (List.mem_cons_self ..)
  have h3:=ih fun x hx=>h x (List.mem_cons_of_mem _ hx)
  have e:FWay (s::w)=(47::s.flatMap ri_)++FWay w:=rfl
  rw [e,List.length_append,List.length_cons,List.length_cons,Nat.add_mul];omega
theorem rn_ {w:List Bs} {c:Nat} (h:∀ s ∈ w,s.length≤c) (i:Nat):∀ s ∈ w.take i,s.length≤c:=fun s hs=>h s (List.mem_of_mem_take hs)
theorem l5_ {w:List Bs} (hw:w.length≤6) (hs:∀ s ∈ w,s.length≤60):Ev (fun n _=>bP_ n w) (FWay w):=by
 refine aq_ ?_
 have ht:w.length≤bO_:=by simp only [bO_];omega
 simp only [bP_]
 have:=eC_ (fun i=>FWay (w.take i)) w.length (fun n N i (o:Bs)=>bP_.loop4 n (fun xy3=>(some xy3)) N o w (w.length:Int) (i:Int)) (FWay w) (fun i hi F hF => ?_) ?_
 · exact this
 · have h1:=hs _ (aZ_ [] hi)
   have h2:=gu_ ri_ rh_ (w.getD i [])
   have h3:=oF_ (rn_ hs i)
   rw [List.length_take] at h3
   rw [rj_ hi] at hF
   have r1:=j1_ (a:=126) (b:=126) (c:=48) (s:=w.getD i []) (by omega) (by decide)
   have h4:=gu_ (fun x=>if x=126 then [126,48] else [x]) (fun c=>by split<;>simp) (w.getD i [])
   have r2:=j1_ (a:=47) (b:=126) (c:=49) (s:=(w.getD i []).flatMap fun x=>if x=126 then [126,48] else [x]) (by omega) (by decide)
   rw [wesc_two] at r2
   generalize FWay (w.take i)=o at hF h3 ⊢
   simp only [bP_.turn4,bP_.step4,Int.toNat_natCast,W_up hi ht,an_,bk_,c1_,cy_ hi,cc_ hi,ab_ r1,ab_ r2]
   generalize (w.getD i []).flatMap ri_=e at hF h2 ⊢
   have e2:([47]:Bs)++e=47::e:=rfl
   rw [e2]
   refine ⟨fun _=>⟨trivial,fun _=>⟨fun _=>hF,fun h => ?_⟩,fun h => ?_⟩,fun h=>(by cases h)⟩
   · have h:=of_decide_eq_false h
     simp only [List.length_cons] at h;omega
   · have h:=of_decide_eq_false h
     simp only [List.length_cons,List.length_nil] at h;omega
 · simp only [bP_.turn4,bP_.step4,b8_,cond_false,List.take_length,ac_]
theorem nn_ {α:Type} {i len:Nat} {x:Option α} (h:i<len):inB (i:Int) len x=x:=by
 unfold inB
 rw [decide_eq_true (by omega),decide_eq_true (by omega)];rfl
theorem nW_ {α:Type} {n b:Nat} {x:Option α} (h:n*b≤140737488355328):bv_ n b x=x:=by
 unfold bv_
 rw [decide_eq_true h];rfl
theorem ev_of_ge {α:Type} {f g:Nat→Nat→Option α} {v:α} (M:Nat) (h:∀ n N,M≤n→f n N=g n N) (hg:Ev g v):Ev f v:=by
 obtain ⟨M',hM⟩:=hg
 exact ⟨max M M',fun n N h1 h2=>by rw [h n N (by omega)];exact hM n N (by omega) (by omega)⟩
theorem oO_ (n:Nat) (k2:List Bs→Int→List Int→Option Bs) {w:List Bs} {i:Nat} (hi:i<w.length) (hl:(w.getD i []).length≤1000000):∀ (d j m:Nat) (o:List Int),j+d=(w.getD i []).length→d<m→o.length+2*d≤100000000 →
  aD_.loop10 n k2 m w (i:Int) (j:Int) o=k2 w (i:Int) (o++bi (((w.getD i []).drop j).flatMap ri_))
 |0,j,m+1,o,hj,_,_=>by
  have e:(j:Int)=((w.getD i []).length:Int):=by omega
  have e2:(w.getD i []).drop j=[]:=List.drop_eq_nil_of_le (by omega)
  rw [aD_.turn10,aD_.step10,Int.toNat_natCast,nn_ hi,e,b8_,e2]
  simp [bi]
 |d+1,j,m+1,o,hj,hm,ho=>by
  have hjl:j<(w.getD i []).length:=by omega
  have ih:=fun o=>oO_ n k2 hi hl d (j+1) m o (by omega) (by omega)
  have e1:(w.getD i []).drop j=(w.getD i []).getD j 0::(w.getD i []).drop (j+1):=fE_ 0 hjl
  rw [aD_.turn10,aD_.step10,Int.toNat_natCast,Int.toNat_natCast,nn_ hi,nn_ hi,nn_ hi,nn_ hjl,nn_ hjl,cy_ hjl,W_up hjl (show (w.getD i []).length≤bO_ by simp only [bO_];omega),byte126,byte47,e1,List.flatMap_cons,bi_app,←List.append_assoc]
  generalize (w.getD i []).getD j 0=c
  rw [nW_ (by simp;omega),nW_ (by simp;omega),nW_ (by simp;omega)]
  unfold ri_
  by_cases h1:c=126
  · rw [decide_eq_true h1,if_pos h1]
    exact ih _ (by simp;omega)
  · by_cases h2:c=47
    · rw [decide_eq_false h1,decide_eq_true h2,if_neg h1,if_pos h2]
      exact ih _ (by simp;omega)
    · rw [decide_eq_false h1,decide_eq_false h2,if_neg h1,if_neg h2]
      exact ih _ (by simp;omega)
theorem ln_ {w:List Bs} (hw:w.length≤6) (hs:∀ s ∈ w,s.length≤60):Ev (fun n _=>aD_ n w) (FWay w):=by
 refine aq_ ?_
 have ht:w.length≤bO_:=by simp only [bO_];omega
 simp only [aD_]
 have:=eC_ (fun i=>bi (FWay (w.take i))) w.length (fun n N i (o:List Int)=>aD_.loop4 n (fun xy4=>(some (so_ xy4))) N w (i:Int) o) (FWay w) (fun i hi F hF => ?_) ?_
 · exact this
 · have h1:=hs _ (aZ_ [] hi)
   have h3:=oF_ (rn_ hs i)
   rw [List.length_take] at h3
   rw [rj_ hi] at hF
   generalize FWay (w.take i)=o at hF h3 ⊢
   have hb:=pT_ o
   simp only [aD_.turn4,aD_.step4,cy_ hi,cond_true,bi_]
   refine ⟨by simp [hb];omega,ev_of_ge 61 (fun n N hn=>oO_ n _ hi (by omega) (w.getD i []).length 0 n _ (by omega) (by omega) (by simp only [hb,List.length_append,List.length_cons,List.length_nil];omega)) ?_⟩
   simp only [W_up hi ht,List.drop_zero]
   have e:bi (o++47::(w.getD i []).flatMap ri_)=bi o++([47]:List Int)++bi ((w.getD i []).flatMap ri_):=by simp [bi]
   rw [e] at hF
   exact hF
 · simp only [aD_.turn4,aD_.step4,b8_,cond_false,List.take_length,ac_,toBs_bi]
end Go.Pi
end
section
namespace Go.Pi
def digs (u:Nat):Bs:=if u=0 then [] else Lib.decDigits u
theorem digs_step {u:Nat} (h:u≠0):digs u=digs (u / 10)++[UInt8.ofNat (48+u % 10)]:=by
 unfold digs
 rw [if_neg h,Lib.decDigits]
 by_cases h1:u<10
 · rw [dif_pos h1,if_pos (by omega),Nat.mod_eq_of_lt h1];rfl
 · rw [dif_neg h1,if_neg (by omega)]
theorem r1_ {d:Nat} (h:d<10):so_ ([(IntKind.u8.wrap (W (48+(d:Int))))]:List Int)=[UInt8.ofNat (48+d)]:=by
 have e1:W (48+(d:Int))=((48+d:Nat):Int):=by rw [W_id (by omega) (by omega)];omega
 rw [e1]
 have e2:IntKind.u8.wrap (((48+d:Nat):Int))=((48+d:Nat):Int):=by
  have:d=0∨d=1∨d=2∨d=3∨d=4∨d=5∨d=6∨d=7∨d=8∨d=9:=by omega
  rcases this with rfl|rfl|rfl|rfl|rfl|rfl|rfl|rfl|rfl|rfl<;>rfl
 rw [e2]
 rfl
theorem ez_ {x:Int} (h0 : -9223372036854775808≤x) (h1:x≤9223372036854775807):Ev (fun n _=>a0_ n x) (Lib.itoa x):=by
 refine aq_ ?_
 simp only [a0_,an_,ac_]
 refine ⟨fun h => ?_,fun h => ?_⟩
 · have:x=0:=by simpa using h
   subst this
   unfold Lib.itoa
   rw [if_neg (by decide)]
   show _=Lib.decDigits 0
   rw [Lib.decDigits_one (by decide)];rfl
 have hx0:x≠0:=by simpa using h
 have key:∀ (k:Nat) (y:Int) (out:Bs),y.natAbs<10 ^ k → -9223372036854775808≤y→y≤9223372036854775807→out.length+k≤100 →
   Ev (fun n N=>a0_.loop7 n (fun xy3 xy4=>(cond xy3 (cond (decide ([45].length+xy4.length≤9223372036854775807)) (some (([45]:Bs)++xy4)) none) (some xy4))) N y (decide (x<0)) out) (cond (decide (x<0)) ([45]++(digs y.natAbs++out)) (digs y.natAbs++out)):=by
  intro k
  induction k with
  |zero=>
   intro y out hy _ _ ho
   have:y=0:=by simp at hy;omega
   subst this
   refine cx_ ?_
   simp only [a0_.turn7,a0_.step7,bne_self_eq_false,cond_false,an_,ac_,c1_]
   refine ⟨fun hb=>⟨fun _=>by rw [hb];rfl,fun hc=>by have:=of_decide_eq_false hc;simp at this;omega⟩,fun hb=>by rw [hb];rfl⟩
  |succ k ih=>
   intro y out hy hy0 hy1 ho
   by_cases hz:y=0
   · subst hz
     refine cx_ ?_
     simp only [a0_.turn7,a0_.step7,bne_self_eq_false,cond_false,an_,ac_,c1_]
     refine ⟨fun hb=>⟨fun _=>by rw [hb];rfl,fun hc=>by have:=of_decide_eq_false hc;simp at this;omega⟩,fun hb=>by rw [hb];rfl⟩
   · have hm:(Int.tmod y 10).natAbs=y.natAbs % 10:=by rw [Int.natAbs_tmod];rfl
     have hd:(Int.tdiv y 10).natAbs=y.natAbs / 10:=by rw [Int.natAbs_tdiv];rfl
     have hW:W (Int.tdiv y 10)=Int.tdiv y 10:=W_id (by omega) (by omega)
     have hlt:y.natAbs % 10<10:=Nat.mod_lt _ (by decide)
     have hdl:(Int.tdiv y 10).natAbs<10 ^ k:=by rw [hd];rw [Nat.pow_succ] at hy;omega
     have hrec:=ih (Int.tdiv y 10) ([UInt8.ofNat (48+y.natAbs % 10)]++out) hdl (by omega) (by omega) (by simp;omega)
     have hdig:digs (Int.tdiv y 10).natAbs++([UInt8.ofNat (48+y.natAbs % 10)]++out)=digs y.natAbs++out:=by rw [hd,digs_step (show y.natAbs≠0 by omega),List.append_assoc]
     rw [hdig] at hrec
     have hne:(y != 0)=true:=by simpa using hz
     refine cx_ ?_
     simp only [a0_.turn7,a0_.step7,hne,cond_true,an_,c1_,hW]
     refine ⟨fun hneg => ?_,fun hneg => ?_⟩
     · have hneg:=of_decide_eq_true hneg
       have e:W (0 - Int.tmod y 10)=((y.natAbs % 10:Nat):Int):=by rw [W_id (by omega) (by omega)];omega
       rw [e,r1_ hlt]
       exact ⟨fun _=>hrec,fun hc=>by have:=of_decide_eq_false hc;simp at this;omega⟩
     · have hneg:=of_decide_eq_false hneg
       have e:Int.tmod y 10=((y.natAbs % 10:Nat):Int):=by omega
       rw [e,r1_ hlt]
       exact ⟨fun _=>hrec,fun hc=>by have:=of_decide_eq_false hc;simp at this;omega⟩
 have hfin:=key 19 x [] (by omega) h0 h1 (by simp)
 have hv:Lib.itoa x=cond (decide (x<0)) ([45]++(digs x.natAbs++[])) (digs x.natAbs++[]):=by
  unfold Lib.itoa digs
  rw [if_neg (show x.natAbs≠0 by omega)]
  by_cases hn:x<0
  · rw [if_pos hn,decide_eq_true hn];simp
  · rw [if_neg hn,decide_eq_false hn,cond_false,List.append_nil,show x.toNat=x.natAbs by omega]
 rw [hv]
 exact fb_ hfin
theorem mq_ {x:Int} (h0 : -9223372036854775808≤x) (h1:x≤9223372036854775807):Ev (fun n _=>strconv_Itoa n x) (Lib.itoa x) :=
 aq_ (by simp only [strconv_Itoa,nItoa,an_,ac_,c1_];exact ⟨fun _=>trivial,fun h=>by simp at h;omega⟩)
end Go.Pi
end
section
namespace Go.Pi
theorem join_snoc (x sep:Bs):∀ l:List Bs,Lib.join (l++[x]) sep=if l=[] then x else Lib.join l sep++sep++x
 |[]=>by rw [if_pos rfl];exact Lib.join_one x sep
 |y::l=>by
  rw [if_neg (by simp),List.cons_append,Lib.join_cons,Lib.join_cons]
  simp [Lib.joinTail]
theorem rp_ {α:Type} (f:α→Nat):∀ a b:List α,hP_ f (a++b)=hP_ f a+hP_ f b
 |[],b=>by simp [hP_]
 |x::a,b=>by simp only [List.cons_append,hP_,rp_ f a b];omega
theorem ro_ {α:Type} (f:α→Nat) (h:∀ x,1≤f x):∀ a:List α,a.length≤hP_ f a
 |[]=>Nat.le_refl _
 |x::a=>by have:=ro_ f h a;have:=h x;simp only [hP_,List.length_cons];omega
theorem FSize_pos:∀ (d:Nat) (j:aa_),1≤cd_ d j
 |0,_=>by simp only [cd_];omega
 |d+1,j=>by
  simp only [cd_]
  cases FOwn j<;>simp only [cond_true,cond_false]<;>omega
theorem j2_ {s:Bs} (h:hm_ s=true):s.length≤60:=by
 unfold hm_ at h
 rw [Bool.and_eq_true] at h
 have:=of_decide_eq_true h.2;omega
theorem ks_ {l:List Bs} (h:iB_ l=true) {i:Nat} (hi:i<l.length):(l.getD i []).length≤60:=by
 have:=cH_.1 h i hi
 rw [Bool.and_eq_true] at this
 exact j2_ this.1
structure Own (j:aa_):Prop where
 kind:j.kind=0∨j.kind=1∨j.kind=2∨j.kind=3∨j.kind=4∨j.kind=5
 list:j.kind≠4→j.kind≠5→j.list=[]
 bool:j.kind=1→0≤j.n_∧j.n_≤1
 num:j.kind=2 → -1000000000≤j.n_∧j.n_≤1000000000
 text:j.kind=3→j.s.length≤60
 obj:j.kind=5→j.names.length=j.list.length∧iB_ j.names=true
theorem FOwn_own {j:aa_} (h:FOwn j=true):Own j:=by
 unfold FOwn rd_ at h
 simp only [Bool.and_eq_true,Bool.or_eq_true] at h
 obtain ⟨h1,h2,h3,h4,h5⟩:=h
 refine ⟨?_,fun k4 k5 => ?_,fun hk => ?_,fun hk => ?_,fun hk => ?_,fun hk => ?_⟩
 · rcases lT_ j.kind with hk|hk|hk|hk|hk|hk|⟨k0,k1,k2,k3,k4,k5⟩
   · exact .inl hk
   · exact .inr (.inl hk)
   · exact .inr (.inr (.inl hk))
   · exact .inr (.inr (.inr (.inl hk)))
   · exact .inr (.inr (.inr (.inr (.inl hk))))
   · exact .inr (.inr (.inr (.inr (.inr hk))))
   · simp only [beq_eq_false_iff_ne.2 k0,beq_eq_false_iff_ne.2 k1,beq_eq_false_iff_ne.2 k2,beq_eq_false_iff_ne.2 k3,beq_eq_false_iff_ne.2 k4,beq_eq_false_iff_ne.2 k5,cond_false,Bool.or_false] at h5
     cases h5
 · rcases h1 with h1|h1|h1
   · exact List.eq_nil_of_length_eq_zero (of_decide_eq_true h1)
   · exact absurd (by simpa using h1) k4
   · exact absurd (by simpa using h1) k5
 · simp only [hk,Int.reduceBEq,cond_true,cond_false] at h5;exact e0_ h5
 · simp only [hk,Int.reduceBEq,cond_true,cond_false] at h5;exact e0_ h5
 · simp only [hk,Int.reduceBEq,cond_true,cond_false] at h5;exact j2_ h5
 · simp only [hk,Int.reduceBEq,cond_true,cond_false,Bool.and_eq_true] at h5
   exact ⟨by have:=h5.1;simp at this;omega,h5.2⟩
def hc_ (enc:aa_→Bs) (j:aa_) (i:Nat):Bs:=cond (j.kind == 5) (iA_ (j.names.getD i [])++([58]++enc (j.list.getD i aa_.dflt))) (enc (j.list.getD i aa_.dflt))
def hL_ (enc:aa_→Bs) (j:aa_) (m:Nat):Bs:=Lib.join ((List.range m).map (hc_ enc j)) [44]
def FEnc:Nat→aa_→Bs
 |0,_=>[]
 |d+1,j=>cond (j.kind == 0) [110,117,108,108] (cond (j.kind == 1) (cond (j.n_ == 1) [116,114,117,101] [102,97,108,115,101]) (cond (j.kind == 2) (Lib.itoa j.n_) (cond (j.kind == 3) (iA_ j.s)
   (cond (j.kind == 5) ([123]++hL_ (FEnc d) j j.list.length++[125]) ([91]++hL_ (FEnc d) j j.list.length++[93])))))
theorem j3_ (enc:aa_→Bs) (j:aa_):hL_ enc j 1=hc_ enc j 0:=Lib.join_one _ _
theorem iV_ (enc:aa_→Bs) (j:aa_) {m:Nat} (h:0<m):hL_ enc j (m+1)=hL_ enc j m++[44]++hc_ enc j m:=by
 unfold hL_
 rw [List.range_succ,List.map_append,List.map_cons,List.map_nil,join_snoc,if_neg]
 intro e
 have:=congrArg List.length e
 simp at this;omega
theorem fi_ {d:Nat} {j:aa_} (h:cd_ (d+1) j≤400):Own j∧cd_ (d+1) j=1+hP_ (cd_ d) j.list:=by
 simp only [cd_] at h ⊢
 cases ho:FOwn j with
 |false=>rw [ho,cond_false] at h;omega
 |true=>
  rw [ho,cond_true] at h
  exact ⟨FOwn_own ho,by rw [cond_true];omega⟩
theorem enc_len:∀ (d:Nat) (j:aa_),cd_ d j≤400→(FEnc d j).length+150≤300*cd_ d j
 |0,j,h=>by simp only [cd_] at h;omega
 |d+1,j,h=>by
  obtain ⟨ho,hs⟩:=fi_ h
  have hJ:∀ m,m≤j.list.length→(hL_ (FEnc d) j m).length≤300*hP_ (cd_ d) (j.list.take m):=by
   intro m
   induction m with
   |zero=>intro _;exact Nat.zero_le _
   |succ m ih=>
    intro hm
    have hi:m<j.list.length:=by omega
    have h1:=ih (by omega)
    have h2:=lh_ (cd_ d) (aZ_ aa_.dflt hi)
    have h3:=enc_len d (j.list.getD m aa_.dflt) (by omega)
    have h4:(hc_ (FEnc d) j m).length≤123+(FEnc d (j.list.getD m aa_.dflt)).length:=by
     unfold hc_
     cases hk:(j.kind == 5) with
     |false=>rw [cond_false];omega
     |true=>
      obtain ⟨e1,e2⟩:=ho.obj (by simpa using hk)
      have:=ks_ e2 (i:=m) (by omega)
      have:=hn_ (j.names.getD m [])
      rw [cond_true];simp only [List.length_append,List.length_cons,List.length_nil];omega
    rw [cS_ aa_.dflt hi,rp_]
    simp only [hP_,Nat.mul_add]
    by_cases h0:m=0
    · subst h0;rw [j3_];omega
    · rw [iV_ _ _ (by omega)];simp only [List.length_append,List.length_cons,List.length_nil];omega
  have hL:=hJ j.list.length (Nat.le_refl _)
  rw [List.take_length] at hL
  rw [hs]
  rcases ho.kind with hk|hk|hk|hk|hk|hk
  · simp only [FEnc,hk,Int.reduceBEq,cond_true,cond_false,List.length_cons,List.length_nil];omega
  · simp only [FEnc,hk,Int.reduceBEq,cond_true,cond_false]
    cases (j.n_ == 1)<;>simp only [cond_true,cond_false,List.length_cons,List.length_nil]<;>omega
  · have:=ho.num hk
    have:=Lib.itoa_length_le j.n_ (by omega) (by omega)
    simp only [FEnc,hk,Int.reduceBEq,cond_true,cond_false];omega
  · have:=ho.text hk
    have:=hn_ j.s
    simp only [FEnc,hk,Int.reduceBEq,cond_true,cond_false];omega
  · simp only [FEnc,hk,Int.reduceBEq,cond_true,cond_false,List.length_append,List.length_cons,List.length_nil];omega
  · simp only [FEnc,hk,Int.reduceBEq,cond_true,cond_false,List.length_append,List.length_cons,List.length_nil];omega
structure Part (d:Nat) (j:aa_) (i:Nat):Prop where
 size:cd_ d (j.list.getD i aa_.dflt)≤400
 enc:(FEnc d (j.list.getD i aa_.dflt)).length≤120000
 name:j.kind=5→i<j.names.length∧(j.names.getD i []).length≤60
theorem lH_ {d:Nat} {j:aa_} (h:cd_ (d+1) j≤400) {i:Nat} (hi:i<j.list.length):Part d j i:=by
 obtain ⟨ho,hs⟩:=fi_ h
 have h2:=lh_ (cd_ d) (aZ_ aa_.dflt hi)
 have h3:=enc_len d (j.list.getD i aa_.dflt) (by omega)
 exact ⟨by omega,by omega,fun hk=>⟨by have:=(ho.obj hk).1;omega,ks_ (ho.obj hk).2 (by have:=(ho.obj hk).1;omega)⟩⟩
theorem oh_ {d:Nat} {j:aa_} (h:cd_ (d+1) j≤400):∀ m,m≤j.list.length→(hL_ (FEnc d) j m).length≤m*120200:=by
 intro m
 induction m with
 |zero=>intro _;exact Nat.zero_le _
 |succ m ih=>
  intro hm
  have hp:=lH_ h (i:=m) (by omega)
  have h1:=ih (by omega)
  have h4:(hc_ (FEnc d) j m).length≤123+120000:=by
   have:=hp.enc
   unfold hc_
   cases hk:(j.kind == 5) with
   |false=>rw [cond_false];omega
   |true=>
    have:=(hp.name (by simpa using hk)).2
    have:=hn_ (j.names.getD m [])
    rw [cond_true];simp only [List.length_append,List.length_cons,List.length_nil];omega
  by_cases h0:m=0
  · subst h0;rw [j3_];omega
  · rw [iV_ _ _ (by omega)];simp only [List.length_append,List.length_cons,List.length_nil];omega
theorem iM_ {d:Nat} {j:aa_} (h:cd_ (d+1) j≤400):j.list.length≤400:=by
 have:=(fi_ h).2
 have:=ro_ (cd_ d) (FSize_pos d) j.list
 omega
end Go.Pi
end
section
namespace Go.Pi
theorem hQ_:∀ (d:Nat) (j:aa_),cd_ d j≤400→Ev (fun n _=>aP_ n j) (FEnc d j)
 |0,j,h=>by simp only [cd_] at h;omega
 |d+1,j,h=>by
  have ho:=(fi_ h).1
  have hll:=iM_ h
  refine aq_ ?_
  have hloop:(j.kind=4∨j.kind=5)→∀ (K:Nat→Bs→Int→Int→Bs→List aa_→List Bs→Option Bs) (v:Bs),Ev (fun n N=>K n (hL_ (FEnc d) j j.list.length) j.kind j.n_ j.s j.list j.names) v→Ev (fun n _=>aP_.loop17 n (aP_ n) (K n) n [] 0 j.kind j.n_ j.s j.list j.names) v:=by
   intro hk45 K v hK
   refine eC_ (fun i=>hL_ (FEnc d) j i) j.list.length (fun n N i (o:Bs)=>aP_.loop17 n (aP_ n) (K n) N o (i:Int) j.kind j.n_ j.s j.list j.names) v (fun i hi F hF => ?_) ?_
   · have hp:=lH_ h hi
     have hx:=hQ_ d (j.list.getD i aa_.dflt) hp.size
     have hjl:=oh_ h i (by omega)
     have he:=hp.enc
     have hW:=W_up hi (show j.list.length≤bO_ by simp only [bO_];omega)
     rcases hk45 with hk|hk
     · have h5:(j.kind == 5)=false:=by rw [hk];rfl
       by_cases h0:i=0
       · have hg:decide ((i:Int) > 0)=false:=decide_eq_false (by omega)
         have e0:hL_ (FEnc d) j i=[]:=by rw [h0];rfl
         have e1:hL_ (FEnc d) j (i+1)=hc_ (FEnc d) j i:=by rw [h0];exact j3_ _ _
         rw [e1] at hF
         unfold hc_ at hF
         rw [h5,cond_false] at hF
         simp only [e0,aP_.turn17,aP_.step17,bp_,Int.toNat_natCast,hW,h5,hg,reduceCtorEq,false_implies,true_implies,true_and,and_true,an_,bk_,c1_,cy_ hi,cc_ hi,ab_ hx,List.nil_append]
         generalize FEnc d (j.list.getD i aa_.dflt)=x at hF he ⊢
         repeat' (first|apply And.intro|intro _)
         all_goals (first|contradiction|exact hF|trivial|(rename_i hc;have hc:=of_decide_eq_false hc;simp only [List.length_append,List.length_cons,List.length_nil] at hc;omega))
       · rw [iV_ _ _ (by omega)] at hF
         unfold hc_ at hF
         rw [h5,cond_false] at hF
         have hg:decide ((i:Int) > 0)=true:=decide_eq_true (by omega)
         simp only [aP_.turn17,aP_.step17,bp_,Int.toNat_natCast,hW,h5,hg,an_,bk_,c1_,cy_ hi,cc_ hi,ab_ hx]
         generalize FEnc d (j.list.getD i aa_.dflt)=x at hF he ⊢
         generalize hL_ (FEnc d) j i=o at hF hjl ⊢
         repeat' (first|apply And.intro|intro _)
         all_goals (first|contradiction|exact hF|trivial|(rename_i hc;have hc:=of_decide_eq_false hc;simp only [List.length_append,List.length_cons,List.length_nil] at hc;omega))
     · have h5:(j.kind == 5)=true:=by rw [hk];rfl
       have hn:=hp.name hk
       have hq:=h4_ (s:=j.names.getD i []) (by omega)
       have hql:=hn_ (j.names.getD i [])
       by_cases h0:i=0
       · have hg:decide ((i:Int) > 0)=false:=decide_eq_false (by omega)
         have e0:hL_ (FEnc d) j i=[]:=by rw [h0];rfl
         have e1:hL_ (FEnc d) j (i+1)=hc_ (FEnc d) j i:=by rw [h0];exact j3_ _ _
         rw [e1] at hF
         unfold hc_ at hF
         rw [h5,cond_true] at hF
         simp only [e0,aP_.turn17,aP_.step17,bp_,Int.toNat_natCast,hW,h5,hg,reduceCtorEq,false_implies,true_implies,true_and,and_true,an_,bk_,c1_,cy_ hi,cc_ hi,cc_ hn.1,ab_ hx,ab_ hq,List.nil_append]
         generalize FEnc d (j.list.getD i aa_.dflt)=x at hF he ⊢
         generalize iA_ (j.names.getD i [])=y at hF hql ⊢
         rw [←List.append_assoc] at hF
         repeat' (first|apply And.intro|intro _)
         all_goals (first|contradiction|exact hF|trivial|(rename_i hc;have hc:=of_decide_eq_false hc;simp only [List.length_append,List.length_cons,List.length_nil] at hc;omega))
       · rw [iV_ _ _ (by omega)] at hF
         unfold hc_ at hF
         rw [h5,cond_true] at hF
         have hg:decide ((i:Int) > 0)=true:=decide_eq_true (by omega)
         simp only [aP_.turn17,aP_.step17,bp_,Int.toNat_natCast,hW,h5,hg,an_,bk_,c1_,cy_ hi,cc_ hi,cc_ hn.1,ab_ hx,ab_ hq]
         generalize FEnc d (j.list.getD i aa_.dflt)=x at hF he ⊢
         generalize iA_ (j.names.getD i [])=y at hF hql ⊢
         generalize hL_ (FEnc d) j i=o at hF hjl ⊢
         rw [←List.append_assoc,←List.append_assoc] at hF
         repeat' (first|apply And.intro|intro _)
         all_goals (first|contradiction|exact hF|trivial|(rename_i hc;have hc:=of_decide_eq_false hc;simp only [List.length_append,List.length_cons,List.length_nil] at hc;omega))
   · simp only [aP_.turn17,aP_.step17,b8_,cond_false]
     exact hK
  have hjl:=oh_ h j.list.length (Nat.le_refl _)
  simp only [aP_,bp_]
  rcases ho.kind with hk|hk|hk|hk|hk|hk
  · simp only [FEnc,hk,Int.reduceBEq,cond_true,ac_]
  · simp only [FEnc,hk,Int.reduceBEq,cond_true,cond_false,an_,ac_]
    cases (j.n_ == 1)<;>simp
  · have hn:=ho.num hk
    simp only [FEnc,hk,Int.reduceBEq,cond_true,cond_false,ab_ (ez_ (x:=j.n_) (by omega) (by omega)),ac_]
  · have hs:=ho.text hk
    simp only [FEnc,hk,Int.reduceBEq,cond_true,cond_false,ab_ (h4_ (s:=j.s) (by omega)),ac_]
  all_goals (
   have e0:(j.kind == 0)=false:=by rw [hk];rfl
   have e1:(j.kind == 1)=false:=by rw [hk];rfl
   have e2:(j.kind == 2)=false:=by rw [hk];rfl
   have e3:(j.kind == 3)=false:=by rw [hk];rfl
   simp only [FEnc,e0,e1,e2,e3,cond_false]
   refine hloop (by omega) _ _ ?_
   generalize hL_ (FEnc d) j j.list.length=o at hjl ⊢
   simp only [hk,Int.reduceBEq,cond_true,cond_false,an_,ac_,c1_]
   refine ⟨fun _=>⟨fun _=>trivial,fun hc => ?_⟩,fun hc => ?_⟩
   · have hc:=of_decide_eq_false hc
     simp only [List.length_append,List.length_cons,List.length_nil] at hc;omega
   · have hc:=of_decide_eq_false hc
     simp only [List.length_append,List.length_cons,List.length_nil] at hc;omega)
theorem Join_ev {l:List Bs} {sep:Bs} (hl:l.length≤1000000) (hj:(Lib.join l sep).length≤1000000000):Ev (fun n _=>strings_Join n l sep) (Lib.join l sep):=by
 refine aq_ ?_
 simp only [strings_Join,nJoin,an_,ac_,c1_]
 refine ⟨fun _=>trivial,fun h => ?_⟩
 rw [decide_eq_true (by omega),decide_eq_true (by omega)] at h;cases h
theorem ip_:∀ (d:Nat) (j:aa_),cd_ d j≤400→Ev (fun n _=>a6_ n j) (FEnc d j)
 |0,j,h=>by simp only [cd_] at h;omega
 |d+1,j,h=>by
  have ho:=(fi_ h).1
  have hll:=iM_ h
  refine aq_ ?_
  have hloop:∀ (K:Nat→Int→Int→Bs→List aa_→List Bs→List Bs→Option Bs) (v:Bs),Ev (fun n N=>K n j.kind j.n_ j.s j.list j.names ((List.range j.list.length).map (hc_ (FEnc d) j))) v→Ev (fun n _=>a6_.loop4 n (a6_ n) (K n) n j.list (j.list.length:Int) 0 j.kind j.n_ j.s j.list j.names []) v:=by
   intro K v hK
   refine eC_ (fun i=>(List.range i).map (hc_ (FEnc d) j)) j.list.length (fun n N i (o:List Bs)=>a6_.loop4 n (a6_ n) (K n) N j.list (j.list.length:Int) (i:Int) j.kind j.n_ j.s j.list j.names o) v (fun i hi F hF => ?_) ?_
   · have hp:=lH_ h hi
     have hx:=ip_ d (j.list.getD i aa_.dflt) hp.size
     have he:=hp.enc
     have hW:=W_up hi (show j.list.length≤bO_ by simp only [bO_];omega)
     have hol:((List.range i).map (hc_ (FEnc d) j)).length=i:=by simp
     rw [List.range_succ,List.map_append,List.map_cons,List.map_nil] at hF
     unfold hc_ at hF
     cases h5:(j.kind == 5) with
     |false=>
      simp only [h5,cond_false] at hF
      unfold hc_ at hol ⊢
      simp only [h5,cond_false] at hol ⊢
      simp only [a6_.turn4,a6_.step4,bp_,Int.toNat_natCast,hW,h5,cond_false,an_,bk_,c1_,bi_,cy_ hi,cc_ hi,ab_ hx]
      generalize FEnc d (j.list.getD i aa_.dflt)=x at hF he ⊢
      generalize (List.range i).map _=o at hF hol ⊢
      exact ⟨fun _=>⟨trivial,by simp;omega,hF⟩,fun h=>(by cases h)⟩
     |true=>
      have hn:=hp.name (by simpa using h5)
      have hq:=i7_ (s:=j.names.getD i []) (by omega)
      have hql:=hn_ (j.names.getD i [])
      simp only [h5,cond_true] at hF
      unfold hc_ at hol ⊢
      simp only [h5,cond_true] at hol ⊢
      simp only [a6_.turn4,a6_.step4,bp_,Int.toNat_natCast,hW,h5,cond_true,an_,bk_,c1_,bi_,cy_ hi,cc_ hi,cc_ hn.1,ab_ hx,ab_ hq]
      generalize FEnc d (j.list.getD i aa_.dflt)=x at hF he ⊢
      generalize iA_ (j.names.getD i [])=y at hF hql ⊢
      generalize (List.range i).map _=o at hF hol ⊢
      rw [←List.append_assoc] at hF
      repeat' (first|apply And.intro|intro _)
      all_goals (first|contradiction|exact hF|trivial|(rename_i hc;have hc:=of_decide_eq_false hc;simp only [List.length_append,List.length_cons,List.length_nil] at hc;omega)|(simp;omega))
   · simp only [a6_.turn4,a6_.step4,b8_,cond_false]
     exact hK
  have hjl:=oh_ h j.list.length (Nat.le_refl _)
  have hJ:=Join_ev (l:=(List.range j.list.length).map (hc_ (FEnc d) j)) (sep:=[44]) (by simp;omega) (by unfold hL_ at hjl;omega)
  simp only [a6_,bp_]
  refine hloop _ _ ?_
  rcases ho.kind with hk|hk|hk|hk|hk|hk
  · simp only [FEnc,hk,Int.reduceBEq,cond_true,ac_]
  · have hb:=ho.bool hk
    simp only [FEnc,hk,Int.reduceBEq,cond_true,cond_false,bk_,ac_]
    have:j.n_=0∨j.n_=1:=by omega
    rcases this with e|e<;>rw [e]<;>exact ⟨⟨by decide,by decide⟩,rfl⟩
  · have hn:=ho.num hk
    simp only [FEnc,hk,Int.reduceBEq,cond_true,cond_false,ab_ (mq_ (x:=j.n_) (by omega) (by omega)),ac_]
  · have hs:=ho.text hk
    simp only [FEnc,hk,Int.reduceBEq,cond_true,cond_false,ab_ (i7_ (s:=j.s) (by omega)),ac_]
  all_goals (
   simp only [FEnc,hk,Int.reduceBEq,cond_true,cond_false,ab_ hJ]
   unfold hL_ at hjl ⊢
   generalize Lib.join ((List.range j.list.length).map (hc_ (FEnc d) j)) [44]=o at hjl ⊢
   simp only [an_,ac_,c1_]
   refine ⟨fun _=>⟨fun _=>trivial,fun hc => ?_⟩,fun hc => ?_⟩
   · have hc:=of_decide_eq_false hc
     simp only [List.length_append,List.length_cons,List.length_nil] at hc;omega
   · have hc:=of_decide_eq_false hc
     simp only [List.length_append,List.length_cons,List.length_nil] at hc;omega)
def hM_ (j:aa_):Bs:=cond (bw_ j) (cond (decide (((FEnc 6 j).length:Int) > 6000)) [] (FEnc 6 j)) []
theorem i5_ {j:aa_} (h:gh_ 6 j):Ev (fun n _=>dU_ n j) (hM_ j):=by
 refine aq_ ?_
 simp only [dU_,bp_,ab_ (dM_ h),an_,ac_,hM_]
 cases hj:bw_ j with
 |false=>simp
 |true=>
  simp only [ab_ (hQ_ 6 j (of_decide_eq_true hj)),an_,ac_]
  cases decide (((FEnc 6 j).length:Int) > 6000)<;>simp
theorem g8_ {j:aa_} (h:gh_ 6 j):Ev (fun n _=>ei_ n j) (hM_ j):=by
 refine aq_ ?_
 simp only [ei_,bp_,ab_ (dx_ h),an_,ac_,hM_]
 cases hj:bw_ j with
 |false=>simp
 |true=>
  simp only [ab_ (ip_ 6 j (of_decide_eq_true hj)),an_,ac_]
  cases decide (((FEnc 6 j).length:Int) > 6000)<;>simp
end Go.Pi
end
section
namespace Go.Pi
def dg_ (ns:List Bs) (x:Bs):Nat:=ns.findIdx (fun y => !Op.bytesLess y x)
def gp_ (ns:List Bs) (x:Bs):Nat:=if ns.getD (dg_ ns x) []=x∧dg_ ns x<ns.length then dg_ ns x+1 else dg_ ns x
def j4_ {α:Type} (ns:List Bs) (x:Bs) (l:List α) (y:α):List α:=l.take (dg_ ns x)++[y]++l.drop (gp_ ns x)
theorem iI_ {α:Type} (d:α) {a m:List α} {i q:Nat} (p:Nat) (hi:i<a.length) (h:q≤i):a.take p++m++(a.take (i+1)).drop q=a.take p++m++(a.take i).drop q++[a.getD i d]:=by
 rw [cS_ d hi,List.drop_append_of_le_length (by simp;omega)]
 simp
theorem put_idx {ns:List Bs} {x:Bs} {i:Nat} (hi:i<ns.length) (hle:i≤dg_ ns x):(!Op.bytesLess (ns.getD i []) x)=decide (i=dg_ ns x):=by
 rw [List.getD_eq_getElem?_getD,List.getElem?_eq_getElem hi,Option.getD_some]
 unfold dg_ at hle ⊢
 by_cases h:i=ns.findIdx (fun y => !Op.bytesLess y x)
 · rw [decide_eq_true h]
   have:=List.findIdx_getElem (xs:=ns) (p:=fun y => !Op.bytesLess y x) (w:=by omega)
   simp only [←h] at this
   exact this
 · rw [decide_eq_false h]
   exact List.not_of_lt_findIdx (xs:=ns) (p:=fun y => !Op.bytesLess y x) (i:=i) (by omega)
theorem jx_ {o j:aa_} {x:Bs} (hk:o.names.length≤2000000) (he:o.list.length=o.names.length) (hlt:∀ y,Op.bytesLess y x=true→(y == x)=false) (hne:∀ i,gp_ o.names x≤i→i<o.names.length→(o.names.getD i [] == x)=false) :
  Ev (fun n _=>bG_ n o x j) (aa_.mk 5 0 [] (j4_ o.names x o.list j) (j4_ o.names x o.names x)):=by
 refine aq_ ?_
 have ht:o.names.length≤bO_:=by simp only [bO_];omega
 obtain ⟨p,hp⟩:∃ p,p=dg_ o.names x:=⟨_,rfl⟩
 have hpl:p≤o.names.length:=by rw [hp];exact List.findIdx_le_length
 obtain ⟨q,hq⟩:∃ q,q=gp_ o.names x:=⟨_,rfl⟩
 have hqp:p≤q∧q≤p+1:=by rw [hq,hp];unfold gp_;split<;>omega
 have hT:o.list.take o.names.length=o.list:=List.take_of_length_le (by omega)
 let S:Nat→Bool × List aa_ × List Bs:=fun i=>if i≤p then (false,o.list.take i,o.names.take i) else (true,o.list.take p++[j]++(o.list.take i).drop q,o.names.take p++[x]++(o.names.take i).drop q)
 have hS0:S 0=(false,[],[]):=by simp [S]
 simp only [bG_]
 have:=eC_ S o.names.length (fun n N i (s:Bool × List aa_ × List Bs)=>bG_.loop5 n (fun xy1 xy2 xy3 xy4 xy5 xy6 xy7 xy8 xy9 xy10 xy11 xy12 xy13 xy14 xy15=>(cond (!xy2) (bv_ (xy15.length+([xy1]:List Bs).length) 16 (bv_ (xy14.length+([(aa_.mk xy3 xy4 xy5 xy6 xy7)]:List aa_).length) 80 (some (aa_.mk xy11 xy12 xy13 (xy14++([(aa_.mk xy3 xy4 xy5 xy6 xy7)]:List aa_)) (xy15++([xy1]:List Bs)))))) (some (aa_.mk xy11 xy12 xy13 xy14 xy15)))) N x s.1 (i:Int) o.kind o.n_ o.s o.list o.names j.kind j.n_ j.s j.list j.names 0 0 [] 5 0 [] s.2.1 s.2.2)
  (aa_.mk 5 0 [] (j4_ o.names x o.list j) (j4_ o.names x o.names x)) (fun i hi F hF => ?_) ?_
 · rw [hS0] at this;exact this
 · have hx:=put_idx (ns:=o.names) (x:=x) hi
   rw [←hp] at hx
   have hln:(S i).2.2.length≤o.names.length+1:=by simp only [S];split<;>simp<;>omega
   have hll:(S i).2.1.length≤o.names.length+1:=by simp only [S];split<;>simp<;>omega
   have hil:i<o.list.length:=by omega
   simp only [bG_.turn5,bG_.step5,eM_,bp_,Int.toNat_natCast,W_up hi ht,an_,bk_,bi_,cy_ hi,cc_ hi,cc_ hil]
   by_cases hle:i≤p
   · have s1:S i=(false,o.list.take i,o.names.take i):=by simp only [S,if_pos hle]
     rw [s1] at hln hll ⊢
     by_cases e:i=p
     · have hb:(!Op.bytesLess (o.names.getD i []) x)=true:=by rw [hx hle];exact decide_eq_true e
       subst e
       by_cases hs:o.names.getD i []=x
       · have hqv:q=i+1:=by rw [hq];unfold gp_;rw [←hp,if_pos ⟨hs,hi⟩]
         have s2:S (i+1)=(true,o.list.take i++[j],o.names.take i++[x]):=by
          simp only [S,if_neg (show ¬ i+1≤i by omega)]
          rw [List.drop_eq_nil_of_le (by simp;omega),List.drop_eq_nil_of_le (by simp;omega),List.append_nil,List.append_nil]
         rw [s2] at hF
         have hs':(o.names.getD i [] == x)=true:=by simpa using hs
         simp only [hb,hs',cond_true,cond_false,Bool.not_true,Bool.not_false]
         repeat' (first|apply And.intro|intro _)
         all_goals (first|contradiction|exact hF|trivial|(simp;omega))
       · have hqv:q=i:=by rw [hq];unfold gp_;rw [←hp,if_neg (fun h=>hs h.1)]
         have s2:S (i+1)=(true,o.list.take i++[j]++[o.list.getD i aa_.dflt],o.names.take i++[x]++[o.names.getD i []]):=by
          simp only [S,if_neg (show ¬ i+1≤i by omega),hqv]
          rw [iI_ aa_.dflt i hil (Nat.le_refl _),iI_ [] i hi (Nat.le_refl _),List.drop_eq_nil_of_le (by simp;omega),List.drop_eq_nil_of_le (by simp;omega),List.append_nil,List.append_nil]
         rw [s2] at hF
         have hs':(o.names.getD i [] == x)=false:=by simpa using hs
         simp only [hb,hs',cond_true,cond_false,Bool.not_true,Bool.not_false]
         repeat' (first|apply And.intro|intro _)
         all_goals (first|contradiction|exact hF|trivial|(simp;omega))
     · have hb:(!Op.bytesLess (o.names.getD i []) x)=false:=by rw [hx hle];exact decide_eq_false e
       have hs':(o.names.getD i [] == x)=false:=hlt (o.names.getD i []) (by rw [Bool.not_eq_false'] at hb;exact hb)
       have s2:S (i+1)=(false,o.list.take i++[o.list.getD i aa_.dflt],o.names.take i++[o.names.getD i []]):=by
        simp only [S,if_pos (show i+1≤p by omega),cS_ aa_.dflt hil,cS_ [] hi]
       rw [s2] at hF
       simp only [hb,hs',cond_true,cond_false,Bool.not_true,Bool.not_false]
       repeat' (first|apply And.intro|intro _)
       all_goals (first|contradiction|exact hF|trivial|(simp;omega))
   · have s1:S i=(true,o.list.take p++[j]++(o.list.take i).drop q,o.names.take p++[x]++(o.names.take i).drop q):=by simp only [S,if_neg hle]
     have s2:S (i+1)=(true,o.list.take p++[j]++(o.list.take i).drop q++[o.list.getD i aa_.dflt],o.names.take p++[x]++(o.names.take i).drop q++[o.names.getD i []]):=by
      simp only [S,if_neg (show ¬ i+1≤p by omega)]
      rw [iI_ aa_.dflt p hil (by omega),iI_ [] p hi (by omega)]
     have hs':=hne i (by omega) hi
     rw [s1] at hln hll ⊢
     rw [s2] at hF
     simp only [hs',cond_true,cond_false,Bool.not_true,Bool.not_false]
     repeat' (first|apply And.intro|intro _)
     all_goals (first|contradiction|exact hF|trivial|(simp at hln hll ⊢;omega))
 · simp only [bG_.turn5,bG_.step5,eM_,b8_,cond_false,an_,bi_,ac_]
   unfold j4_
   rw [←hp,←hq]
   by_cases hle:o.names.length≤p
   · have e:p=o.names.length:=by omega
     have hqv:q=p:=by rw [hq];unfold gp_;rw [←hp,if_neg (fun h=>by omega)]
     have s1:S o.names.length=(false,o.list,o.names):=by simp only [S,if_pos hle,List.take_length];rw [List.take_of_length_le (by omega)]
     rw [s1,hqv,e,List.take_of_length_le (l:=o.list) (by omega),List.drop_eq_nil_of_le (show o.list.length≤o.names.length by omega),List.take_length,List.drop_length]
     refine ⟨fun _=>⟨by simp;omega,by simp;omega,by simp⟩,fun h=>(by cases h)⟩
   · have s1:S o.names.length=(true,o.list.take p++[j]++o.list.drop q,o.names.take p++[x]++o.names.drop q):=by simp only [S,if_neg hle,List.take_length];rw [hT]
     rw [s1]
     exact ⟨fun h=>(by cases h),fun _=>rfl⟩
end Go.Pi
end
section
namespace Go.Pi
theorem eS_:∀ (x y:Bs),Op.bytesLess x y=decide (x<y)
 |[],[]=>by simp [Op.bytesLess]
 |_::_,[]=>by simp [Op.bytesLess]
 |[],_::_=>by simp [Op.bytesLess]
 |a::x,b::y=>by
  rw [Op.bytesLess,eS_ x y]
  simp only [List.cons_lt_cons_iff]
  by_cases h1:a<b<;>by_cases h2:a=b<;>by_cases h3:x<y<;>simp [h1,h2,h3]
theorem less_ne {x y:Bs} (h:Op.bytesLess y x=true):(y == x)=false:=by
 rw [eS_] at h
 exact beq_eq_false_iff_ne.2 fun e=>by subst e;exact List.lt_irrefl y (of_decide_eq_true h)
end Go.Pi
end
section
namespace Go.Pi
def gr_:aa_:=aa_.mk 0 0 [] [] []
def cV_ (j:aa_):aa_:=cond (bw_ j) j gr_
theorem jJ_ {j:aa_} (h:gh_ 6 j):Ev (fun n _=>cT_ n j) (cV_ j):=by
 refine aq_ ?_
 simp only [cT_,bp_,ab_ (dx_ h),an_,ac_,cV_,gr_]
 cases bw_ j<;>simp
end Go.Pi
end
section
namespace Go.Pi
theorem lK_ {d:Nat} {j:aa_} (h:cd_ (d+1) j≤400):j.names.length≤400:=by
 have h1:=iM_ h
 have ho:=(fi_ h).1
 by_cases hk:j.kind=5
 · have:=(ho.obj hk).1;omega
 · have:FOwn j=true:=by
    simp only [cd_] at h
    cases hf:FOwn j with
    |true=>rfl
    |false=>rw [hf,cond_false] at h;omega
   unfold FOwn at this
   simp only [Bool.and_eq_true,Bool.or_eq_true] at this
   rcases this.2.1 with h2|h2
   · have:=of_decide_eq_true h2;omega
   · exact absurd (by simpa using h2) hk
theorem de_:∀ (d:Nat) (j:aa_),cd_ d j≤400→Ev (fun n _=>aM_ n j) j
 |0,j,h=>by simp only [cd_] at h;omega
 |d+1,j,h=>by
  have hll:=iM_ h
  have hnl:=lK_ h
  refine aq_ ?_
  have hc:Ev (fun n _=>cN_ n j.names) j.names:=aq_ (by simp only [cN_,bi_,ac_,List.nil_append,List.length_nil,and_true];omega)
  simp only [aM_,ab_ hc]
  have:=eC_ (fun i=>j.list.take i) j.list.length (fun n N i (o:List aa_)=>aM_.loop4 n (aM_ n) (fun xy3 xy4 xy5 xy6 xy7 xy8 xy9 xy10=>(some (aa_.mk xy6 xy7 xy8 xy9 xy10))) N j.list (j.list.length:Int) (i:Int) 0 0 [] j.kind j.n_ j.s o j.names) j (fun i hi F hF => ?_) ?_
  · exact this
  · have hp:=lH_ h hi
    have hx:=de_ d (j.list.getD i aa_.dflt) hp.size
    rw [cS_ aa_.dflt hi] at hF
    simp only [aM_.turn4,aM_.step4,bp_,Int.toNat_natCast,W_up hi (show j.list.length≤bO_ by simp only [bO_];omega),an_,bk_,bi_,cy_ hi,cc_ hi,ab_ hx]
    exact ⟨fun _=>⟨trivial,by simp;omega,hF⟩,fun h=>(by cases h)⟩
  · simp only [aM_.turn4,aM_.step4,b8_,cond_false,List.take_length,ac_,eM_]
theorem fY_:∀ (d:Nat) (j:aa_),cd_ d j≤400→Ev (fun n _=>bj_ n j) j
 |0,j,h=>by simp only [cd_] at h;omega
 |d+1,j,h=>by
  have hll:=iM_ h
  have hnl:=lK_ h
  refine aq_ ?_
  simp only [bj_,bi_,List.nil_append,List.length_nil]
  refine ⟨by omega,?_⟩
  have:=eC_ (fun i=>j.list.take i) j.list.length (fun n N i (o:List aa_)=>bj_.loop4 n (bj_ n) (fun xy2 xy3 xy4 xy5 xy6 xy7 xy8 xy9=>(some (aa_.mk xy5 xy6 xy7 xy8 xy9))) N (i:Int) j.kind j.n_ j.s j.list j.names 0 0 [] j.kind j.n_ j.s o j.names) j (fun i hi F hF => ?_) ?_
  · exact this
  · have hp:=lH_ h hi
    have hx:=fY_ d (j.list.getD i aa_.dflt) hp.size
    rw [cS_ aa_.dflt hi] at hF
    simp only [bj_.turn4,bj_.step4,bp_,Int.toNat_natCast,W_up hi (show j.list.length≤bO_ by simp only [bO_];omega),an_,bk_,bi_,cy_ hi,cc_ hi,ab_ hx]
    exact ⟨fun _=>⟨trivial,by simp;omega,hF⟩,fun h=>(by cases h)⟩
  · simp only [bj_.turn4,bj_.step4,b8_,cond_false,List.take_length,ac_,eM_]
def ra_ (j:aa_):Bool:=(j.kind == 0)&&((j.n_ == 0)&&((j.s == [])&&(decide (j.list.length=0)&&decide (j.names.length=0))))
theorem len_zero {α:Type} (l:List α):((l.length:Int) == 0)=decide (l.length=0):=by
 by_cases h:l.length=0
 · rw [h];rfl
 · rw [decide_eq_false h];simp;intro e;exact h (by rw [e];rfl)
theorem mP_ {j:aa_}:Ev (fun n _=>eh_ n j) (ra_ j):=by
 refine aq_ ?_
 simp only [eh_,an_,ac_,ra_,len_zero]
 cases (j.kind == 0)<;>cases (j.n_ == 0)<;>cases (j.s == [])<;>cases decide (j.list.length=0)<;>simp
theorem s7_ (d:Nat) (j:aa_):ef_ (d+1) j gr_=ra_ j:=by
 simp only [ef_,gr_,hb_,ra_,List.length_nil]
 by_cases h1:j.names.length=0
 · by_cases h2:j.list.length=0
   · rw [h1,h2];simp [h0_,gI_]
   · have h2:j.list≠[]:=fun e=>h2 (by rw [e];rfl)
     simp [h2]
 · have h1:j.names≠[]:=fun e=>h1 (by rw [e];rfl)
   simp [h1]
def si_ (w:List Bs):Bool:=h0_ (fun i=>hm_ (w.getD i [])) w.length
def h2_ (o:TOp):Bool:=inn o.kind 1 4&&(decide (o.way.length≤6)&&(bw_ o.value&&(si_ o.way&&((o.kind != 2)||ra_ o.value))))
def pj_ (o:TOp):Prop:=sG_ bO_ o.way∧gh_ 6 o.value
theorem ih_ (o:TOp):TOp.mk o.kind o.way o.value=o:=rfl
theorem gt_le {n:Nat}:decide ((n:Int) > 6) = !decide (n≤6):=by
 by_cases h:n≤6
 · rw [decide_eq_true h,decide_eq_false (by omega)];rfl
 · rw [decide_eq_false h,decide_eq_true (by omega)];rfl
theorem le_le {n:Nat}:decide ((n:Int)≤6)=decide (n≤6):=by
 by_cases h:n≤6
 · rw [decide_eq_true h,decide_eq_true (by omega)]
 · rw [decide_eq_false h,decide_eq_false (by omega)]
theorem oW_ {o:TOp} (h:pj_ o):Ev (fun n _=>cl_ n o) (h2_ o):=by
 refine aq_ ?_
 simp only [cl_,bp_,gi_,ab_ (dM_ h.2),an_,ac_,gt_le,h2_]
 cases hj:bw_ o.value with
 |false=>cases inn o.kind 1 4<;>cases decide (o.way.length≤6)<;>simp
 |true=>
  have hS:=fX_ 6 o.value gr_ (fs_ 6 o.value (of_decide_eq_true hj)) h.2
  rw [s7_] at hS
  unfold gr_ at hS
  have hl:Ev (fun n _=>cl_.loop6 n (fun xy4 xy5 xy6 xy7 xy8 xy9 xy10=>(cond (xy4 != 2) (some true) ((ax_ n (aa_.mk xy6 xy7 xy8 xy9 xy10) (aa_.mk 0 0 [] [] [])).bind fun xr11=>(some xr11)))) n 0 o.kind o.way o.value.kind o.value.n_ o.value.s o.value.list o.value.names) (si_ o.way&&((o.kind != 2)||ra_ o.value)):=by
   refine eD_ (fun n N i=>cl_.loop6 n (fun xy4 xy5 xy6 xy7 xy8 xy9 xy10=>(cond (xy4 != 2) (some true) ((ax_ n (aa_.mk xy6 xy7 xy8 xy9 xy10) (aa_.mk 0 0 [] [] [])).bind fun xr11=>(some xr11)))) N (i:Int) o.kind o.way o.value.kind o.value.n_ o.value.s o.value.list o.value.names) _ (fun i w hi ih => ?_) ?_
   · simp only [cl_.turn6,cl_.step6,Int.toNat_natCast,W_up hi h.1.1,an_,bk_,ab_ (g0_ (jV_ h.1 i)),ac_,c2_ ih,cy_ hi,cc_ hi]
     cases hm_ (o.way.getD i [])<;>simp
   · simp only [cl_.turn6,cl_.step6,b8_,cond_false,eM_,an_,ab_ hS,ac_]
     cases (o.kind != 2)<;>simp
  simp only [c2_ hl]
  cases inn o.kind 1 4<;>cases decide (o.way.length≤6)<;>simp
theorem kA_ {o:TOp} (h:pj_ o):Ev (fun n _=>cm_ n o) (h2_ o):=by
 refine aq_ ?_
 simp only [cm_]
 have e:h2_ o=(si_ o.way&&(inn o.kind 1 4&&(decide (o.way.length≤6)&&(bw_ o.value&&((o.kind != 2)||ra_ o.value))))):=by
  unfold h2_
  cases inn o.kind 1 4<;>cases decide (o.way.length≤6)<;>cases bw_ o.value<;>cases si_ o.way<;>simp
 rw [e]
 refine eD_ (fun n N i=>cm_.loop3 n (fun xy2 xy3 xy4 xy5 xy6 xy7 xy8=>((aL_ n xy2 1 4).bind fun xr9=>(cond xr9 (cond (decide ((xy3.length:Int)≤6)) ((cD_ n (aa_.mk xy4 xy5 xy6 xy7 xy8)).bind fun xr10=>(cond xr10 (cond (xy2 != 2) (some true) ((eh_ n (aa_.mk xy4 xy5 xy6 xy7 xy8)).bind fun xr11=>(some xr11))) (some false))) (some false)) (some false)))) N o.way (o.way.length:Int) (i:Int) o.kind o.way o.value.kind o.value.n_ o.value.s o.value.list o.value.names) _ (fun i w hi ih => ?_) ?_
 · simp only [cm_.turn3,cm_.step3,Int.toNat_natCast,W_up hi h.1.1,an_,bk_,ab_ (g7_ (jV_ h.1 i)),ac_,c2_ ih,cy_ hi,cc_ hi]
   cases hm_ (o.way.getD i [])<;>simp
 · simp only [cm_.turn3,cm_.step3,b8_,cond_false,eM_,an_,ju_,le_le,ab_ (dx_ h.2),ab_ mP_,ac_]
   cases inn o.kind 1 4<;>cases decide (o.way.length≤6)<;>cases bw_ o.value<;>cases (o.kind != 2)<;>simp
def hJ_ (k:Int):Bs:=cond (k == 1) [97,100,100] (cond (k == 2) [114,101,109,111,118,101] (cond (k == 3) [114,101,112,108,97,99,101] [116,101,115,116]))
def txtJ (s:Bs):aa_:=aa_.mk 3 0 s [] []
abbrev nmOp:Bs:=[111,112]
abbrev lJ_:Bs:=[112,97,116,104]
abbrev kc_:Bs:=[118,97,108,117,101]
def kH_ (o:TOp):aa_:=cond (o.kind == 2) (aa_.mk 5 0 [] [txtJ (hJ_ o.kind),txtJ (FWay o.way)] [nmOp,lJ_]) (aa_.mk 5 0 [] [txtJ (hJ_ o.kind),txtJ (FWay o.way),o.value] [nmOp,lJ_,kc_])
def en_ (o:TOp):aa_:=cond (h2_ o) (cV_ (kH_ o)) gr_
theorem ob_:∀ (d:Nat) (j:aa_),gh_ (d+1) j→gh_ d j
 |0,_,_=>trivial
 |d+1,j,h=>⟨h.1,h.2.1,fun x hx=>ob_ d x (h.2.2 x hx)⟩
theorem k5_ {s:Bs} (h:s.length≤bO_):∀ d,gh_ d (txtJ s)
 |0=>trivial
 |d+1=>⟨⟨h,Nat.zero_le _,fun x hx=>(by cases hx)⟩,Nat.zero_le _,fun x hx=>(by cases hx)⟩
theorem hh_:∀ d,gh_ d gr_
 |0=>trivial
 |d+1=>⟨⟨Nat.zero_le _,Nat.zero_le _,fun x hx=>(by cases hx)⟩,Nat.zero_le _,fun x hx=>(by cases hx)⟩
structure OpIs (o:TOp):Prop where
 kind:o.kind=1∨o.kind=2∨o.kind=3∨o.kind=4
 way:o.way.length≤6
 text:∀ s ∈ o.way,s.length≤60
 val:cd_ 6 o.value≤400
theorem op_is {o:TOp} (h:h2_ o=true):OpIs o:=by
 unfold h2_ at h
 simp only [Bool.and_eq_true] at h
 obtain ⟨h1,h2,h3,h4,_⟩:=h
 have hk:=e0_ h1
 refine ⟨by omega,of_decide_eq_true h2,fun s hs => ?_,of_decide_eq_true h3⟩
 obtain ⟨i,hi,e⟩:=List.mem_iff_getElem.1 hs
 have:=cH_.1 h4 i hi
 rw [List.getD_eq_getElem?_getD,List.getElem?_eq_getElem hi,Option.getD_some,e] at this
 exact j2_ this
theorem name_len (k:Int):(hJ_ k).length≤60:=by
 unfold hJ_
 cases (k == 1)<;>cases (k == 2)<;>cases (k == 3)<;>simp
theorem kd_ {o:TOp} (h:pj_ o) (ho:OpIs o):gh_ 6 (kH_ o):=by
 have hw:=oF_ ho.text
 have hwl:=ho.way
 have hw2:(FWay o.way).length≤bO_:=by simp only [bO_];omega
 have hn:(hJ_ o.kind).length≤bO_:=by have:=name_len o.kind;simp only [bO_];omega
 have hv:=ob_ 5 _ h.2
 unfold kH_
 cases (o.kind == 2) with
 |true=>
  refine ⟨⟨Nat.zero_le _,by show 2≤bO_;decide,fun x hx => ?_⟩,by show 2≤bO_;decide,fun x hx => ?_⟩
  · simp at hx;rcases hx with e|e<;>(rw [e];decide)
  · simp at hx;rcases hx with e|e
    · rw [e];exact k5_ hn 5
    · rw [e];exact k5_ hw2 5
 |false=>
  refine ⟨⟨Nat.zero_le _,by show 3≤bO_;decide,fun x hx => ?_⟩,by show 3≤bO_;decide,fun x hx => ?_⟩
  · simp at hx;rcases hx with e|e|e<;>(rw [e];decide)
  · simp at hx;rcases hx with e|e|e
    · rw [e];exact k5_ hn 5
    · rw [e];exact k5_ hw2 5
    · rw [e];exact hv
theorem qy_ {o:TOp} (h:pj_ o):gh_ 6 (en_ o):=by
 unfold en_
 cases ho:h2_ o with
 |false=>exact hh_ 6
 |true=>
  unfold cV_
  cases bw_ (kH_ o) with
  |false=>exact hh_ 6
  |true=>exact kd_ h (op_is ho)
theorem put_value (a b v:aa_):Ev (fun n _=>bG_ n (aa_.mk 5 0 [] [a,b] [nmOp,lJ_]) kc_ v) (aa_.mk 5 0 [] [a,b,v] [nmOp,lJ_,kc_]) :=
 jx_ (o:=aa_.mk 5 0 [] [a,b] [nmOp,lJ_]) (j:=v) (x:=kc_) (by show 2≤2000000;decide) rfl (fun _=>less_ne) (fun i h1 h2=>by
  have:gp_ [nmOp,lJ_] kc_=2:=by decide
  have h2:i<2:=h2
  have h1:gp_ [nmOp,lJ_] kc_≤i:=h1
  omega)
theorem i3_ {o:TOp} (h:pj_ o):Ev (fun n _=>er_ n o) (en_ o):=by
 refine aq_ ?_
 have hN:Ev (fun n _=>d3_ n ()) [[],[97,100,100],[114,101,109,111,118,101],[114,101,112,108,97,99,101],[116,101,115,116]]:=aq_ (by simp only [d3_,ac_])
 simp only [er_,bp_,ih_,ab_ (oW_ h),an_,ac_]
 unfold en_
 cases ho:h2_ o with
 |false=>exact ⟨fun _=>rfl,fun h=>(by cases h)⟩
 |true=>
  refine ⟨fun h=>(by cases h),fun _ => ?_⟩
  have hi:=op_is ho
  have hV:=dM_ (kd_ h hi)
  have hCp:=fY_ 6 o.value hi.val
  simp only [ab_ hN,bk_,ab_ (ln_ hi.way hi.text)]
  unfold cV_ gr_ kH_ txtJ hJ_
  unfold kH_ txtJ hJ_ at hV
  rcases hi.kind with hk|hk|hk|hk
  all_goals (
   simp only [hk,Int.reduceBEq,cond_true,cond_false] at hV
   simp only [hk,Int.reduceBEq,cond_true,cond_false,bne,Bool.not_false,Bool.not_true,Int.reduceToNat,List.getD_cons_succ,List.getD_cons_zero,an_,ab_ hCp,ab_ (put_value _ _ _),ab_ hV,ac_]
   refine ⟨⟨by decide,by decide⟩,?_⟩
   generalize bw_ _=q
   cases q<;>simp)
theorem i8_ {o:TOp} (h:pj_ o):Ev (fun n _=>ev_ n o) (en_ o):=by
 refine aq_ ?_
 have hN:Ev (fun n _=>d9_ n ()) [[97,100,100],[114,101,109,111,118,101],[114,101,112,108,97,99,101],[116,101,115,116]]:=aq_ (by simp only [d9_,ac_])
 simp only [ev_,bp_,ih_,ab_ (kA_ h),an_,ac_]
 unfold en_
 cases ho:h2_ o with
 |false=>exact ⟨fun _=>rfl,fun h=>(by cases h)⟩
 |true=>
  refine ⟨fun h=>(by cases h),fun _ => ?_⟩
  have hi:=op_is ho
  have hV:=jJ_ (kd_ h hi)
  have hCp:=de_ 6 o.value hi.val
  simp only [ab_ hN,bk_,ab_ (l5_ hi.way hi.text)]
  simp only [cond_true]
  unfold kH_ txtJ hJ_
  unfold kH_ txtJ hJ_ at hV
  have w1:W ((1:Int) - 1)=0:=by rw [W_id (by decide) (by decide)];rfl
  have w2:W ((2:Int) - 1)=1:=by rw [W_id (by decide) (by decide)];rfl
  have w3:W ((3:Int) - 1)=2:=by rw [W_id (by decide) (by decide)];rfl
  have w4:W ((4:Int) - 1)=3:=by rw [W_id (by decide) (by decide)];rfl
  rcases hi.kind with hk|hk|hk|hk
  all_goals (
   simp only [hk,Int.reduceBEq,cond_true,cond_false] at hV
   simp only [hk,w1,w2,w3,w4,Int.reduceBEq,cond_true,cond_false,bne,Bool.not_false,Bool.not_true,Int.reduceToNat,List.getD_cons_succ,List.getD_cons_zero,List.cons_append,List.nil_append,an_,bi_,ab_ hCp,ab_ hV,ac_,true_implies,false_implies,reduceCtorEq,and_true,true_and]
   simp only [List.length_cons,List.length_nil]
   decide)
end Go.Pi
end
section
namespace Go.Pi
theorem isNaN_ev {x:Bs}:Ev (fun n _=>cg_ n x) false:=aq_ (by simp [cg_,ac_])
theorem isNaN2_ev {x:Bs}:Ev (fun n _=>cC_ n x) false:=aq_ (by simp [cC_,ac_])
theorem s2_ {x y:Bs}:Ev (fun n _=>cX_ n x y) (Op.bytesLess x y):=by
 refine aq_ ?_
 simp only [cX_,ab_ isNaN2_ev,an_,ac_]
 cases Op.bytesLess x y<;>simp
theorem half {i j:Nat} (h:i+j≤4000000):W (Int.fdiv (IntKind.u64.wrap (W ((i:Int)+(j:Int)))) (2 ^ min (1:Int).toNat (IntKind.bits .u64)))=(((i+j) / 2:Nat):Int):=by
 have e1:W ((i:Int)+(j:Int))=((i+j:Nat):Int):=by rw [W_id (by omega) (by omega)];omega
 have e2:IntKind.u64.wrap ((i+j:Nat):Int)=((i+j:Nat):Int):=by
  show (((i+j:Nat):Int)) % _=_
  exact Int.emod_eq_of_lt (by omega) (by have:((i+j:Nat):Int)≤4000000:=by omega
                                         exact Int.lt_of_le_of_lt this (by decide))
 have e3:(2:Int) ^ min (1:Int).toNat (IntKind.bits .u64)=2:=by decide
 rw [e1,e2,e3,Int.fdiv_eq_ediv_of_nonneg _ (by decide)]
 rw [W_id (by omega) (by omega)];omega
theorem iH_ {ns:List Bs} {x:Bs} (hl:ns.length≤2000000) (hM:∀ h,h<ns.length→Op.bytesLess (ns.getD h []) x=decide (h<dg_ ns x)) :
  Ev (fun n _=>am_ n ns x) ((dg_ ns x:Int),decide (dg_ ns x<ns.length)&&(ns.getD (dg_ ns x) [] == x)):=by
 refine aq_ ?_
 have hpl:dg_ ns x≤ns.length:=List.findIdx_le_length
 obtain ⟨p,hp⟩:∃ p,p=dg_ ns x:=⟨_,rfl⟩
 rw [←hp] at hpl hM ⊢
 simp only [am_]
 have key:∀ (d i j:Nat),j - i≤d→i≤p→p≤j→j≤ns.length→Ev (fun n N=>am_.loop4 n (fun xy3 xy4 xy5 xy6=>(cond (decide (xy6<xy5)) (inB xy6 xy3.length (cond ((xy3.getD xy6.toNat []) == xy4) (some (xy6,true)) (inB xy6 xy3.length ((cg_ n (xy3.getD xy6.toNat [])).bind fun xr7=>(cond xr7 ((cg_ n xy4).bind fun xr8=>(some (xy6,xr8))) (some (xy6,false))))))) (some (xy6,false)))) N ns x (ns.length:Int) (i:Int) (j:Int)) ((p:Int),decide (p<ns.length)&&(ns.getD p [] == x)):=by
  intro d
  induction d with
  |zero=>
   intro i j hd h1 h2 h3
   have e:i=p:=by omega
   have e':j=p:=by omega
   subst e;subst e'
   refine cx_ ?_
   simp only [am_.turn4,am_.step4,Int.lt_irrefl,decide_false,cond_false,an_,bk_,ac_,Int.toNat_natCast,ab_ isNaN_ev]
   by_cases hc:j<ns.length
   · rw [decide_eq_true hc,decide_eq_true (show (j:Int)<(ns.length:Int) by omega)]
     cases hs:(ns.getD j [] == x)<;>simp<;>omega
   · rw [decide_eq_false hc,decide_eq_false (show ¬ (j:Int)<(ns.length:Int) by omega)]
     exact ⟨fun h=>(by cases h),fun _=>rfl⟩
  |succ d ih=>
   intro i j hd h1 h2 h3
   by_cases hij:i<j
   · have hh:=half (i:=i) (j:=j) (by omega)
     have hm:(i+j) / 2<ns.length:=by omega
     refine cx_ ?_
     simp only [am_.turn4,am_.step4,hh,decide_eq_true (show (i:Int)<(j:Int) by omega),cond_true,an_,bk_,Int.toNat_natCast,ab_ s2_,cc_ hm,hM _ hm,W_up hm (show ns.length≤bO_ by simp only [bO_];omega)]
     refine ⟨trivial,fun hc => ?_,fun hc => ?_⟩
     · have hc:=of_decide_eq_true hc
       exact ih ((i+j) / 2+1) j (by omega) (by omega) h2 h3
     · have hc:=of_decide_eq_false hc
       exact ih i ((i+j) / 2) (by omega) h1 (by omega) (by omega)
   · exact ih i j (by omega) h1 h2 h3
 exact fb_ (f:=fun n N=>am_.loop4 n _ N ns x (ns.length:Int) 0 (ns.length:Int)) (key ns.length 0 ns.length (by omega) (Nat.zero_le _) hpl (Nat.le_refl _))
end Go.Pi
end
section
namespace Go.Pi
def ins (x:Bs) (y:Int):List (Bs × Int)→List (Bs × Int)
 |[]=>[(x,y)]
 |(k,v)::l=>if k<x then (k,v)::ins x y l else if k=x then (x,y)::l else (x,y)::(k,v)::l
def e9_:List (Bs × Int)→Prop
 |[]=>True
 |(k,_)::l=>(∀ p ∈ l,k<p.1)∧e9_ l
theorem lX_ {x:Bs} {y:Int}:∀ {l:List (Bs × Int)} {p:Bs × Int},p ∈ ins x y l→p=(x,y)∨p ∈ l
 |[],p,h=>by simp only [ins,List.mem_singleton] at h;exact .inl h
 |(k,v)::l,p,h=>by
  simp only [ins] at h
  split at h
  · rcases List.mem_cons.1 h with h|h
    · exact .inr (h ▸ List.mem_cons_self ..)
    · rcases lX_ h with h|h
      · exact .inl h
      · exact .inr (List.mem_cons_of_mem _ h)
  · split at h
    · rcases List.mem_cons.1 h with h|h
      · exact .inl h
      · exact .inr (List.mem_cons_of_mem _ h)
    · rcases List.mem_cons.1 h with h|h
      · exact .inl h
      · exact .inr h
theorem pd_ {a b:Bs} (h1:¬ a<b) (h2:a≠b):b<a:=by
 rcases Decidable.em (b<a) with h|h
 · exact h
 · exact absurd (List.le_antisymm (List.not_lt.1 h) (List.not_lt.1 h1)) h2
theorem oj_ {x:Bs} {y:Int}:∀ {l:List (Bs × Int)},e9_ l→e9_ (ins x y l)
 |[],_=>⟨fun p hp=>(by cases hp),trivial⟩
 |(k,v)::l,h=>by
  simp only [ins]
  split
  · rename_i hk
    exact ⟨fun p hp=>(lX_ hp).elim (fun e=>e ▸ hk) (h.1 p),oj_ h.2⟩
  · split
    · rename_i h1 h2
      subst h2
      exact ⟨h.1,h.2⟩
    · rename_i h1 h2
      have hx:=pd_ h1 h2
      exact ⟨fun p hp=>by
       rcases List.mem_cons.1 hp with e|hp
       · rw [e];exact hx
       · exact List.lt_trans hx (h.1 p hp),h⟩
end Go.Pi
end
section
namespace Go.Pi
theorem tri (a b:Bs):a<b∧¬ b<a∧a≠b∧b≠a∨a=b∧¬ a<b∧¬ b<a∨b<a∧¬ a<b∧a≠b∧b≠a:=by
 by_cases h1:a<b
 · exact .inl ⟨h1,List.lt_asymm h1,fun e=>List.lt_irrefl b (e ▸ h1),fun e=>List.lt_irrefl b (e ▸ h1)⟩
 · by_cases h2:a=b
   · subst h2;exact .inr (.inl ⟨rfl,h1,h1⟩)
   · exact .inr (.inr ⟨pd_ h1 h2,h1,h2,fun e=>h2 e.symm⟩)
theorem rM_ {x x':Bs} {y y':Int} (hne:x≠x'):∀ l:List (Bs × Int),ins x y (ins x' y' l)=ins x' y' (ins x y l)
 |[]=>by
  rcases tri x x' with ⟨h1,h2,h3,h4⟩|⟨h1,_⟩|⟨h1,h2,h3,h4⟩
  · simp only [ins,if_pos h1,if_neg h2,if_neg h4]
  · exact absurd h1 hne
  · simp only [ins,if_pos h1,if_neg h2,if_neg h3]
 |(k,v)::l=>by
  have ih:=rM_ (y:=y) (y':=y') hne l
  rcases tri x x' with ⟨h1,h2,h3,h4⟩|⟨h1,_⟩|⟨h1,h2,h3,h4⟩
  · rcases tri k x with ⟨a1,a2,a3,a4⟩|⟨a1,a2,a3⟩|⟨a1,a2,a3,a4⟩
    · have b1:k<x':=List.lt_trans a1 h1
      simp only [ins,if_pos a1,if_pos b1,ih]
    · subst a1
      simp only [ins,if_pos h1,if_neg a2,if_true]
    · rcases tri k x' with ⟨b1,b2,b3,b4⟩|⟨b1,b2,b3⟩|⟨b1,b2,b3,b4⟩
      · simp only [ins,if_pos b1,if_neg a2,if_neg a3,if_pos h1]
      · subst b1
        simp only [ins,if_neg a2,if_neg a3,if_neg b2,if_pos h1,if_neg h2,if_neg h4,if_true]
      · simp only [ins,if_neg a2,if_neg a3,if_neg b2,if_neg b3,if_pos h1,if_neg h2,if_neg h4]
  · exact absurd h1 hne
  · rcases tri k x' with ⟨a1,a2,a3,a4⟩|⟨a1,a2,a3⟩|⟨a1,a2,a3,a4⟩
    · have b1:k<x:=List.lt_trans a1 h1
      simp only [ins,if_pos a1,if_pos b1,ih]
    · subst a1
      simp only [ins,if_pos h1,if_neg a2,if_true]
    · rcases tri k x with ⟨b1,b2,b3,b4⟩|⟨b1,b2,b3⟩|⟨b1,b2,b3,b4⟩
      · simp only [ins,if_pos b1,if_neg a2,if_neg a3,if_pos h1]
      · subst b1
        simp only [ins,if_neg a2,if_neg a3,if_neg b2,if_pos h1,if_neg h2,if_neg h3,if_true]
      · simp only [ins,if_neg a2,if_neg a3,if_neg b2,if_neg b3,if_pos h1,if_neg h2,if_neg h3]
end Go.Pi
end
section
namespace Go.Pi
theorem putL_nil {α:Type} {x:Bs} {y:α}:j4_ [] x [] y=[y]:=by
 simp [j4_]
theorem putL_cons {α:Type} {k x:Bs} {ns:List Bs} {a y:α} {l:List α}:j4_ (k::ns) x (a::l) y=if k<x then a::j4_ ns x l y else if k=x then y::l else y::a::l:=by
 by_cases h:k<x
 · have hb:Op.bytesLess k x=true:=by rw [eS_];exact decide_eq_true h
   have e1:dg_ (k::ns) x=dg_ ns x+1:=by unfold dg_;rw [List.findIdx_cons];simp [hb]
   have e2:gp_ (k::ns) x=gp_ ns x+1:=by
    unfold gp_
    rw [e1]
    simp only [List.getD_cons_succ,List.length_cons,Nat.add_lt_add_iff_right]
    split<;>rfl
   rw [if_pos h]
   unfold j4_
   rw [e1,e2];simp
 · have hb:Op.bytesLess k x=false:=by rw [eS_];exact decide_eq_false h
   have e1:dg_ (k::ns) x=0:=by unfold dg_;rw [List.findIdx_cons];simp [hb]
   rw [if_neg h]
   unfold j4_ gp_
   rw [e1]
   by_cases h2:k=x
   · simp [h2]
   · simp [h2]
theorem jH_ {α:Type} (g:Bs × Int→α) (x:Bs) (y:Int):∀ l:List (Bs × Int),j4_ (l.map (·.1)) x (l.map g) (g (x,y))=(ins x y l).map g
 |[]=>by simp only [List.map_nil,ins,List.map_cons];exact putL_nil
 |(k,v)::l=>by
  simp only [List.map_cons,putL_cons,ins]
  split
  · rw [jH_ g x y l];rfl
  · split<;>rfl
end Go.Pi
end
section
namespace Go.Pi
theorem sz_ {k x:Bs} {ns:List Bs}:gp_ (k::ns) x=if k<x then gp_ ns x+1 else if k=x then 1 else 0:=by
 by_cases h:k<x
 · have hb:Op.bytesLess k x=true:=by rw [eS_];exact decide_eq_true h
   have e1:dg_ (k::ns) x=dg_ ns x+1:=by unfold dg_;rw [List.findIdx_cons];simp [hb]
   unfold gp_
   rw [e1,if_pos h]
   simp only [List.getD_cons_succ,List.length_cons,Nat.add_lt_add_iff_right]
   split<;>rfl
 · have hb:Op.bytesLess k x=false:=by rw [eS_];exact decide_eq_false h
   have e1:dg_ (k::ns) x=0:=by unfold dg_;rw [List.findIdx_cons];simp [hb]
   rw [if_neg h]
   unfold gp_
   rw [e1]
   by_cases h2:k=x
   · simp [h2]
   · simp [h2]
theorem asc_ne {x:Bs}:∀ {l:List (Bs × Int)},e9_ l→∀ i,gp_ (l.map (·.1)) x≤i→i<(l.map (·.1)).length→((l.map (·.1)).getD i [] == x)=false
 |[],_,i,_,hi=>by simp at hi
 |(k,v)::l,h,i,hp,hi=>by
  simp only [List.map_cons,sz_] at hp
  have later:∀ i',i'<(l.map (·.1)).length→k<(l.map (·.1)).getD i' []:=fun i' hi'=>by
   have hm:=aZ_ (d:=([]:Bs)) (a:=l.map (·.1)) (i:=i') hi'
   obtain ⟨p,hp,e⟩:=List.mem_map.1 hm
   rw [←e];exact h.1 p hp
  cases i with
  |zero=>
   simp only [List.map_cons,List.getD_cons_zero]
   by_cases h1:k<x
   · rw [if_pos h1] at hp;omega
   · rw [if_neg h1] at hp
     by_cases h2:k=x
     · rw [if_pos h2] at hp;omega
     · exact beq_eq_false_iff_ne.2 h2
  |succ i=>
   have hi':i<(l.map (·.1)).length:=by simpa using hi
   simp only [List.map_cons,List.getD_cons_succ]
   by_cases h1:k<x
   · rw [if_pos h1] at hp
     exact asc_ne h.2 i (by omega) hi'
   · refine beq_eq_false_iff_ne.2 fun e=>h1 ?_
     rw [←e];exact later i hi'
def hf_ (n:Int):aa_:=aa_.mk 2 n [] [] []
def nb_ (l:List (Bs × Int)):aa_:=aa_.mk 5 0 [] (l.map fun p=>hf_ p.2) (l.map (·.1))
theorem lQ_ {l:List (Bs × Int)} {x:Bs} {y:Int} (h:e9_ l) (hl:l.length≤2000000):Ev (fun n _=>bG_ n (nb_ l) x (hf_ y)) (nb_ (ins x y l)):=by
 have:=jx_ (o:=nb_ l) (j:=hf_ y) (x:=x) (by simp [nb_];exact hl) (by simp [nb_]) (fun z hz=>by
  rw [eS_] at hz
  exact beq_eq_false_iff_ne.2 fun e=>by subst e;exact List.lt_irrefl z (of_decide_eq_true hz)) (fun i h1 h2=>asc_ne h i h1 h2)
 refine e6_ this ?_
 have e1:=jH_ (fun p=>hf_ p.2) x y l
 have e2:=jH_ (fun p=>p.1) x y l
 show aa_.mk 5 0 [] (j4_ (l.map (·.1)) x (l.map fun p=>hf_ p.2) (hf_ y)) (j4_ (l.map (·.1)) x (l.map (·.1)) x)=_
 rw [e1,e2];rfl
end Go.Pi
end
section
namespace Go.Pi
def dval (l:Bs):Nat:=l.foldl (fun a c=>10*a+(c.toNat - 48)) 0
theorem dval_snoc (l:Bs) (c:UInt8):dval (l++[c])=10*dval l+(c.toNat - 48):=by simp [dval]
theorem hB_ {u:Nat} (h:u<10):(UInt8.ofNat (48+u)).toNat=48+u:=by
 rw [UInt8.toNat_ofNat'];omega
theorem k8_ (u:Nat):dval (Lib.decDigits u)=u:=by
 induction u using Nat.strongRecOn with
 |_ u ih=>
  rw [Lib.decDigits]
  by_cases h:u<10
  · rw [dif_pos h];simp only [dval,List.foldl_cons,List.foldl_nil,hB_ h];omega
  · rw [dif_neg h,dval_snoc,ih _ (by omega),hB_ (Nat.mod_lt _ (by decide))];omega
theorem dec_all (u:Nat):∀ c ∈ Lib.decDigits u,48≤c.toNat∧c.toNat≤57:=by
 induction u using Nat.strongRecOn with
 |_ u ih=>
  rw [Lib.decDigits]
  by_cases h:u<10
  · rw [dif_pos h];intro c hc
    rw [List.mem_singleton.1 hc,hB_ h];omega
  · rw [dif_neg h];intro c hc
    rcases List.mem_append.1 hc with hc|hc
    · exact ih _ (by omega) c hc
    · rw [List.mem_singleton.1 hc,hB_ (Nat.mod_lt _ (by decide))];omega
theorem pK_ {u:Nat} {l:Bs}:Lib.decDigits u≠45::l:=fun e=>by
 have:=(dec_all u 45 (by rw [e];exact List.mem_cons_self ..)).1
 revert this;decide
theorem itoa_inj {x y:Int} (h:Lib.itoa x=Lib.itoa y):x=y:=by
 unfold Lib.itoa at h
 by_cases hx:x<0<;>by_cases hy:y<0
 · rw [if_pos hx,if_pos hy] at h
   have:=congrArg dval (List.cons.inj h).2
   rw [k8_,k8_] at this;omega
 · rw [if_pos hx,if_neg hy] at h;exact absurd h.symm pK_
 · rw [if_neg hx,if_pos hy] at h;exact absurd h pK_
 · rw [if_neg hx,if_neg hy] at h
   have:=congrArg dval h
   rw [k8_,k8_] at this;omega
def eL_ (c:Int):Bs:=99::Lib.itoa c
theorem me_ {x y:Int} (h:eL_ x=eL_ y):x=y:=itoa_inj (List.cons.inj h).2
def fI_ (r:TRow) (c:Int):Bs × Int:=(eL_ c,fu_ r c)
def dd_ (ps:List (Bs × Int)) (l:List (Bs × Int)):List (Bs × Int):=ps.foldl (fun l p=>ins p.1 p.2 l) l
theorem hy_ (ps:List (Bs × Int)) (p:Bs × Int) (l:List (Bs × Int)):dd_ (ps++[p]) l=ins p.1 p.2 (dd_ ps l):=by simp [dd_]
theorem fS_:∀ (ps:List (Bs × Int)) {l:List (Bs × Int)},e9_ l→e9_ (dd_ ps l)
 |[],_,h=>h
 |p::ps,_,h=>fS_ ps (oj_ h)
theorem gx_:∀ {ps:List (Bs × Int)} {l:List (Bs × Int)} {p:Bs × Int},p ∈ dd_ ps l→p ∈ ps∨p ∈ l
 |[],_,_,h=>.inr h
 |q::ps,l,p,h=>by
  rcases gx_ (ps:=ps) h with h|h
  · exact .inl (List.mem_cons_of_mem _ h)
  · rcases lX_ h with h|h
    · exact .inl (h ▸ List.mem_cons_self ..)
    · exact .inr h
theorem oi_ {x:Bs} {y:Int}:∀ {l:List (Bs × Int)},(ins x y l).length≤l.length+1
 |[]=>Nat.le_refl _
 |(k,v)::l=>by
  have:=oi_ (x:=x) (y:=y) (l:=l)
  simp only [ins]
  split
  · simp only [List.length_cons];omega
  · split<;>simp only [List.length_cons]<;>omega
theorem gy_:∀ {ps:List (Bs × Int)} {l:List (Bs × Int)},(dd_ ps l).length≤l.length+ps.length
 |[],_=>Nat.le_refl _
 |p::ps,l=>by
  have:=gy_ (ps:=ps) (l:=ins p.1 p.2 l)
  have h:=oi_ (x:=p.1) (y:=p.2) (l:=l)
  simp only [List.length_cons]
  show (dd_ ps (ins p.1 p.2 l)).length≤_
  omega
theorem ins_has {x:Bs} {y:Int}:∀ {l:List (Bs × Int)},e9_ l→(x,y) ∈ l→ins x y l=l
 |[],_,h=>by cases h
 |(k,v)::l,ha,h=>by
  simp only [ins]
  rcases List.mem_cons.1 h with e|h
  · cases e;rw [if_neg (List.lt_irrefl _),if_pos rfl]
  · have hk:=ha.1 _ h
    rw [if_pos hk,ins_has ha.2 h]
theorem kz_ {x:Bs} {y:Int}:∀ {l:List (Bs × Int)},(x,y) ∈ ins x y l
 |[]=>List.mem_cons_self ..
 |(k,v)::l=>by
  simp only [ins]
  split
  · exact List.mem_cons_of_mem _ kz_
  · split<;>exact List.mem_cons_self ..
theorem mem_ins {x x':Bs} {y y':Int} (hne:x≠x'):∀ {l:List (Bs × Int)},(x,y) ∈ l→(x,y) ∈ ins x' y' l
 |[],h=>by cases h
 |(k,v)::l,h=>by
  simp only [ins]
  split
  · rcases List.mem_cons.1 h with e|h
    · exact e ▸ List.mem_cons_self ..
    · exact List.mem_cons_of_mem _ (mem_ins hne h)
  · split
    · rename_i h1 h2
      rcases List.mem_cons.1 h with e|h
      · cases e;exact absurd h2 hne
      · exact List.mem_cons_of_mem _ h
    · exact List.mem_cons_of_mem _ h
def eB_ (l:List Int):Nat→List Int
 |0=>[]
 |i+1=>if l.getD i 0 ∈ l.take i then eB_ l i else eB_ l i++[l.getD i 0]
theorem kk_ {l:List Int}:∀ {i:Nat} {c:Int},i≤l.length→(c ∈ eB_ l i↔c ∈ l.take i)
 |0,c,_=>by simp [eB_]
 |i+1,c,h=>by
  simp only [eB_]
  rw [cS_ 0 (show i<l.length by omega)]
  split
  · rename_i hm
    rw [kk_ (by omega),List.mem_append,List.mem_singleton]
    exact ⟨.inl,fun h=>h.elim id fun e=>e ▸ hm⟩
  · rw [List.mem_append,List.mem_append,kk_ (by omega)]
theorem iR_ {l:List Int}:∀ {i:Nat},(eB_ l i).length≤i
 |0=>Nat.le_refl _
 |i+1=>by
  have:=iR_ (l:=l) (i:=i)
  simp only [eB_]
  split
  · omega
  · simp;omega
theorem it_ {l:List Int}:∀ {i:Nat},i≤l.length→(eB_ l i).Nodup
 |0,_=>List.nodup_nil
 |i+1,h=>by
  simp only [eB_]
  split
  · exact it_ (by omega)
  · rename_i hm
    rw [List.nodup_append]
    refine ⟨it_ (by omega),by simp,fun a ha b hb => ?_⟩
    rw [List.mem_singleton.1 hb]
    rw [kk_ (by omega)] at ha
    exact fun e=>hm (e ▸ ha)
theorem sM_ {r:TRow} {l0:List (Bs × Int)} {cs:List Int} {c:Int} (h:c ∈ cs):fI_ r c ∈ dd_ (cs.map (fI_ r)) l0:=by
 induction cs generalizing l0 with
 |nil=>cases h
 |cons d cs ih=>
  show fI_ r c ∈ dd_ (cs.map (fI_ r)) (ins (eL_ d) (fu_ r d) l0)
  by_cases hc:c ∈ cs
  · exact ih hc
  · have e:c=d:=(List.mem_cons.1 h).resolve_right hc
    subst e
    have key:∀ (es:List Int) (m:List (Bs × Int)),c ∉ es→fI_ r c ∈ m→fI_ r c ∈ dd_ (es.map (fI_ r)) m:=by
     intro es
     induction es with
     |nil=>exact fun m _ h=>h
     |cons e es ih=>
      intro m hn hm
      refine ih _ (fun h=>hn (List.mem_cons_of_mem _ h)) (mem_ins (fun h=>hn ?_) hm)
      rw [me_ h];exact List.mem_cons_self ..
    exact key cs _ hc kz_
theorem jS_ {r:TRow} {l0:List (Bs × Int)} (h0:e9_ l0) {l:List Int}:∀ {i:Nat},i≤l.length→dd_ ((eB_ l i).map (fI_ r)) l0=dd_ ((l.take i).map (fI_ r)) l0
 |0,_=>by simp [eB_]
 |i+1,h=>by
  rw [cS_ 0 (show i<l.length by omega),List.map_append]
  simp only [eB_]
  have ih:=jS_ (r:=r) h0 (l:=l) (i:=i) (by omega)
  have e:=hy_ ((l.take i).map (fI_ r)) (fI_ r (l.getD i 0)) l0
  split
  · rename_i hm
    rw [ih]
    refine Eq.symm (e.trans (ins_has (fS_ _ h0) (sM_ hm)))
  · rw [List.map_append]
    refine (hy_ _ _ _).trans ?_
    rw [ih]
    exact e.symm
theorem nl_ {x:Bs} {y:Int}:∀ {ps:List (Bs × Int)} {l:List (Bs × Int)},(∀ p ∈ ps,p.1≠x)→dd_ ps (ins x y l)=ins x y (dd_ ps l)
 |[],_,_=>rfl
 |p::ps,l,h=>by
  show dd_ ps (ins p.1 p.2 (ins x y l))=ins x y (dd_ ps (ins p.1 p.2 l))
  rw [rM_ (h p (List.mem_cons_self ..)),nl_ fun q hq=>h q (List.mem_cons_of_mem _ hq)]
end Go.Pi
end
