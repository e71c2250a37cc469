/- FnGoesAlong: a view of a drawn store that goes along with a batch is the view of the store behind it, and its answer what asking anew tells. No condition. Text 5 of 7. -/
import Derived.Test.YtilkdgbncfebkaaGreatDoorGaD
import Derived.Shelf.RegionOpenPlain
import Derived.WalkKit
import Derived.Deep.RegionLaw
import Derived.Lib.Walk
import Derived.Lib.SliceRun
import Derived.Laws.CopyRow
import Derived.RowKit
import Derived.Lib.Overlaps
import Derived.Lib.AppendZerosOnto
import Derived.Laws.NewBlocks
import Derived.Laws.Externs
import Derived.ChangeArms
import Derived.DataReads
import Derived.ChangeOld
import Derived.Below
import Derived.Test.YtilkdgbncfebkaaGreatDoorRows
import Derived.ProofKit
import Derived.OpenShut
import Derived.LaidLaws
import Derived.JoinedOf
import Derived.JoinedAt
import Derived.ChangeVars
import Derived.ChangeMaps5
import Derived.Stop.LaidErr
import Derived.Test.YtilkdgbncfebkaaGreatDoorTie
import Derived.Test.YtilkdgbncfebkaaGreatDoorCards
import Derived.IntWalk
set_option linter.unusedVariables false
set_option maxRecDepth 100000
set_option linter.unusedSimpArgs false
section
namespace Go.Pi
def InsM (P:Program) (f:FuncId) (e:TypeId) (K B:Nat):Prop :=
 ∀ (w:World) (S:Value) (n:Nat) (vals:List Value) (U:Value) (m:Nat) (us:List Value) (i:Nat),w.ownsRow 0 e K S n vals→w.ownsRow 0 e K U m us→(∀ b,bP_ S b≠0→bP_ U b=0)→i≤n →
   (∀ v ∈ vals,v.oneCell'=true)→(∀ v ∈ us,v.oneCell'=true)→(n+m)*B≤140737488355328 →
   Calls P f (List.toArray [S,.int .i64 i,U]) w fun e' w'=>∃ R,e' = .returned R∧w'.ownsRow 0 e K R (n+m) (vals.take (i*K)++us++vals.drop (i*K))∧f3_ w w' (fun b=>bP_ S b≠0) ∧
    ∀ b,bP_ R b≠0→(w.heap.size≤b∨bP_ S b≠0)∧b<w'.heap.size
def DelM (P:Program) (f:FuncId) (e:TypeId) (K:Nat):Prop :=
 ∀ (w:World) (S:Value) (n:Nat) (vals:List Value) (i j:Nat),w.ownsRow 0 e K S n vals→i≤j→j≤n→(∀ v ∈ vals,v.oneCell'=true) →
   Calls P f (List.toArray [S,.int .i64 i,.int .i64 j]) w fun e' w'=>∃ R,e' = .returned R∧w'.ownsRow 0 e K R (n - (j - i)) (vals.take (i*K)++vals.drop (j*K))∧f3_ w w' (fun b=>bP_ S b≠0) ∧
    ∀ b,bP_ R b≠0→(w.heap.size≤b∨bP_ S b≠0)∧b<w'.heap.size
def M.both:M→M→M
 |.d,.d=>.d
 |_,_=>.s
variable [ao_]
open ao_
variable {E:Env} {w w':World} {F F':Nat→Prop}
theorem RL.own_inv {m t xs v l vs φ} (hm:m ≠ .v) (h:RL E w F (.sl m t xs::l) (v::vs) φ):∃ vals φ₁ φ₂,w.ownsRow 0 (E.eid t) t.width v xs.length vals∧RL E w F (aV_ m.sub t xs) vals φ₁∧(∀ b,bP_ v b≠0→F b)∧RL E w F l vs φ₂∧∀ b,φ b=bP_ v b+φ₁ b+φ₂ b:=by
 cases h with
 |scal _ _ _ _ _ h=>exact h.elim
 |view=>exact absurd rfl hm
 |own m t xs v vals φ₁ l vs φ₂ φ h1 h2 h3 h4 h5 h6=>exact ⟨vals,φ₁,φ₂,h2,h3,h4,h5,h6⟩
theorem RL.len_inv {a l Vs φ} (h:RL E w F (a::l) Vs φ):∃ v vs,Vs=v::vs:=by
 obtain ⟨v,vs,_,_,h,_⟩:=RL.uncons h
 exact ⟨v,vs,h⟩
theorem m5_ [aq_] {φ:Nat→Nat} (h1:∀ b,φ b≤1) (low:∀ b,φ b≠0→F b∧b<w.heap.size) {S:Value} (hSF:∀ b,bP_ S b≠0→F b) {t:TC} {zs:List (El t)} {vals:List Value} {ψ:Nat→Nat}
  (hz:RL E w F (aV_ .d t zs) vals ψ) (eφ:∀ b,bP_ S b+ψ b≤φ b) {R:Value} (hR:w'.ownsRow 0 (E.eid t) t.width R zs.length vals) (hg:f3_ w w' (fun b=>bP_ S b≠0))
  (hRb:∀ b,bP_ R b≠0→(w.heap.size≤b∨bP_ S b≠0)∧b<w'.heap.size) :
  ∃ φ',RL E w' (fun b=>(F b∧φ b=0)∨φ' b≠0) [.sl .d t zs] [R] φ'∧(∀ b,φ' b≤1)∧(∀ b,φ' b≠0→φ b≠0∨w.heap.size≤b) ∧
    w'.os=w.os∧w'.tape=w.tape∧w'.output=w.output∧w.heap.size≤w'.heap.size∧∀ b,b<w.heap.size→φ b=0→w'.heap[b]?=w.heap[b]?:=by
 have key:∀ b,bP_ R b≠0→bP_ S b≠0∨w.heap.size≤b:=fun b hb=>(hRb b hb).1.symm
 have elt:∀ b,ψ b≠0→bP_ R b=0∧bP_ S b=0:=fun b hb=>by
  have q1:=eφ b;have q2:=h1 b
  have s0:bP_ S b=0:=by omega
  refine ⟨Classical.byContradiction fun hr => ?_,s0⟩
  rcases key b hr with hs|hs
  · exact hs s0
  · have:=(low b (by omega)).2;omega
 refine ⟨fun b=>bP_ R b+ψ b,?_,fun b => ?_,fun b hb => ?_,hg.os,hg.tape,hg.output,hg.size,fun b hb h0=>hg.heap b hb fun hc=>hc (by have:=eφ b;omega)⟩
 · refine .own .d t zs R vals ψ [] _ (fun _=>0) _ (by decide) hR ?_ (fun b hb=>.inr (by show bP_ R b+_≠0;omega)) (.nil _ fun _=>rfl) (fun b=>rfl)
   refine hz.frame hg.size (fun b hb=>⟨hg.heap b (hz.low b hb).2 fun hc=>hc (elt b hb).2,.inr (by show bP_ R b+ψ b≠0;omega)⟩) fun b hb hn=>⟨hg.heap b hb fun hc=>hn (hSF b hc),fun hc => ?_⟩
   rcases hc with ⟨hf,-⟩|hc
   · exact hn hf
   · have hc:bP_ R b+ψ b≠0:=hc
     by_cases hr0:bP_ R b=0
     · exact hn (hz.low b (by omega)).1
     · rcases key b hr0 with hs|hs
       · exact hn (hSF b hs)
       · omega
 · show bP_ R b+ψ b≤1
   have q1:=eφ b;have q2:=h1 b;have:=ko_ R b
   by_cases h0:ψ b=0
   · omega
   · have:=elt b h0;omega
 · have hb:bP_ R b+ψ b≠0:=hb
   by_cases h0:ψ b=0
   · rcases key b (by omega) with hs|hs
     · exact .inl (by have:=eφ b;omega)
     · exact .inr hs
   · exact .inl (by have:=eφ b;omega)
theorem jJ_ [aq_] {φ:Nat→Nat} (h1:∀ b,φ b≤1) (low:∀ b,φ b≠0→F b∧b<w.heap.size) {S:Value} (hSF:∀ b,bP_ S b≠0→F b) {t:TC} {zs:List (El t)} {L:List AV} {vals:List Value} {ψ:Nat→Nat}
  (hz:RL E w F L vals ψ) (hL:L.map AV.asView=aV_ .v t zs) (eφ:∀ b,bP_ S b+ψ b≤φ b) {R:Value} (hR:w'.ownsRow 0 (E.eid t) t.width R zs.length vals) (hg:f3_ w w' (fun b=>bP_ S b≠0))
  (hRb:∀ b,bP_ R b≠0→(w.heap.size≤b∨bP_ S b≠0)∧b<w'.heap.size) :
  ∃ φ',RL E w' (fun b=>(F b∧φ b=0)∨φ' b≠0) [.sl .s t zs] [R] φ'∧(∀ b,φ' b≤1)∧(∀ b,φ' b≠0→φ b≠0∨w.heap.size≤b) ∧
    w'.os=w.os∧w'.tape=w.tape∧w'.output=w.output∧w.heap.size≤w'.heap.size∧∀ b,b<w.heap.size→φ b=0→w'.heap[b]?=w.heap[b]?:=by
 have key:∀ b,bP_ R b≠0→bP_ S b≠0∨w.heap.size≤b:=fun b hb=>(hRb b hb).1.symm
 have hv:=hz.seen (F':=fun b=>F b∧ψ b=0) (fun b hb hc=>hb hc.2) (fun b _ hn hc=>hn hc.1)
 rw [hL] at hv
 refine ⟨bP_ R,?_,ko_ R,fun b hb => ?_,hg.os,hg.tape,hg.output,hg.size,fun b hb h0=>hg.heap b hb fun hc=>hc (by have:=eφ b;omega)⟩
 · refine .own .s t zs R vals (fun _=>0) [] _ (fun _=>0) _ (by decide) hR ?_ (fun b hb=>.inr hb) (.nil _ fun _=>rfl) (fun b=>rfl)
   refine hv.frame hg.size (fun b hb=>absurd rfl hb) fun b hb hn=>⟨hg.heap b hb fun hc=>hn ⟨hSF b hc,by have:=eφ b;have:=h1 b;omega⟩,fun hc => ?_⟩
   rcases hc with ⟨hf,h0⟩|hc
   · exact hn ⟨hf,by have:=eφ b;omega⟩
   · rcases key b hc with hs|hs
     · exact hn ⟨hSF b hs,by have:=eφ b;have:=h1 b;omega⟩
     · omega
 · rcases key b hb with hs|hs
   · exact .inl (by have:=eφ b;omega)
   · exact .inr hs
theorem RL.int_inv {k n l v vs φ} (h:RL E w F (.i k n::l) (v::vs) φ):v = .int k n∧RL E w F l vs φ:=by
 cases h with
 |scal _ _ _ _ _ h1 h2=>exact ⟨h1,h2⟩
theorem codedD [aq_] {m:M} {t:TC} (zs:List (El t)):∀ a ∈ aV_ m t zs,∃ m,a.coded m:=fun a ha=>⟨m,dc_ a ha⟩
theorem n0_ [aq_] {f:FuncId} {t:TC} {m1 m2:M} (hm1:m1 ≠ .v) (hm2:m2 ≠ .v) (h:InsM E.P f (E.eid t) t.width t.bytes) {xs ys:List (El t)} {i:Nat} (hi:i≤xs.length) (hb:(xs.length+ys.length)*t.bytes≤140737488355328) :
  en_ E f [.sl m1 t xs,.i .i64 i,.sl m2 t ys] (.sl (M.both m1 m2) t (xs.take i++ys++xs.drop i)) [] [.o,.v,.o]:=by
 intro w F Vs φ hrl h1 hlow _
 have low:∀ b,φ b≠0→F b∧b<w.heap.size:=hrl.low
 obtain ⟨S,_,rfl⟩:=hrl.len_inv
 replace hrl:=hrl.own_inv hm1
 obtain ⟨vals,φx,φ2,hS,hx,hSF,hrl,e1⟩:=hrl
 obtain ⟨I,_,rfl⟩:=hrl.len_inv
 replace hrl:=hrl.int_inv
 obtain ⟨rfl,hrl⟩:=hrl
 obtain ⟨U,_,rfl⟩:=hrl.len_inv
 replace hrl:=hrl.own_inv hm2
 obtain ⟨us,φy,φ4,hU,hy,hUF,hrl,e3⟩:=hrl
 obtain ⟨rfl,e4⟩:=RL.nil_inv hrl
 have eφ:∀ b,φ b=bP_ S b+φx b+(bP_ U b+φy b):=fun b=>by rw [e1,e3,e4];omega
 refine (h w S xs.length vals U ys.length us i hS hU (fun b hb=>by have:=h1 b;have:=eφ b;omega) hi (hx.one (codedD _)) (hy.one (codedD _)) hb).mono ?_
 rintro e' w' ⟨R,rfl,hR,hg,hRb⟩
 have hx':RL E w F (aV_ m1.sub t (xs.take i)++aV_ m1.sub t (xs.drop i)) vals φx:=by rw [←bV_,List.take_append_drop];exact hx
 obtain ⟨va,vb,φa,φb,rfl,ha,hb',e6⟩:=hx'.split
 have hla:va.length=i*t.width:=by rw [←ha.length,cN_,List.length_take,Nat.min_eq_left hi]
 rw [←hla,List.take_left,List.drop_left] at hR
 have hz:RL E w F (aV_ m1.sub t (xs.take i)++aV_ m2.sub t ys++aV_ m1.sub t (xs.drop i)) (va++us++vb) (fun b=>φa b+φy b+φb b) :=
  (ha.append hy (ψ:=fun b=>φa b+φy b) (fun b=>rfl)).append hb' (fun b=>rfl)
 have hl:(xs.take i++ys++xs.drop i).length=xs.length+ys.length:=by simp;omega
 have he:∀ b,bP_ S b+(φa b+φy b+φb b)≤φ b:=fun b=>by have:=eφ b;have:=e6 b;omega
 by_cases hd:m1 = .d∧m2 = .d
 · obtain ⟨rfl,rfl⟩:=hd
   have hz':RL E w F (aV_ .d t (xs.take i++ys++xs.drop i)) (va++us++vb) (fun b=>φa b+φy b+φb b):=by
    rw [bV_,bV_];exact hz
   obtain ⟨φ',k1,k2⟩:=m5_ (S:=S) (R:=R) h1 low hSF hz' he (by rw [hl];exact hR) hg hRb
   exact ⟨R,φ',rfl,k1,k2⟩
 · have hb2:M.both m1 m2 = .s:=by cases m1<;>cases m2<;>first|rfl|exact absurd rfl hm1|exact absurd rfl hm2|exact absurd ⟨rfl,rfl⟩ hd
   rw [hb2]
   obtain ⟨φ',k1,k2⟩:=jJ_ (S:=S) (R:=R) (t:=t) (zs:=xs.take i++ys++xs.drop i) h1 low hSF hz (by rw [List.map_append,List.map_append,ev_,ev_,ev_,bV_,bV_]) he (by rw [hl];exact hR) hg hRb
   exact ⟨R,φ',rfl,k1,k2⟩
theorem oh_ [aq_] {f:FuncId} {t:TC} {m:M} (hm0:m ≠ .v) (h:DelM E.P f (E.eid t) t.width) {xs:List (El t)} {i j:Nat} (hij:i≤j) (hj:j≤xs.length) :
  en_ E f [.sl m t xs,.i .i64 i,.i .i64 j] (.sl (M.both m m) t (xs.take i++xs.drop j)) [] [.o,.v,.v]:=by
 intro w F Vs φ hrl h1 hlow _
 have low:∀ b,φ b≠0→F b∧b<w.heap.size:=hrl.low
 obtain ⟨S,_,rfl⟩:=hrl.len_inv
 replace hrl:=hrl.own_inv hm0
 obtain ⟨vals,φx,φ2,hS,hx,hSF,hrl,e1⟩:=hrl
 obtain ⟨I,_,rfl⟩:=hrl.len_inv
 replace hrl:=hrl.int_inv
 obtain ⟨rfl,hrl⟩:=hrl
 obtain ⟨J,_,rfl⟩:=hrl.len_inv
 replace hrl:=hrl.int_inv
 obtain ⟨rfl,hrl⟩:=hrl
 obtain ⟨rfl,e4⟩:=RL.nil_inv hrl
 have eφ:∀ b,φ b=bP_ S b+φx b:=fun b=>by rw [e1,e4];omega
 refine (h w S xs.length vals i j hS hij hj (hx.one (codedD _))).mono ?_
 rintro e' w' ⟨R,rfl,hR,hg,hRb⟩
 have hx':RL E w F (aV_ m.sub t (xs.take i)++(aV_ m.sub t ((xs.drop i).take (j - i))++aV_ m.sub t (xs.drop j))) vals φx:=by
  rw [←bV_,←bV_]
  have:xs.drop j=(xs.drop i).drop (j - i):=by rw [List.drop_drop];congr 1;omega
  rw [this,List.take_append_drop,List.take_append_drop];exact hx
 obtain ⟨va,vc,φa,φc,rfl,ha,hc,e6⟩:=hx'.split
 obtain ⟨vm,vb,φm,φb,rfl,hm,hb',e7⟩:=hc.split
 have hla:va.length=i*t.width:=by rw [←ha.length,cN_,List.length_take,Nat.min_eq_left (by omega)]
 have hlm:vm.length=(j - i)*t.width:=by rw [←hm.length,cN_,List.length_take,List.length_drop,Nat.min_eq_left (by omega)]
 have hlj:(va++vm).length=j*t.width:=by rw [List.length_append,hla,hlm,←Nat.add_mul];congr 1;omega
 rw [←hla,List.take_left,←hlj,←List.append_assoc,List.drop_left] at hR
 have hz:RL E w F (aV_ m.sub t (xs.take i)++aV_ m.sub t (xs.drop j)) (va++vb) (fun b=>φa b+φb b):=ha.append hb' (fun b=>rfl)
 have hl:(xs.take i++xs.drop j).length=xs.length - (j - i):=by simp;omega
 have he:∀ b,bP_ S b+(φa b+φb b)≤φ b:=fun b=>by have:=eφ b;have:=e6 b;have:=e7 b;omega
 cases m with
 |v=>exact absurd rfl hm0
 |d=>
  have hz':RL E w F (aV_ .d t (xs.take i++xs.drop j)) (va++vb) (fun b=>φa b+φb b):=by
   rw [bV_];exact hz
  obtain ⟨φ',k1,k2⟩:=m5_ (S:=S) (R:=R) h1 low hSF hz' he (by rw [hl];exact hR) hg hRb
  exact ⟨R,φ',rfl,k1,k2⟩
 |s=>
  obtain ⟨φ',k1,k2⟩:=jJ_ (S:=S) (R:=R) (t:=t) (zs:=xs.take i++xs.drop j) h1 low hSF hz (by rw [List.map_append,ev_,ev_,bV_]) he (by rw [hl];exact hR) hg hRb
  exact ⟨R,φ',rfl,k1,k2⟩
theorem nDel_ok [aq_] {f:FuncId} {t:TC} {m:M} (hm0:m ≠ .v) (h:DelM E.P f (E.eid t) t.width) {xs r:List (El t)} {i j:Int} (hr:hn_ xs i j=some r) :
  en_ E f [.sl m t xs,.i .i64 i,.i .i64 j] (.sl (M.both m m) t r) [] [.o,.v,.v]:=by
 unfold hn_ at hr
 by_cases hc:0≤i∧i≤j∧j≤(xs.length:Int)
 · obtain ⟨h1,h2,h3⟩:=hc
   obtain ⟨i,rfl⟩:=Int.eq_ofNat_of_zero_le h1
   obtain ⟨j,rfl⟩:=Int.eq_ofNat_of_zero_le (Int.le_trans h1 h2)
   simp only [h1,h2,h3,decide_true,Bool.and_true,cond_true,Option.some.injEq] at hr
   subst hr
   exact oh_ hm0 h (by omega) (by omega)
 · have:(decide (0≤i)&&(decide (i≤j)&&decide (j≤(xs.length:Int))))=false:=by
    rw [Bool.eq_false_iff];intro h;simp only [Bool.and_eq_true,decide_eq_true_eq] at h;exact hc h
   rw [this] at hr;cases hr
theorem ks_ [aq_] {f:FuncId} {t:TC} {m1 m2:M} (hm1:m1 ≠ .v) (hm2:m2 ≠ .v) (h:InsM E.P f (E.eid t) t.width t.bytes) {xs ys r:List (El t)} {i:Int} (hr:eS_ t.bytes xs i ys=some r) :
  en_ E f [.sl m1 t xs,.i .i64 i,.sl m2 t ys] (.sl (M.both m1 m2) t r) [] [.o,.v,.o]:=by
 unfold eS_ at hr
 by_cases hc:0≤i∧i≤(xs.length:Int)
 · obtain ⟨h1,h2⟩:=hc
   obtain ⟨i,rfl⟩:=Int.eq_ofNat_of_zero_le h1
   by_cases hb:(xs.length+ys.length)*t.bytes≤140737488355328
   · simp only [h1,h2,hb,decide_true,Bool.and_true,cond_true,Option.some.injEq] at hr
     subst hr
     exact n0_ hm1 hm2 h (by omega) hb
   · simp [h1,h2,hb] at hr
 · have:(decide (0≤i)&&decide (i≤(xs.length:Int)))=false:=by
    rw [Bool.eq_false_iff];intro h;simp only [Bool.and_eq_true,decide_eq_true_eq] at h;exact hc h
   rw [this] at hr;cases hr
end Go.Pi
end
section
namespace Go.Proofs
open Go.Shelf Go.RowKit Go.Lib Go.Pi
section
variable {P:Program}
theorem fE_ {ops:Array Oper} {o:Oper} {a:Act} {w:World} {K:Act→World→Prop} {Q:Exit→Act→World→Prop} {E:Prop}
  (hg:o.guard=none) (d x:Operand) (dT sT:TypeId) (hop:o.op=Op.call { callee:=Callee.builtin Builtin.append,args:=#[d,x],argTypes:=#[dT,sT] })
  (v u:Value) (hd:a.eval d=v) (hx:a.eval x=u) {v':Value} {w':World} (hr:(Builtin.append_ #[dT,sT] o.type #[v,u]).run P w = .ok v' w') (hK:K (a.put o.dst v') w') :
  if Region.wanted o (yielded ops a.tmps)=true then Oper.wp P o a w K Q else E:=by
 have hw:Region.wanted o (yielded ops a.tmps)=true:=by simp [Region.wanted,hg]
 rw [if_pos hw]
 unfold Oper.wp
 simp [execOp,hop,resolve,invoke,builtin,hd,hx,hr,Result.andThen]
 exact hK
theorem nM_ (w:World) {ops:Array Oper} {gP_:List Oper} {o:Oper} {a:Act} {Q:Exit→Act→World→Prop} (hgd:o.guard=none) (d:Operand) (t:TypeId)
  (ho:o.op = .call { callee:=.builtin .clear,args:=#[d],argTypes:=#[t] }) (v:Value) (hd:a.eval d=v) {v':Value} {w':World}
  (hr:(Builtin.clear_ #[t] o.type #[v]).run P w = .ok v' w') (h:wpList P ops Q gP_ (a.put o.dst v') w'):wpList P ops Q (o::gP_) a w :=
 wpList_plain hgd fun _ hK=>by
  unfold Oper.wp execOp
  simp only [ho,resolve,invoke,builtin,Sem.run_bind,Sem.run_pure,Result.andThen_ok,List.map_toArray,List.map_cons,List.map_nil,hd,hr]
  exact hK _ _ h
theorem ip_ (w:World) (t e ty:TypeId) (z:Value) (ht:P.underlying t=some (.slice e)) (hv:∀ w,(zeroValue e).run P w = .ok z w) (g o n c:Nat) (hn:0<n) (cur:Array Value) (T:TypeId) (hg:w.heap[g]?=some (.cells cur T (0,0)))
  (hfit:o+(Builtin.zeroCells z.cells n).toList.length≤cur.size) (h1:∀ v ∈ (Builtin.zeroCells z.cells n).toList,v.oneCell'=true) :
  (Builtin.clear_ #[t] ty #[.slice (some ⟨g,o,none⟩) n c]).run P w = .ok (.tuple #[]) (w.setRow g (cur.toList.take o++(Builtin.zeroCells z.cells n).toList++cur.toList.drop (o+(Builtin.zeroCells z.cells n).toList.length)).toArray):=by
 have hst:=run_storeCells_at P g o T (Builtin.zeroCells z.cells n).toList 0 cur w hg (by simpa using hfit) h1
 obtain ⟨m,rfl⟩:∃ m,n=m+1:=⟨n - 1,by omega⟩
 simp only [Builtin.clear_,run_underlying ht,Sem.run_bind,Result.andThen_ok,hv]
 simp only [List.getElem?_toArray,List.getElem?_cons_zero,Sem.run_bind,run_underlying ht,Result.andThen_ok,hv,hst,Nat.add_zero,Sem.run_pure]
end
theorem dZ_ (w:World) {P:Program} {ops:Array Oper} {gP_:List Oper} {o:Oper} {a:Act} {Q:Exit→Act→World→Prop} (hgd:o.guard=none) (d s:Operand) (t t':TypeId)
  (ho:o.op = .call { callee:=.builtin .copy,args:=#[d,s],argTypes:=#[t,t'] }) (v u:Value) (hd:a.eval d=v) (hs:a.eval s=u) {v':Value} {w':World}
  (hr:(Builtin.copy_ #[t,t'] o.type #[v,u]).run P w = .ok v' w') (h:wpList P ops Q gP_ (a.put o.dst v') w'):wpList P ops Q (o::gP_) a w :=
 wpList_plain hgd fun _ hK=>by
  unfold Oper.wp execOp
  simp only [ho,resolve,invoke,builtin,Sem.run_bind,Sem.run_pure,Result.andThen_ok,List.map_toArray,List.map_cons,List.map_nil,hd,hs,hr]
  exact hK _ _ h
theorem cZ_ {P:Program} {ops:Array Oper} {o:Oper} {a:Act} {w:World} {K:Act→World→Prop} {Q:Exit→Act→World→Prop} {E:Prop}
  (hg:o.guard=none) (d x:Operand) (dT sT:TypeId) (hop:o.op=Op.call { callee:=Callee.builtin Builtin.copy,args:=#[d,x],argTypes:=#[dT,sT] })
  (v u:Value) (hd:a.eval d=v) (hx:a.eval x=u) {v':Value} {w':World} (hr:(Builtin.copy_ #[dT,sT] o.type #[v,u]).run P w = .ok v' w') (hK:K (a.put o.dst v') w') :
  if Region.wanted o (yielded ops a.tmps)=true then Oper.wp P o a w K Q else E:=by
 have hw:Region.wanted o (yielded ops a.tmps)=true:=by simp [Region.wanted,hg]
 rw [if_pos hw]
 unfold Oper.wp
 simp [execOp,hop,resolve,invoke,builtin,hd,hx,hr,Result.andThen]
 exact hK
theorem b1_ {P:Program} (w:World) (dT sT ty elem:TypeId) (k:Nat) (g o dLen dCap:Nat) (a:Addr) (sLen sCap:Nat) (cur:Array Value) (t:TypeId) (cs:List Value)
  (hu:P.underlying dT=some (.slice elem)) (hs:(P.info? elem).map (·.size)=some k)
  (hg:w.heap[g]?=some (.cells cur t (0,0))) (hn:cs.length=Nat.min sLen dLen*k)
  (hsrc:∀ j v,cs[j]?=some v→w.cell? (a.add j)=some v) (hfit:o+cs.length≤cur.size) (h1:∀ v ∈ cs,v.oneCell'=true) :
  (Builtin.copy_ #[dT,sT] ty #[.slice (some ⟨g,o,none⟩) dLen dCap,.slice (some a) sLen sCap]).run P w =
   .ok (goInt (Nat.min sLen dLen)) (w.setRow g (cur.toList.take o++cs++cur.toList.drop (o+cs.length)).toArray):=by
 have hl:=run_loadCells_list (P:=P) w a cs hsrc
 have hst:=run_storeCells_at P g o t cs 0 cur w hg (by simpa using hfit) h1
 cases hq:P.info? elem with
 |none=>simp [hq] at hs
 |some i=>
  have hi:i.size=k:=by simpa [hq] using hs
  simp [Builtin.copy_,run_underlying hu,Builtin.lenOf,Builtin.firstCells,sizeOf,typeInfo,hq,hi,←hn,hl,hst]
theorem zc_one (cs:Array Value) (h:cs.toList.all Value.oneCell'=true) (n:Nat):∀ v ∈ (Builtin.zeroCells cs n).toList,v.oneCell'=true:=by
 intro v hv
 simp only [Builtin.zeroCells,Array.toList_map,List.mem_map,Array.toList_range,List.mem_range] at hv
 obtain ⟨x,hx,rfl⟩:=hv
 have h0:0<cs.size:=Nat.pos_of_mul_pos_left (by omega:0<n*cs.size)
 have:x % cs.size<cs.size:=Nat.mod_lt _ h0
 rw [getElem!_pos cs _ this]
 exact List.all_eq_true.1 h _ (by simp)
theorem hm_ {w:World} {e:TypeId} {K:Nat} {S:Value} {n:Nat} {vals:List Value} (h:w.ownsRow 0 e K S n vals):∀ b,bP_ S b≠0→b<w.heap.size:=by
 intro b hb
 rcases h.2 with ⟨rfl,_⟩|⟨g,cap,cur,rfl,_,hg,_⟩
 · simp [bP_] at hb
 · have:g=b:=by simp only [bP_] at hb;exact Classical.byContradiction fun h=>hb (if_neg h)
   subst this
   exact (Array.getElem?_eq_some_iff.1 hg).1
theorem fh_ (w:World) (g:Nat) (A:Array Value):w.heap.size≤(w.drew.setRow g A).heap.size:=by
 have:(w.drew.setRow g A).heap.size=w.drew.heap.size:=by simp [World.setRow]
 rw [this];exact Nat.le_refl _
theorem dK_ {w:World} {e:TypeId} {v:Value} {n:Nat} {xs:List Value}:w.ownsRow 0 e 1 v n xs ↔
  (xs.length=n∧(v = .slice none 0 0∧n=0∨∃ g cap cur,v = .slice (some ⟨g,0,none⟩) n cap∧0≤g∧w.heap[g]?=some (.cells cur e (0,0))∧n≤cap∧cap≤maxLen∧cur.size=cap∧cur.toList.take n=xs)):=by
 unfold World.ownsRow
 simp only [Nat.mul_one]
end Go.Proofs
end
section
namespace Go.Proofs
open Go.Shelf Go.RowKit Go.Lib Go.Pi
section
variable {P:Program}
theorem insGrow82 (TS TE:TypeId) (TI:TypeId) (Z:Value) (i0:TypeInfo) (uS:P.underlying TS=some (.slice TE)) (uI:P.underlying TI=some (.int .i64)) (hi0:P.info? TE=some i0) (hz2:i0.zero=some Z) (hz0:i0.size=2) (hz1:i0.bytes=16) (hZK:Z.cells.size=2)
  (w:World) (g n c i:Nat) (cur:Array Value) (hg:w.heap[g]?=some (.cells cur TE (0,0))) (hs:cur.size=c*2) (hnc:n≤c) (hi:i<n)
  (gv m vc:Nat) (curv:Array Value) (Tv:TypeId) (hgv:w.heap[gv]?=some (.cells curv Tv (0,0))) (hmv:m*2≤curv.size) (us:List Value) (hul:us=curv.toList.take (m*2)) (h1u:∀ v ∈ us,v.oneCell'=true) (hm:0<m) (hroom:c<n+m)
  (hbig:(n+m)*16≤140737488355328) (h1:∀ v ∈ cur.toList.take (n*2),v.oneCell'=true) :
  ∃ G N W1 R1 W2 A,Hid (N=w.heap.size)∧n+m≤G∧G≤maxLen ∧
    (∀ ty,(Builtin.append_ #[TS,TI] ty #[.slice (some ⟨g,0,none⟩) i c,.int .i64 ((n:Int)+(m:Int) - (i:Int))]).run P w = .ok (.slice (some ⟨N,0,none⟩) (n+m) G) W1) ∧
    (∀ ty dc,(Builtin.copy_ #[TS,TS] ty #[.slice (some ⟨N,i*2,none⟩) (n+m - i) dc,.slice (some ⟨gv,0,none⟩) m vc]).run P W1 = .ok (goInt m) (W1.setRow N R1)) ∧
    (W1.setRow N R1).drew=W2 ∧
    (∀ ty dc sc,(Builtin.copy_ #[TS,TS] ty #[.slice (some ⟨N,(i+m)*2,none⟩) (n+m - (i+m)) dc,.slice (some ⟨g,i*2,none⟩) (n - i) sc]).run P W2 = .ok (goInt (n - i)) (W2.setRow N A)) ∧
    Hid (n+m≤G∧G≤maxLen∧(W2.setRow N A).heap[w.heap.size]?=some (.cells A TE (0,0))∧A.size=G*2∧A.toList.take ((n+m)*2)=(cur.toList.take (n*2)).take (i*2)++us++(cur.toList.take (n*2)).drop (i*2)∧w.grownBy (W2.setRow N A) none):=by
 have hul2:us.length=m*2:=by rw [hul,List.length_take,Array.length_toList];omega
 have hsz:(P.info? TE).map (·.size)=some 2:=by rw [hi0];simp [hz0]
 have hgd:w.drew.heap[g]?=some (.cells cur TE (0,0)):=hg
 have hgl:g<w.heap.size:=(Array.getElem?_eq_some_iff.1 hg).1
 have hgvl:gv<w.heap.size:=(Array.getElem?_eq_some_iff.1 hgv).1
 obtain ⟨olds,holds⟩:∃ olds,olds=(cur.toList.take (n*2)).take (i*2):=⟨_,rfl⟩
 have hol:olds.length=i*2:=by rw [holds];simp [hs];omega
 obtain ⟨G,hG⟩:∃ G,G=grownCap w (n+m) c TE:=⟨_,rfl⟩
 have hGn:n+m≤G:=by rw [hG];exact grownCap_ge w _ _ _
 have hGm:G≤maxLen:=by rw [hG];exact grownCap_le_maxLen w (n+m) c TE (by unfold maxLen;omega)
 obtain ⟨ROW,hROW⟩:∃ ROW:Array Value,ROW=olds.toArray++Builtin.zeroCells Z.cells (n+m - i)++Builtin.zeroCells Z.cells (G - (n+m)):=⟨_,rfl⟩
 have hRl:ROW.size=G*2:=by rw [hROW];simp [Builtin.zeroCells,hol,hZK];omega
 have hRt:ROW.toList.take (i*2)=olds:=by
  rw [hROW];simp only [Array.toList_append,List.append_assoc]
  rw [List.take_append_of_le_length (by simp [hol]),List.take_of_length_le (by simp [hol])]
 have hkk:(n:Int)+(m:Int) - (i:Int)=((n+m - i:Nat):Int):=by omega
 have hrz:∀ ty,(Builtin.append_ #[TS,TI] ty #[.slice (some ⟨g,0,none⟩) i c,.int .i64 ((n:Int)+(m:Int) - (i:Int))]).run P w =
   .ok (.slice (some ⟨w.heap.size,0,none⟩) (n+m) G) (w.drew.alloc (.cells ROW TE)):=fun ty=>by
  have h:=Lib.run_append_grow_zeros (P:=P) w TS TI ty TE i0 _ .i64 .i64 uS uI hi0 hz2 (some ⟨g,0,none⟩) i c olds (by
   rw [hz0]
   exact run_firstCells_some w.drew 2 i ⟨g,0,none⟩ i c olds hol (fun j v hj=>by
    have hj2:=(List.getElem?_eq_some_iff.1 hj).1
    rw [holds,List.getElem?_take_of_lt (by omega),List.getElem?_take_of_lt (by omega),Array.getElem?_toList] at hj
    rw [Addr.add_lit,Nat.zero_add]
    simp only [World.cell?,hgd]
    exact hj)) (n+m - i) (by omega) (by omega) (by omega) (by omega) (by rw [hz1];omega) (by rw [hz1,show i+(n+m - i)=n+m by omega];exact growslice_fits hroom hbig)
  rw [show i+(n+m - i)=n+m by omega,←hG,←hROW] at h
  rw [hkk]
  exact h
 obtain ⟨N,hN⟩:∃ N,N=w.heap.size:=⟨_,rfl⟩
 rw [←hN] at hrz
 obtain ⟨W1,hW1⟩:∃ W1,W1=w.drew.alloc (.cells ROW TE):=⟨_,rfl⟩
 rw [←hW1] at hrz
 have hN1:W1.heap[N]?=some (.cells ROW TE (0,0)):=by rw [hW1,hN];exact heap_alloc_new w.drew _
 have hold:∀ b,b<w.heap.size→W1.heap[b]?=w.heap[b]?:=fun b hb=>by rw [hW1];exact heap_alloc_old w.drew _ hb
 have hgr1:w.grownBy W1 none:=by rw [hW1];exact ⟨rfl,rfl,rfl,by simp,fun k hk _=>heap_alloc_old w.drew _ hk⟩
 obtain ⟨R1,hR1⟩:∃ R1,R1=(ROW.toList.take (i*2)++us++ROW.toList.drop (i*2+us.length)).toArray:=⟨_,rfl⟩
 have hR1s:R1.size=G*2:=by rw [hR1];simp [hul2,hRl];omega
 have hcp1:∀ ty dc,(Builtin.copy_ #[TS,TS] ty #[.slice (some ⟨N,i*2,none⟩) (n+m - i) dc,.slice (some ⟨gv,0,none⟩) m vc]).run P W1 = .ok (goInt m) (W1.setRow N R1):=fun ty dc=>by
  have:=b1_ (P:=P) W1 TS TS ty TE 2 N (i*2) (n+m - i) dc ⟨gv,0,none⟩ m vc ROW TE us uS hsz hN1 (by rw [hul2];simp only [Nat.min_def];split<;>omega)
   (fun j v hj=>by
     have hj2:=(List.getElem?_eq_some_iff.1 hj).1
     rw [hul,List.getElem?_take_of_lt (by omega),Array.getElem?_toList] at hj
     rw [Addr.add_lit,Nat.zero_add]
     simp only [World.cell?,hold gv hgvl,hgv]
     exact hj) (by rw [hul2,hRl];omega) h1u
  rw [this,hR1]
  congr 2
  simp only [Nat.min_def];split<;>omega
 obtain ⟨W2,hW2⟩:∃ W2,W2=(W1.setRow N R1).drew:=⟨_,rfl⟩
 have hN2:W2.heap[N]?=some (.cells R1 TE (0,0)):=by rw [hW2];exact setRow_heap _ _ _ _ _ _ hN1
 have hg2:W2.heap[g]?=some (.cells cur TE (0,0)):=by
  rw [hW2];show (W1.setRow N R1).heap[g]?=_
  rw [setRow_other _ _ _ _ (by omega),hold g hgl];exact hg
 obtain ⟨mv,hmv2⟩:∃ mv,mv=(cur.toList.take (n*2)).drop (i*2):=⟨_,rfl⟩
 have hml:mv.length=(n - i)*2:=by rw [hmv2];simp [hs];omega
 obtain ⟨A,hA⟩:∃ A,A=(R1.toList.take ((i+m)*2)++mv++R1.toList.drop ((i+m)*2+mv.length)).toArray:=⟨_,rfl⟩
 have hcp2:∀ ty dc sc,(Builtin.copy_ #[TS,TS] ty #[.slice (some ⟨N,(i+m)*2,none⟩) (n+m - (i+m)) dc,.slice (some ⟨g,i*2,none⟩) (n - i) sc]).run P W2 = .ok (goInt (n - i)) (W2.setRow N A):=fun ty dc sc=>by
  have:=b1_ (P:=P) W2 TS TS ty TE 2 N ((i+m)*2) (n+m - (i+m)) dc ⟨g,i*2,none⟩ (n - i) sc R1 TE mv uS hsz hN2 (by rw [hml];simp only [Nat.min_def];split<;>omega)
   (fun j v hj=>by
     have hj2:=(List.getElem?_eq_some_iff.1 hj).1
     rw [hmv2,List.getElem?_drop,List.getElem?_take_of_lt (by omega),Array.getElem?_toList] at hj
     rw [Addr.add_lit]
     simp only [World.cell?,hg2]
     exact hj) (by rw [hml,hR1s];omega) (fun v hv=>h1 v (by rw [hmv2] at hv;exact List.mem_of_mem_drop hv))
  rw [this,hA]
  congr 2
  simp only [Nat.min_def];split<;>omega
 have kA:Hid (n+m≤G∧G≤maxLen∧(W2.setRow N A).heap[w.heap.size]?=some (.cells A TE (0,0))∧A.size=G*2∧A.toList.take ((n+m)*2)=(cur.toList.take (n*2)).take (i*2)++us++(cur.toList.take (n*2)).drop (i*2)∧w.grownBy (W2.setRow N A) none):=by
  refine ⟨hGn,hGm,by rw [←hN];exact setRow_heap _ _ _ _ _ _ hN2,by rw [hA];simp [hml,hR1s];omega,?_,?_⟩
  · have e1:R1.toList.take ((i+m)*2)=olds++us:=by
     rw [hR1];simp only [List.toList_toArray]
     rw [List.take_append_of_le_length (by simp [hul2,hRl];omega),List.take_of_length_le (by simp [hul2,hRl];omega),hRt]
    rw [hA];simp only [List.toList_toArray]
    rw [e1,List.take_append_of_le_length (by simp [hol,hul2,hml];omega),List.take_of_length_le (by simp [hol,hul2,hml];omega),holds,hmv2]
  · refine ⟨by rw [hW2];exact hgr1.os,by rw [hW2];exact hgr1.tape,by rw [hW2];exact hgr1.output,?_,fun k hk hne => ?_⟩
    · have:(W2.setRow N A).heap.size=W1.heap.size:=by rw [hW2];simp [World.setRow,World.drew]
      rw [this];exact hgr1.size
    · rw [setRow_other _ _ _ _ (by omega),hW2]
      show (W1.setRow N R1).heap[k]?=_
      rw [setRow_other _ _ _ _ (by omega)];exact hold k hk
 exact ⟨G,N,W1,R1,W2,A,hN,hGn,hGm,hrz,hcp1,hW2.symm,hcp2,kA⟩
end
set_option maxRecDepth 1000000 in
theorem InsEnd82 (w:World) (S:Value) (n:Nat) (vals:List Value) (hS:w.ownsRow 0 87 2 S n vals) (gv m vc:Nat) (us:List Value) (hul:us.length=m*2) (hus:∀ j u,us[j]?=some u→w.cell? ⟨gv,j,none⟩=some u) (h1u:∀ v ∈ us,v.oneCell'=true) (hm:0<m) (hb:(n+m)*16≤140737488355328) :
  Calls Tryz.prog 82 #[S,.int .i64 n,.slice (some ⟨gv,0,none⟩) m vc] w fun e w'=>∃ R,e = .returned R∧w'.ownsRow 0 87 2 R (n+m) (vals++us)∧f3_ w w' (fun b=>bP_ S b≠0) ∧
   ∀ b,bP_ R b≠0→(w.heap.size≤b∨bP_ S b≠0)∧b<w'.heap.size:=by
 obtain ⟨i0,hi0⟩:=Option.isSome_iff_exists.1 (show (Tryz.prog.info? 87).isSome=true by kernel_rfl)
 have hz0:i0.size=2:=by
  have:(Tryz.prog.info? 87).map (·.size)=some 2:=by kernel_rfl
  rw [hi0] at this;simpa using this
 have hz1:i0.bytes=16:=by
  have:(Tryz.prog.info? 87).map (·.bytes)=some 16:=by kernel_rfl
  rw [hi0] at this;simpa using this
 have hz2:i0.zero=some (.agg #[.int .i64 0,.int .i64 0]):=by
  have:(Tryz.prog.info? 87).bind (·.zero)=some (.agg #[.int .i64 0,.int .i64 0]):=by kernel_rfl
  rw [hi0] at this;simpa using this
 have hz3:¬ ((m:Int)=0):=by omega
 have mixed:Tryz.prog.follows .mixedOrders=true:=by kernel_rfl
 have key:∀ ty,∃ v' w',(Builtin.append_ #[37,37] ty #[S,.slice (some ⟨gv,0,none⟩) m vc]).run Tryz.prog w = .ok v' w'∧w'.ownsRow 0 87 2 v' (n+m) (vals++us)∧f3_ w w' (fun b=>bP_ S b≠0) ∧
   ∀ b,bP_ v' b≠0→(w.heap.size≤b∨bP_ S b≠0)∧b<w'.heap.size:=fun ty=>by
  have:=dS_ (P:=Tryz.prog) w 37 ty 87 i0 _ Tryz.underlying37 hi0 hz2 (by rw [hz0];rfl) (by rw [hz0];decide) S n vals (by rw [hz0];exact hS) (.slice (some ⟨gv,0,none⟩) m vc) m us (by rw [hz0];exact hul) (.inl ⟨_,_,rfl,fun j u h=>by rw [Addr.add_lit,Nat.zero_add];exact hus j u h⟩) h1u (by unfold maxLen;omega) (by rw [hz1];exact hb)
  rw [hz0] at this
  exact this
 obtain ⟨v',w',k1,k2,k3⟩:=key 37
 rcases hS.2 with ⟨rfl,rfl⟩|⟨g,c,cur,rfl,-,hg,hnc,hcm,hcs,htake⟩
 · clear key hS hus hz2 hi0 hz0 hz1
   go_enter Tryz.func82,Tryz.ntmps82
   go_wp2_with (at_builtin;refine Lib.wpList_append_run _ rfl _ _ 37 37 rfl _ _ rfl rfl _ _ k1 ?_)
   go_ret
   exact ⟨_,rfl,k2,k3⟩
 · clear key hS hus hz2 hg htake hcs hi0 hz0 hz1
   unfold maxLen at hcm
   go_enter Tryz.func82,Tryz.ntmps82
   go_wp2_with (at_builtin;refine Lib.wpList_append_run _ rfl _ _ 37 37 rfl _ _ rfl rfl _ _ k1 ?_)
   all_goals (go_ret;exact ⟨_,rfl,k2,k3⟩)
set_option maxRecDepth 1000000 in
theorem InsNone82 (w:World) (S:Value) (n i:Nat) (vals:List Value) (hS:w.ownsRow 0 87 2 S n vals) (U:Value) (us:List Value) (hU:w.ownsRow 0 87 2 U 0 us) (hi:i≤n) :
  Calls Tryz.prog 82 #[S,.int .i64 i,U] w fun e w'=>e = .returned S∧w'=w:=by
 rcases hS.2 with ⟨rfl,rfl⟩|⟨g,c,cur,rfl,-,hg,hnc,hcm,hcs,htake⟩
 · have hi0:i=0:=by omega
   subst hi0
   rcases hU.2 with ⟨rfl,-⟩|⟨gv,vc,curv,rfl,-,hgv,hmc,hcm,hcs,htake⟩
   · clear hS hU
     go_enter Tryz.func82,Tryz.ntmps82
     go_wp2_with fail
     go_ret
     exact ⟨rfl,rfl⟩
   · clear hS hU hgv hcs htake
     go_enter Tryz.func82,Tryz.ntmps82
     go_wp2_with fail
     go_ret
     exact ⟨rfl,rfl⟩
 · unfold maxLen at hcm
   have hic:i≤c:=by omega
   rcases hU.2 with ⟨rfl,-⟩|⟨gv,vc,curv,rfl,-,hgv,hmc,hcm2,hcs2,htake2⟩
   · clear hS hU hg hcs htake
     go_enter Tryz.func82,Tryz.ntmps82
     go_wp2_with fail
     all_goals (go_ret;exact ⟨rfl,rfl⟩)
   · clear hS hU hg hcs htake hgv hcs2 htake2
     go_enter Tryz.func82,Tryz.ntmps82
     go_wp2_with fail
     all_goals (go_ret;exact ⟨rfl,rfl⟩)
set_option maxRecDepth 1000000 in
theorem on_ (w:World) (g n c i:Nat) (cur:Array Value) (hg:w.heap[g]?=some (.cells cur 87 (0,0))) (hs:cur.size=c*2) (hc:c≤9223372036854775807) (hi:i<n)
  (gv m vc:Nat) (curv:Array Value) (Tv:TypeId) (hgv:w.heap[gv]?=some (.cells curv Tv (0,0))) (hmv:m*2≤curv.size) (hne:gv≠g) (us:List Value) (hul:us=curv.toList.take (m*2)) (h1u:∀ v ∈ us,v.oneCell'=true) (hm:0<m) (hroom:n+m≤c)
  (h1:∀ v ∈ cur.toList.take (n*2),v.oneCell'=true) :
  Calls Tryz.prog 82 #[.slice (some ⟨g,0,none⟩) n c,.int .i64 i,.slice (some ⟨gv,0,none⟩) m vc] w fun e w'=>e = .returned (.slice (some ⟨g,0,none⟩) (n+m) c) ∧
   ∃ A,w'=w.drew.setRow g A∧A.size=cur.size∧A.toList.take ((n+m)*2)=(cur.toList.take (n*2)).take (i*2)++us++(cur.toList.take (n*2)).drop (i*2):=by
 have hsz:(Tryz.prog.info? 87).map (·.size)=some 2:=by kernel_rfl
 have hul2:us.length=m*2:=by rw [hul,List.length_take,Array.length_toList];omega
 have hov:∀ lb cb,(callFunc 124 #[.slice (some ⟨gv,0,none⟩) m vc,.slice (some ⟨g,(i+m)*2,none⟩) lb cb]).run Tryz.prog w = .ok (.value (.bool false)) w:=fun lb cb=>by
  rw [run_callFunc_extern Tryz.func124 (by kernel_rfl) (by kernel_rfl) (by kernel_rfl) (e:=Extern.SlicesOverlaps.overlaps #[37,37] #[4]) (by kernel_rfl),
   Lib.run_overlaps_apart w 37 4 87 Tryz.underlying37 2 Tryz.sizeOf87 ⟨gv,0,none⟩ ⟨g,(i+m)*2,none⟩ m vc lb cb hne Tv 87 curv.size cur.size (by simp [World.shape?,hgv]) (by simp [World.shape?,hg]) (by omega) (by simp [World.frozen?,hgv]) (by simp [World.frozen?,hgv])]
  rfl
 obtain ⟨mv,hmv2⟩:∃ mv,mv=(cur.toList.take (n*2)).drop (i*2):=⟨_,rfl⟩
 have hml:mv.length=(n - i)*2:=by rw [hmv2];simp [hs];omega
 have hgd:w.drew.heap[g]?=some (.cells cur 87 (0,0)):=hg
 obtain ⟨B,hB⟩:∃ B,B=(cur.toList.take ((i+m)*2)++mv++cur.toList.drop ((i+m)*2+mv.length)).toArray:=⟨_,rfl⟩
 have hcp1:∀ ty dc sc,(Builtin.copy_ #[37,37] ty #[.slice (some ⟨g,(i+m)*2,none⟩) (n+m - (i+m)) dc,.slice (some ⟨g,i*2,none⟩) (n+m - i) sc]).run Tryz.prog w.drew = .ok (goInt (n - i)) (w.drew.setRow g B):=fun ty dc sc=>by
  have:=b1_ (P:=Tryz.prog) w.drew 37 37 ty 87 2 g ((i+m)*2) (n+m - (i+m)) dc ⟨g,i*2,none⟩ (n+m - i) sc cur 87 mv Tryz.underlying37 hsz hgd (by rw [hml];simp only [Nat.min_def];split<;>omega)
   (fun j v hj=>by
     have hj2:=(List.getElem?_eq_some_iff.1 hj).1
     rw [hmv2,List.getElem?_drop,List.getElem?_take_of_lt (by omega),Array.getElem?_toList] at hj
     rw [Addr.add_lit]
     simp only [World.cell?,hgd]
     exact hj) (by rw [hml,hs];omega) (fun v hv=>h1 v (by rw [hmv2] at hv;exact List.mem_of_mem_drop hv))
  rw [this,hB]
  congr 2
  simp only [Nat.min_def];split<;>omega
 have hBs:B.size=cur.size:=by rw [hB];simp [hml,hs];omega
 have hgB:(w.drew.setRow g B).heap[g]?=some (.cells B 87 (0,0)):=setRow_heap _ _ _ _ _ _ hgd
 obtain ⟨A,hA⟩:∃ A,A=(B.toList.take (i*2)++us++B.toList.drop (i*2+us.length)).toArray:=⟨_,rfl⟩
 have hcp2:∀ ty dc,(Builtin.copy_ #[37,37] ty #[.slice (some ⟨g,i*2,none⟩) (n+m - i) dc,.slice (some ⟨gv,0,none⟩) m vc]).run Tryz.prog (w.drew.setRow g B) = .ok (goInt m) (w.drew.setRow g A):=fun ty dc=>by
  have:=b1_ (P:=Tryz.prog) (w.drew.setRow g B) 37 37 ty 87 2 g (i*2) (n+m - i) dc ⟨gv,0,none⟩ m vc B 87 us Tryz.underlying37 hsz hgB (by rw [hul2];simp only [Nat.min_def];split<;>omega)
   (fun j v hj=>by
     have hj2:=(List.getElem?_eq_some_iff.1 hj).1
     rw [hul,List.getElem?_take_of_lt (by omega),Array.getElem?_toList] at hj
     rw [Addr.add_lit,Nat.zero_add]
     have e:(w.drew.setRow g B).heap[gv]?=some (.cells curv Tv (0,0)):=by rw [setRow_other _ _ _ _ hne];exact hgv
     simp only [World.cell?,e]
     exact hj) (by rw [hul2,hBs,hs];omega) h1u
  rw [this,hA,setRow_setRow]
  congr 2
  simp only [Nat.min_def];split<;>omega
 have kA:Hid (A.size=cur.size∧A.toList.take ((n+m)*2)=(cur.toList.take (n*2)).take (i*2)++us++mv):=by
  have e1:B.toList.take (i*2)=(cur.toList.take (n*2)).take (i*2):=by
   rw [hB];simp only [List.toList_toArray,List.append_assoc]
   rw [List.take_append_of_le_length (by simp [hs];omega),List.take_take,List.take_take]
   congr 1;omega
  have e2:(B.toList.drop (i*2+us.length)).take mv.length=mv:=by
   rw [hB];simp only [List.toList_toArray,List.append_assoc]
   rw [List.drop_append,List.drop_eq_nil_of_le (by simp [hul2,hs];omega),List.nil_append,List.length_take,show i*2+us.length - min ((i+m)*2) cur.toList.length=0 by simp [hul2,hs];omega,List.drop_zero,List.take_append_of_le_length (Nat.le_refl _),List.take_of_length_le (Nat.le_refl _)]
  refine ⟨by rw [hA];simp [hul2,hBs,hs];omega,?_⟩
  rw [hA];simp only [List.toList_toArray]
  rw [List.take_append,List.take_of_length_le (by simp [hul2,hBs,hs];omega),e1]
  congr 1
  rw [show (n+m)*2 - (List.take (i*2) (List.take (n*2) cur.toList)++us).length=mv.length by simp [hul2,hml,hs];omega]
  exact e2
 rw [hmv2] at kA
 have hnc:n≤c:=by omega
 have hic:i≤c:=by omega
 have hz1:¬ ((m:Int)=0):=by omega
 have hz2:¬ ((i:Int)=(n:Int)):=by omega
 have mixed:Tryz.prog.follows .mixedOrders=true:=by kernel_rfl
 have hw1:IntKind.i64.wrap ((i:Int)+(m:Int))=(i:Int)+(m:Int):=by rw [IntKind.wrap_i64];omega
 have hb1:(0:Int)≤(i:Int)+(m:Int):=by omega
 have hin:i≤n:=by omega
 have htn:((i:Int)+(m:Int)).toNat=i+m:=by omega
 have hb2:¬ (c=i+m):=by omega
 have hb3:(i:Int)≤(n:Int)+(m:Int):=by omega
 have hb4:¬ (c=i):=by omega
 clear hB hBs hgB hA hmv2 hml hgd hg hgv hul hul2 h1 h1u hsz hs hmv
 go_enter Tryz.func82,Tryz.ntmps82
 go_wp2_with (simp only [hov])
 go_region_law_o (refine cZ_ rfl _ _ 37 37 rfl _ _ (by simp [Act.eval,Act.put]) (by simp [Act.eval,Act.put]) (hcp1 _ _ _) ?_)
 go_wp2_with (at_builtin;refine dZ_ _ rfl _ _ 37 37 rfl _ _ rfl rfl (hcp2 _ _) ?_)
 go_ret
 exact ⟨rfl,A,rfl,kA.out.1,kA.out.2⟩
set_option maxRecDepth 1000000 in
theorem InsGrow82 (w:World) (g n c i:Nat) (cur:Array Value) (hg:w.heap[g]?=some (.cells cur 87 (0,0))) (hs:cur.size=c*2) (hnc:n≤c) (hi:i<n)
  (gv m vc:Nat) (curv:Array Value) (Tv:TypeId) (hgv:w.heap[gv]?=some (.cells curv Tv (0,0))) (hmv:m*2≤curv.size) (us:List Value) (hul:us=curv.toList.take (m*2)) (h1u:∀ v ∈ us,v.oneCell'=true) (hm:0<m) (hroom:c<n+m)
  (hbig:(n+m)*16≤140737488355328) (h1:∀ v ∈ cur.toList.take (n*2),v.oneCell'=true) :
  Calls Tryz.prog 82 #[.slice (some ⟨g,0,none⟩) n c,.int .i64 i,.slice (some ⟨gv,0,none⟩) m vc] w fun e w'=>∃ C A,e = .returned (.slice (some ⟨w.heap.size,0,none⟩) (n+m) C)∧n+m≤C∧C≤maxLen ∧
   w'.heap[w.heap.size]?=some (.cells A 87 (0,0))∧A.size=C*2∧A.toList.take ((n+m)*2)=(cur.toList.take (n*2)).take (i*2)++us++(cur.toList.take (n*2)).drop (i*2)∧w.grownBy w' none:=by
 obtain ⟨i0,hi0⟩:=Option.isSome_iff_exists.1 (show (Tryz.prog.info? 87).isSome=true by kernel_rfl)
 have hz0:i0.size=2:=by
  have:(Tryz.prog.info? 87).map (·.size)=some 2:=by kernel_rfl
  rw [hi0] at this;simpa using this
 have hz1:i0.bytes=16:=by
  have:(Tryz.prog.info? 87).map (·.bytes)=some 16:=by kernel_rfl
  rw [hi0] at this;simpa using this
 have hz2:i0.zero=some (.agg #[.int .i64 0,.int .i64 0]):=by
  have:(Tryz.prog.info? 87).bind (·.zero)=some (.agg #[.int .i64 0,.int .i64 0]):=by kernel_rfl
  rw [hi0] at this;simpa using this
 obtain ⟨G,N,W1,R1,W2,A,hNN,hGn,hGm,hrz,hcp1,hW2',hcp2,kA⟩:=insGrow82 37 87 3 _ i0 Tryz.underlying37 Tryz.underlying3 hi0 hz2 hz0 hz1 rfl w g n c i cur hg hs hnc hi gv m vc curv Tv hgv hmv us hul h1u hm hroom hbig h1
 have hic:i≤c:=by omega
 have hz3:¬ ((m:Int)=0):=by omega
 have hz4:¬ ((i:Int)=(n:Int)):=by omega
 have hz5:(c:Int)<(n:Int)+(m:Int):=by omega
 have mixed:Tryz.prog.follows .mixedOrders=true:=by kernel_rfl
 have hG63:G≤9223372036854775807:=by unfold maxLen at hGm;omega
 have hw1:IntKind.i64.wrap ((n:Int)+(m:Int))=(n:Int)+(m:Int):=by rw [IntKind.wrap_i64];omega
 have hw2:IntKind.i64.wrap ((n:Int)+(m:Int) - (i:Int))=(n:Int)+(m:Int) - (i:Int):=by rw [IntKind.wrap_i64];omega
 have hw3:IntKind.i64.wrap ((i:Int)+(m:Int))=(i:Int)+(m:Int):=by rw [IntKind.wrap_i64];omega
 have hb1:(0:Int)≤(i:Int)+(m:Int):=by omega
 have htn:((i:Int)+(m:Int)).toNat=i+m:=by omega
 have hGi:¬ (G=i):=by omega
 have hGim:¬ (G=i+m):=by omega
 have hb3:(i:Int)≤(n:Int)+(m:Int):=by omega
 have hb4:¬ (c=i):=by omega
 have hinm:i≤n+m:=by omega
 have himn:i+m≤n+m:=by omega
 have hin:i≤n:=by omega
 clear hul h1 h1u hg hgv hs hmv hz0 hz1 hz2 hi0 hbig
 go_enter Tryz.func82,Tryz.ntmps82
 go_wp2_with (at_builtin;refine Lib.wpList_append_run _ rfl _ _ 37 3 rfl _ _ rfl rfl _ _ (hrz _) ?_)
 go_region_law_o (simp only [hW2'];refine cZ_ rfl _ _ 37 37 rfl _ _ (by simp [Act.eval,Act.put]) (by simp [Act.eval,Act.put]) (hcp2 _ _ _) ?_)
 go_wp2_with fail
 go_ret
 exact ⟨G,A,by rw [hNN.out];rfl,kA.out⟩
theorem insM82:InsM Tryz.prog 82 87 2 16:=by
 intro w S n vals U m us i hS hU hdis hi h1 h1u hb
 have hvl:=hS.1
 by_cases hm:m=0
 · subst hm
   have hus:us=[]:=by have:=hU.1;rw [Nat.zero_mul] at this;exact List.eq_nil_of_length_eq_zero this
   subst hus
   refine (InsNone82 w S n i vals hS U [] hU hi).mono ?_
   rintro e w' ⟨rfl,rfl⟩
   refine ⟨S,rfl,by rw [List.append_nil,List.take_append_drop];exact hS,⟨rfl,rfl,rfl,Nat.le_refl _,fun _ _ _=>rfl⟩,fun b hb=>⟨.inr hb,hm_ hS b hb⟩⟩
 · rcases hU.2 with ⟨rfl,h0⟩|⟨gv,vc,curv,rfl,-,hgv,hmc,hcm,hcs,htake⟩
   · exact absurd h0 hm
   · by_cases hin:i=n
     · subst hin
       rw [List.take_of_length_le (by omega),List.drop_eq_nil_of_le (by omega),List.append_nil]
       exact InsEnd82 w S i vals hS gv m vc us hU.1 (fun j u h=>by have:=hU.cells (g:=gv) rfl j u h;rwa [Addr.add_lit,Nat.zero_add] at this) h1u (by omega) hb
     · rcases hS.2 with ⟨rfl,h0⟩|⟨g,c,cur,rfl,-,hg,hnc,hcm',hcs',htake'⟩
       · omega
       · have hne:gv≠g:=fun e=>by subst e;have:=hdis gv (by simp [bP_]);simp [bP_] at this
         have hmv:m*2≤curv.size:=by rw [hcs];exact Nat.mul_le_mul_right _ hmc
         by_cases hroom:n+m≤c
         · refine (on_ w g n c i cur hg hcs' (by unfold maxLen at hcm';omega) (by omega) gv m vc curv 87 hgv hmv hne us htake.symm h1u (by omega) hroom (by rw [htake'];exact h1)).mono ?_
           rintro e w' ⟨rfl,A,rfl,hA,ht⟩
           rw [htake'] at ht
           have hgd:w.drew.heap[g]?=some (.cells cur 87 (0,0)):=hg
           have hA2:=setRow_heap w.drew g cur A _ _ hgd
           refine ⟨_,rfl,⟨by rw [←ht];simp [hA,hcs'];omega,.inr ⟨g,c,A,rfl,Nat.zero_le _,hA2,hroom,hcm',by rw [hA,hcs'],ht⟩⟩,⟨rfl,rfl,rfl,fh_ w g A,fun b _ hn => ?_⟩,fun b hb=>⟨.inr hb,?_⟩⟩
           · rw [setRow_other _ _ _ _ (fun e=>hn (by subst e;simp [bP_]))];rfl
           · have:g=b:=by simp only [bP_] at hb;exact Classical.byContradiction fun h=>hb (if_neg h)
             subst this
             exact (Array.getElem?_eq_some_iff.1 hA2).1
         · refine (InsGrow82 w g n c i cur hg hcs' hnc (by omega) gv m vc curv 87 hgv hmv us htake.symm h1u (by omega) (by omega) hb (by rw [htake'];exact h1)).mono ?_
           rintro e w' ⟨C,A,rfl,hC,hCm,hN,hA,ht,hgr⟩
           rw [htake'] at ht
           refine ⟨_,rfl,⟨by rw [←ht];simp [hA];omega,.inr ⟨_,C,A,rfl,Nat.zero_le _,hN,hC,hCm,hA,ht⟩⟩,⟨hgr.os,hgr.tape,hgr.output,hgr.size,fun b hb _=>hgr.block b hb (by simp)⟩,fun b hb => ?_⟩
           have:w.heap.size=b:=by simp only [bP_] at hb;exact Classical.byContradiction fun h=>hb (if_neg h)
           subst this
           exact ⟨.inl (Nat.le_refl _),(Array.getElem?_eq_some_iff.1 hN).1⟩
end Go.Proofs
namespace Go.Pi
open Go.Proofs
theorem b7_.ok (n:Nat):b7_.e.Oks E (cx n) n:=fun _ _ _ _ h=>ks_ (t:=.iKid) (m1:=.d) (m2:=.d) (by decide) (by decide) insM82 h
end Go.Pi
end
section
namespace Go.Proofs
open Go.Shelf Go.RowKit Go.Lib Go.Pi
set_option maxRecDepth 1000000 in
theorem Delete83 (w:World) (g n c i j:Nat) (cur:Array Value) (hg:w.heap[g]?=some (.cells cur 87 (0,0))) (hs:cur.size=c*2) (hn:n≤c) (hc:c≤9223372036854775807) (hij:i<j) (hj:j≤n)
  (h1:∀ v ∈ cur.toList.take (n*2),v.oneCell'=true) :
  Calls Tryz.prog 83 #[.slice (some ⟨g,0,none⟩) n c,.int .i64 i,.int .i64 j] w fun e w'=>e = .returned (.slice (some ⟨g,0,none⟩) (n - (j - i)) c) ∧
   ∃ A,w'=w.drew.setRow g A∧A.size=cur.size∧A.toList.take ((n - (j - i))*2)=(cur.toList.take (n*2)).take (i*2)++(cur.toList.take (n*2)).drop (j*2):=by
 have hic:i≤c:=by omega
 have hjc:j≤c:=by omega
 obtain ⟨news,hnews⟩:∃ news,news=(cur.toList.take (n*2)).drop (j*2):=⟨_,rfl⟩
 have hlen:news.length=(n - j)*2:=by rw [hnews,List.length_drop,List.length_take,Array.length_toList,hs];omega
 have hgd:w.drew.heap[g]?=some (.cells cur 87 (0,0)):=hg
 obtain ⟨A,hA,hsrc⟩:∃ A:Addr,(if c=j then some (⟨g,0,none⟩:Addr) else some ⟨g,j*2,none⟩)=some A∧Hid (∀ t u,news[t]?=some u→w.drew.cell? (A.add t)=some u):=by
  by_cases h:c=j
  · refine ⟨⟨g,0,none⟩,by simp [h],fun t u hu => ?_⟩
    have h0:news.length=0:=by rw [hlen];omega
    rw [List.length_eq_zero_iff.1 h0] at hu
    simp at hu
  · refine ⟨⟨g,j*2,none⟩,by simp [h],fun t u hu => ?_⟩
    have ht:=(List.getElem?_eq_some_iff.1 hu).1
    rw [hlen] at ht
    rw [hnews,List.getElem?_drop,List.getElem?_take_of_lt (by omega),Array.getElem?_toList] at hu
    rw [Addr.add_lit]
    simp only [World.cell?,hgd]
    exact hu
 obtain ⟨i0,hi0⟩:=Option.isSome_iff_exists.1 (show (Tryz.prog.info? 87).isSome=true by kernel_rfl)
 have hz0:i0.size=2:=by
  have:(Tryz.prog.info? 87).map (·.size)=some 2:=by kernel_rfl
  rw [hi0] at this
  simpa using this
 have hr1:∀ ty,(Builtin.append_ #[37,37] ty #[.slice (some ⟨g,0,none⟩) i c,.slice (some A) (n - j) (c - j)]).run Tryz.prog w.drew = .ok (.slice (some ⟨g,0,none⟩) (i+(n - j)) c) (w.drew.setRow g (cur.toList.take (i*2)++news++cur.toList.drop (i*2+news.length)).toArray):=fun ty=>by
  have:=run_append_room (P:=Tryz.prog) w.drew 37 ty 87 i0 Tryz.underlying37 hi0 g i c cur hgd A (n - j) (c - j) news (by rw [hlen,hz0];try rw [Nat.mul_one]) hsrc.out (fun u hu=>h1 u (by rw [hnews] at hu;exact List.mem_of_mem_drop hu)) (by omega) (by rw [hz0,hlen,hs];omega)
  rw [hz0] at this
  first|exact this|(rw [Nat.mul_one] at this;exact this)
 obtain ⟨B,hB⟩:∃ B,B=(cur.toList.take (i*2)++news++cur.toList.drop (i*2+news.length)).toArray:=⟨_,rfl⟩
 have hBs:B.size=cur.size:=by rw [hB];simp [hlen,hs];omega
 have hBt:B.toList.take ((i+(n - j))*2)=(cur.toList.take (n*2)).take (i*2)++news:=by
  rw [hB]
  simp only [List.toList_toArray]
  rw [List.take_append_of_le_length (by simp [hlen,hs];omega),List.take_of_length_le (by simp [hlen,hs];omega),List.take_take,Nat.min_eq_left (by omega)]
 have hgB:(w.drew.setRow g B).heap[g]?=some (.cells B 87 (0,0)):=setRow_heap _ _ _ _ _ _ hgd
 obtain ⟨Z,hZ⟩:∃ Z,Z=(Builtin.zeroCells (Value.agg #[.int .i64 0,.int .i64 0]).cells (n - (i+(n - j)))).toList:=⟨_,rfl⟩
 have hZl:Z.length=(n - (i+(n - j)))*2:=by rw [hZ];simp [Builtin.zeroCells,Value.cells]
 have hcl:∀ ty,(Builtin.clear_ #[37] ty #[.slice (some ⟨g,(i+(n - j))*2,none⟩) (n - (i+(n - j))) (c - (i+(n - j)))]).run Tryz.prog (w.drew.setRow g B) = .ok (.tuple #[]) ((w.drew.setRow g B).setRow g (B.toList.take ((i+(n - j))*2)++Z++B.toList.drop ((i+(n - j))*2+Z.length)).toArray):=fun ty=>by
  rw [hZ]
  refine ip_ _ 37 87 ty _ Tryz.underlying37 Tryz.zeroValue87 g _ _ _ (by omega) B 87 hgB (by
   have e:=hZl
   rw [hZ] at e
   exact Nat.le_trans (Nat.le_of_eq (congrArg (fun q=>(i+(n - j))*2+q) e)) (by first|(rw [hBs,hs,←Nat.add_mul];exact Nat.mul_le_mul_right _ (by omega))|(rw [hBs,hs];omega))) (fun v hv => ?_)
  exact zc_one _ (by kernel_rfl) _ v hv
 rw [←hB] at hr1
 obtain ⟨Z',hZ'⟩:∃ Z',Z'=(B.toList.take ((i+(n - j))*2)++Z++B.toList.drop ((i+(n - j))*2+Z.length)).toArray:=⟨_,rfl⟩
 have kZ:Hid (Z'.size=cur.size∧Z'.toList.take ((i+(n - j))*2)=(cur.toList.take (n*2)).take (i*2)++(cur.toList.take (n*2)).drop (j*2)):=by
  refine ⟨by rw [hZ'];simp [hZl,hBs,hs];omega,?_⟩
  rw [hZ',←hnews,←hBt]
  simp only [List.toList_toArray,List.append_assoc]
  rw [List.take_append_of_le_length (by simp [hBs,hs];omega),List.take_take,Nat.min_self]
 rw [←hZ'] at hcl
 clear hsrc h1 hB hBs hBt hgB hZ hZl hZ' hnews hlen hgd hg
 have hw1:¬ ((i:Int)=(j:Int)):=by omega
 have mixed:Tryz.prog.follows .mixedOrders=true:=by kernel_rfl
 go_enter Tryz.func83,Tryz.ntmps83
 go_wp2_with fail
 go_region_law_o (refine fE_ rfl (.tmp 22) (.tmp 25) 37 37 rfl _ _ (by simp [Act.eval,Act.put]) (by simp [Act.eval,Act.put,hA]) (hr1 _) ?_)
 go_wp2_with fail
 go_ret
 exact ⟨by rw [show n - (j - i)=i+(n - j) by omega];rfl,Z',by rw [setRow_setRow],kZ.out.1,by rw [show n - (j - i)=i+(n - j) by omega];exact kZ.out.2⟩
set_option maxRecDepth 1000000 in
theorem DelNone83 (w:World) (S:Value) (n i:Nat) (vals:List Value) (hS:w.ownsRow 0 87 2 S n vals) (hi:i≤n) :
  Calls Tryz.prog 83 #[S,.int .i64 i,.int .i64 i] w fun e w'=>e = .returned S∧w'=w:=by
 rcases hS.2 with ⟨rfl,rfl⟩|⟨g,c,cur,rfl,-,hg,hnc,hcm,hcs,htake⟩
 · have hi0:i=0:=by omega
   subst hi0
   clear hS
   go_enter Tryz.func83,Tryz.ntmps83
   go_wp2_with fail
   all_goals (go_ret;exact ⟨rfl,rfl⟩)
 · unfold maxLen at hcm
   have hic:i≤c:=by omega
   clear hS hg hcs htake
   go_enter Tryz.func83,Tryz.ntmps83
   go_wp2_with fail
   all_goals (go_ret;exact ⟨rfl,rfl⟩)
theorem delM83:DelM Tryz.prog 83 87 2:=by
 intro w S n vals i j hS hij hj h1
 by_cases e:i=j
 · subst e
   refine (DelNone83 w S n i vals hS hj).mono ?_
   rintro e w' ⟨rfl,rfl⟩
   refine ⟨S,rfl,by rw [Nat.sub_self,Nat.sub_zero,List.take_append_drop];exact hS,⟨rfl,rfl,rfl,Nat.le_refl _,fun _ _ _=>rfl⟩,fun b hb=>⟨.inr hb,hm_ hS b hb⟩⟩
 · rcases hS.2 with ⟨rfl,rfl⟩|⟨g,c,cur,rfl,-,hg,hnc,hcm,hcs,htake⟩
   · omega
   · refine (Delete83 w g n c i j cur hg hcs hnc (by unfold maxLen at hcm;omega) (by omega) hj (by rw [htake];exact h1)).mono ?_
     rintro e w' ⟨rfl,A,rfl,hA,ht⟩
     rw [htake] at ht
     have hgd:w.drew.heap[g]?=some (.cells cur 87 (0,0)):=hg
     have hA2:=setRow_heap w.drew g cur A _ _ hgd
     refine ⟨_,rfl,⟨by rw [←ht];simp [hA,hcs];omega,.inr ⟨g,c,A,rfl,Nat.zero_le _,hA2,by omega,hcm,by rw [hA,hcs],ht⟩⟩,⟨rfl,rfl,rfl,fh_ w g A,fun b _ hn => ?_⟩,fun b hb=>⟨.inr hb,?_⟩⟩
     · rw [setRow_other _ _ _ _ (fun e=>hn (by subst e;simp [bP_]))];rfl
     · have:g=b:=by simp only [bP_] at hb;exact Classical.byContradiction fun h=>hb (if_neg h)
       subst this
       exact (Array.getElem?_eq_some_iff.1 hA2).1
end Go.Proofs
namespace Go.Pi
open Go.Proofs
theorem b8_.ok (n:Nat):b8_.e.Oks E (cx n) n:=fun _ _ _ _ h=>nDel_ok (t:=.iKid) (m:=.d) (by decide) delM83 h
end Go.Pi
end
section
namespace Go.Proofs
open Go.Shelf Go.RowKit Go.Lib Go.Pi
set_option maxRecDepth 1000000 in
theorem Delete128 (w:World) (g n c i j:Nat) (cur:Array Value) (hg:w.heap[g]?=some (.cells cur 65 (0,0))) (hs:cur.size=c*2) (hn:n≤c) (hc:c≤9223372036854775807) (hij:i<j) (hj:j≤n)
  (h1:∀ v ∈ cur.toList.take (n*2),v.oneCell'=true) :
  Calls Tryz.prog 128 #[.slice (some ⟨g,0,none⟩) n c,.int .i64 i,.int .i64 j] w fun e w'=>e = .returned (.slice (some ⟨g,0,none⟩) (n - (j - i)) c) ∧
   ∃ A,w'=w.drew.setRow g A∧A.size=cur.size∧A.toList.take ((n - (j - i))*2)=(cur.toList.take (n*2)).take (i*2)++(cur.toList.take (n*2)).drop (j*2):=by
 have hic:i≤c:=by omega
 have hjc:j≤c:=by omega
 obtain ⟨news,hnews⟩:∃ news,news=(cur.toList.take (n*2)).drop (j*2):=⟨_,rfl⟩
 have hlen:news.length=(n - j)*2:=by rw [hnews,List.length_drop,List.length_take,Array.length_toList,hs];omega
 have hgd:w.drew.heap[g]?=some (.cells cur 65 (0,0)):=hg
 obtain ⟨A,hA,hsrc⟩:∃ A:Addr,(if c=j then some (⟨g,0,none⟩:Addr) else some ⟨g,j*2,none⟩)=some A∧Hid (∀ t u,news[t]?=some u→w.drew.cell? (A.add t)=some u):=by
  by_cases h:c=j
  · refine ⟨⟨g,0,none⟩,by simp [h],fun t u hu => ?_⟩
    have h0:news.length=0:=by rw [hlen];omega
    rw [List.length_eq_zero_iff.1 h0] at hu
    simp at hu
  · refine ⟨⟨g,j*2,none⟩,by simp [h],fun t u hu => ?_⟩
    have ht:=(List.getElem?_eq_some_iff.1 hu).1
    rw [hlen] at ht
    rw [hnews,List.getElem?_drop,List.getElem?_take_of_lt (by omega),Array.getElem?_toList] at hu
    rw [Addr.add_lit]
    simp only [World.cell?,hgd]
    exact hu
 obtain ⟨i0,hi0⟩:=Option.isSome_iff_exists.1 (show (Tryz.prog.info? 65).isSome=true by kernel_rfl)
 have hz0:i0.size=2:=by
  have:(Tryz.prog.info? 65).map (·.size)=some 2:=by kernel_rfl
  rw [hi0] at this
  simpa using this
 have hr1:∀ ty,(Builtin.append_ #[36,36] ty #[.slice (some ⟨g,0,none⟩) i c,.slice (some A) (n - j) (c - j)]).run Tryz.prog w.drew = .ok (.slice (some ⟨g,0,none⟩) (i+(n - j)) c) (w.drew.setRow g (cur.toList.take (i*2)++news++cur.toList.drop (i*2+news.length)).toArray):=fun ty=>by
  have:=run_append_room (P:=Tryz.prog) w.drew 36 ty 65 i0 Tryz.underlying36 hi0 g i c cur hgd A (n - j) (c - j) news (by rw [hlen,hz0];try rw [Nat.mul_one]) hsrc.out (fun u hu=>h1 u (by rw [hnews] at hu;exact List.mem_of_mem_drop hu)) (by omega) (by rw [hz0,hlen,hs];omega)
  rw [hz0] at this
  first|exact this|(rw [Nat.mul_one] at this;exact this)
 obtain ⟨B,hB⟩:∃ B,B=(cur.toList.take (i*2)++news++cur.toList.drop (i*2+news.length)).toArray:=⟨_,rfl⟩
 have hBs:B.size=cur.size:=by rw [hB];simp [hlen,hs];omega
 have hBt:B.toList.take ((i+(n - j))*2)=(cur.toList.take (n*2)).take (i*2)++news:=by
  rw [hB]
  simp only [List.toList_toArray]
  rw [List.take_append_of_le_length (by simp [hlen,hs];omega),List.take_of_length_le (by simp [hlen,hs];omega),List.take_take,Nat.min_eq_left (by omega)]
 have hgB:(w.drew.setRow g B).heap[g]?=some (.cells B 65 (0,0)):=setRow_heap _ _ _ _ _ _ hgd
 obtain ⟨Z,hZ⟩:∃ Z,Z=(Builtin.zeroCells (Value.agg #[.int .i64 0,.slice none 0 0]).cells (n - (i+(n - j)))).toList:=⟨_,rfl⟩
 have hZl:Z.length=(n - (i+(n - j)))*2:=by rw [hZ];simp [Builtin.zeroCells,Value.cells]
 have hcl:∀ ty,(Builtin.clear_ #[36] ty #[.slice (some ⟨g,(i+(n - j))*2,none⟩) (n - (i+(n - j))) (c - (i+(n - j)))]).run Tryz.prog (w.drew.setRow g B) = .ok (.tuple #[]) ((w.drew.setRow g B).setRow g (B.toList.take ((i+(n - j))*2)++Z++B.toList.drop ((i+(n - j))*2+Z.length)).toArray):=fun ty=>by
  rw [hZ]
  refine ip_ _ 36 65 ty _ Tryz.underlying36 Tryz.zeroValue65 g _ _ _ (by omega) B 65 hgB (by
   have e:=hZl
   rw [hZ] at e
   exact Nat.le_trans (Nat.le_of_eq (congrArg (fun q=>(i+(n - j))*2+q) e)) (by first|(rw [hBs,hs,←Nat.add_mul];exact Nat.mul_le_mul_right _ (by omega))|(rw [hBs,hs];omega))) (fun v hv => ?_)
  exact zc_one _ (by kernel_rfl) _ v hv
 rw [←hB] at hr1
 obtain ⟨Z',hZ'⟩:∃ Z',Z'=(B.toList.take ((i+(n - j))*2)++Z++B.toList.drop ((i+(n - j))*2+Z.length)).toArray:=⟨_,rfl⟩
 have kZ:Hid (Z'.size=cur.size∧Z'.toList.take ((i+(n - j))*2)=(cur.toList.take (n*2)).take (i*2)++(cur.toList.take (n*2)).drop (j*2)):=by
  refine ⟨by rw [hZ'];simp [hZl,hBs,hs];omega,?_⟩
  rw [hZ',←hnews,←hBt]
  simp only [List.toList_toArray,List.append_assoc]
  rw [List.take_append_of_le_length (by simp [hBs,hs];omega),List.take_take,Nat.min_self]
 rw [←hZ'] at hcl
 clear hsrc h1 hB hBs hBt hgB hZ hZl hZ' hnews hlen hgd hg
 have hw1:¬ ((i:Int)=(j:Int)):=by omega
 have mixed:Tryz.prog.follows .mixedOrders=true:=by kernel_rfl
 go_enter Tryz.func128,Tryz.ntmps128
 go_wp2_with fail
 go_region_law_o (refine fE_ rfl (.tmp 22) (.tmp 25) 36 36 rfl _ _ (by simp [Act.eval,Act.put]) (by simp [Act.eval,Act.put,hA]) (hr1 _) ?_)
 go_wp2_with fail
 go_ret
 exact ⟨by rw [show n - (j - i)=i+(n - j) by omega];rfl,Z',by rw [setRow_setRow],kZ.out.1,by rw [show n - (j - i)=i+(n - j) by omega];exact kZ.out.2⟩
set_option maxRecDepth 1000000 in
theorem oz_ (w:World) (S:Value) (n i:Nat) (vals:List Value) (hS:w.ownsRow 0 65 2 S n vals) (hi:i≤n) :
  Calls Tryz.prog 128 #[S,.int .i64 i,.int .i64 i] w fun e w'=>e = .returned S∧w'=w:=by
 rcases hS.2 with ⟨rfl,rfl⟩|⟨g,c,cur,rfl,-,hg,hnc,hcm,hcs,htake⟩
 · have hi0:i=0:=by omega
   subst hi0
   clear hS
   go_enter Tryz.func128,Tryz.ntmps128
   go_wp2_with fail
   all_goals (go_ret;exact ⟨rfl,rfl⟩)
 · unfold maxLen at hcm
   have hic:i≤c:=by omega
   clear hS hg hcs htake
   go_enter Tryz.func128,Tryz.ntmps128
   go_wp2_with fail
   all_goals (go_ret;exact ⟨rfl,rfl⟩)
theorem delM128:DelM Tryz.prog 128 65 2:=by
 intro w S n vals i j hS hij hj h1
 by_cases e:i=j
 · subst e
   refine (oz_ w S n i vals hS hj).mono ?_
   rintro e w' ⟨rfl,rfl⟩
   refine ⟨S,rfl,by rw [Nat.sub_self,Nat.sub_zero,List.take_append_drop];exact hS,⟨rfl,rfl,rfl,Nat.le_refl _,fun _ _ _=>rfl⟩,fun b hb=>⟨.inr hb,hm_ hS b hb⟩⟩
 · rcases hS.2 with ⟨rfl,rfl⟩|⟨g,c,cur,rfl,-,hg,hnc,hcm,hcs,htake⟩
   · omega
   · refine (Delete128 w g n c i j cur hg hcs hnc (by unfold maxLen at hcm;omega) (by omega) hj (by rw [htake];exact h1)).mono ?_
     rintro e w' ⟨rfl,A,rfl,hA,ht⟩
     rw [htake] at ht
     have hgd:w.drew.heap[g]?=some (.cells cur 65 (0,0)):=hg
     have hA2:=setRow_heap w.drew g cur A _ _ hgd
     refine ⟨_,rfl,⟨by rw [←ht];simp [hA,hcs];omega,.inr ⟨g,c,A,rfl,Nat.zero_le _,hA2,by omega,hcm,by rw [hA,hcs],ht⟩⟩,⟨rfl,rfl,rfl,fh_ w g A,fun b _ hn => ?_⟩,fun b hb=>⟨.inr hb,?_⟩⟩
     · rw [setRow_other _ _ _ _ (fun e=>hn (by subst e;simp [bP_]))];rfl
     · have:g=b:=by simp only [bP_] at hb;exact Classical.byContradiction fun h=>hb (if_neg h)
       subst this
       exact (Array.getElem?_eq_some_iff.1 hA2).1
end Go.Proofs
namespace Go.Pi
open Go.Proofs
theorem cf_.ok (n:Nat):cf_.e.Oks E (cx n) n:=fun _ _ _ _ h=>nDel_ok (t:=.iRow) (m:=.d) (by decide) delM128 h
end Go.Pi
end
section
namespace Go.Proofs
open Go.Shelf Go.RowKit Go.Lib Go.Pi
section
variable {P:Program}
theorem n3_ (TS TE:TypeId) (TI:TypeId) (Z:Value) (i0:TypeInfo) (uS:P.underlying TS=some (.slice TE)) (uI:P.underlying TI=some (.int .i64)) (hi0:P.info? TE=some i0) (hz2:i0.zero=some Z) (hz0:i0.size=2) (hz1:i0.bytes=32) (hZK:Z.cells.size=2)
  (w:World) (g n c i:Nat) (cur:Array Value) (hg:w.heap[g]?=some (.cells cur TE (0,0))) (hs:cur.size=c*2) (hnc:n≤c) (hi:i<n)
  (gv m vc:Nat) (curv:Array Value) (Tv:TypeId) (hgv:w.heap[gv]?=some (.cells curv Tv (0,0))) (hmv:m*2≤curv.size) (us:List Value) (hul:us=curv.toList.take (m*2)) (h1u:∀ v ∈ us,v.oneCell'=true) (hm:0<m) (hroom:c<n+m)
  (hbig:(n+m)*32≤140737488355328) (h1:∀ v ∈ cur.toList.take (n*2),v.oneCell'=true) :
  ∃ G N W1 R1 W2 A,Hid (N=w.heap.size)∧n+m≤G∧G≤maxLen ∧
    (∀ ty,(Builtin.append_ #[TS,TI] ty #[.slice (some ⟨g,0,none⟩) i c,.int .i64 ((n:Int)+(m:Int) - (i:Int))]).run P w = .ok (.slice (some ⟨N,0,none⟩) (n+m) G) W1) ∧
    (∀ ty dc,(Builtin.copy_ #[TS,TS] ty #[.slice (some ⟨N,i*2,none⟩) (n+m - i) dc,.slice (some ⟨gv,0,none⟩) m vc]).run P W1 = .ok (goInt m) (W1.setRow N R1)) ∧
    (W1.setRow N R1).drew=W2 ∧
    (∀ ty dc sc,(Builtin.copy_ #[TS,TS] ty #[.slice (some ⟨N,(i+m)*2,none⟩) (n+m - (i+m)) dc,.slice (some ⟨g,i*2,none⟩) (n - i) sc]).run P W2 = .ok (goInt (n - i)) (W2.setRow N A)) ∧
    Hid (n+m≤G∧G≤maxLen∧(W2.setRow N A).heap[w.heap.size]?=some (.cells A TE (0,0))∧A.size=G*2∧A.toList.take ((n+m)*2)=(cur.toList.take (n*2)).take (i*2)++us++(cur.toList.take (n*2)).drop (i*2)∧w.grownBy (W2.setRow N A) none):=by
 have hul2:us.length=m*2:=by rw [hul,List.length_take,Array.length_toList];omega
 have hsz:(P.info? TE).map (·.size)=some 2:=by rw [hi0];simp [hz0]
 have hgd:w.drew.heap[g]?=some (.cells cur TE (0,0)):=hg
 have hgl:g<w.heap.size:=(Array.getElem?_eq_some_iff.1 hg).1
 have hgvl:gv<w.heap.size:=(Array.getElem?_eq_some_iff.1 hgv).1
 obtain ⟨olds,holds⟩:∃ olds,olds=(cur.toList.take (n*2)).take (i*2):=⟨_,rfl⟩
 have hol:olds.length=i*2:=by rw [holds];simp [hs];omega
 obtain ⟨G,hG⟩:∃ G,G=grownCap w (n+m) c TE:=⟨_,rfl⟩
 have hGn:n+m≤G:=by rw [hG];exact grownCap_ge w _ _ _
 have hGm:G≤maxLen:=by rw [hG];exact grownCap_le_maxLen w (n+m) c TE (by unfold maxLen;omega)
 obtain ⟨ROW,hROW⟩:∃ ROW:Array Value,ROW=olds.toArray++Builtin.zeroCells Z.cells (n+m - i)++Builtin.zeroCells Z.cells (G - (n+m)):=⟨_,rfl⟩
 have hRl:ROW.size=G*2:=by rw [hROW];simp [Builtin.zeroCells,hol,hZK];omega
 have hRt:ROW.toList.take (i*2)=olds:=by
  rw [hROW];simp only [Array.toList_append,List.append_assoc]
  rw [List.take_append_of_le_length (by simp [hol]),List.take_of_length_le (by simp [hol])]
 have hkk:(n:Int)+(m:Int) - (i:Int)=((n+m - i:Nat):Int):=by omega
 have hrz:∀ ty,(Builtin.append_ #[TS,TI] ty #[.slice (some ⟨g,0,none⟩) i c,.int .i64 ((n:Int)+(m:Int) - (i:Int))]).run P w =
   .ok (.slice (some ⟨w.heap.size,0,none⟩) (n+m) G) (w.drew.alloc (.cells ROW TE)):=fun ty=>by
  have h:=Lib.run_append_grow_zeros (P:=P) w TS TI ty TE i0 _ .i64 .i64 uS uI hi0 hz2 (some ⟨g,0,none⟩) i c olds (by
   rw [hz0]
   exact run_firstCells_some w.drew 2 i ⟨g,0,none⟩ i c olds hol (fun j v hj=>by
    have hj2:=(List.getElem?_eq_some_iff.1 hj).1
    rw [holds,List.getElem?_take_of_lt (by omega),List.getElem?_take_of_lt (by omega),Array.getElem?_toList] at hj
    rw [Addr.add_lit,Nat.zero_add]
    simp only [World.cell?,hgd]
    exact hj)) (n+m - i) (by omega) (by omega) (by omega) (by omega) (by rw [hz1];omega) (by rw [hz1,show i+(n+m - i)=n+m by omega];exact growslice_fits hroom hbig)
  rw [show i+(n+m - i)=n+m by omega,←hG,←hROW] at h
  rw [hkk]
  exact h
 obtain ⟨N,hN⟩:∃ N,N=w.heap.size:=⟨_,rfl⟩
 rw [←hN] at hrz
 obtain ⟨W1,hW1⟩:∃ W1,W1=w.drew.alloc (.cells ROW TE):=⟨_,rfl⟩
 rw [←hW1] at hrz
 have hN1:W1.heap[N]?=some (.cells ROW TE (0,0)):=by rw [hW1,hN];exact heap_alloc_new w.drew _
 have hold:∀ b,b<w.heap.size→W1.heap[b]?=w.heap[b]?:=fun b hb=>by rw [hW1];exact heap_alloc_old w.drew _ hb
 have hgr1:w.grownBy W1 none:=by rw [hW1];exact ⟨rfl,rfl,rfl,by simp,fun k hk _=>heap_alloc_old w.drew _ hk⟩
 obtain ⟨R1,hR1⟩:∃ R1,R1=(ROW.toList.take (i*2)++us++ROW.toList.drop (i*2+us.length)).toArray:=⟨_,rfl⟩
 have hR1s:R1.size=G*2:=by rw [hR1];simp [hul2,hRl];omega
 have hcp1:∀ ty dc,(Builtin.copy_ #[TS,TS] ty #[.slice (some ⟨N,i*2,none⟩) (n+m - i) dc,.slice (some ⟨gv,0,none⟩) m vc]).run P W1 = .ok (goInt m) (W1.setRow N R1):=fun ty dc=>by
  have:=b1_ (P:=P) W1 TS TS ty TE 2 N (i*2) (n+m - i) dc ⟨gv,0,none⟩ m vc ROW TE us uS hsz hN1 (by rw [hul2];simp only [Nat.min_def];split<;>omega)
   (fun j v hj=>by
     have hj2:=(List.getElem?_eq_some_iff.1 hj).1
     rw [hul,List.getElem?_take_of_lt (by omega),Array.getElem?_toList] at hj
     rw [Addr.add_lit,Nat.zero_add]
     simp only [World.cell?,hold gv hgvl,hgv]
     exact hj) (by rw [hul2,hRl];omega) h1u
  rw [this,hR1]
  congr 2
  simp only [Nat.min_def];split<;>omega
 obtain ⟨W2,hW2⟩:∃ W2,W2=(W1.setRow N R1).drew:=⟨_,rfl⟩
 have hN2:W2.heap[N]?=some (.cells R1 TE (0,0)):=by rw [hW2];exact setRow_heap _ _ _ _ _ _ hN1
 have hg2:W2.heap[g]?=some (.cells cur TE (0,0)):=by
  rw [hW2];show (W1.setRow N R1).heap[g]?=_
  rw [setRow_other _ _ _ _ (by omega),hold g hgl];exact hg
 obtain ⟨mv,hmv2⟩:∃ mv,mv=(cur.toList.take (n*2)).drop (i*2):=⟨_,rfl⟩
 have hml:mv.length=(n - i)*2:=by rw [hmv2];simp [hs];omega
 obtain ⟨A,hA⟩:∃ A,A=(R1.toList.take ((i+m)*2)++mv++R1.toList.drop ((i+m)*2+mv.length)).toArray:=⟨_,rfl⟩
 have hcp2:∀ ty dc sc,(Builtin.copy_ #[TS,TS] ty #[.slice (some ⟨N,(i+m)*2,none⟩) (n+m - (i+m)) dc,.slice (some ⟨g,i*2,none⟩) (n - i) sc]).run P W2 = .ok (goInt (n - i)) (W2.setRow N A):=fun ty dc sc=>by
  have:=b1_ (P:=P) W2 TS TS ty TE 2 N ((i+m)*2) (n+m - (i+m)) dc ⟨g,i*2,none⟩ (n - i) sc R1 TE mv uS hsz hN2 (by rw [hml];simp only [Nat.min_def];split<;>omega)
   (fun j v hj=>by
     have hj2:=(List.getElem?_eq_some_iff.1 hj).1
     rw [hmv2,List.getElem?_drop,List.getElem?_take_of_lt (by omega),Array.getElem?_toList] at hj
     rw [Addr.add_lit]
     simp only [World.cell?,hg2]
     exact hj) (by rw [hml,hR1s];omega) (fun v hv=>h1 v (by rw [hmv2] at hv;exact List.mem_of_mem_drop hv))
  rw [this,hA]
  congr 2
  simp only [Nat.min_def];split<;>omega
 have kA:Hid (n+m≤G∧G≤maxLen∧(W2.setRow N A).heap[w.heap.size]?=some (.cells A TE (0,0))∧A.size=G*2∧A.toList.take ((n+m)*2)=(cur.toList.take (n*2)).take (i*2)++us++(cur.toList.take (n*2)).drop (i*2)∧w.grownBy (W2.setRow N A) none):=by
  refine ⟨hGn,hGm,by rw [←hN];exact setRow_heap _ _ _ _ _ _ hN2,by rw [hA];simp [hml,hR1s];omega,?_,?_⟩
  · have e1:R1.toList.take ((i+m)*2)=olds++us:=by
     rw [hR1];simp only [List.toList_toArray]
     rw [List.take_append_of_le_length (by simp [hul2,hRl];omega),List.take_of_length_le (by simp [hul2,hRl];omega),hRt]
    rw [hA];simp only [List.toList_toArray]
    rw [e1,List.take_append_of_le_length (by simp [hol,hul2,hml];omega),List.take_of_length_le (by simp [hol,hul2,hml];omega),holds,hmv2]
  · refine ⟨by rw [hW2];exact hgr1.os,by rw [hW2];exact hgr1.tape,by rw [hW2];exact hgr1.output,?_,fun k hk hne => ?_⟩
    · have:(W2.setRow N A).heap.size=W1.heap.size:=by rw [hW2];simp [World.setRow,World.drew]
      rw [this];exact hgr1.size
    · rw [setRow_other _ _ _ _ (by omega),hW2]
      show (W1.setRow N R1).heap[k]?=_
      rw [setRow_other _ _ _ _ (by omega)];exact hold k hk
 exact ⟨G,N,W1,R1,W2,A,hN,hGn,hGm,hrz,hcp1,hW2.symm,hcp2,kA⟩
end
set_option maxRecDepth 1000000 in
theorem InsEnd130 (w:World) (S:Value) (n:Nat) (vals:List Value) (hS:w.ownsRow 0 65 2 S n vals) (gv m vc:Nat) (us:List Value) (hul:us.length=m*2) (hus:∀ j u,us[j]?=some u→w.cell? ⟨gv,j,none⟩=some u) (h1u:∀ v ∈ us,v.oneCell'=true) (hm:0<m) (hb:(n+m)*32≤140737488355328) :
  Calls Tryz.prog 130 #[S,.int .i64 n,.slice (some ⟨gv,0,none⟩) m vc] w fun e w'=>∃ R,e = .returned R∧w'.ownsRow 0 65 2 R (n+m) (vals++us)∧f3_ w w' (fun b=>bP_ S b≠0) ∧
   ∀ b,bP_ R b≠0→(w.heap.size≤b∨bP_ S b≠0)∧b<w'.heap.size:=by
 obtain ⟨i0,hi0⟩:=Option.isSome_iff_exists.1 (show (Tryz.prog.info? 65).isSome=true by kernel_rfl)
 have hz0:i0.size=2:=by
  have:(Tryz.prog.info? 65).map (·.size)=some 2:=by kernel_rfl
  rw [hi0] at this;simpa using this
 have hz1:i0.bytes=32:=by
  have:(Tryz.prog.info? 65).map (·.bytes)=some 32:=by kernel_rfl
  rw [hi0] at this;simpa using this
 have hz2:i0.zero=some (.agg #[.int .i64 0,.slice none 0 0]):=by
  have:(Tryz.prog.info? 65).bind (·.zero)=some (.agg #[.int .i64 0,.slice none 0 0]):=by kernel_rfl
  rw [hi0] at this;simpa using this
 have hz3:¬ ((m:Int)=0):=by omega
 have mixed:Tryz.prog.follows .mixedOrders=true:=by kernel_rfl
 have key:∀ ty,∃ v' w',(Builtin.append_ #[36,36] ty #[S,.slice (some ⟨gv,0,none⟩) m vc]).run Tryz.prog w = .ok v' w'∧w'.ownsRow 0 65 2 v' (n+m) (vals++us)∧f3_ w w' (fun b=>bP_ S b≠0) ∧
   ∀ b,bP_ v' b≠0→(w.heap.size≤b∨bP_ S b≠0)∧b<w'.heap.size:=fun ty=>by
  have:=dS_ (P:=Tryz.prog) w 36 ty 65 i0 _ Tryz.underlying36 hi0 hz2 (by rw [hz0];rfl) (by rw [hz0];decide) S n vals (by rw [hz0];exact hS) (.slice (some ⟨gv,0,none⟩) m vc) m us (by rw [hz0];exact hul) (.inl ⟨_,_,rfl,fun j u h=>by rw [Addr.add_lit,Nat.zero_add];exact hus j u h⟩) h1u (by unfold maxLen;omega) (by rw [hz1];exact hb)
  rw [hz0] at this
  exact this
 obtain ⟨v',w',k1,k2,k3⟩:=key 36
 rcases hS.2 with ⟨rfl,rfl⟩|⟨g,c,cur,rfl,-,hg,hnc,hcm,hcs,htake⟩
 · clear key hS hus hz2 hi0 hz0 hz1
   go_enter Tryz.func130,Tryz.ntmps130
   go_wp2_with (at_builtin;refine Lib.wpList_append_run _ rfl _ _ 36 36 rfl _ _ rfl rfl _ _ k1 ?_)
   go_ret
   exact ⟨_,rfl,k2,k3⟩
 · clear key hS hus hz2 hg htake hcs hi0 hz0 hz1
   unfold maxLen at hcm
   go_enter Tryz.func130,Tryz.ntmps130
   go_wp2_with (at_builtin;refine Lib.wpList_append_run _ rfl _ _ 36 36 rfl _ _ rfl rfl _ _ k1 ?_)
   all_goals (go_ret;exact ⟨_,rfl,k2,k3⟩)
set_option maxRecDepth 1000000 in
theorem oq_ (w:World) (S:Value) (n i:Nat) (vals:List Value) (hS:w.ownsRow 0 65 2 S n vals) (U:Value) (us:List Value) (hU:w.ownsRow 0 65 2 U 0 us) (hi:i≤n) :
  Calls Tryz.prog 130 #[S,.int .i64 i,U] w fun e w'=>e = .returned S∧w'=w:=by
 rcases hS.2 with ⟨rfl,rfl⟩|⟨g,c,cur,rfl,-,hg,hnc,hcm,hcs,htake⟩
 · have hi0:i=0:=by omega
   subst hi0
   rcases hU.2 with ⟨rfl,-⟩|⟨gv,vc,curv,rfl,-,hgv,hmc,hcm,hcs,htake⟩
   · clear hS hU
     go_enter Tryz.func130,Tryz.ntmps130
     go_wp2_with fail
     go_ret
     exact ⟨rfl,rfl⟩
   · clear hS hU hgv hcs htake
     go_enter Tryz.func130,Tryz.ntmps130
     go_wp2_with fail
     go_ret
     exact ⟨rfl,rfl⟩
 · unfold maxLen at hcm
   have hic:i≤c:=by omega
   rcases hU.2 with ⟨rfl,-⟩|⟨gv,vc,curv,rfl,-,hgv,hmc,hcm2,hcs2,htake2⟩
   · clear hS hU hg hcs htake
     go_enter Tryz.func130,Tryz.ntmps130
     go_wp2_with fail
     all_goals (go_ret;exact ⟨rfl,rfl⟩)
   · clear hS hU hg hcs htake hgv hcs2 htake2
     go_enter Tryz.func130,Tryz.ntmps130
     go_wp2_with fail
     all_goals (go_ret;exact ⟨rfl,rfl⟩)
set_option maxRecDepth 1000000 in
theorem mS_ (w:World) (g n c i:Nat) (cur:Array Value) (hg:w.heap[g]?=some (.cells cur 65 (0,0))) (hs:cur.size=c*2) (hc:c≤9223372036854775807) (hi:i<n)
  (gv m vc:Nat) (curv:Array Value) (Tv:TypeId) (hgv:w.heap[gv]?=some (.cells curv Tv (0,0))) (hmv:m*2≤curv.size) (hne:gv≠g) (us:List Value) (hul:us=curv.toList.take (m*2)) (h1u:∀ v ∈ us,v.oneCell'=true) (hm:0<m) (hroom:n+m≤c)
  (h1:∀ v ∈ cur.toList.take (n*2),v.oneCell'=true) :
  Calls Tryz.prog 130 #[.slice (some ⟨g,0,none⟩) n c,.int .i64 i,.slice (some ⟨gv,0,none⟩) m vc] w fun e w'=>e = .returned (.slice (some ⟨g,0,none⟩) (n+m) c) ∧
   ∃ A,w'=w.drew.setRow g A∧A.size=cur.size∧A.toList.take ((n+m)*2)=(cur.toList.take (n*2)).take (i*2)++us++(cur.toList.take (n*2)).drop (i*2):=by
 have hsz:(Tryz.prog.info? 65).map (·.size)=some 2:=by kernel_rfl
 have hul2:us.length=m*2:=by rw [hul,List.length_take,Array.length_toList];omega
 have hov:∀ lb cb,(callFunc 152 #[.slice (some ⟨gv,0,none⟩) m vc,.slice (some ⟨g,(i+m)*2,none⟩) lb cb]).run Tryz.prog w = .ok (.value (.bool false)) w:=fun lb cb=>by
  rw [run_callFunc_extern Tryz.func152 (by kernel_rfl) (by kernel_rfl) (by kernel_rfl) (e:=Extern.SlicesOverlaps.overlaps #[36,36] #[4]) (by kernel_rfl),
   Lib.run_overlaps_apart w 36 4 65 Tryz.underlying36 2 Tryz.sizeOf65 ⟨gv,0,none⟩ ⟨g,(i+m)*2,none⟩ m vc lb cb hne Tv 65 curv.size cur.size (by simp [World.shape?,hgv]) (by simp [World.shape?,hg]) (by omega) (by simp [World.frozen?,hgv]) (by simp [World.frozen?,hgv])]
  rfl
 obtain ⟨mv,hmv2⟩:∃ mv,mv=(cur.toList.take (n*2)).drop (i*2):=⟨_,rfl⟩
 have hml:mv.length=(n - i)*2:=by rw [hmv2];simp [hs];omega
 have hgd:w.drew.heap[g]?=some (.cells cur 65 (0,0)):=hg
 obtain ⟨B,hB⟩:∃ B,B=(cur.toList.take ((i+m)*2)++mv++cur.toList.drop ((i+m)*2+mv.length)).toArray:=⟨_,rfl⟩
 have hcp1:∀ ty dc sc,(Builtin.copy_ #[36,36] ty #[.slice (some ⟨g,(i+m)*2,none⟩) (n+m - (i+m)) dc,.slice (some ⟨g,i*2,none⟩) (n+m - i) sc]).run Tryz.prog w.drew = .ok (goInt (n - i)) (w.drew.setRow g B):=fun ty dc sc=>by
  have:=b1_ (P:=Tryz.prog) w.drew 36 36 ty 65 2 g ((i+m)*2) (n+m - (i+m)) dc ⟨g,i*2,none⟩ (n+m - i) sc cur 65 mv Tryz.underlying36 hsz hgd (by rw [hml];simp only [Nat.min_def];split<;>omega)
   (fun j v hj=>by
     have hj2:=(List.getElem?_eq_some_iff.1 hj).1
     rw [hmv2,List.getElem?_drop,List.getElem?_take_of_lt (by omega),Array.getElem?_toList] at hj
     rw [Addr.add_lit]
     simp only [World.cell?,hgd]
     exact hj) (by rw [hml,hs];omega) (fun v hv=>h1 v (by rw [hmv2] at hv;exact List.mem_of_mem_drop hv))
  rw [this,hB]
  congr 2
  simp only [Nat.min_def];split<;>omega
 have hBs:B.size=cur.size:=by rw [hB];simp [hml,hs];omega
 have hgB:(w.drew.setRow g B).heap[g]?=some (.cells B 65 (0,0)):=setRow_heap _ _ _ _ _ _ hgd
 obtain ⟨A,hA⟩:∃ A,A=(B.toList.take (i*2)++us++B.toList.drop (i*2+us.length)).toArray:=⟨_,rfl⟩
 have hcp2:∀ ty dc,(Builtin.copy_ #[36,36] ty #[.slice (some ⟨g,i*2,none⟩) (n+m - i) dc,.slice (some ⟨gv,0,none⟩) m vc]).run Tryz.prog (w.drew.setRow g B) = .ok (goInt m) (w.drew.setRow g A):=fun ty dc=>by
  have:=b1_ (P:=Tryz.prog) (w.drew.setRow g B) 36 36 ty 65 2 g (i*2) (n+m - i) dc ⟨gv,0,none⟩ m vc B 65 us Tryz.underlying36 hsz hgB (by rw [hul2];simp only [Nat.min_def];split<;>omega)
   (fun j v hj=>by
     have hj2:=(List.getElem?_eq_some_iff.1 hj).1
     rw [hul,List.getElem?_take_of_lt (by omega),Array.getElem?_toList] at hj
     rw [Addr.add_lit,Nat.zero_add]
     have e:(w.drew.setRow g B).heap[gv]?=some (.cells curv Tv (0,0)):=by rw [setRow_other _ _ _ _ hne];exact hgv
     simp only [World.cell?,e]
     exact hj) (by rw [hul2,hBs,hs];omega) h1u
  rw [this,hA,setRow_setRow]
  congr 2
  simp only [Nat.min_def];split<;>omega
 have kA:Hid (A.size=cur.size∧A.toList.take ((n+m)*2)=(cur.toList.take (n*2)).take (i*2)++us++mv):=by
  have e1:B.toList.take (i*2)=(cur.toList.take (n*2)).take (i*2):=by
   rw [hB];simp only [List.toList_toArray,List.append_assoc]
   rw [List.take_append_of_le_length (by simp [hs];omega),List.take_take,List.take_take]
   congr 1;omega
  have e2:(B.toList.drop (i*2+us.length)).take mv.length=mv:=by
   rw [hB];simp only [List.toList_toArray,List.append_assoc]
   rw [List.drop_append,List.drop_eq_nil_of_le (by simp [hul2,hs];omega),List.nil_append,List.length_take,show i*2+us.length - min ((i+m)*2) cur.toList.length=0 by simp [hul2,hs];omega,List.drop_zero,List.take_append_of_le_length (Nat.le_refl _),List.take_of_length_le (Nat.le_refl _)]
  refine ⟨by rw [hA];simp [hul2,hBs,hs];omega,?_⟩
  rw [hA];simp only [List.toList_toArray]
  rw [List.take_append,List.take_of_length_le (by simp [hul2,hBs,hs];omega),e1]
  congr 1
  rw [show (n+m)*2 - (List.take (i*2) (List.take (n*2) cur.toList)++us).length=mv.length by simp [hul2,hml,hs];omega]
  exact e2
 rw [hmv2] at kA
 have hnc:n≤c:=by omega
 have hic:i≤c:=by omega
 have hz1:¬ ((m:Int)=0):=by omega
 have hz2:¬ ((i:Int)=(n:Int)):=by omega
 have mixed:Tryz.prog.follows .mixedOrders=true:=by kernel_rfl
 have hw1:IntKind.i64.wrap ((i:Int)+(m:Int))=(i:Int)+(m:Int):=by rw [IntKind.wrap_i64];omega
 have hb1:(0:Int)≤(i:Int)+(m:Int):=by omega
 have hin:i≤n:=by omega
 have htn:((i:Int)+(m:Int)).toNat=i+m:=by omega
 have hb2:¬ (c=i+m):=by omega
 have hb3:(i:Int)≤(n:Int)+(m:Int):=by omega
 have hb4:¬ (c=i):=by omega
 clear hB hBs hgB hA hmv2 hml hgd hg hgv hul hul2 h1 h1u hsz hs hmv
 go_enter Tryz.func130,Tryz.ntmps130
 go_wp2_with (simp only [hov])
 go_region_law_o (refine cZ_ rfl _ _ 36 36 rfl _ _ (by simp [Act.eval,Act.put]) (by simp [Act.eval,Act.put]) (hcp1 _ _ _) ?_)
 go_wp2_with (at_builtin;refine dZ_ _ rfl _ _ 36 36 rfl _ _ rfl rfl (hcp2 _ _) ?_)
 go_ret
 exact ⟨rfl,A,rfl,kA.out.1,kA.out.2⟩
set_option maxRecDepth 1000000 in
theorem ou_ (w:World) (g n c i:Nat) (cur:Array Value) (hg:w.heap[g]?=some (.cells cur 65 (0,0))) (hs:cur.size=c*2) (hnc:n≤c) (hi:i<n)
  (gv m vc:Nat) (curv:Array Value) (Tv:TypeId) (hgv:w.heap[gv]?=some (.cells curv Tv (0,0))) (hmv:m*2≤curv.size) (us:List Value) (hul:us=curv.toList.take (m*2)) (h1u:∀ v ∈ us,v.oneCell'=true) (hm:0<m) (hroom:c<n+m)
  (hbig:(n+m)*32≤140737488355328) (h1:∀ v ∈ cur.toList.take (n*2),v.oneCell'=true) :
  Calls Tryz.prog 130 #[.slice (some ⟨g,0,none⟩) n c,.int .i64 i,.slice (some ⟨gv,0,none⟩) m vc] w fun e w'=>∃ C A,e = .returned (.slice (some ⟨w.heap.size,0,none⟩) (n+m) C)∧n+m≤C∧C≤maxLen ∧
   w'.heap[w.heap.size]?=some (.cells A 65 (0,0))∧A.size=C*2∧A.toList.take ((n+m)*2)=(cur.toList.take (n*2)).take (i*2)++us++(cur.toList.take (n*2)).drop (i*2)∧w.grownBy w' none:=by
 obtain ⟨i0,hi0⟩:=Option.isSome_iff_exists.1 (show (Tryz.prog.info? 65).isSome=true by kernel_rfl)
 have hz0:i0.size=2:=by
  have:(Tryz.prog.info? 65).map (·.size)=some 2:=by kernel_rfl
  rw [hi0] at this;simpa using this
 have hz1:i0.bytes=32:=by
  have:(Tryz.prog.info? 65).map (·.bytes)=some 32:=by kernel_rfl
  rw [hi0] at this;simpa using this
 have hz2:i0.zero=some (.agg #[.int .i64 0,.slice none 0 0]):=by
  have:(Tryz.prog.info? 65).bind (·.zero)=some (.agg #[.int .i64 0,.slice none 0 0]):=by kernel_rfl
  rw [hi0] at this;simpa using this
 obtain ⟨G,N,W1,R1,W2,A,hNN,hGn,hGm,hrz,hcp1,hW2',hcp2,kA⟩:=n3_ 36 65 3 _ i0 Tryz.underlying36 Tryz.underlying3 hi0 hz2 hz0 hz1 rfl w g n c i cur hg hs hnc hi gv m vc curv Tv hgv hmv us hul h1u hm hroom hbig h1
 have hic:i≤c:=by omega
 have hz3:¬ ((m:Int)=0):=by omega
 have hz4:¬ ((i:Int)=(n:Int)):=by omega
 have hz5:(c:Int)<(n:Int)+(m:Int):=by omega
 have mixed:Tryz.prog.follows .mixedOrders=true:=by kernel_rfl
 have hG63:G≤9223372036854775807:=by unfold maxLen at hGm;omega
 have hw1:IntKind.i64.wrap ((n:Int)+(m:Int))=(n:Int)+(m:Int):=by rw [IntKind.wrap_i64];omega
 have hw2:IntKind.i64.wrap ((n:Int)+(m:Int) - (i:Int))=(n:Int)+(m:Int) - (i:Int):=by rw [IntKind.wrap_i64];omega
 have hw3:IntKind.i64.wrap ((i:Int)+(m:Int))=(i:Int)+(m:Int):=by rw [IntKind.wrap_i64];omega
 have hb1:(0:Int)≤(i:Int)+(m:Int):=by omega
 have htn:((i:Int)+(m:Int)).toNat=i+m:=by omega
 have hGi:¬ (G=i):=by omega
 have hGim:¬ (G=i+m):=by omega
 have hb3:(i:Int)≤(n:Int)+(m:Int):=by omega
 have hb4:¬ (c=i):=by omega
 have hinm:i≤n+m:=by omega
 have himn:i+m≤n+m:=by omega
 have hin:i≤n:=by omega
 clear hul h1 h1u hg hgv hs hmv hz0 hz1 hz2 hi0 hbig
 go_enter Tryz.func130,Tryz.ntmps130
 go_wp2_with (at_builtin;refine Lib.wpList_append_run _ rfl _ _ 36 3 rfl _ _ rfl rfl _ _ (hrz _) ?_)
 go_region_law_o (simp only [hW2'];refine cZ_ rfl _ _ 36 36 rfl _ _ (by simp [Act.eval,Act.put]) (by simp [Act.eval,Act.put]) (hcp2 _ _ _) ?_)
 go_wp2_with fail
 go_ret
 exact ⟨G,A,by rw [hNN.out];rfl,kA.out⟩
theorem insM130:InsM Tryz.prog 130 65 2 32:=by
 intro w S n vals U m us i hS hU hdis hi h1 h1u hb
 have hvl:=hS.1
 by_cases hm:m=0
 · subst hm
   have hus:us=[]:=by have:=hU.1;rw [Nat.zero_mul] at this;exact List.eq_nil_of_length_eq_zero this
   subst hus
   refine (oq_ w S n i vals hS U [] hU hi).mono ?_
   rintro e w' ⟨rfl,rfl⟩
   refine ⟨S,rfl,by rw [List.append_nil,List.take_append_drop];exact hS,⟨rfl,rfl,rfl,Nat.le_refl _,fun _ _ _=>rfl⟩,fun b hb=>⟨.inr hb,hm_ hS b hb⟩⟩
 · rcases hU.2 with ⟨rfl,h0⟩|⟨gv,vc,curv,rfl,-,hgv,hmc,hcm,hcs,htake⟩
   · exact absurd h0 hm
   · by_cases hin:i=n
     · subst hin
       rw [List.take_of_length_le (by omega),List.drop_eq_nil_of_le (by omega),List.append_nil]
       exact InsEnd130 w S i vals hS gv m vc us hU.1 (fun j u h=>by have:=hU.cells (g:=gv) rfl j u h;rwa [Addr.add_lit,Nat.zero_add] at this) h1u (by omega) hb
     · rcases hS.2 with ⟨rfl,h0⟩|⟨g,c,cur,rfl,-,hg,hnc,hcm',hcs',htake'⟩
       · omega
       · have hne:gv≠g:=fun e=>by subst e;have:=hdis gv (by simp [bP_]);simp [bP_] at this
         have hmv:m*2≤curv.size:=by rw [hcs];exact Nat.mul_le_mul_right _ hmc
         by_cases hroom:n+m≤c
         · refine (mS_ w g n c i cur hg hcs' (by unfold maxLen at hcm';omega) (by omega) gv m vc curv 65 hgv hmv hne us htake.symm h1u (by omega) hroom (by rw [htake'];exact h1)).mono ?_
           rintro e w' ⟨rfl,A,rfl,hA,ht⟩
           rw [htake'] at ht
           have hgd:w.drew.heap[g]?=some (.cells cur 65 (0,0)):=hg
           have hA2:=setRow_heap w.drew g cur A _ _ hgd
           refine ⟨_,rfl,⟨by rw [←ht];simp [hA,hcs'];omega,.inr ⟨g,c,A,rfl,Nat.zero_le _,hA2,hroom,hcm',by rw [hA,hcs'],ht⟩⟩,⟨rfl,rfl,rfl,fh_ w g A,fun b _ hn => ?_⟩,fun b hb=>⟨.inr hb,?_⟩⟩
           · rw [setRow_other _ _ _ _ (fun e=>hn (by subst e;simp [bP_]))];rfl
           · have:g=b:=by simp only [bP_] at hb;exact Classical.byContradiction fun h=>hb (if_neg h)
             subst this
             exact (Array.getElem?_eq_some_iff.1 hA2).1
         · refine (ou_ w g n c i cur hg hcs' hnc (by omega) gv m vc curv 65 hgv hmv us htake.symm h1u (by omega) (by omega) hb (by rw [htake'];exact h1)).mono ?_
           rintro e w' ⟨C,A,rfl,hC,hCm,hN,hA,ht,hgr⟩
           rw [htake'] at ht
           refine ⟨_,rfl,⟨by rw [←ht];simp [hA];omega,.inr ⟨_,C,A,rfl,Nat.zero_le _,hN,hC,hCm,hA,ht⟩⟩,⟨hgr.os,hgr.tape,hgr.output,hgr.size,fun b hb _=>hgr.block b hb (by simp)⟩,fun b hb => ?_⟩
           have:w.heap.size=b:=by simp only [bP_] at hb;exact Classical.byContradiction fun h=>hb (if_neg h)
           subst this
           exact ⟨.inl (Nat.le_refl _),(Array.getElem?_eq_some_iff.1 hN).1⟩
end Go.Proofs
namespace Go.Pi
open Go.Proofs
theorem bK_.ok (n:Nat):bK_.e.Oks E (cx n) n:=fun _ _ _ _ h=>ks_ (t:=.iRow) (m1:=.d) (m2:=.d) (by decide) (by decide) insM130 h
end Go.Pi
end
section
namespace Go.Proofs
open Go.Shelf
def Tryz.laysM171_ren:Go.Shelf.Ren:=⟨fun|171=>139|243=>158|246=>170|283=>181|284=>182|285=>183|286=>184|129=>191|317=>190|318=>192|319=>193|320=>194|337=>202|338=>203|n=>n,fun|3=>3|9=>9|2=>2|4=>4|171=>203|0=>0|53=>204|37=>22|5=>5|173=>207|212=>212|51=>213|20=>20|213=>214|46=>158|232=>231|233=>232|n=>n,fun|17=>0|18=>3|19=>4|n=>n⟩
theorem Tryz.laysM171:Go.Proofs.LaysM.n171 Tryz.prog Tryz.laysM171_ren:={
 mixed:=by kernel_rfl
 f129:=Tryz.func191.trans (congrArg some (by kernel_rfl))
 f171:=Tryz.func139.trans (congrArg some (by kernel_rfl))
 f243:=Tryz.func158.trans (congrArg some (by kernel_rfl))
 f246:=Tryz.func170.trans (congrArg some (by kernel_rfl))
 f283:=Tryz.func181.trans (congrArg some (by kernel_rfl))
 f284:=Tryz.func182.trans (congrArg some (by kernel_rfl))
 f285:=Tryz.func183.trans (congrArg some (by kernel_rfl))
 f286:=Tryz.func184.trans (congrArg some (by kernel_rfl))
 f317:=Tryz.func190.trans (congrArg some (by kernel_rfl))
 f318:=Tryz.func192.trans (congrArg some (by kernel_rfl))
 f319:=Tryz.func193.trans (congrArg some (by kernel_rfl))
 f320:=Tryz.func194.trans (congrArg some (by kernel_rfl))
 f337:=Tryz.func202.trans (congrArg some (by kernel_rfl))
 f338:=Tryz.func203.trans (congrArg some (by kernel_rfl))
 t0:=Tryz.underlying0
 a0:=Tryz.isAgg0
 z0:=Tryz.sizeOf0
 v0:=Tryz.zeroValue0
 t2:=Tryz.underlying2
 a2:=Tryz.isAgg2
 z2:=Tryz.sizeOf2
 v2:=Tryz.zeroValue2
 t3:=Tryz.underlying3
 a3:=Tryz.isAgg3
 z3:=Tryz.sizeOf3
 v3:=Tryz.zeroValue3
 t4:=Tryz.underlying4
 a4:=Tryz.isAgg4
 z4:=Tryz.sizeOf4
 v4:=Tryz.zeroValue4
 t5:=Tryz.underlying5
 a5:=Tryz.isAgg5
 z5:=Tryz.sizeOf5
 v5:=Tryz.zeroValue5
 t9:=Tryz.underlying9
 a9:=Tryz.isAgg9
 z9:=Tryz.sizeOf9
 v9:=Tryz.zeroValue9
 t20:=Tryz.underlying20
 a20:=Tryz.isAgg20
 z20:=Tryz.sizeOf20
 v20:=Tryz.zeroValue20
 t37:=Tryz.underlying22
 a37:=Tryz.isAgg22
 z37:=Tryz.sizeOf22
 v37:=Tryz.zeroValue22
 t46:=Tryz.underlying158
 a46:=Tryz.isAgg158
 z46:=Tryz.sizeOf158
 v46:=Tryz.zeroValue158
 t51:=Tryz.underlying213
 a51:=Tryz.isAgg213
 z51:=Tryz.sizeOf213
 v51:=Tryz.zeroValue213
 t53:=Tryz.underlying204
 a53:=Tryz.isAgg204
 z53:=Tryz.sizeOf204
 v53:=Tryz.zeroValue204
 t171:=Tryz.underlying203
 a171:=Tryz.isAgg203
 z171:=Tryz.sizeOf203
 v171:=Tryz.zeroValue203
 t173:=Tryz.underlying207
 a173:=Tryz.isAgg207
 z173:=Tryz.sizeOf207
 v173:=Tryz.zeroValue207
 t212:=Tryz.underlying212
 a212:=Tryz.isAgg212
 z212:=Tryz.sizeOf212
 v212:=Tryz.zeroValue212
 t213:=Tryz.underlying214
 a213:=Tryz.isAgg214
 z213:=Tryz.sizeOf214
 t232:=Tryz.underlying231
 a232:=Tryz.isAgg231
 z232:=Tryz.sizeOf231
 v232:=Tryz.zeroValue231
 t233:=Tryz.underlying232
 a233:=Tryz.isAgg232
 z233:=Tryz.sizeOf232
 v233:=Tryz.zeroValue232
 g17:=by kernel_rfl
 g18:=by kernel_rfl
 g19:=by kernel_rfl
 i0:=by kernel_rfl
 i2:=by kernel_rfl
 i3:=by kernel_rfl
 i4:=by kernel_rfl
 i5:=by kernel_rfl
 i9:=by kernel_rfl
 i20:=by kernel_rfl
 i37:=by kernel_rfl
 i46:=by kernel_rfl
 i51:=by kernel_rfl
 i53:=by kernel_rfl
 i171:=by kernel_rfl
 i173:=by kernel_rfl
 i212:=by kernel_rfl
 i232:=by kernel_rfl
 i233:=by kernel_rfl
 m17:=by kernel_rfl
 m18:=by kernel_rfl
 m19:=by kernel_rfl }
open Go.RowKit Go.Sort Go.Lib in
theorem Tryz.strconv_Itoa (n:Int) (h0 : -9223372036854775808≤n) (h1:n≤9223372036854775807) (w:World) (htab:Lib.TabIs Tryz.prog w "internal/strconv.uint64pow10" .u64 Lib.pow10Tab) :
  Calls Tryz.prog 139 #[.int .i64 n] w fun e w'=>e = .returned (.string ⟨(Lib.itoa n).toArray⟩)∧∃ k os,w'=grow (w.drewN k) os:=Any.strconv_Itoa Tryz.laysM171 n h0 h1 w htab
end Go.Proofs
namespace Go.Pi
open Go.Proofs
theorem iO_:E.P.globalNamed "internal/strconv.uint64pow10" = some 0:=by kernel_rfl
theorem strconv_Itoa.ok (n:Nat):strconv_Itoa.e.Oks E (cx n) n:=fun _ _ _ _ h=>nItoa_ok (fun n h0 h1 w ht=>Tryz.strconv_Itoa n h0 h1 w ht) (.head _) iO_ h
end Go.Pi
end
section
namespace Go.Proofs
open Go.Shelf Go.RowKit Go.Lib Go.Pi
section
variable {P:Program}
theorem n2_ (TS TE:TypeId) (TI:TypeId) (Z:Value) (i0:TypeInfo) (uS:P.underlying TS=some (.slice TE)) (uI:P.underlying TI=some (.int .i64)) (hi0:P.info? TE=some i0) (hz2:i0.zero=some Z) (hz0:i0.size=1) (hz1:i0.bytes=16) (hZK:Z.cells.size=1)
  (w:World) (g n c i:Nat) (cur:Array Value) (hg:w.heap[g]?=some (.cells cur TE (0,0))) (hs:cur.size=c) (hnc:n≤c) (hi:i<n)
  (gv m vc:Nat) (curv:Array Value) (Tv:TypeId) (hgv:w.heap[gv]?=some (.cells curv Tv (0,0))) (hmv:m≤curv.size) (us:List Value) (hul:us=curv.toList.take (m)) (h1u:∀ v ∈ us,v.oneCell'=true) (hm:0<m) (hroom:c<n+m)
  (hbig:(n+m)*16≤140737488355328) (h1:∀ v ∈ cur.toList.take (n),v.oneCell'=true) :
  ∃ G N W1 R1 W2 A,Hid (N=w.heap.size)∧n+m≤G∧G≤maxLen ∧
    (∀ ty,(Builtin.append_ #[TS,TI] ty #[.slice (some ⟨g,0,none⟩) i c,.int .i64 ((n:Int)+(m:Int) - (i:Int))]).run P w = .ok (.slice (some ⟨N,0,none⟩) (n+m) G) W1) ∧
    (∀ ty dc,(Builtin.copy_ #[TS,TS] ty #[.slice (some ⟨N,i,none⟩) (n+m - i) dc,.slice (some ⟨gv,0,none⟩) m vc]).run P W1 = .ok (goInt m) (W1.setRow N R1)) ∧
    (W1.setRow N R1).drew=W2 ∧
    (∀ ty dc sc,(Builtin.copy_ #[TS,TS] ty #[.slice (some ⟨N,(i+m),none⟩) (n+m - (i+m)) dc,.slice (some ⟨g,i,none⟩) (n - i) sc]).run P W2 = .ok (goInt (n - i)) (W2.setRow N A)) ∧
    Hid (n+m≤G∧G≤maxLen∧(W2.setRow N A).heap[w.heap.size]?=some (.cells A TE (0,0))∧A.size=G∧A.toList.take ((n+m))=(cur.toList.take (n)).take (i)++us++(cur.toList.take (n)).drop (i)∧w.grownBy (W2.setRow N A) none):=by
 have hul2:us.length=m:=by rw [hul,List.length_take,Array.length_toList];omega
 have hsz:(P.info? TE).map (·.size)=some 1:=by rw [hi0];simp [hz0]
 have hgd:w.drew.heap[g]?=some (.cells cur TE (0,0)):=hg
 have hgl:g<w.heap.size:=(Array.getElem?_eq_some_iff.1 hg).1
 have hgvl:gv<w.heap.size:=(Array.getElem?_eq_some_iff.1 hgv).1
 obtain ⟨olds,holds⟩:∃ olds,olds=(cur.toList.take (n)).take (i):=⟨_,rfl⟩
 have hol:olds.length=i:=by rw [holds];simp [hs];omega
 obtain ⟨G,hG⟩:∃ G,G=grownCap w (n+m) c TE:=⟨_,rfl⟩
 have hGn:n+m≤G:=by rw [hG];exact grownCap_ge w _ _ _
 have hGm:G≤maxLen:=by rw [hG];exact grownCap_le_maxLen w (n+m) c TE (by unfold maxLen;omega)
 obtain ⟨ROW,hROW⟩:∃ ROW:Array Value,ROW=olds.toArray++Builtin.zeroCells Z.cells (n+m - i)++Builtin.zeroCells Z.cells (G - (n+m)):=⟨_,rfl⟩
 have hRl:ROW.size=G:=by rw [hROW];simp [Builtin.zeroCells,hol,hZK];omega
 have hRt:ROW.toList.take (i)=olds:=by
  rw [hROW];simp only [Array.toList_append,List.append_assoc]
  rw [List.take_append_of_le_length (by simp [hol]),List.take_of_length_le (by simp [hol])]
 have hkk:(n:Int)+(m:Int) - (i:Int)=((n+m - i:Nat):Int):=by omega
 have hrz:∀ ty,(Builtin.append_ #[TS,TI] ty #[.slice (some ⟨g,0,none⟩) i c,.int .i64 ((n:Int)+(m:Int) - (i:Int))]).run P w =
   .ok (.slice (some ⟨w.heap.size,0,none⟩) (n+m) G) (w.drew.alloc (.cells ROW TE)):=fun ty=>by
  have h:=Lib.run_append_grow_zeros (P:=P) w TS TI ty TE i0 _ .i64 .i64 uS uI hi0 hz2 (some ⟨g,0,none⟩) i c olds (by
   rw [hz0]
   exact run_firstCells_some w.drew 1 i ⟨g,0,none⟩ i c olds (by rw [Nat.mul_one];exact hol) (fun j v hj=>by
    have hj2:=(List.getElem?_eq_some_iff.1 hj).1
    rw [holds,List.getElem?_take_of_lt (by omega),List.getElem?_take_of_lt (by omega),Array.getElem?_toList] at hj
    rw [Addr.add_lit,Nat.zero_add]
    simp only [World.cell?,hgd]
    exact hj)) (n+m - i) (by omega) (by omega) (by omega) (by omega) (by rw [hz1];omega) (by rw [hz1,show i+(n+m - i)=n+m by omega];exact growslice_fits hroom hbig)
  rw [show i+(n+m - i)=n+m by omega,←hG,←hROW] at h
  rw [hkk]
  exact h
 obtain ⟨N,hN⟩:∃ N,N=w.heap.size:=⟨_,rfl⟩
 rw [←hN] at hrz
 obtain ⟨W1,hW1⟩:∃ W1,W1=w.drew.alloc (.cells ROW TE):=⟨_,rfl⟩
 rw [←hW1] at hrz
 have hN1:W1.heap[N]?=some (.cells ROW TE (0,0)):=by rw [hW1,hN];exact heap_alloc_new w.drew _
 have hold:∀ b,b<w.heap.size→W1.heap[b]?=w.heap[b]?:=fun b hb=>by rw [hW1];exact heap_alloc_old w.drew _ hb
 have hgr1:w.grownBy W1 none:=by rw [hW1];exact ⟨rfl,rfl,rfl,by simp,fun k hk _=>heap_alloc_old w.drew _ hk⟩
 obtain ⟨R1,hR1⟩:∃ R1,R1=(ROW.toList.take (i)++us++ROW.toList.drop (i+us.length)).toArray:=⟨_,rfl⟩
 have hR1s:R1.size=G:=by rw [hR1];simp [hul2,hRl];omega
 have hcp1:∀ ty dc,(Builtin.copy_ #[TS,TS] ty #[.slice (some ⟨N,i,none⟩) (n+m - i) dc,.slice (some ⟨gv,0,none⟩) m vc]).run P W1 = .ok (goInt m) (W1.setRow N R1):=fun ty dc=>by
  have:=b1_ (P:=P) W1 TS TS ty TE 1 N (i) (n+m - i) dc ⟨gv,0,none⟩ m vc ROW TE us uS hsz hN1 (by rw [hul2];simp only [Nat.min_def];split<;>omega)
   (fun j v hj=>by
     have hj2:=(List.getElem?_eq_some_iff.1 hj).1
     rw [hul,List.getElem?_take_of_lt (by omega),Array.getElem?_toList] at hj
     rw [Addr.add_lit,Nat.zero_add]
     simp only [World.cell?,hold gv hgvl,hgv]
     exact hj) (by rw [hul2,hRl];omega) h1u
  rw [this,hR1]
  congr 2
  simp only [Nat.min_def];split<;>omega
 obtain ⟨W2,hW2⟩:∃ W2,W2=(W1.setRow N R1).drew:=⟨_,rfl⟩
 have hN2:W2.heap[N]?=some (.cells R1 TE (0,0)):=by rw [hW2];exact setRow_heap _ _ _ _ _ _ hN1
 have hg2:W2.heap[g]?=some (.cells cur TE (0,0)):=by
  rw [hW2];show (W1.setRow N R1).heap[g]?=_
  rw [setRow_other _ _ _ _ (by omega),hold g hgl];exact hg
 obtain ⟨mv,hmv2⟩:∃ mv,mv=(cur.toList.take (n)).drop (i):=⟨_,rfl⟩
 have hml:mv.length=(n - i):=by rw [hmv2];simp [hs];omega
 obtain ⟨A,hA⟩:∃ A,A=(R1.toList.take ((i+m))++mv++R1.toList.drop ((i+m)+mv.length)).toArray:=⟨_,rfl⟩
 have hcp2:∀ ty dc sc,(Builtin.copy_ #[TS,TS] ty #[.slice (some ⟨N,(i+m),none⟩) (n+m - (i+m)) dc,.slice (some ⟨g,i,none⟩) (n - i) sc]).run P W2 = .ok (goInt (n - i)) (W2.setRow N A):=fun ty dc sc=>by
  have:=b1_ (P:=P) W2 TS TS ty TE 1 N ((i+m)) (n+m - (i+m)) dc ⟨g,i,none⟩ (n - i) sc R1 TE mv uS hsz hN2 (by rw [hml];simp only [Nat.min_def];split<;>omega)
   (fun j v hj=>by
     have hj2:=(List.getElem?_eq_some_iff.1 hj).1
     rw [hmv2,List.getElem?_drop,List.getElem?_take_of_lt (by omega),Array.getElem?_toList] at hj
     rw [Addr.add_lit]
     simp only [World.cell?,hg2]
     exact hj) (by rw [hml,hR1s];omega) (fun v hv=>h1 v (by rw [hmv2] at hv;exact List.mem_of_mem_drop hv))
  rw [this,hA]
  congr 2
  simp only [Nat.min_def];split<;>omega
 have kA:Hid (n+m≤G∧G≤maxLen∧(W2.setRow N A).heap[w.heap.size]?=some (.cells A TE (0,0))∧A.size=G∧A.toList.take ((n+m))=(cur.toList.take (n)).take (i)++us++(cur.toList.take (n)).drop (i)∧w.grownBy (W2.setRow N A) none):=by
  refine ⟨hGn,hGm,by rw [←hN];exact setRow_heap _ _ _ _ _ _ hN2,by rw [hA];simp [hml,hR1s];omega,?_,?_⟩
  · have e1:R1.toList.take ((i+m))=olds++us:=by
     rw [hR1];simp only [List.toList_toArray]
     rw [List.take_append_of_le_length (by simp [hul2,hRl];omega),List.take_of_length_le (by simp [hul2,hRl];omega),hRt]
    rw [hA];simp only [List.toList_toArray]
    rw [e1,List.take_append_of_le_length (by simp [hol,hul2,hml];omega),List.take_of_length_le (by simp [hol,hul2,hml];omega),holds,hmv2]
  · refine ⟨by rw [hW2];exact hgr1.os,by rw [hW2];exact hgr1.tape,by rw [hW2];exact hgr1.output,?_,fun k hk hne => ?_⟩
    · have:(W2.setRow N A).heap.size=W1.heap.size:=by rw [hW2];simp [World.setRow,World.drew]
      rw [this];exact hgr1.size
    · rw [setRow_other _ _ _ _ (by omega),hW2]
      show (W1.setRow N R1).heap[k]?=_
      rw [setRow_other _ _ _ _ (by omega)];exact hold k hk
 exact ⟨G,N,W1,R1,W2,A,hN,hGn,hGm,hrz,hcp1,hW2.symm,hcp2,kA⟩
end
set_option maxRecDepth 1000000 in
theorem InsEnd161 (w:World) (S:Value) (n:Nat) (vals:List Value) (hS:w.ownsRow 0 9 1 S n vals) (gv m vc:Nat) (us:List Value) (hul:us.length=m) (hus:∀ j u,us[j]?=some u→w.cell? ⟨gv,j,none⟩=some u) (h1u:∀ v ∈ us,v.oneCell'=true) (hm:0<m) (hb:(n+m)*16≤140737488355328) :
  Calls Tryz.prog 161 #[S,.int .i64 n,.slice (some ⟨gv,0,none⟩) m vc] w fun e w'=>∃ R,e = .returned R∧w'.ownsRow 0 9 1 R (n+m) (vals++us)∧f3_ w w' (fun b=>bP_ S b≠0) ∧
   ∀ b,bP_ R b≠0→(w.heap.size≤b∨bP_ S b≠0)∧b<w'.heap.size:=by
 obtain ⟨i0,hi0⟩:=Option.isSome_iff_exists.1 (show (Tryz.prog.info? 9).isSome=true by kernel_rfl)
 have hz0:i0.size=1:=by
  have:(Tryz.prog.info? 9).map (·.size)=some 1:=by kernel_rfl
  rw [hi0] at this;simpa using this
 have hz1:i0.bytes=16:=by
  have:(Tryz.prog.info? 9).map (·.bytes)=some 16:=by kernel_rfl
  rw [hi0] at this;simpa using this
 have hz2:i0.zero=some (.string ByteArray.empty):=by
  have:(Tryz.prog.info? 9).bind (·.zero)=some (.string ByteArray.empty):=by kernel_rfl
  rw [hi0] at this;simpa using this
 have hz3:¬ ((m:Int)=0):=by omega
 have mixed:Tryz.prog.follows .mixedOrders=true:=by kernel_rfl
 have key:∀ ty,∃ v' w',(Builtin.append_ #[50,50] ty #[S,.slice (some ⟨gv,0,none⟩) m vc]).run Tryz.prog w = .ok v' w'∧w'.ownsRow 0 9 1 v' (n+m) (vals++us)∧f3_ w w' (fun b=>bP_ S b≠0) ∧
   ∀ b,bP_ v' b≠0→(w.heap.size≤b∨bP_ S b≠0)∧b<w'.heap.size:=fun ty=>by
  have:=dS_ (P:=Tryz.prog) w 50 ty 9 i0 _ Tryz.underlying50 hi0 hz2 (by rw [hz0];rfl) (by rw [hz0];decide) S n vals (by rw [hz0];exact hS) (.slice (some ⟨gv,0,none⟩) m vc) m us (by rw [hz0,Nat.mul_one];exact hul) (.inl ⟨_,_,rfl,fun j u h=>by rw [Addr.add_lit,Nat.zero_add];exact hus j u h⟩) h1u (by unfold maxLen;omega) (by rw [hz1];exact hb)
  rw [hz0] at this
  exact this
 obtain ⟨v',w',k1,k2,k3⟩:=key 50
 rcases (dK_.1 hS).2 with ⟨rfl,rfl⟩|⟨g,c,cur,rfl,-,hg,hnc,hcm,hcs,htake⟩
 · clear key hS hus hz2 hi0 hz0 hz1
   go_enter Tryz.func161,Tryz.ntmps161
   go_wp2_with (at_builtin;refine Lib.wpList_append_run _ rfl _ _ 50 50 rfl _ _ rfl rfl _ _ k1 ?_)
   go_ret
   exact ⟨_,rfl,k2,k3⟩
 · clear key hS hus hz2 hg htake hcs hi0 hz0 hz1
   unfold maxLen at hcm
   go_enter Tryz.func161,Tryz.ntmps161
   go_wp2_with (at_builtin;refine Lib.wpList_append_run _ rfl _ _ 50 50 rfl _ _ rfl rfl _ _ k1 ?_)
   all_goals (go_ret;exact ⟨_,rfl,k2,k3⟩)
set_option maxRecDepth 1000000 in
theorem op_ (w:World) (S:Value) (n i:Nat) (vals:List Value) (hS:w.ownsRow 0 9 1 S n vals) (U:Value) (us:List Value) (hU:w.ownsRow 0 9 1 U 0 us) (hi:i≤n) :
  Calls Tryz.prog 161 #[S,.int .i64 i,U] w fun e w'=>e = .returned S∧w'=w:=by
 rcases (dK_.1 hS).2 with ⟨rfl,rfl⟩|⟨g,c,cur,rfl,-,hg,hnc,hcm,hcs,htake⟩
 · have hi0:i=0:=by omega
   subst hi0
   rcases (dK_.1 hU).2 with ⟨rfl,-⟩|⟨gv,vc,curv,rfl,-,hgv,hmc,hcm,hcs,htake⟩
   · clear hS hU
     go_enter Tryz.func161,Tryz.ntmps161
     go_wp2_with fail
     go_ret
     exact ⟨rfl,rfl⟩
   · clear hS hU hgv hcs htake
     go_enter Tryz.func161,Tryz.ntmps161
     go_wp2_with fail
     go_ret
     exact ⟨rfl,rfl⟩
 · unfold maxLen at hcm
   have hic:i≤c:=by omega
   rcases (dK_.1 hU).2 with ⟨rfl,-⟩|⟨gv,vc,curv,rfl,-,hgv,hmc,hcm2,hcs2,htake2⟩
   · clear hS hU hg hcs htake
     go_enter Tryz.func161,Tryz.ntmps161
     go_wp2_with fail
     all_goals (go_ret;exact ⟨rfl,rfl⟩)
   · clear hS hU hg hcs htake hgv hcs2 htake2
     go_enter Tryz.func161,Tryz.ntmps161
     go_wp2_with fail
     all_goals (go_ret;exact ⟨rfl,rfl⟩)
set_option maxRecDepth 1000000 in
theorem mR_ (w:World) (g n c i:Nat) (cur:Array Value) (hg:w.heap[g]?=some (.cells cur 9 (0,0))) (hs:cur.size=c) (hc:c≤9223372036854775807) (hi:i<n)
  (gv m vc:Nat) (curv:Array Value) (Tv:TypeId) (hgv:w.heap[gv]?=some (.cells curv Tv (0,0))) (hmv:m≤curv.size) (hne:gv≠g) (us:List Value) (hul:us=curv.toList.take (m)) (h1u:∀ v ∈ us,v.oneCell'=true) (hm:0<m) (hroom:n+m≤c)
  (h1:∀ v ∈ cur.toList.take (n),v.oneCell'=true) :
  Calls Tryz.prog 161 #[.slice (some ⟨g,0,none⟩) n c,.int .i64 i,.slice (some ⟨gv,0,none⟩) m vc] w fun e w'=>e = .returned (.slice (some ⟨g,0,none⟩) (n+m) c) ∧
   ∃ A,w'=w.drew.setRow g A∧A.size=cur.size∧A.toList.take ((n+m))=(cur.toList.take (n)).take (i)++us++(cur.toList.take (n)).drop (i):=by
 have hsz:(Tryz.prog.info? 9).map (·.size)=some 1:=by kernel_rfl
 have hul2:us.length=m:=by rw [hul,List.length_take,Array.length_toList];omega
 have hov:∀ lb cb,(callFunc 174 #[.slice (some ⟨gv,0,none⟩) m vc,.slice (some ⟨g,(i+m),none⟩) lb cb]).run Tryz.prog w = .ok (.value (.bool false)) w:=fun lb cb=>by
  rw [run_callFunc_extern Tryz.func174 (by kernel_rfl) (by kernel_rfl) (by kernel_rfl) (e:=Extern.SlicesOverlaps.overlaps #[50,50] #[4]) (by kernel_rfl),
   Lib.run_overlaps_apart w 50 4 9 Tryz.underlying50 1 Tryz.sizeOf9 ⟨gv,0,none⟩ ⟨g,(i+m),none⟩ m vc lb cb hne Tv 9 curv.size cur.size (by simp [World.shape?,hgv]) (by simp [World.shape?,hg]) (by omega) (by simp [World.frozen?,hgv]) (by simp [World.frozen?,hgv])]
  rfl
 obtain ⟨mv,hmv2⟩:∃ mv,mv=(cur.toList.take (n)).drop (i):=⟨_,rfl⟩
 have hml:mv.length=(n - i):=by rw [hmv2];simp [hs];omega
 have hgd:w.drew.heap[g]?=some (.cells cur 9 (0,0)):=hg
 obtain ⟨B,hB⟩:∃ B,B=(cur.toList.take ((i+m))++mv++cur.toList.drop ((i+m)+mv.length)).toArray:=⟨_,rfl⟩
 have hcp1:∀ ty dc sc,(Builtin.copy_ #[50,50] ty #[.slice (some ⟨g,(i+m),none⟩) (n+m - (i+m)) dc,.slice (some ⟨g,i,none⟩) (n+m - i) sc]).run Tryz.prog w.drew = .ok (goInt (n - i)) (w.drew.setRow g B):=fun ty dc sc=>by
  have:=b1_ (P:=Tryz.prog) w.drew 50 50 ty 9 1 g ((i+m)) (n+m - (i+m)) dc ⟨g,i,none⟩ (n+m - i) sc cur 9 mv Tryz.underlying50 hsz hgd (by rw [hml];simp only [Nat.min_def];split<;>omega)
   (fun j v hj=>by
     have hj2:=(List.getElem?_eq_some_iff.1 hj).1
     rw [hmv2,List.getElem?_drop,List.getElem?_take_of_lt (by omega),Array.getElem?_toList] at hj
     rw [Addr.add_lit]
     simp only [World.cell?,hgd]
     exact hj) (by rw [hml,hs];omega) (fun v hv=>h1 v (by rw [hmv2] at hv;exact List.mem_of_mem_drop hv))
  rw [this,hB]
  congr 2
  simp only [Nat.min_def];split<;>omega
 have hBs:B.size=cur.size:=by rw [hB];simp [hml,hs];omega
 have hgB:(w.drew.setRow g B).heap[g]?=some (.cells B 9 (0,0)):=setRow_heap _ _ _ _ _ _ hgd
 obtain ⟨A,hA⟩:∃ A,A=(B.toList.take (i)++us++B.toList.drop (i+us.length)).toArray:=⟨_,rfl⟩
 have hcp2:∀ ty dc,(Builtin.copy_ #[50,50] ty #[.slice (some ⟨g,i,none⟩) (n+m - i) dc,.slice (some ⟨gv,0,none⟩) m vc]).run Tryz.prog (w.drew.setRow g B) = .ok (goInt m) (w.drew.setRow g A):=fun ty dc=>by
  have:=b1_ (P:=Tryz.prog) (w.drew.setRow g B) 50 50 ty 9 1 g (i) (n+m - i) dc ⟨gv,0,none⟩ m vc B 9 us Tryz.underlying50 hsz hgB (by rw [hul2];simp only [Nat.min_def];split<;>omega)
   (fun j v hj=>by
     have hj2:=(List.getElem?_eq_some_iff.1 hj).1
     rw [hul,List.getElem?_take_of_lt (by omega),Array.getElem?_toList] at hj
     rw [Addr.add_lit,Nat.zero_add]
     have e:(w.drew.setRow g B).heap[gv]?=some (.cells curv Tv (0,0)):=by rw [setRow_other _ _ _ _ hne];exact hgv
     simp only [World.cell?,e]
     exact hj) (by rw [hul2,hBs,hs];omega) h1u
  rw [this,hA,setRow_setRow]
  congr 2
  simp only [Nat.min_def];split<;>omega
 have kA:Hid (A.size=cur.size∧A.toList.take ((n+m))=(cur.toList.take (n)).take (i)++us++mv):=by
  have e1:B.toList.take (i)=(cur.toList.take (n)).take (i):=by
   rw [hB];simp only [List.toList_toArray,List.append_assoc]
   rw [List.take_append_of_le_length (by simp [hs];omega),List.take_take,List.take_take]
   congr 1;omega
  have e2:(B.toList.drop (i+us.length)).take mv.length=mv:=by
   rw [hB];simp only [List.toList_toArray,List.append_assoc]
   rw [List.drop_append,List.drop_eq_nil_of_le (by simp [hul2,hs];omega),List.nil_append,List.length_take,show i+us.length - min ((i+m)) cur.toList.length=0 by simp [hul2,hs];omega,List.drop_zero,List.take_append_of_le_length (Nat.le_refl _),List.take_of_length_le (Nat.le_refl _)]
  refine ⟨by rw [hA];simp [hul2,hBs,hs];omega,?_⟩
  rw [hA];simp only [List.toList_toArray]
  rw [List.take_append,List.take_of_length_le (by simp [hul2,hBs,hs];omega),e1]
  congr 1
  rw [show (n+m) - (List.take (i) (List.take (n) cur.toList)++us).length=mv.length by simp [hul2,hml,hs];omega]
  exact e2
 rw [hmv2] at kA
 have hnc:n≤c:=by omega
 have hic:i≤c:=by omega
 have hz1:¬ ((m:Int)=0):=by omega
 have hz2:¬ ((i:Int)=(n:Int)):=by omega
 have mixed:Tryz.prog.follows .mixedOrders=true:=by kernel_rfl
 have hw1:IntKind.i64.wrap ((i:Int)+(m:Int))=(i:Int)+(m:Int):=by rw [IntKind.wrap_i64];omega
 have hb1:(0:Int)≤(i:Int)+(m:Int):=by omega
 have hin:i≤n:=by omega
 have htn:((i:Int)+(m:Int)).toNat=i+m:=by omega
 have hb2:¬ (c=i+m):=by omega
 have hb3:(i:Int)≤(n:Int)+(m:Int):=by omega
 have hb4:¬ (c=i):=by omega
 clear hB hBs hgB hA hmv2 hml hgd hg hgv hul hul2 h1 h1u hsz hs hmv
 go_enter Tryz.func161,Tryz.ntmps161
 go_wp2_with (simp only [hov])
 go_region_law_o (refine cZ_ rfl _ _ 50 50 rfl _ _ (by simp [Act.eval,Act.put]) (by simp [Act.eval,Act.put]) (hcp1 _ _ _) ?_)
 go_wp2_with (at_builtin;refine dZ_ _ rfl _ _ 50 50 rfl _ _ rfl rfl (hcp2 _ _) ?_)
 go_ret
 exact ⟨rfl,A,rfl,kA.out.1,kA.out.2⟩
set_option maxRecDepth 1000000 in
theorem ot_ (w:World) (g n c i:Nat) (cur:Array Value) (hg:w.heap[g]?=some (.cells cur 9 (0,0))) (hs:cur.size=c) (hnc:n≤c) (hi:i<n)
  (gv m vc:Nat) (curv:Array Value) (Tv:TypeId) (hgv:w.heap[gv]?=some (.cells curv Tv (0,0))) (hmv:m≤curv.size) (us:List Value) (hul:us=curv.toList.take (m)) (h1u:∀ v ∈ us,v.oneCell'=true) (hm:0<m) (hroom:c<n+m)
  (hbig:(n+m)*16≤140737488355328) (h1:∀ v ∈ cur.toList.take (n),v.oneCell'=true) :
  Calls Tryz.prog 161 #[.slice (some ⟨g,0,none⟩) n c,.int .i64 i,.slice (some ⟨gv,0,none⟩) m vc] w fun e w'=>∃ C A,e = .returned (.slice (some ⟨w.heap.size,0,none⟩) (n+m) C)∧n+m≤C∧C≤maxLen ∧
   w'.heap[w.heap.size]?=some (.cells A 9 (0,0))∧A.size=C∧A.toList.take ((n+m))=(cur.toList.take (n)).take (i)++us++(cur.toList.take (n)).drop (i)∧w.grownBy w' none:=by
 obtain ⟨i0,hi0⟩:=Option.isSome_iff_exists.1 (show (Tryz.prog.info? 9).isSome=true by kernel_rfl)
 have hz0:i0.size=1:=by
  have:(Tryz.prog.info? 9).map (·.size)=some 1:=by kernel_rfl
  rw [hi0] at this;simpa using this
 have hz1:i0.bytes=16:=by
  have:(Tryz.prog.info? 9).map (·.bytes)=some 16:=by kernel_rfl
  rw [hi0] at this;simpa using this
 have hz2:i0.zero=some (.string ByteArray.empty):=by
  have:(Tryz.prog.info? 9).bind (·.zero)=some (.string ByteArray.empty):=by kernel_rfl
  rw [hi0] at this;simpa using this
 obtain ⟨G,N,W1,R1,W2,A,hNN,hGn,hGm,hrz,hcp1,hW2',hcp2,kA⟩:=n2_ 50 9 3 _ i0 Tryz.underlying50 Tryz.underlying3 hi0 hz2 hz0 hz1 rfl w g n c i cur hg hs hnc hi gv m vc curv Tv hgv hmv us hul h1u hm hroom hbig h1
 have hic:i≤c:=by omega
 have hz3:¬ ((m:Int)=0):=by omega
 have hz4:¬ ((i:Int)=(n:Int)):=by omega
 have hz5:(c:Int)<(n:Int)+(m:Int):=by omega
 have mixed:Tryz.prog.follows .mixedOrders=true:=by kernel_rfl
 have hG63:G≤9223372036854775807:=by unfold maxLen at hGm;omega
 have hw1:IntKind.i64.wrap ((n:Int)+(m:Int))=(n:Int)+(m:Int):=by rw [IntKind.wrap_i64];omega
 have hw2:IntKind.i64.wrap ((n:Int)+(m:Int) - (i:Int))=(n:Int)+(m:Int) - (i:Int):=by rw [IntKind.wrap_i64];omega
 have hw3:IntKind.i64.wrap ((i:Int)+(m:Int))=(i:Int)+(m:Int):=by rw [IntKind.wrap_i64];omega
 have hb1:(0:Int)≤(i:Int)+(m:Int):=by omega
 have htn:((i:Int)+(m:Int)).toNat=i+m:=by omega
 have hGi:¬ (G=i):=by omega
 have hGim:¬ (G=i+m):=by omega
 have hb3:(i:Int)≤(n:Int)+(m:Int):=by omega
 have hb4:¬ (c=i):=by omega
 have hinm:i≤n+m:=by omega
 have himn:i+m≤n+m:=by omega
 have hin:i≤n:=by omega
 clear hul h1 h1u hg hgv hs hmv hz0 hz1 hz2 hi0 hbig
 go_enter Tryz.func161,Tryz.ntmps161
 go_wp2_with (at_builtin;refine Lib.wpList_append_run _ rfl _ _ 50 3 rfl _ _ rfl rfl _ _ (hrz _) ?_)
 go_region_law_o (simp only [hW2'];refine cZ_ rfl _ _ 50 50 rfl _ _ (by simp [Act.eval,Act.put]) (by simp [Act.eval,Act.put]) (hcp2 _ _ _) ?_)
 go_wp2_with fail
 go_ret
 exact ⟨G,A,by rw [hNN.out];rfl,kA.out⟩
theorem insM161:InsM Tryz.prog 161 9 1 16:=by
 intro w S n vals U m us i hS hU hdis hi h1 h1u hb
 simp only [Nat.mul_one]
 have hvl:=(dK_.1 hS).1
 by_cases hm:m=0
 · subst hm
   have hus:us=[]:=by have:=(dK_.1 hU).1;(try rw [Nat.zero_mul] at this);exact List.eq_nil_of_length_eq_zero this
   subst hus
   refine (op_ w S n i vals hS U [] hU hi).mono ?_
   rintro e w' ⟨rfl,rfl⟩
   refine ⟨S,rfl,by rw [List.append_nil,List.take_append_drop];exact hS,⟨rfl,rfl,rfl,Nat.le_refl _,fun _ _ _=>rfl⟩,fun b hb=>⟨.inr hb,hm_ hS b hb⟩⟩
 · rcases (dK_.1 hU).2 with ⟨rfl,h0⟩|⟨gv,vc,curv,rfl,-,hgv,hmc,hcm,hcs,htake⟩
   · exact absurd h0 hm
   · by_cases hin:i=n
     · subst hin
       rw [List.take_of_length_le (by omega),List.drop_eq_nil_of_le (by omega),List.append_nil]
       exact InsEnd161 w S i vals hS gv m vc us (dK_.1 hU).1 (fun j u h=>by have:=hU.cells (g:=gv) rfl j u h;rwa [Addr.add_lit,Nat.zero_add] at this) h1u (by omega) hb
     · rcases (dK_.1 hS).2 with ⟨rfl,h0⟩|⟨g,c,cur,rfl,-,hg,hnc,hcm',hcs',htake'⟩
       · omega
       · have hne:gv≠g:=fun e=>by subst e;have:=hdis gv (by simp [bP_]);simp [bP_] at this
         have hmv:m≤curv.size:=by rw [hcs];exact hmc
         by_cases hroom:n+m≤c
         · refine (mR_ w g n c i cur hg hcs' (by unfold maxLen at hcm';omega) (by omega) gv m vc curv 9 hgv hmv hne us htake.symm h1u (by omega) hroom (by rw [htake'];exact h1)).mono ?_
           rintro e w' ⟨rfl,A,rfl,hA,ht⟩
           rw [htake'] at ht
           have hgd:w.drew.heap[g]?=some (.cells cur 9 (0,0)):=hg
           have hA2:=setRow_heap w.drew g cur A _ _ hgd
           refine ⟨_,rfl,dK_.2 ⟨by rw [←ht];simp [hA,hcs'];omega,.inr ⟨g,c,A,rfl,Nat.zero_le _,hA2,hroom,hcm',by rw [hA,hcs'],ht⟩⟩,⟨rfl,rfl,rfl,fh_ w g A,fun b _ hn => ?_⟩,fun b hb=>⟨.inr hb,?_⟩⟩
           · rw [setRow_other _ _ _ _ (fun e=>hn (by subst e;simp [bP_]))];rfl
           · have:g=b:=by simp only [bP_] at hb;exact Classical.byContradiction fun h=>hb (if_neg h)
             subst this
             exact (Array.getElem?_eq_some_iff.1 hA2).1
         · refine (ot_ w g n c i cur hg hcs' hnc (by omega) gv m vc curv 9 hgv hmv us htake.symm h1u (by omega) (by omega) hb (by rw [htake'];exact h1)).mono ?_
           rintro e w' ⟨C,A,rfl,hC,hCm,hN,hA,ht,hgr⟩
           rw [htake'] at ht
           refine ⟨_,rfl,dK_.2 ⟨by rw [←ht];simp [hA];omega,.inr ⟨_,C,A,rfl,Nat.zero_le _,hN,hC,hCm,hA,ht⟩⟩,⟨hgr.os,hgr.tape,hgr.output,hgr.size,fun b hb _=>hgr.block b hb (by simp)⟩,fun b hb => ?_⟩
           have:w.heap.size=b:=by simp only [bP_] at hb;exact Classical.byContradiction fun h=>hb (if_neg h)
           subst this
           exact ⟨.inl (Nat.le_refl _),(Array.getElem?_eq_some_iff.1 hN).1⟩
end Go.Proofs
namespace Go.Pi
open Go.Proofs
theorem b0_.ok (n:Nat):b0_.e.Oks E (cx n) n:=fun _ _ _ _ h=>ks_ (t:=.str) (m1:=.d) (m2:=.d) (by decide) (by decide) insM161 h
end Go.Pi
end
section
namespace Go.Proofs
open Go.Shelf Go.RowKit Go.Lib Go.Pi
section
variable {P:Program}
theorem n1_ (TS TE:TypeId) (TI:TypeId) (Z:Value) (i0:TypeInfo) (uS:P.underlying TS=some (.slice TE)) (uI:P.underlying TI=some (.int .i64)) (hi0:P.info? TE=some i0) (hz2:i0.zero=some Z) (hz0:i0.size=5) (hz1:i0.bytes=80) (hZK:Z.cells.size=5)
  (w:World) (g n c i:Nat) (cur:Array Value) (hg:w.heap[g]?=some (.cells cur TE (0,0))) (hs:cur.size=c*5) (hnc:n≤c) (hi:i<n)
  (gv m vc:Nat) (curv:Array Value) (Tv:TypeId) (hgv:w.heap[gv]?=some (.cells curv Tv (0,0))) (hmv:m*5≤curv.size) (us:List Value) (hul:us=curv.toList.take (m*5)) (h1u:∀ v ∈ us,v.oneCell'=true) (hm:0<m) (hroom:c<n+m)
  (hbig:(n+m)*80≤140737488355328) (h1:∀ v ∈ cur.toList.take (n*5),v.oneCell'=true) :
  ∃ G N W1 R1 W2 A,Hid (N=w.heap.size)∧n+m≤G∧G≤maxLen ∧
    (∀ ty,(Builtin.append_ #[TS,TI] ty #[.slice (some ⟨g,0,none⟩) i c,.int .i64 ((n:Int)+(m:Int) - (i:Int))]).run P w = .ok (.slice (some ⟨N,0,none⟩) (n+m) G) W1) ∧
    (∀ ty dc,(Builtin.copy_ #[TS,TS] ty #[.slice (some ⟨N,i*5,none⟩) (n+m - i) dc,.slice (some ⟨gv,0,none⟩) m vc]).run P W1 = .ok (goInt m) (W1.setRow N R1)) ∧
    (W1.setRow N R1).drew=W2 ∧
    (∀ ty dc sc,(Builtin.copy_ #[TS,TS] ty #[.slice (some ⟨N,(i+m)*5,none⟩) (n+m - (i+m)) dc,.slice (some ⟨g,i*5,none⟩) (n - i) sc]).run P W2 = .ok (goInt (n - i)) (W2.setRow N A)) ∧
    Hid (n+m≤G∧G≤maxLen∧(W2.setRow N A).heap[w.heap.size]?=some (.cells A TE (0,0))∧A.size=G*5∧A.toList.take ((n+m)*5)=(cur.toList.take (n*5)).take (i*5)++us++(cur.toList.take (n*5)).drop (i*5)∧w.grownBy (W2.setRow N A) none):=by
 have hul2:us.length=m*5:=by rw [hul,List.length_take,Array.length_toList];omega
 have hsz:(P.info? TE).map (·.size)=some 5:=by rw [hi0];simp [hz0]
 have hgd:w.drew.heap[g]?=some (.cells cur TE (0,0)):=hg
 have hgl:g<w.heap.size:=(Array.getElem?_eq_some_iff.1 hg).1
 have hgvl:gv<w.heap.size:=(Array.getElem?_eq_some_iff.1 hgv).1
 obtain ⟨olds,holds⟩:∃ olds,olds=(cur.toList.take (n*5)).take (i*5):=⟨_,rfl⟩
 have hol:olds.length=i*5:=by rw [holds];simp [hs];omega
 obtain ⟨G,hG⟩:∃ G,G=grownCap w (n+m) c TE:=⟨_,rfl⟩
 have hGn:n+m≤G:=by rw [hG];exact grownCap_ge w _ _ _
 have hGm:G≤maxLen:=by rw [hG];exact grownCap_le_maxLen w (n+m) c TE (by unfold maxLen;omega)
 obtain ⟨ROW,hROW⟩:∃ ROW:Array Value,ROW=olds.toArray++Builtin.zeroCells Z.cells (n+m - i)++Builtin.zeroCells Z.cells (G - (n+m)):=⟨_,rfl⟩
 have hRl:ROW.size=G*5:=by rw [hROW];simp [Builtin.zeroCells,hol,hZK];omega
 have hRt:ROW.toList.take (i*5)=olds:=by
  rw [hROW];simp only [Array.toList_append,List.append_assoc]
  rw [List.take_append_of_le_length (by simp [hol]),List.take_of_length_le (by simp [hol])]
 have hkk:(n:Int)+(m:Int) - (i:Int)=((n+m - i:Nat):Int):=by omega
 have hrz:∀ ty,(Builtin.append_ #[TS,TI] ty #[.slice (some ⟨g,0,none⟩) i c,.int .i64 ((n:Int)+(m:Int) - (i:Int))]).run P w =
   .ok (.slice (some ⟨w.heap.size,0,none⟩) (n+m) G) (w.drew.alloc (.cells ROW TE)):=fun ty=>by
  have h:=Lib.run_append_grow_zeros (P:=P) w TS TI ty TE i0 _ .i64 .i64 uS uI hi0 hz2 (some ⟨g,0,none⟩) i c olds (by
   rw [hz0]
   exact run_firstCells_some w.drew 5 i ⟨g,0,none⟩ i c olds hol (fun j v hj=>by
    have hj2:=(List.getElem?_eq_some_iff.1 hj).1
    rw [holds,List.getElem?_take_of_lt (by omega),List.getElem?_take_of_lt (by omega),Array.getElem?_toList] at hj
    rw [Addr.add_lit,Nat.zero_add]
    simp only [World.cell?,hgd]
    exact hj)) (n+m - i) (by omega) (by omega) (by omega) (by omega) (by rw [hz1];omega) (by rw [hz1,show i+(n+m - i)=n+m by omega];exact growslice_fits hroom hbig)
  rw [show i+(n+m - i)=n+m by omega,←hG,←hROW] at h
  rw [hkk]
  exact h
 obtain ⟨N,hN⟩:∃ N,N=w.heap.size:=⟨_,rfl⟩
 rw [←hN] at hrz
 obtain ⟨W1,hW1⟩:∃ W1,W1=w.drew.alloc (.cells ROW TE):=⟨_,rfl⟩
 rw [←hW1] at hrz
 have hN1:W1.heap[N]?=some (.cells ROW TE (0,0)):=by rw [hW1,hN];exact heap_alloc_new w.drew _
 have hold:∀ b,b<w.heap.size→W1.heap[b]?=w.heap[b]?:=fun b hb=>by rw [hW1];exact heap_alloc_old w.drew _ hb
 have hgr1:w.grownBy W1 none:=by rw [hW1];exact ⟨rfl,rfl,rfl,by simp,fun k hk _=>heap_alloc_old w.drew _ hk⟩
 obtain ⟨R1,hR1⟩:∃ R1,R1=(ROW.toList.take (i*5)++us++ROW.toList.drop (i*5+us.length)).toArray:=⟨_,rfl⟩
 have hR1s:R1.size=G*5:=by rw [hR1];simp [hul2,hRl];omega
 have hcp1:∀ ty dc,(Builtin.copy_ #[TS,TS] ty #[.slice (some ⟨N,i*5,none⟩) (n+m - i) dc,.slice (some ⟨gv,0,none⟩) m vc]).run P W1 = .ok (goInt m) (W1.setRow N R1):=fun ty dc=>by
  have:=b1_ (P:=P) W1 TS TS ty TE 5 N (i*5) (n+m - i) dc ⟨gv,0,none⟩ m vc ROW TE us uS hsz hN1 (by rw [hul2];simp only [Nat.min_def];split<;>omega)
   (fun j v hj=>by
     have hj2:=(List.getElem?_eq_some_iff.1 hj).1
     rw [hul,List.getElem?_take_of_lt (by omega),Array.getElem?_toList] at hj
     rw [Addr.add_lit,Nat.zero_add]
     simp only [World.cell?,hold gv hgvl,hgv]
     exact hj) (by rw [hul2,hRl];omega) h1u
  rw [this,hR1]
  congr 2
  simp only [Nat.min_def];split<;>omega
 obtain ⟨W2,hW2⟩:∃ W2,W2=(W1.setRow N R1).drew:=⟨_,rfl⟩
 have hN2:W2.heap[N]?=some (.cells R1 TE (0,0)):=by rw [hW2];exact setRow_heap _ _ _ _ _ _ hN1
 have hg2:W2.heap[g]?=some (.cells cur TE (0,0)):=by
  rw [hW2];show (W1.setRow N R1).heap[g]?=_
  rw [setRow_other _ _ _ _ (by omega),hold g hgl];exact hg
 obtain ⟨mv,hmv2⟩:∃ mv,mv=(cur.toList.take (n*5)).drop (i*5):=⟨_,rfl⟩
 have hml:mv.length=(n - i)*5:=by rw [hmv2];simp [hs];omega
 obtain ⟨A,hA⟩:∃ A,A=(R1.toList.take ((i+m)*5)++mv++R1.toList.drop ((i+m)*5+mv.length)).toArray:=⟨_,rfl⟩
 have hcp2:∀ ty dc sc,(Builtin.copy_ #[TS,TS] ty #[.slice (some ⟨N,(i+m)*5,none⟩) (n+m - (i+m)) dc,.slice (some ⟨g,i*5,none⟩) (n - i) sc]).run P W2 = .ok (goInt (n - i)) (W2.setRow N A):=fun ty dc sc=>by
  have:=b1_ (P:=P) W2 TS TS ty TE 5 N ((i+m)*5) (n+m - (i+m)) dc ⟨g,i*5,none⟩ (n - i) sc R1 TE mv uS hsz hN2 (by rw [hml];simp only [Nat.min_def];split<;>omega)
   (fun j v hj=>by
     have hj2:=(List.getElem?_eq_some_iff.1 hj).1
     rw [hmv2,List.getElem?_drop,List.getElem?_take_of_lt (by omega),Array.getElem?_toList] at hj
     rw [Addr.add_lit]
     simp only [World.cell?,hg2]
     exact hj) (by rw [hml,hR1s];omega) (fun v hv=>h1 v (by rw [hmv2] at hv;exact List.mem_of_mem_drop hv))
  rw [this,hA]
  congr 2
  simp only [Nat.min_def];split<;>omega
 have kA:Hid (n+m≤G∧G≤maxLen∧(W2.setRow N A).heap[w.heap.size]?=some (.cells A TE (0,0))∧A.size=G*5∧A.toList.take ((n+m)*5)=(cur.toList.take (n*5)).take (i*5)++us++(cur.toList.take (n*5)).drop (i*5)∧w.grownBy (W2.setRow N A) none):=by
  refine ⟨hGn,hGm,by rw [←hN];exact setRow_heap _ _ _ _ _ _ hN2,by rw [hA];simp [hml,hR1s];omega,?_,?_⟩
  · have e1:R1.toList.take ((i+m)*5)=olds++us:=by
     rw [hR1];simp only [List.toList_toArray]
     rw [List.take_append_of_le_length (by simp [hul2,hRl];omega),List.take_of_length_le (by simp [hul2,hRl];omega),hRt]
    rw [hA];simp only [List.toList_toArray]
    rw [e1,List.take_append_of_le_length (by simp [hol,hul2,hml];omega),List.take_of_length_le (by simp [hol,hul2,hml];omega),holds,hmv2]
  · refine ⟨by rw [hW2];exact hgr1.os,by rw [hW2];exact hgr1.tape,by rw [hW2];exact hgr1.output,?_,fun k hk hne => ?_⟩
    · have:(W2.setRow N A).heap.size=W1.heap.size:=by rw [hW2];simp [World.setRow,World.drew]
      rw [this];exact hgr1.size
    · rw [setRow_other _ _ _ _ (by omega),hW2]
      show (W1.setRow N R1).heap[k]?=_
      rw [setRow_other _ _ _ _ (by omega)];exact hold k hk
 exact ⟨G,N,W1,R1,W2,A,hN,hGn,hGm,hrz,hcp1,hW2.symm,hcp2,kA⟩
end
set_option maxRecDepth 1000000 in
theorem InsEnd162 (w:World) (S:Value) (n:Nat) (vals:List Value) (hS:w.ownsRow 0 52 5 S n vals) (gv m vc:Nat) (us:List Value) (hul:us.length=m*5) (hus:∀ j u,us[j]?=some u→w.cell? ⟨gv,j,none⟩=some u) (h1u:∀ v ∈ us,v.oneCell'=true) (hm:0<m) (hb:(n+m)*80≤140737488355328) :
  Calls Tryz.prog 162 #[S,.int .i64 n,.slice (some ⟨gv,0,none⟩) m vc] w fun e w'=>∃ R,e = .returned R∧w'.ownsRow 0 52 5 R (n+m) (vals++us)∧f3_ w w' (fun b=>bP_ S b≠0) ∧
   ∀ b,bP_ R b≠0→(w.heap.size≤b∨bP_ S b≠0)∧b<w'.heap.size:=by
 obtain ⟨i0,hi0⟩:=Option.isSome_iff_exists.1 (show (Tryz.prog.info? 52).isSome=true by kernel_rfl)
 have hz0:i0.size=5:=by
  have:(Tryz.prog.info? 52).map (·.size)=some 5:=by kernel_rfl
  rw [hi0] at this;simpa using this
 have hz1:i0.bytes=80:=by
  have:(Tryz.prog.info? 52).map (·.bytes)=some 80:=by kernel_rfl
  rw [hi0] at this;simpa using this
 have hz2:i0.zero=some (.agg #[.int .i64 0,.int .i64 0,.string ByteArray.empty,.slice none 0 0,.slice none 0 0]):=by
  have:(Tryz.prog.info? 52).bind (·.zero)=some (.agg #[.int .i64 0,.int .i64 0,.string ByteArray.empty,.slice none 0 0,.slice none 0 0]):=by kernel_rfl
  rw [hi0] at this;simpa using this
 have hz3:¬ ((m:Int)=0):=by omega
 have mixed:Tryz.prog.follows .mixedOrders=true:=by kernel_rfl
 have key:∀ ty,∃ v' w',(Builtin.append_ #[49,49] ty #[S,.slice (some ⟨gv,0,none⟩) m vc]).run Tryz.prog w = .ok v' w'∧w'.ownsRow 0 52 5 v' (n+m) (vals++us)∧f3_ w w' (fun b=>bP_ S b≠0) ∧
   ∀ b,bP_ v' b≠0→(w.heap.size≤b∨bP_ S b≠0)∧b<w'.heap.size:=fun ty=>by
  have:=dS_ (P:=Tryz.prog) w 49 ty 52 i0 _ Tryz.underlying49 hi0 hz2 (by rw [hz0];rfl) (by rw [hz0];decide) S n vals (by rw [hz0];exact hS) (.slice (some ⟨gv,0,none⟩) m vc) m us (by rw [hz0];exact hul) (.inl ⟨_,_,rfl,fun j u h=>by rw [Addr.add_lit,Nat.zero_add];exact hus j u h⟩) h1u (by unfold maxLen;omega) (by rw [hz1];exact hb)
  rw [hz0] at this
  exact this
 obtain ⟨v',w',k1,k2,k3⟩:=key 49
 rcases hS.2 with ⟨rfl,rfl⟩|⟨g,c,cur,rfl,-,hg,hnc,hcm,hcs,htake⟩
 · clear key hS hus hz2 hi0 hz0 hz1
   go_enter Tryz.func162,Tryz.ntmps162
   go_wp2_with (at_builtin;refine Lib.wpList_append_run _ rfl _ _ 49 49 rfl _ _ rfl rfl _ _ k1 ?_)
   go_ret
   exact ⟨_,rfl,k2,k3⟩
 · clear key hS hus hz2 hg htake hcs hi0 hz0 hz1
   unfold maxLen at hcm
   go_enter Tryz.func162,Tryz.ntmps162
   go_wp2_with (at_builtin;refine Lib.wpList_append_run _ rfl _ _ 49 49 rfl _ _ rfl rfl _ _ k1 ?_)
   all_goals (go_ret;exact ⟨_,rfl,k2,k3⟩)
set_option maxRecDepth 1000000 in
theorem oo_ (w:World) (S:Value) (n i:Nat) (vals:List Value) (hS:w.ownsRow 0 52 5 S n vals) (U:Value) (us:List Value) (hU:w.ownsRow 0 52 5 U 0 us) (hi:i≤n) :
  Calls Tryz.prog 162 #[S,.int .i64 i,U] w fun e w'=>e = .returned S∧w'=w:=by
 rcases hS.2 with ⟨rfl,rfl⟩|⟨g,c,cur,rfl,-,hg,hnc,hcm,hcs,htake⟩
 · have hi0:i=0:=by omega
   subst hi0
   rcases hU.2 with ⟨rfl,-⟩|⟨gv,vc,curv,rfl,-,hgv,hmc,hcm,hcs,htake⟩
   · clear hS hU
     go_enter Tryz.func162,Tryz.ntmps162
     go_wp2_with fail
     go_ret
     exact ⟨rfl,rfl⟩
   · clear hS hU hgv hcs htake
     go_enter Tryz.func162,Tryz.ntmps162
     go_wp2_with fail
     go_ret
     exact ⟨rfl,rfl⟩
 · unfold maxLen at hcm
   have hic:i≤c:=by omega
   rcases hU.2 with ⟨rfl,-⟩|⟨gv,vc,curv,rfl,-,hgv,hmc,hcm2,hcs2,htake2⟩
   · clear hS hU hg hcs htake
     go_enter Tryz.func162,Tryz.ntmps162
     go_wp2_with fail
     all_goals (go_ret;exact ⟨rfl,rfl⟩)
   · clear hS hU hg hcs htake hgv hcs2 htake2
     go_enter Tryz.func162,Tryz.ntmps162
     go_wp2_with fail
     all_goals (go_ret;exact ⟨rfl,rfl⟩)
set_option maxRecDepth 1000000 in
theorem mQ_ (w:World) (g n c i:Nat) (cur:Array Value) (hg:w.heap[g]?=some (.cells cur 52 (0,0))) (hs:cur.size=c*5) (hc:c≤9223372036854775807) (hi:i<n)
  (gv m vc:Nat) (curv:Array Value) (Tv:TypeId) (hgv:w.heap[gv]?=some (.cells curv Tv (0,0))) (hmv:m*5≤curv.size) (hne:gv≠g) (us:List Value) (hul:us=curv.toList.take (m*5)) (h1u:∀ v ∈ us,v.oneCell'=true) (hm:0<m) (hroom:n+m≤c)
  (h1:∀ v ∈ cur.toList.take (n*5),v.oneCell'=true) :
  Calls Tryz.prog 162 #[.slice (some ⟨g,0,none⟩) n c,.int .i64 i,.slice (some ⟨gv,0,none⟩) m vc] w fun e w'=>e = .returned (.slice (some ⟨g,0,none⟩) (n+m) c) ∧
   ∃ A,w'=w.drew.setRow g A∧A.size=cur.size∧A.toList.take ((n+m)*5)=(cur.toList.take (n*5)).take (i*5)++us++(cur.toList.take (n*5)).drop (i*5):=by
 have hsz:(Tryz.prog.info? 52).map (·.size)=some 5:=by kernel_rfl
 have hul2:us.length=m*5:=by rw [hul,List.length_take,Array.length_toList];omega
 have hov:∀ lb cb,(callFunc 176 #[.slice (some ⟨gv,0,none⟩) m vc,.slice (some ⟨g,(i+m)*5,none⟩) lb cb]).run Tryz.prog w = .ok (.value (.bool false)) w:=fun lb cb=>by
  rw [run_callFunc_extern Tryz.func176 (by kernel_rfl) (by kernel_rfl) (by kernel_rfl) (e:=Extern.SlicesOverlaps.overlaps #[49,49] #[4]) (by kernel_rfl),
   Lib.run_overlaps_apart w 49 4 52 Tryz.underlying49 5 Tryz.sizeOf52 ⟨gv,0,none⟩ ⟨g,(i+m)*5,none⟩ m vc lb cb hne Tv 52 curv.size cur.size (by simp [World.shape?,hgv]) (by simp [World.shape?,hg]) (by omega) (by simp [World.frozen?,hgv]) (by simp [World.frozen?,hgv])]
  rfl
 obtain ⟨mv,hmv2⟩:∃ mv,mv=(cur.toList.take (n*5)).drop (i*5):=⟨_,rfl⟩
 have hml:mv.length=(n - i)*5:=by rw [hmv2];simp [hs];omega
 have hgd:w.drew.heap[g]?=some (.cells cur 52 (0,0)):=hg
 obtain ⟨B,hB⟩:∃ B,B=(cur.toList.take ((i+m)*5)++mv++cur.toList.drop ((i+m)*5+mv.length)).toArray:=⟨_,rfl⟩
 have hcp1:∀ ty dc sc,(Builtin.copy_ #[49,49] ty #[.slice (some ⟨g,(i+m)*5,none⟩) (n+m - (i+m)) dc,.slice (some ⟨g,i*5,none⟩) (n+m - i) sc]).run Tryz.prog w.drew = .ok (goInt (n - i)) (w.drew.setRow g B):=fun ty dc sc=>by
  have:=b1_ (P:=Tryz.prog) w.drew 49 49 ty 52 5 g ((i+m)*5) (n+m - (i+m)) dc ⟨g,i*5,none⟩ (n+m - i) sc cur 52 mv Tryz.underlying49 hsz hgd (by rw [hml];simp only [Nat.min_def];split<;>omega)
   (fun j v hj=>by
     have hj2:=(List.getElem?_eq_some_iff.1 hj).1
     rw [hmv2,List.getElem?_drop,List.getElem?_take_of_lt (by omega),Array.getElem?_toList] at hj
     rw [Addr.add_lit]
     simp only [World.cell?,hgd]
     exact hj) (by rw [hml,hs];omega) (fun v hv=>h1 v (by rw [hmv2] at hv;exact List.mem_of_mem_drop hv))
  rw [this,hB]
  congr 2
  simp only [Nat.min_def];split<;>omega
 have hBs:B.size=cur.size:=by rw [hB];simp [hml,hs];omega
 have hgB:(w.drew.setRow g B).heap[g]?=some (.cells B 52 (0,0)):=setRow_heap _ _ _ _ _ _ hgd
 obtain ⟨A,hA⟩:∃ A,A=(B.toList.take (i*5)++us++B.toList.drop (i*5+us.length)).toArray:=⟨_,rfl⟩
 have hcp2:∀ ty dc,(Builtin.copy_ #[49,49] ty #[.slice (some ⟨g,i*5,none⟩) (n+m - i) dc,.slice (some ⟨gv,0,none⟩) m vc]).run Tryz.prog (w.drew.setRow g B) = .ok (goInt m) (w.drew.setRow g A):=fun ty dc=>by
  have:=b1_ (P:=Tryz.prog) (w.drew.setRow g B) 49 49 ty 52 5 g (i*5) (n+m - i) dc ⟨gv,0,none⟩ m vc B 52 us Tryz.underlying49 hsz hgB (by rw [hul2];simp only [Nat.min_def];split<;>omega)
   (fun j v hj=>by
     have hj2:=(List.getElem?_eq_some_iff.1 hj).1
     rw [hul,List.getElem?_take_of_lt (by omega),Array.getElem?_toList] at hj
     rw [Addr.add_lit,Nat.zero_add]
     have e:(w.drew.setRow g B).heap[gv]?=some (.cells curv Tv (0,0)):=by rw [setRow_other _ _ _ _ hne];exact hgv
     simp only [World.cell?,e]
     exact hj) (by rw [hul2,hBs,hs];omega) h1u
  rw [this,hA,setRow_setRow]
  congr 2
  simp only [Nat.min_def];split<;>omega
 have kA:Hid (A.size=cur.size∧A.toList.take ((n+m)*5)=(cur.toList.take (n*5)).take (i*5)++us++mv):=by
  have e1:B.toList.take (i*5)=(cur.toList.take (n*5)).take (i*5):=by
   rw [hB];simp only [List.toList_toArray,List.append_assoc]
   rw [List.take_append_of_le_length (by simp [hs];omega),List.take_take,List.take_take]
   congr 1;omega
  have e2:(B.toList.drop (i*5+us.length)).take mv.length=mv:=by
   rw [hB];simp only [List.toList_toArray,List.append_assoc]
   rw [List.drop_append,List.drop_eq_nil_of_le (by simp [hul2,hs];omega),List.nil_append,List.length_take,show i*5+us.length - min ((i+m)*5) cur.toList.length=0 by simp [hul2,hs];omega,List.drop_zero,List.take_append_of_le_length (Nat.le_refl _),List.take_of_length_le (Nat.le_refl _)]
  refine ⟨by rw [hA];simp [hul2,hBs,hs];omega,?_⟩
  rw [hA];simp only [List.toList_toArray]
  rw [List.take_append,List.take_of_length_le (by simp [hul2,hBs,hs];omega),e1]
  congr 1
  rw [show (n+m)*5 - (List.take (i*5) (List.take (n*5) cur.toList)++us).length=mv.length by simp [hul2,hml,hs];omega]
  exact e2
 rw [hmv2] at kA
 have hnc:n≤c:=by omega
 have hic:i≤c:=by omega
 have hz1:¬ ((m:Int)=0):=by omega
 have hz2:¬ ((i:Int)=(n:Int)):=by omega
 have mixed:Tryz.prog.follows .mixedOrders=true:=by kernel_rfl
 have hw1:IntKind.i64.wrap ((i:Int)+(m:Int))=(i:Int)+(m:Int):=by rw [IntKind.wrap_i64];omega
 have hb1:(0:Int)≤(i:Int)+(m:Int):=by omega
 have hin:i≤n:=by omega
 have htn:((i:Int)+(m:Int)).toNat=i+m:=by omega
 have hb2:¬ (c=i+m):=by omega
 have hb3:(i:Int)≤(n:Int)+(m:Int):=by omega
 have hb4:¬ (c=i):=by omega
 clear hB hBs hgB hA hmv2 hml hgd hg hgv hul hul2 h1 h1u hsz hs hmv
 go_enter Tryz.func162,Tryz.ntmps162
 go_wp2_with (simp only [hov])
 go_region_law_o (refine cZ_ rfl _ _ 49 49 rfl _ _ (by simp [Act.eval,Act.put]) (by simp [Act.eval,Act.put]) (hcp1 _ _ _) ?_)
 go_wp2_with (at_builtin;refine dZ_ _ rfl _ _ 49 49 rfl _ _ rfl rfl (hcp2 _ _) ?_)
 go_ret
 exact ⟨rfl,A,rfl,kA.out.1,kA.out.2⟩
set_option maxRecDepth 1000000 in
theorem os_ (w:World) (g n c i:Nat) (cur:Array Value) (hg:w.heap[g]?=some (.cells cur 52 (0,0))) (hs:cur.size=c*5) (hnc:n≤c) (hi:i<n)
  (gv m vc:Nat) (curv:Array Value) (Tv:TypeId) (hgv:w.heap[gv]?=some (.cells curv Tv (0,0))) (hmv:m*5≤curv.size) (us:List Value) (hul:us=curv.toList.take (m*5)) (h1u:∀ v ∈ us,v.oneCell'=true) (hm:0<m) (hroom:c<n+m)
  (hbig:(n+m)*80≤140737488355328) (h1:∀ v ∈ cur.toList.take (n*5),v.oneCell'=true) :
  Calls Tryz.prog 162 #[.slice (some ⟨g,0,none⟩) n c,.int .i64 i,.slice (some ⟨gv,0,none⟩) m vc] w fun e w'=>∃ C A,e = .returned (.slice (some ⟨w.heap.size,0,none⟩) (n+m) C)∧n+m≤C∧C≤maxLen ∧
   w'.heap[w.heap.size]?=some (.cells A 52 (0,0))∧A.size=C*5∧A.toList.take ((n+m)*5)=(cur.toList.take (n*5)).take (i*5)++us++(cur.toList.take (n*5)).drop (i*5)∧w.grownBy w' none:=by
 obtain ⟨i0,hi0⟩:=Option.isSome_iff_exists.1 (show (Tryz.prog.info? 52).isSome=true by kernel_rfl)
 have hz0:i0.size=5:=by
  have:(Tryz.prog.info? 52).map (·.size)=some 5:=by kernel_rfl
  rw [hi0] at this;simpa using this
 have hz1:i0.bytes=80:=by
  have:(Tryz.prog.info? 52).map (·.bytes)=some 80:=by kernel_rfl
  rw [hi0] at this;simpa using this
 have hz2:i0.zero=some (.agg #[.int .i64 0,.int .i64 0,.string ByteArray.empty,.slice none 0 0,.slice none 0 0]):=by
  have:(Tryz.prog.info? 52).bind (·.zero)=some (.agg #[.int .i64 0,.int .i64 0,.string ByteArray.empty,.slice none 0 0,.slice none 0 0]):=by kernel_rfl
  rw [hi0] at this;simpa using this
 obtain ⟨G,N,W1,R1,W2,A,hNN,hGn,hGm,hrz,hcp1,hW2',hcp2,kA⟩:=n1_ 49 52 3 _ i0 Tryz.underlying49 Tryz.underlying3 hi0 hz2 hz0 hz1 rfl w g n c i cur hg hs hnc hi gv m vc curv Tv hgv hmv us hul h1u hm hroom hbig h1
 have hic:i≤c:=by omega
 have hz3:¬ ((m:Int)=0):=by omega
 have hz4:¬ ((i:Int)=(n:Int)):=by omega
 have hz5:(c:Int)<(n:Int)+(m:Int):=by omega
 have mixed:Tryz.prog.follows .mixedOrders=true:=by kernel_rfl
 have hG63:G≤9223372036854775807:=by unfold maxLen at hGm;omega
 have hw1:IntKind.i64.wrap ((n:Int)+(m:Int))=(n:Int)+(m:Int):=by rw [IntKind.wrap_i64];omega
 have hw2:IntKind.i64.wrap ((n:Int)+(m:Int) - (i:Int))=(n:Int)+(m:Int) - (i:Int):=by rw [IntKind.wrap_i64];omega
 have hw3:IntKind.i64.wrap ((i:Int)+(m:Int))=(i:Int)+(m:Int):=by rw [IntKind.wrap_i64];omega
 have hb1:(0:Int)≤(i:Int)+(m:Int):=by omega
 have htn:((i:Int)+(m:Int)).toNat=i+m:=by omega
 have hGi:¬ (G=i):=by omega
 have hGim:¬ (G=i+m):=by omega
 have hb3:(i:Int)≤(n:Int)+(m:Int):=by omega
 have hb4:¬ (c=i):=by omega
 have hinm:i≤n+m:=by omega
 have himn:i+m≤n+m:=by omega
 have hin:i≤n:=by omega
 clear hul h1 h1u hg hgv hs hmv hz0 hz1 hz2 hi0 hbig
 go_enter Tryz.func162,Tryz.ntmps162
 go_wp2_with (at_builtin;refine Lib.wpList_append_run _ rfl _ _ 49 3 rfl _ _ rfl rfl _ _ (hrz _) ?_)
 go_region_law_o (simp only [hW2'];refine cZ_ rfl _ _ 49 49 rfl _ _ (by simp [Act.eval,Act.put]) (by simp [Act.eval,Act.put]) (hcp2 _ _ _) ?_)
 go_wp2_with fail
 go_ret
 exact ⟨G,A,by rw [hNN.out];rfl,kA.out⟩
theorem insM162:InsM Tryz.prog 162 52 5 80:=by
 intro w S n vals U m us i hS hU hdis hi h1 h1u hb
 have hvl:=hS.1
 by_cases hm:m=0
 · subst hm
   have hus:us=[]:=by have:=hU.1;rw [Nat.zero_mul] at this;exact List.eq_nil_of_length_eq_zero this
   subst hus
   refine (oo_ w S n i vals hS U [] hU hi).mono ?_
   rintro e w' ⟨rfl,rfl⟩
   refine ⟨S,rfl,by rw [List.append_nil,List.take_append_drop];exact hS,⟨rfl,rfl,rfl,Nat.le_refl _,fun _ _ _=>rfl⟩,fun b hb=>⟨.inr hb,hm_ hS b hb⟩⟩
 · rcases hU.2 with ⟨rfl,h0⟩|⟨gv,vc,curv,rfl,-,hgv,hmc,hcm,hcs,htake⟩
   · exact absurd h0 hm
   · by_cases hin:i=n
     · subst hin
       rw [List.take_of_length_le (by omega),List.drop_eq_nil_of_le (by omega),List.append_nil]
       exact InsEnd162 w S i vals hS gv m vc us hU.1 (fun j u h=>by have:=hU.cells (g:=gv) rfl j u h;rwa [Addr.add_lit,Nat.zero_add] at this) h1u (by omega) hb
     · rcases hS.2 with ⟨rfl,h0⟩|⟨g,c,cur,rfl,-,hg,hnc,hcm',hcs',htake'⟩
       · omega
       · have hne:gv≠g:=fun e=>by subst e;have:=hdis gv (by simp [bP_]);simp [bP_] at this
         have hmv:m*5≤curv.size:=by rw [hcs];exact Nat.mul_le_mul_right _ hmc
         by_cases hroom:n+m≤c
         · refine (mQ_ w g n c i cur hg hcs' (by unfold maxLen at hcm';omega) (by omega) gv m vc curv 52 hgv hmv hne us htake.symm h1u (by omega) hroom (by rw [htake'];exact h1)).mono ?_
           rintro e w' ⟨rfl,A,rfl,hA,ht⟩
           rw [htake'] at ht
           have hgd:w.drew.heap[g]?=some (.cells cur 52 (0,0)):=hg
           have hA2:=setRow_heap w.drew g cur A _ _ hgd
           refine ⟨_,rfl,⟨by rw [←ht];simp [hA,hcs'];omega,.inr ⟨g,c,A,rfl,Nat.zero_le _,hA2,hroom,hcm',by rw [hA,hcs'],ht⟩⟩,⟨rfl,rfl,rfl,fh_ w g A,fun b _ hn => ?_⟩,fun b hb=>⟨.inr hb,?_⟩⟩
           · rw [setRow_other _ _ _ _ (fun e=>hn (by subst e;simp [bP_]))];rfl
           · have:g=b:=by simp only [bP_] at hb;exact Classical.byContradiction fun h=>hb (if_neg h)
             subst this
             exact (Array.getElem?_eq_some_iff.1 hA2).1
         · refine (os_ w g n c i cur hg hcs' hnc (by omega) gv m vc curv 52 hgv hmv us htake.symm h1u (by omega) (by omega) hb (by rw [htake'];exact h1)).mono ?_
           rintro e w' ⟨C,A,rfl,hC,hCm,hN,hA,ht,hgr⟩
           rw [htake'] at ht
           refine ⟨_,rfl,⟨by rw [←ht];simp [hA];omega,.inr ⟨_,C,A,rfl,Nat.zero_le _,hN,hC,hCm,hA,ht⟩⟩,⟨hgr.os,hgr.tape,hgr.output,hgr.size,fun b hb _=>hgr.block b hb (by simp)⟩,fun b hb => ?_⟩
           have:w.heap.size=b:=by simp only [bP_] at hb;exact Classical.byContradiction fun h=>hb (if_neg h)
           subst this
           exact ⟨.inl (Nat.le_refl _),(Array.getElem?_eq_some_iff.1 hN).1⟩
end Go.Proofs
namespace Go.Pi
open Go.Proofs
theorem cb_.ok (n:Nat):cb_.e.Oks E (cx n) n:=fun _ _ _ _ h=>ks_ (t:=.iJson) (m1:=.d) (m2:=.d) (by decide) (by decide) insM162 h
end Go.Pi
end
section
namespace Go.Pi
open Go.Proofs
theorem zer:zl ents=zr ents:=by kernel_rfl
theorem fcts:factL E.P ents ents=factR ents:=by kernel_rfl
theorem cxok (n nt:Nat) (a:AllE E n ents):CxOk E (cx n nt):=⟨ttOk,tcOk,u8Ok,KE_ok fcts a⟩
theorem allOk:∀ n,AllE E n ents
 |0=>all0 zer
 |n+1=>allS_ok (fun nt=>cxok n nt (allOk n)) (fun _=>KE_par) (show AllS E (cx n) n ents from ⟨laws_FnGoesAlong.ok n,eL_.ok n,aA_.ok n,bo_.ok n,bq_.ok n,bl_.ok n,bi_.ok n,aQ_.ok n,cT_.ok n,aO_.ok n,cV_.ok n,dh_.ok n,bS_.ok n,bH_.ok n,aH_.ok n,af_.ok n,ay_.ok n,cH_.ok n,dA_.ok n,a8_.ok n,aB_.ok n,cr_.ok n,ba_.ok n,aN_.ok n,be_.ok n,aF_.ok n,ds_.ok n,bh_.ok n,bv_.ok n,aE_.ok n,c3_.ok n,aR_.ok n,dW_.ok n,bO_.ok n,bb_.ok n,cK_.ok n,ct_.ok n,cM_.ok n,al_.ok n,di_.ok n,a0_.ok n,bz_.ok n,bk_.ok n,dp_.ok n,c4_.ok n,c9_.ok n,dd_.ok n,do_.ok n,aU_.ok n,bE_.ok n,cR_.ok n,aC_.ok n,aK_.ok n,ce_.ok n,ck_.ok n,bC_.ok n,cD_.ok n,aP_.ok n,dR_.ok n,ed_.ok n,aX_.ok n,cJ_.ok n,bw_.ok n,cg_.ok n,a5_.ok n,c2_.ok n,cs_.ok n,bQ_.ok n,aL_.ok n,b2_.ok n,b7_.ok n,b8_.ok n,aW_.ok n,bu_.ok n,br_.ok n,bt_.ok n,a1_.ok n,dV_.ok n,cq_.ok n,cP_.ok n,cG_.ok n,bs_.ok n,dk_.ok n,bn_.ok n,aS_.ok n,aT_.ok n,impl_holds.ok n,ak_.ok n,ai_.ok n,ah_.ok n,cU_.ok n,bg_.ok n,aM_.ok n,am_.ok n,bj_.ok n,a2_.ok n,cW_.ok n,cE_.ok n,bF_.ok n,bf_.ok n,bJ_.ok n,bI_.ok n,bT_.ok n,a7_.ok n,ac_.ok n,c0_.ok n,dB_.ok n,cf_.ok n,cL_.ok n,bK_.ok n,cI_.ok n,dU_.ok n,dg_.ok n,bp_.ok n,aj_.ok n,bU_.ok n,strconv_Itoa.ok n,aG_.ok n,ab_.ok n,aa_.ok n,dj_.ok n,az_.ok n,dt_.ok n,bx_.ok n,aZ_.ok n,ar_.ok n,b0_.ok n,cb_.ok n,ag_.ok n,co_.ok n,bN_.ok n,ad_.ok n,b9_.ok n,trivial⟩)
end Go.Pi
end
section
namespace Go.Pi
inductive Kd where
 |i (k:IntKind)
 |b
 |s
 |sl (t:TC)
def kdsL (P:Program) (rec_:TypeId→Option (List Kd)):List Field→Nat→Option (List Kd)
 |[],_=>some []
 |f::fs,off=>cond (Nat.beq f.offset off) (match rec_ f.type with
  |some ks=>cond (Nat.beq (P.cellsOf f.type) ks.length) (match kdsL P rec_ fs (off+ks.length) with
   |some r=>some (ks++r)
   |none=>none) none
  |none=>none) none
def kds (P:Program) (eb_:TypeId→Option TC):Nat→TypeId→Option (List Kd)
 |0,_=>none
 |d+1,T=>match P.underlying T with
  |some (.int k)=>some [.i k]
  |some .bool=>some [.b]
  |some .string=>some [.s]
  |some (.slice e)=>match eb_ e with
   |some t=>some [.sl t]
   |none=>none
  |some (.struct fs)=>match kdsL P (kds P eb_ d) fs.toList 0 with
   |some ks=>cond (Nat.beq (P.cellsOf T) ks.length) (some ks) none
   |none=>none
  |_=>none
inductive Good [ao_]:AV→Prop
 |i (k n):(Lit.int k n).wf=true→Good (.i k n)
 |b (q):Good (.b q)
 |s (l):l.length≤maxLen→Good (.s l)
 |sl (t xs):xs.length≤maxLen→(∀ x ∈ xs,∀ c ∈ ao_.enc .v t x,Good c)→Good (.sl .v t xs)
def KindOk:Kd→AV→Prop
 |.i k,a=>∃ n,a = .i k n
 |.b,a=>∃ q,a = .b q
 |.s,a=>∃ l,a = .s l
 |.sl t,a=>∃ xs,a = .sl .v t xs
def hP_:List Kd→List AV→Prop
 |[],[]=>True
 |k::ks,a::l=>KindOk k a∧hP_ ks l
 |_,_=>False
section
variable {H:Type} {enc:TypeId × Value→H} {P:Program} {w:World} {spare:Nat→Bool}
def l5_ (enc:TypeId × Value→H) (P:Program) (w:World) (spare:Nat→Bool) (eid:TC→TypeId) (F:Nat):Kd→Value→Prop
 |.i k,v=>∃ n,v = .int k n∧(Lit.int k n).wf=true
 |.b,v=>∃ q,v = .bool q
 |.s,v=>∃ s:ByteArray,v = .string s∧s.size≤maxLen
 |.sl t,v=>v = .slice none 0 0∨∃ (a:Addr) (len cap N:Nat),v = .slice (some a) len cap∧len≤cap∧cap≤maxLen∧N<F ∧
   ∀ i,i<len→∃ cs x,w.cells? 0 (a.add (i*P.cellsOf (eid t))) (P.cellsOf (eid t))=some cs∧DataW.trod enc P w 0 spare true N (eid t) cs=some x
def em_ (enc:TypeId × Value→H) (P:Program) (w:World) (spare:Nat→Bool) (eid:TC→TypeId) (F:Nat):List Kd→List Value→Prop
 |[],[]=>True
 |k::ks,v::vs=>l5_ enc P w spare eid F k v∧em_ enc P w spare eid F ks vs
 |_,_=>False
theorem l5_.mono {eid:TC→TypeId} {F F':Nat} (hF:F≤F') {k:Kd} {v:Value} (h:l5_ enc P w spare eid F k v):l5_ enc P w spare eid F' k v:=by
 cases k with
 |sl t=>
  rcases h with h|⟨a,len,cap,N,h1,h2,h3,h4,h5⟩
  · exact .inl h
  · exact .inr ⟨a,len,cap,N,h1,h2,h3,Nat.lt_of_lt_of_le h4 hF,h5⟩
 |_=>exact h
theorem em_.mono {eid:TC→TypeId} {F F':Nat} (hF:F≤F'):∀ {ks:List Kd} {vs:List Value},em_ enc P w spare eid F ks vs→em_ enc P w spare eid F' ks vs
 |[],[],_=>trivial
 |k::ks,v::vs,h=>⟨h.1.mono hF,em_.mono hF h.2⟩
 |[],_::_,h=>h.elim
 |_::_,[],h=>h.elim
theorem em_.append {eid:TC→TypeId} {F:Nat}:∀ {ks:List Kd} {vs:List Value} {ks':List Kd} {vs':List Value},em_ enc P w spare eid F ks vs→em_ enc P w spare eid F ks' vs'→em_ enc P w spare eid F (ks++ks') (vs++vs')
 |[],[],_,_,_,h=>h
 |k::ks,v::vs,_,_,h,h'=>⟨h.1,em_.append h.2 h'⟩
 |[],_::_,_,_,h,_=>h.elim
 |_::_,[],_,_,h,_=>h.elim
theorem j3_ {eb_:TypeId→Option TC} {eid:TC→TypeId} {n:Nat} {rec_:TypeId→Option (List Kd)} {cs:List Value} (hrec:∀ T ks cs x,rec_ T=some ks→DataW.trod enc P w 0 spare true n T cs=some x→em_ enc P w spare eid n ks cs) :
  ∀ (fs:List Field) (off:Nat) (ks:List Kd),kdsL P rec_ fs off=some ks→(∀ f ∈ fs,∃ x,DataW.trod enc P w 0 spare true n f.type ((cs.drop f.offset).take (P.cellsOf f.type))=some x)→off+ks.length=cs.length→em_ enc P w spare eid n ks (cs.drop off)
 |[],off,ks,h,_,hl=>by
  simp only [kdsL,Option.some.injEq] at h
  subst h
  rw [List.drop_eq_nil_of_le (by simp at hl;omega)]
  trivial
 |f::fs,off,ks,h,hx,hl=>by
  simp only [kdsL] at h
  obtain ⟨h1,h2⟩:=bM_ h
  have h1:=ci_.1 h1
  cases hr:rec_ f.type with
  |none=>rw [hr] at h2;cases h2
  |some k1=>
   rw [hr] at h2
   obtain ⟨h3,h4⟩:=bM_ h2
   have h3:=ci_.1 h3
   cases hk:kdsL P rec_ fs (off+k1.length) with
   |none=>rw [hk] at h4;cases h4
   |some r=>
    rw [hk] at h4
    simp only [Option.some.injEq] at h4
    subst h4
    obtain ⟨x,hx1⟩:=hx f (List.mem_cons_self ..)
    have h5:=hrec _ _ _ _ hr hx1
    have h6:=j3_ (eb_:=eb_) hrec fs (off+k1.length) r hk (fun g hg=>hx g (List.mem_cons_of_mem _ hg)) (by simp at hl;omega)
    rw [h1,h3] at h5
    have:cs.drop off=(cs.drop off).take k1.length++cs.drop (off+k1.length):=by rw [←List.drop_drop,List.take_append_drop]
    rw [this]
    exact h5.append h6
theorem kf_ {eb_:TypeId→Option TC} {eid:TC→TypeId} (hcode:∀ e t,eb_ e=some t→eid t=e):∀ (d F:Nat) (T:TypeId) (ks:List Kd) (cs:List Value) (x:DataW H × List MemPlace),kds P eb_ d T=some ks→DataW.trod enc P w 0 spare true F T cs=some x→em_ enc P w spare eid F ks cs
 |0,F,T,ks,cs,x,hk,h=>by cases hk
 |d+1,F,T,ks,cs,x,hk,h=>by
  simp only [kds] at hk
  cases hu:P.underlying T with
  |none=>rw [hu] at hk;cases hk
  |some u=>
   rw [hu] at hk
   cases u<;>simp only at hk<;>(try (cases hk;done))
   case bool=>
    cases hk
    obtain ⟨q,rfl,_⟩:=DataW.trod_bool hu h
    exact ⟨⟨q,rfl⟩,trivial⟩
   case int k=>
    cases hk
    obtain ⟨n,rfl,_,hw⟩:=DataW.trod_int hu h
    exact ⟨⟨n,rfl,hw⟩,trivial⟩
   case string=>
    cases hk
    obtain ⟨s,rfl,_,hs⟩:=DataW.trod_string hu h
    exact ⟨⟨s,rfl,hs⟩,trivial⟩
   case slice e=>
    cases hc:eb_ e with
    |none=>rw [hc] at hk;cases hk
    |some t=>
     rw [hc] at hk
     cases hk
     have he:=hcode e t hc
     rcases DataW.trod_slice hu h with ⟨rfl,_⟩|⟨a,len,cap,elems,gP_,n,hF,rfl,_,_,hl,hm,hlen,hel,_,_⟩
     · exact ⟨.inl rfl,trivial⟩
     · refine ⟨.inr ⟨a,len,cap,n,rfl,hl,hm,by omega,fun i hi => ?_⟩,trivial⟩
       have h1:=hel i hi
       rw [List.getElem?_eq_getElem (by omega)] at h1
       rw [Option.bind_eq_some_iff] at h1
       obtain ⟨cs,k1,k2⟩:=h1
       exact ⟨cs,_,by rw [he];exact k1,by rw [he];exact k2⟩
   case struct fs=>
    obtain ⟨xs,n,hF,_,hcl,hxl,hx⟩:=DataW.trod_struct hu h
    cases hks:kdsL P (kds P eb_ d) fs.toList 0 with
    |none=>rw [hks] at hk;cases hk
    |some ks'=>
     rw [hks] at hk
     obtain ⟨h1,h2⟩:=bM_ hk
     have h1:=ci_.1 h1
     cases h2
     subst hF
     have:=j3_ (eb_:=eb_) (eid:=eid) (n:=n) (cs:=cs) (fun T ks cs x k1 k2=>kf_ hcode d n T ks cs x k1 k2) fs.toList 0 ks hks (fun f hf=>by
      obtain ⟨i,hi⟩:=List.getElem?_of_mem hf
      have hi':fs[i]?=some f:=by simpa using hi
      have h3:=hx i f hi'
      have hlt:i<xs.length:=by rw [hxl];exact (Array.getElem?_eq_some_iff.1 hi').1
      rw [List.getElem?_eq_getElem hlt] at h3
      exact ⟨_,h3⟩) (by omega)
     exact (this.mono (Nat.le_succ n))
end
end Go.Pi
end
section
namespace Go.Pi
variable [ao_]
open ao_
variable {H:Type} {enc':TypeId × Value→H} {E:Env} {w:World} {spare:Nat→Bool}
abbrev NoF:Nat→Prop:=fun _=>False
omit [ao_] in
theorem ik_:∀ {ks:List Kd} {l c:List AV},hP_ ks l→sims .v l c→c=l
 |[],[],[],_,_=>rfl
 |k::ks,a::l,b::c,h,hs=>by
  have e:=ik_ h.2 hs.2
  subst e
  have h1:=h.1
  have h2:=hs.1
  cases k<;>obtain ⟨x,rfl⟩:=h1<;>simp only [AV.sim] at h2<;>rw [h2]
 |[],[],_::_,_,h=>h.elim
 |[],_::_,_,h,_=>h.elim
 |_::_,[],_,h,_=>h.elim
 |_::_,_::_,[],_,h=>h.elim
structure i2_ (E:Env) (eb_:TypeId→Option TC) (kinds:TC→List Kd) (d:Nat):Prop where
 codeOk:∀ e t,eb_ e=some t→E.eid t=e
 kdsOk:∀ t,kds E.P eb_ d (E.eid t)=some (kinds t)
 dec:∀ t l,hP_ (kinds t) l→∃ y,dec t l=some y
 cells:∀ t,E.P.cellsOf (E.eid t)=t.width
theorem k8_ [aq_] {t:TC} {N:Nat} (hel:∀ cs x,DataW.trod enc' E.P w 0 spare true N (E.eid t) cs=some x→∃ y:El t,RL E w NoF (enc .v t y) cs (fun _=>0)∧∀ c ∈ enc .v t y,Good c) {b o:Nat} (hW:E.P.cellsOf (E.eid t)=t.width) :
  ∀ len,(∀ i,i<len→∃ cs x,w.cells? 0 ((⟨b,o,none⟩:Addr).add (i*E.P.cellsOf (E.eid t))) (E.P.cellsOf (E.eid t))=some cs∧DataW.trod enc' E.P w 0 spare true N (E.eid t) cs=some x) →
  ∃ (xs:List (El t)) (vals:List Value),xs.length=len∧vals.length=len*t.width∧RL E w NoF (aV_ .v t xs) vals (fun _=>0)∧w.rangeAt b o vals∧∀ x ∈ xs,∀ c ∈ enc .v t x,Good c
 |0,_=>⟨[],[],rfl,by simp,RL.nil (fun _=>0) fun _=>rfl,fun j v h=>by simp at h,fun x hx=>by cases hx⟩
 |len+1,h=>by
  obtain ⟨xs,vals,h1,h2,h3,h4,h5⟩:=k8_ hel hW len fun i hi=>h i (by omega)
  obtain ⟨cs,x,k1,k2⟩:=h len (Nat.lt_succ_self _)
  obtain ⟨y,j1,j2⟩:=hel cs x k2
  obtain ⟨_,hl,hc⟩:=World.cells?_some k1
  rw [hW] at hl hc
  refine ⟨xs++[y],vals++cs,by simp [h1],by rw [List.length_append,h2,hl];exact (Nat.succ_mul _ _).symm,?_,fun j v hj => ?_,fun x hx => ?_⟩
  · rw [bV_]
    refine RL.append h3 (φ':=fun _=>0) ?_ (fun b=>rfl)
    simpa [aV_] using j1
  · by_cases hlt:j<vals.length
    · rw [List.getElem?_append_left hlt] at hj
      exact h4 j v hj
    · rw [List.getElem?_append_right (by omega)] at hj
      have hjl:j - vals.length<t.width:=by rw [←hl];exact (List.getElem?_eq_some_iff.1 hj).1
      have:=hc (j - vals.length) hjl
      rw [Addr.add_mid,Addr.add_mid,hj] at this
      rw [←this]
      congr 2
      omega
  · rcases List.mem_append.1 hx with hx|hx
    · exact h5 x hx
    · rw [List.mem_singleton] at hx;subst hx;exact j2
theorem cell_open [aq_] {eb_:TypeId→Option TC} {kinds:TC→List Kd} {d:Nat} (hk:i2_ E eb_ kinds d) {F:Nat} (ih:∀ N,N<F→∀ t cs x,DataW.trod enc' E.P w 0 spare true N (E.eid t) cs=some x→∃ y:El t,RL E w NoF (enc .v t y) cs (fun _=>0)∧∀ c ∈ enc .v t y,Good c) {k:Kd} {v:Value} (h:l5_ enc' E.P w spare E.eid F k v) :
  ∃ a,KindOk k a∧RL E w NoF [a] [v] (fun _=>0)∧Good a:=by
 cases k with
 |i k=>obtain ⟨n,rfl,hw⟩:=h;exact ⟨.i k n,⟨n,rfl⟩,.scal _ _ _ _ _ rfl (.nil _ fun _=>rfl),.i _ _ hw⟩
 |b=>obtain ⟨q,rfl⟩:=h;exact ⟨.b q,⟨q,rfl⟩,.scal _ _ _ _ _ rfl (.nil _ fun _=>rfl),.b _⟩
 |s=>
  obtain ⟨s,rfl,hs⟩:=h
  refine ⟨.s s.data.toList,⟨_,rfl⟩,.scal _ _ _ _ _ ?_ (.nil _ fun _=>rfl),.s _ ?_⟩
  · show Value.string s = .string ⟨s.data.toList.toArray⟩
    simp
  · rw [Array.length_toList];exact hs
 |sl t=>
  rcases h with rfl|⟨a,len,cap,N,rfl,hl,hm,hN,hel⟩
  · exact ⟨.sl .v t [],⟨_,rfl⟩,.view t [] none 0 0 [] (fun _=>0) _ _ _ ⟨rfl,Nat.le_refl _⟩ (.nil _ fun _=>rfl) (fun _=>rfl) (fun hp=>by omega) (.nil _ fun _=>rfl),.sl _ _ (Nat.zero_le _) (fun x hx=>by cases hx)⟩
  · cases len with
    |zero=>exact ⟨.sl .v t [],⟨_,rfl⟩,.view t [] (some a) 0 cap [] (fun _=>0) _ _ _ ⟨rfl,hl⟩ (.nil _ fun _=>rfl) (fun _=>rfl) (fun hp=>by omega) (.nil _ fun _=>rfl),.sl _ _ (Nat.zero_le _) (fun x hx=>by cases hx)⟩
    |succ len=>
     have hW:=hk.cells t
     have hpos:0<t.width:=aq_.pos t
     obtain ⟨cs0,x0,k1,_⟩:=hel 0 (Nat.succ_pos _)
     obtain ⟨_,hl0,hc0⟩:=World.cells?_some k1
     have hcell:=hc0 0 (by rw [hW];exact hpos)
     rw [List.getElem?_eq_getElem (by rw [hl0,hW];exact hpos)] at hcell
     have ha:a.spot=none:=by
      have h0:(a.add (0*E.P.cellsOf (E.eid t))).add 0=a:=by simp [Addr.add]
      rw [h0] at hcell
      unfold World.cell? at hcell
      split at hcell
      · cases hs:a.spot with
        |none=>rfl
        |some q=>simp [hs] at hcell
      · cases hcell
     obtain ⟨b,o,sp⟩:=a
     simp only at ha
     subst ha
     have hb:b<w.heap.size:=World.cells?_block k1 (by rw [hW];exact hpos) |> fun h=>by simpa [Addr.add] using h
     obtain ⟨xs,vals,e1,e2,e3,e4,e5⟩:=k8_ (ih N hN t) hW (len+1) hel
     refine ⟨.sl .v t xs,⟨_,rfl⟩,?_,.sl _ _ (by omega) e5⟩
     exact .view t xs (some ⟨b,o,none⟩) (len+1) cap vals (fun _=>0) _ _ _ ⟨e1.symm,hl⟩ e3 (fun _=>rfl) (fun _=>⟨b,o,rfl,e4,hb,fun h=>h⟩) (.nil _ fun _=>rfl)
theorem hz_ [aq_] {eb_:TypeId→Option TC} {kinds:TC→List Kd} {d:Nat} (hk:i2_ E eb_ kinds d) {F:Nat} (ih:∀ N,N<F→∀ t cs x,DataW.trod enc' E.P w 0 spare true N (E.eid t) cs=some x→∃ y:El t,RL E w NoF (enc .v t y) cs (fun _=>0)∧∀ c ∈ enc .v t y,Good c) :
  ∀ {ks:List Kd} {vs:List Value},em_ enc' E.P w spare E.eid F ks vs→∃ l,hP_ ks l∧RL E w NoF l vs (fun _=>0)∧∀ c ∈ l,Good c
 |[],[],_=>⟨[],trivial,.nil _ fun _=>rfl,fun c hc=>by cases hc⟩
 |k::ks,v::vs,h=>by
  obtain ⟨a,h1,h2,h3⟩:=cell_open hk ih h.1
  obtain ⟨l,k1,k2,k3⟩:=hz_ hk ih h.2
  refine ⟨a::l,⟨h1,k1⟩,RL.cons h2 k2 (fun b=>rfl),fun c hc => ?_⟩
  rcases List.mem_cons.1 hc with rfl|hc
  · exact h3
  · exact k3 c hc
 |[],_::_,h=>h.elim
 |_::_,[],h=>h.elim
theorem el_open [aq_] {eb_:TypeId→Option TC} {kinds:TC→List Kd} {d:Nat} (hk:i2_ E eb_ kinds d):∀ (F:Nat) (t:TC) (cs:List Value) (x:DataW H × List MemPlace),DataW.trod enc' E.P w 0 spare true F (E.eid t) cs=some x →
  ∃ y:El t,RL E w NoF (enc .v t y) cs (fun _=>0)∧∀ c ∈ enc .v t y,Good c:=by
 intro F
 induction F using Nat.strongRecOn with
 |_ F ih=>
  intro t cs x h
  have h1:=kf_ hk.codeOk d F _ _ _ _ (hk.kdsOk t) h
  obtain ⟨l,h2,h3,h4⟩:=hz_ hk ih h1
  obtain ⟨y,hy⟩:=hk.dec t l h2
  have h5:=aq_.dec .v t l y hy
  have h6:=ik_ h2 h5
  exact ⟨y,by rw [h6];exact h3,by rw [h6];exact h4⟩
theorem arg_open [aq_] {eb_:TypeId→Option TC} {kinds:TC→List Kd} {d:Nat} (hk:i2_ E eb_ kinds d) {T:TypeId} {ks:List Kd} (hT:kds E.P eb_ d T=some ks) {v:Value} {dd:DataW H} {ps:List MemPlace} (h:DataW.Trod enc' E.P w 0 spare true T v dd ps) :
  ∃ l,hP_ ks l∧RL E w NoF l v.cells.toList (fun _=>0)∧∀ c ∈ l,Good c:=by
 obtain ⟨F,hF⟩:=h
 exact hz_ hk (fun N _=>el_open hk N) (kf_ hk.codeOk d F T ks _ _ hT hF)
end Go.Pi
end
section
namespace Go.Pi
open Go.RowKit
variable [ao_]
open ao_
omit [ao_] in
theorem c6_ {k:Kd} {ks:List Kd} {l:List AV} (h:hP_ (k::ks) l):∃ a l',l=a::l'∧KindOk k a∧hP_ ks l':=by
 cases l with
 |nil=>exact h.elim
 |cons a l=>exact ⟨a,l,rfl,h.1,h.2⟩
omit [ao_] in
theorem dn_ {l:List AV} (h:hP_ [] l):l=[]:=by
 cases l with
 |nil=>rfl
 |cons a l=>exact h.elim
def codeL (eid:TC→TypeId):List TC→TypeId→Option TC
 |[],_=>none
 |t::ts,e=>cond (Nat.beq (eid t) e) (some t) (codeL eid ts e)
omit [ao_] in
theorem nB_ {eid:TC→TypeId} {e:TypeId} {t:TC}:∀ ts,codeL eid ts e=some t→eid t=e
 |[],h=>by cases h
 |u::ts,h=>by
  simp only [codeL] at h
  cases hb:Nat.beq (eid u) e with
  |true=>rw [hb] at h;cases h;exact ci_.1 hb
  |false=>rw [hb] at h;exact nB_ ts h
theorem law_true [aq_] {E:Env} {f:FuncId} {avs:List AV} {outs:List AV} {ps:List PS} (h:en_ E f avs (.b true) outs ps) {w:World} (hgl:Glob E w NoF) {Vs:List Value} (hr:RL E w NoF avs Vs (fun _=>0)) :
  Calls E.P f Vs.toArray w fun e W'=>e = .returned (.bool true)∧Below w.heap.size w W':=by
 refine (h w NoF Vs _ hr (fun _=>Nat.zero_le _) (fun b hb=>hb.elim) hgl).mono fun e W' ⟨V,φ',he,h1,_,_,e1,e2,e3,e4,e5⟩=>⟨?_,e1,e2,e3,e4,fun k hk=>e5 k hk rfl⟩
 cases h1 with
 |scal a v l vs φ hs _=>rw [he,show V = .bool true from hs]
theorem ag_open {E:Env} {w:World} {l:List AV} {cs:Array Value} (h:RL E w NoF l (Value.agg cs).cells.toList (fun _=>0)) {l':List AV} {vs:List Value} (h':RL E w NoF l' vs (fun _=>0)) :
  RL E w NoF (.ag l::l') (.agg cs::vs) (fun _=>0):=by
 have:=RL.ag (E:=E) (w:=w) (F:=NoF) l cs.toList (fun _=>0) l' vs (fun _=>0) (fun _=>0) h h' (fun b=>rfl)
 simpa using this
end Go.Pi
end
section
namespace Go.Pi
open Go.Proofs Go.Proofs.YtilkdgbncfebkaaGreatDoor
open Go.ChangeShapes Go.WideShapes Go.ChangeAt Go.RowKit
def eb_:TypeId→Option TC:=codeL eid [.u8,.int,.str,.iRow,.s_iRow,.iCond,.iMut,.iKid,.iChange,.iJson]
def kinds:TC→List Kd
 |.u8=>[.i .u8]
 |.int=>[.i .i64]
 |.str=>[.s]
 |.iRow=>[.i .i64,.sl .int]
 |.s_iRow=>[.sl .iRow]
 |.iCond=>[.i .i64,.i .i64,.i .i64]
 |.iMut=>[.i .i64,.i .i64,.i .i64,.sl .int]
 |.iKid=>[.i .i64,.i .i64]
 |.iChange=>[.i .i64,.b,.b,.i .i64,.sl .int,.i .i64,.sl .int]
 |.iJson=>[.i .i64,.i .i64,.s,.sl .iJson,.sl .str]
theorem kindsOk:i2_ E eb_ kinds 12 where
 codeOk:=fun e t h=>nB_ _ h
 kdsOk:=by intro t;cases t<;>kernel_rfl
 cells:=by intro t;cases t<;>kernel_rfl
 dec:=by
  intro t l h
  cases t with
  |u8=>
   iterate 1 (replace h:=c6_ h;obtain ⟨_,_,rfl,⟨_,rfl⟩,h⟩:=h)
   replace h:=dn_ h;subst h;exact ⟨_,rfl⟩
  |int=>
   iterate 1 (replace h:=c6_ h;obtain ⟨_,_,rfl,⟨_,rfl⟩,h⟩:=h)
   replace h:=dn_ h;subst h;exact ⟨_,rfl⟩
  |str=>
   iterate 1 (replace h:=c6_ h;obtain ⟨_,_,rfl,⟨_,rfl⟩,h⟩:=h)
   replace h:=dn_ h;subst h;exact ⟨_,rfl⟩
  |iRow=>
   iterate 2 (replace h:=c6_ h;obtain ⟨_,_,rfl,⟨_,rfl⟩,h⟩:=h)
   replace h:=dn_ h;subst h;exact ⟨_,rfl⟩
  |s_iRow=>
   iterate 1 (replace h:=c6_ h;obtain ⟨_,_,rfl,⟨_,rfl⟩,h⟩:=h)
   replace h:=dn_ h;subst h;exact ⟨_,rfl⟩
  |iCond=>
   iterate 3 (replace h:=c6_ h;obtain ⟨_,_,rfl,⟨_,rfl⟩,h⟩:=h)
   replace h:=dn_ h;subst h;exact ⟨_,rfl⟩
  |iMut=>
   iterate 4 (replace h:=c6_ h;obtain ⟨_,_,rfl,⟨_,rfl⟩,h⟩:=h)
   replace h:=dn_ h;subst h;exact ⟨_,rfl⟩
  |iKid=>
   iterate 2 (replace h:=c6_ h;obtain ⟨_,_,rfl,⟨_,rfl⟩,h⟩:=h)
   replace h:=dn_ h;subst h;exact ⟨_,rfl⟩
  |iChange=>
   iterate 7 (replace h:=c6_ h;obtain ⟨_,_,rfl,⟨_,rfl⟩,h⟩:=h)
   replace h:=dn_ h;subst h;exact ⟨_,rfl⟩
  |iJson=>
   iterate 5 (replace h:=c6_ h;obtain ⟨_,_,rfl,⟨_,rfl⟩,h⟩:=h)
   replace h:=dn_ h;subst h;exact ⟨_,rfl⟩
namespace laws_FnGoesAlong
theorem own:ownKnob Tryz.prog.godebug=none:=by kernel_rfl
theorem laidOut:laidOutB Tryz.prog=true:=by kernel_rfl
def senOf:DataW Unit→ByteArray
 |.iface _ (.ptr (.agg [.lit (.string l)]))=>⟨l.toArray⟩
 |_=>ByteArray.empty
def tab1:DataW Unit→List Value
 |.lit (.int k n)=>[Value.int k n]
 |_=>[]
def tab2:DataW Unit→List Value
 |.agg l=>l.flatMap tab1
 |d=>tab1 d
def cB_:DataW Unit→Array Value
 |.agg l=>(l.flatMap tab2).toArray
 |_ => #[]
def Pure:Prop:=∀ (o:List Int),(∀ c ∈ ([.sl .v .u8 o]:List AV),Good c)→∃ n,Go.Pi.laws_FnGoesAlong n o=some true
noncomputable def lp_ (os:Os):World :=
 let w0:=World.holding Tryz.prog os ⟨#[],#[],[]⟩
 let put:=fun (h:Array Obj) (g:Nat) (cs:Array Value)=>h.modify g fun
  |.cells _ t frozen=>.cells cs t frozen
  |o=>o
 { w0 with heap:=put (put (put (w0.heap) 3 (cB_ Rows.laid_math_bits_deBruijn32tab)) 4 (cB_ Rows.laid_math_bits_deBruijn64tab)) 0 (cB_ Rows.laid_internal_strconv_uint64pow10) }
theorem kv_ (os:Os) (args:Array Value):laidMet Tryz.prog Rows.fnGoesAlongRow.laid ((lp_ os).forCall (fun _ _=>0) ⟨#[],args,[]⟩).memory :=
 laidMet_of_run' 8 (by kernel_rfl) (by kernel_rfl)
theorem lifted (hp:Pure) (os:Os) (started:os.Started) (H:Type) (enc:TypeId × Value→H) :
  ReturnsInHanded {} Tryz.checked os 3 .any (fun w args=>(Rows.fnGoesAlongSpec.pre enc Tryz.prog Tryz.f3 Rows.fnGoesAlongRow.domain false w args∧laidMet Tryz.prog Rows.fnGoesAlongRow.laid w)∧sizedMet enc Tryz.prog Tryz.f3 (OpenSpec.ofChange Rows.fnGoesAlongSpec) false w args) (Rows.fnGoesAlongSpec.post enc Tryz.prog Tryz.f3 false true false false):=by
 refine returnsInHanded_of_change_and (C:=Tryz.checked) (X:=fun w _=>laidMet Tryz.prog Rows.fnGoesAlongRow.laid w) (fun _ _ _ hh h=>h.of_heap hh) own started (by kernel_rfl) Tryz.func3
  (ChangeSpec.witness_at (enc:=enc) (C:=Tryz.checked) (os:=os) (X:=fun w _=>laidMet Tryz.prog Rows.fnGoesAlongRow.laid w) false (lp_ os) #[.slice none 0 0] 8 rfl (by kernel_rfl) (by kernel_rfl) (by kernel_rfl) (by kernel_rfl) (by kernel_rfl) (kv_ os _)) ?_
 intro W base args ds gs before hval0 hW hcnd _ hL _
 have hval:∀ (j:Nat) t v,Tryz.f3.params[j]?=some t→args[j]?=some v→Value.okWide Tryz.prog W .any base t v:=hval0
 have hW':=hW
 obtain ⟨p,q,hA0,hV,rfl,hfz,hnd⟩:=hW
 have hA:DataW.TrodAll enc Tryz.prog W 0 (fun _=>true) true Tryz.f3.params.toList args.toList ds p:=hA0
 rw [Tryz.params3] at hA hval
 obtain ⟨v0,vs0,d0,ds0,p0,q0,hargs,rfl,rfl,h0,r0⟩:=trodAll_cons hA
 obtain ⟨rfl,rfl,rfl⟩:=trodAll_nil r0
 obtain rfl:args = #[v0]:=by cases args;simp_all
 obtain ⟨rfl,rfl⟩:=trodVars_none hV
 obtain ⟨c0,len0,cap0,rfl⟩:=okWide_slice Tryz.underlying22 (hval 0 22 v0 rfl rfl)
 have lt0:∀ x ∈ p0,x.block<W.heap.size:=by obtain ⟨m,hm⟩:=h0;exact DataW.trod_lt m _ _ _ hm
 obtain ⟨l0,k0,e0,g0⟩:=arg_open kindsOk (T:=22) (ks:=[.sl .u8]) (by kernel_rfl) h0
 replace k0:=c6_ k0;obtain ⟨_,_,rfl,⟨z0,rfl⟩,k0⟩:=k0
 replace k0:=dn_ k0;subst k0
 have hT:Lib.TabIs Tryz.prog W "internal/strconv.uint64pow10" .u64 Lib.pow10Tab:=Lib.tabIs_of_head (t:=212) (e:=204) (n:=20) iO_ (by kernel_rfl) (by kernel_rfl) (by kernel_rfl) (by kernel_rfl) (by kernel_rfl) (show laidMet Tryz.prog ((_,Lib.tabData .u64 Lib.pow10Tab)::_) W from hL.tail.tail)
 have hgl:Glob E W NoF:=fun p hp=>by
  rcases List.mem_singleton.1 hp with rfl
  obtain ⟨T,fr,h⟩:=tab_glob hT iO_;exact ⟨⟨_,T,fr,h,rfl⟩,fun h=>h.elim⟩
 obtain ⟨n,hn⟩:=hp z0 g0
 refine (law_true ((AllE.get (e:=laws_FnGoesAlong.e) 0 (allOk n) (by kernel_rfl)) (z0,()) _ hn) hgl (RL.cons e0 (.nil _ fun _=>rfl) (fun b=>rfl))).mono fun e W' ⟨he,bel⟩ => ?_
 subst he
 exact ⟨_,rfl,_,_,_,[],_,[],hW',trodAll_mk1 (shut_bool Tryz.underlying4 _),(trodAll_cons_mk (Below.trod laidOut (by kernel_rfl) (of_decide_eq_true (by kernel_rfl)) h0 bel lt0) trodAll_mk0),rfl,bel.frame _,fun h=>by cases h⟩
theorem jf0:(Rows.fnGoesAlongRow.wf (OpenSpec.ofChange Rows.fnGoesAlongSpec))=true:=by kernel_rfl
theorem jf1:(laidOutB Tryz.prog)=true:=by kernel_rfl
theorem jf2:(mapsRowed Tryz.prog)=true:=by kernel_rfl
theorem jf3:(Tryz.f3.params.all (Tryz.prog.readableRec ·))=true:=by kernel_rfl
theorem jf4:(namedTie Tryz.prog Rows.fnGoesAlongRow.named Rows.fnGoesAlongSpec.vars)=true:=by kernel_rfl
theorem jf5:((Rows.fnGoesAlongRow.stops == []))=true:=by kernel_rfl
theorem jf6:((Tryz.prog.stops == []))=true:=by kernel_rfl
theorem jf7:((Rows.fnGoesAlongRow.knobs == []))=true:=by kernel_rfl
theorem jf8:((Tryz.prog.stopKnobs == []))=true:=by kernel_rfl
theorem jf9:((Rows.fnGoesAlongRow.inPlace == Tryz.prog.inPlace 3))=true:=by kernel_rfl
theorem jf10:((Rows.fnGoesAlongRow.unfollowed == Tryz.prog.unfollowed 3))=true:=by kernel_rfl
theorem jf11:((Rows.fnGoesAlongRow.recurses == Tryz.prog.recurses 3))=true:=by kernel_rfl
theorem jf12:((Rows.fnGoesAlongRow.named == Tryz.prog.varsNamed 3))=true:=by kernel_rfl
theorem jf13:((Rows.fnGoesAlongRow.maps == (Tryz.f3.params.toList++Rows.fnGoesAlongSpec.plain.varTypes Tryz.prog).any (Tryz.prog.mapsRec ·)))=true:=by kernel_rfl
theorem jf14:((Rows.fnGoesAlongRow.ifaces == (Tryz.f3.params.toList++Rows.fnGoesAlongSpec.plain.varTypes Tryz.prog).any (Tryz.prog.ifacesRec ·)))=true:=by kernel_rfl
theorem jf15:((Rows.fnGoesAlongRow.mapsOut == Tryz.prog.mapsAmong Tryz.f3.resultTypes.toList))=true:=by kernel_rfl
theorem jf16:((Rows.fnGoesAlongRow.loops == (Tryz.f3.params.toList++Rows.fnGoesAlongSpec.plain.varTypes Tryz.prog).any (Tryz.prog.loopsFrom ·)))=true:=by kernel_rfl
theorem jf17:((Rows.fnGoesAlongRow.wideKeys == (Tryz.f3.params.toList++Rows.fnGoesAlongSpec.plain.varTypes Tryz.prog++Tryz.f3.resultTypes.toList).any (Tryz.prog.wideKeysFrom ·)))=true:=by kernel_rfl
theorem jf18:(Rows.fnGoesAlongSpec.vars.all (Tryz.prog.varReadable ·))=true:=by kernel_rfl
theorem jf19:(Tryz.f3.resultTypes.all (fun t=>Tryz.prog.readableRec t&&decide (t<Tryz.prog.types.size)))=true:=by kernel_rfl
theorem jf20:((Rows.fnGoesAlongRow.ifacesOut == Tryz.f3.resultTypes.toList.any (Tryz.prog.ifacesRec ·)))=true:=by kernel_rfl
theorem jf21:((Rows.fnGoesAlongRow.loopsOut == Tryz.f3.resultTypes.toList.any (Tryz.prog.loopsFrom ·)))=true:=by kernel_rfl
theorem jf22:((Rows.fnGoesAlongRow.plainKeys == Tryz.prog.plainKeys))=true:=by kernel_rfl
theorem jf23:(Rows.fnGoesAlongRow.shortTexts.isNone)=true:=by kernel_rfl
theorem jf24:(Tryz.prog.stopsHeard)=true:=by kernel_rfl
theorem jf25:(Tryz.prog.mayEnter)=true:=by kernel_rfl
theorem jf26:((Rows.fnGoesAlongRow.lifted == Tryz.prog.liftsFinal))=true:=by kernel_rfl
theorem jf27:((Tryz.prog.make == some Rows.fnGoesAlongRow.make))=true:=by kernel_rfl
theorem jf28:((Rows.fnGoesAlongRow.kinds == (if Rows.fnGoesAlongRow.domain.isEmpty then [] else Tryz.f3.params.toList.map fun t=>match Tryz.prog.underlying t with|some (.int k)=>some k|_=>none)))=true:=by kernel_rfl
theorem jf29:((Rows.fnGoesAlongRow.pinned == Rows.fnGoesAlongRow.pinnedBy))=true:=by kernel_rfl
theorem jf30:((Rows.fnGoesAlongRow.veiled == (Tryz.f3.params.toList++Rows.fnGoesAlongSpec.plain.varTypes Tryz.prog++Tryz.f3.resultTypes.toList).any (Tryz.prog.veiledRec ·)))=true:=by kernel_rfl
theorem jf31:(Rows.fnGoesAlongRow.veiledFits Tryz.prog Tryz.f3.params.toList (Tryz.f3.params.toList++Rows.fnGoesAlongSpec.plain.varTypes Tryz.prog++Tryz.f3.resultTypes.toList))=true:=by kernel_rfl
theorem gK_ {a b:Bool} (h:a=true) (k:b=true):(a&&b)=true:=by rw [h,k];rfl
theorem facts:joinedFacts Tryz.pinned.checked.prog 3 Tryz.f3 Rows.fnGoesAlongSpec Rows.fnGoesAlongRow=true:=(gK_ (gK_ (gK_ (gK_ (gK_ (gK_ (gK_ (gK_ (gK_ (gK_ (gK_ (gK_ (gK_ (gK_ (gK_ (gK_ (gK_ (gK_ (gK_ (gK_ (gK_ (gK_ (gK_ (gK_ (gK_ (gK_ (gK_ (gK_ (gK_ (gK_ (gK_ jf0 jf1) jf2) jf3) jf4) jf5) jf6) jf7) jf8) jf9) jf10) jf11) jf12) jf13) jf14) jf15) jf16) jf17) jf18) jf19) jf20) jf21) jf22) jf23) jf24) jf25) jf26) jf27) jf28) jf29) jf30) jf31)
theorem over (hp:Pure):Rows.fnGoesAlongRow.holds Tryz.pinned (OpenSpec.ofChange Rows.fnGoesAlongSpec) :=
 OpenClaim.holds_of_wide 3 Tryz.f3 rfl rfl rfl rfl rfl rfl rfl ⟨rfl,rfl,rfl,rfl,rfl⟩ rfl rfl rfl rfl rfl (by kernel_rfl) Tryz.func3 facts
  (of_decide_eq_true (by kernel_rfl)) (by unfold Func.isWrapper;first|(rw [if_pos (by decide +kernel)];kernel_rfl)|(rw [if_neg (by decide +kernel)];exact ⟨rfl,rfl⟩))
  (fun os started H enc _=>lifted hp os started H enc)
end laws_FnGoesAlong
theorem laws_FnGoesAlong.card (hp:laws_FnGoesAlong.Pure):Rows.FnGoesAlongCardSaid :=
 Claim7.holds_tied_plain_at .later [] [.data,.data,.data] true (true, "bd04bdfc2cc93469e477140369c4d2cec93f47ba6057a8248fa301192d42f9ca") true
  (laws_FnGoesAlong.over hp) (fun _ h=>by cases h) (by kernel_rfl) (fun _ h=>by cases h) fnGoesAlong_row_tie rfl ⟨rfl,rfl⟩ (by kernel_rfl) rfl
  (fun f fn hf hfn=>by
    obtain rfl:f=3:=Option.some.inj ((show Tryz.prog.funcNamed "loop.example/g00198/laws.FnGoesAlong" = some 3 by kernel_rfl).symm.trans hf) |>.symm
    obtain rfl:fn=Tryz.f3:=(Option.some.inj (Tryz.func3.symm.trans hfn)).symm
    exact ⟨by kernel_rfl,fun j t ht=>by
     rw [Tryz.params3] at ht
     have hm:t ∈ ([22]:List TypeId):=List.mem_of_getElem? (show ([22]:List TypeId)[j]?=some t by simpa using ht)
     have:=List.all_eq_true.1 (show ([22]:List TypeId).all (fun t => !Tryz.prog.wantsStandIn t)=true by kernel_rfl) t hm
     exact (by simpa using this:Tryz.prog.wantsStandIn t=false)⟩)
  (by kernel_rfl)
end Go.Pi
end
section
namespace Go.Pi
section
variable {α β:Type}
def Ev (f:Nat→Nat→Option α) (v:α):Prop:=∃ M,∀ n N,M≤n→M≤N→f n N=some v
theorem ap_ {v w:α}:Ev (fun _ _=>some v) w↔v=w :=
 ⟨fun ⟨M,h⟩=>Option.some.inj (h M M (Nat.le_refl _) (Nat.le_refl _)),fun h=>⟨0,fun _ _ _ _=>by rw [h]⟩⟩
theorem cF_ {f:Nat→Nat→Option α} {v w:α} (h:Ev f v):Ev f w↔v=w:=by
 constructor
 · rintro ⟨M',h'⟩
   obtain ⟨M,h⟩:=h
   have a:=h (max M M') (max M M') (by omega) (by omega)
   have b:=h' (max M M') (max M M') (by omega) (by omega)
   rw [a] at b
   exact Option.some.inj b
 · rintro rfl;exact h
theorem as_ {f:Nat→Nat→Option α} {a:α} (h:Ev f a) {g:Nat→Nat→α→Option β} {v:β}:Ev (fun n N=>(f n N).bind (g n N)) v↔Ev (fun n N=>g n N a) v:=by
 obtain ⟨M,h⟩:=h
 constructor
 · rintro ⟨M',h'⟩
   refine ⟨max M M',fun n N h1 h2 => ?_⟩
   have:=h' n N (by omega) (by omega)
   simp only [h n N (by omega) (by omega),Option.bind_some] at this
   exact this
 · rintro ⟨M',h'⟩
   refine ⟨max M M',fun n N h1 h2 => ?_⟩
   simp only [h n N (by omega) (by omega),Option.bind_some]
   exact h' n N (by omega) (by omega)
theorem ej_ {v:α}:Ev (fun _ _=>none) v↔False:=by
 simp only [iff_false]
 rintro ⟨M,h⟩
 cases h M M (Nat.le_refl _) (Nat.le_refl _)
theorem aD_ {c:Bool} {f g:Nat→Nat→Option α} {v:α}:Ev (fun n N=>cond c (f n N) (g n N)) v↔(c=true→Ev f v)∧(c=false→Ev g v):=by
 cases c<;>simp
theorem bA_ {i:Int} {len:Nat} {f:Nat→Nat→Option α} {v:α}:Ev (fun n N=>inB i len (f n N)) v↔(0≤i∧i<(len:Int))∧Ev f v:=by
 unfold inB
 rw [aD_,aD_]
 by_cases h1:0≤i<;>by_cases h2:i<(len:Int)<;>simp [h1,h2,ej_]
theorem aJ_ {f:Nat→Nat→Option α} {v:α} (h:Ev (fun n N=>f (n+1) N) v):Ev f v:=by
 obtain ⟨M,h⟩:=h
 refine ⟨M+1,fun n N h1 h2 => ?_⟩
 obtain ⟨m,rfl⟩:∃ m,n=m+1:=⟨n - 1,by omega⟩
 exact h m N (by omega) (by omega)
theorem d4_ {f:Nat→Nat→Option α} {v:α} (h:Ev f v):Ev (fun n _=>f n n) v:=by
 obtain ⟨M,h⟩:=h
 exact ⟨M,fun n N h1 h2=>h n n h1 h1⟩
theorem cc_ {f:Nat→Nat→Option α} {v:α} (h:Ev (fun n N=>f n (N+1)) v):Ev f v:=by
 obtain ⟨M,h⟩:=h
 refine ⟨M+1,fun n N h1 h2 => ?_⟩
 obtain ⟨m,rfl⟩:∃ m,N=m+1:=⟨N - 1,by omega⟩
 exact h n m (by omega) (by omega)
theorem ev_ex {f:Nat→Option α} {v:α} (h:Ev (fun n _=>f n) v):∃ n,f n=some v:=by
 obtain ⟨M,h⟩:=h
 exact ⟨M,h M M (Nat.le_refl _) (Nat.le_refl _)⟩
end
abbrev bG_:Nat:=9223372036854775807
theorem W_id {n:Int} (h : -9223372036854775808≤n) (h':n<9223372036854775808):W n=n:=by
 show IntKind.i64.wrap n=n
 rw [IntKind.wrap_i64];omega
theorem W_up {i:Nat} {len:Nat} (h:i<len) (hl:len≤bG_):W ((i:Int)+1)=((i+1:Nat):Int):=by
 rw [W_id (by omega) (by simp only [bG_] at hl;omega)];omega
theorem dq_ {α:Type} (d:α) {a:List α} {i:Nat} (h:i<a.length):a.drop i=a.getD i d::a.drop (i+1):=by
 rw [List.drop_eq_getElem_cons h,List.getD_eq_getElem?_getD,List.getElem?_eq_getElem h];rfl
theorem bL_ {α:Type} (d:α) {a:List α} {i:Nat} (h:i<a.length):a.getD i d ∈ a:=by
 rw [List.getD_eq_getElem?_getD,List.getElem?_eq_getElem h];exact List.getElem_mem h
end Go.Pi
end
section
namespace Go.Pi
theorem bH_.turn4 {n N k}:bH_.loop4 n k (N+1)=bH_.step4 n k (bH_.loop4 n k N):=rfl
theorem aC_.turn4 {n N k}:aC_.loop4 n k (N+1)=aC_.step4 n k (aC_.loop4 n k N):=rfl
theorem aW_.turn3 {n N k}:aW_.loop3 n k (N+1)=aW_.step3 n k (aW_.loop3 n k N):=rfl
theorem aP_.turn4 {n N k}:aP_.loop4 n k (N+1)=aP_.step4 n k (aP_.loop4 n k N):=rfl
theorem bI_.turn3 {n N k}:bI_.loop3 n k (N+1)=bI_.step3 n k (bI_.loop3 n k N):=rfl
theorem a7_.turn5 {n N k}:a7_.loop5 n k (N+1)=a7_.step5 n k (a7_.loop5 n k N):=rfl
theorem bf_.turn6 {n N k}:bf_.loop6 n k (N+1)=bf_.step6 n k (bf_.loop6 n k N):=rfl
theorem aK_.turn4 {n N k}:aK_.loop4 n k (N+1)=aK_.step4 n k (aK_.loop4 n k N):=rfl
theorem aH_.turn4 {n N k}:aH_.loop4 n k (N+1)=aH_.step4 n k (aH_.loop4 n k N):=rfl
theorem af_.turn7 {n N k}:af_.loop7 n k (N+1)=af_.step7 n k (af_.loop7 n k N):=rfl
theorem af_.turn16 {n N k}:af_.loop16 n k (N+1)=af_.step16 n k (af_.loop16 n k N):=rfl
theorem bJ_.turn6 {n N k}:bJ_.loop6 n k (N+1)=bJ_.step6 n k (bJ_.loop6 n k N):=rfl
theorem bu_.turn3 {n N k}:bu_.loop3 n k (N+1)=bu_.step3 n k (bu_.loop3 n k N):=rfl
theorem be_.turn6 {n N k}:be_.loop6 n k (N+1)=be_.step6 n k (be_.loop6 n k N):=rfl
theorem bs_.turn4 {n N k}:bs_.loop4 n k (N+1)=bs_.step4 n k (bs_.loop4 n k N):=rfl
theorem bb_.turn4 {n N k}:bb_.loop4 n k (N+1)=bb_.step4 n k (bb_.loop4 n k N):=rfl
theorem aA_.turn8 {n N k}:aA_.loop8 n k (N+1)=aA_.step8 n k (aA_.loop8 n k N):=rfl
theorem aX_.turn3 {n N k}:aX_.loop3 n k (N+1)=aX_.step3 n k (aX_.loop3 n k N):=rfl
theorem bz_.turn3 {n N k}:bz_.loop3 n k (N+1)=bz_.step3 n k (bz_.loop3 n k N):=rfl
theorem bw_.turn3 {n N k}:bw_.loop3 n k (N+1)=bw_.step3 n k (bw_.loop3 n k N):=rfl
theorem a8_.turn6 {n N k}:a8_.loop6 n k (N+1)=a8_.step6 n k (a8_.loop6 n k N):=rfl
theorem aB_.turn7 {n N k}:aB_.loop7 n k (N+1)=aB_.step7 n k (aB_.loop7 n k N):=rfl
theorem aB_.turn16 {n N k}:aB_.loop16 n k (N+1)=aB_.step16 n k (aB_.loop16 n k N):=rfl
theorem bk_.turn3 {n N k}:bk_.loop3 n k (N+1)=bk_.step3 n k (bk_.loop3 n k N):=rfl
theorem ab_.turn6 {n N k}:ab_.loop6 n k (N+1)=ab_.step6 n k (ab_.loop6 n k N):=rfl
theorem ab_.turn1 {n N k}:ab_.loop1 n k (N+1)=ab_.step1 n k (ab_.loop1 n k N):=rfl
theorem ac_.turn3 {n N k}:ac_.loop3 n k (N+1)=ac_.step3 n k (ac_.loop3 n k N):=rfl
theorem ac_.turn9 {n N k}:ac_.loop9 n k (N+1)=ac_.step9 n k (ac_.loop9 n k N):=rfl
theorem ba_.turn7 {n N k}:ba_.loop7 n k (N+1)=ba_.step7 n k (ba_.loop7 n k N):=rfl
theorem aN_.turn4 {n N k}:aN_.loop4 n k (N+1)=aN_.step4 n k (aN_.loop4 n k N):=rfl
theorem bo_.turn8 {n N k}:bo_.loop8 n k (N+1)=bo_.step8 n k (bo_.loop8 n k N):=rfl
theorem aF_.turn7 {n N k}:aF_.loop7 n k (N+1)=aF_.step7 n k (aF_.loop7 n k N):=rfl
theorem aF_.turn16 {n N k}:aF_.loop16 n k (N+1)=aF_.step16 n k (aF_.loop16 n k N):=rfl
theorem br_.turn3 {n N k}:br_.loop3 n k (N+1)=br_.step3 n k (br_.loop3 n k N):=rfl
theorem bt_.turn5 {n N k}:bt_.loop5 n k (N+1)=bt_.step5 n k (bt_.loop5 n k N):=rfl
theorem bh_.turn8 {n N k}:bh_.loop8 n k (N+1)=bh_.step8 n k (bh_.loop8 n k N):=rfl
theorem bv_.turn5 {n N k}:bv_.loop5 n k (N+1)=bv_.step5 n k (bv_.loop5 n k N):=rfl
theorem bq_.turn8 {n N k}:bq_.loop8 n k (N+1)=bq_.step8 n k (bq_.loop8 n k N):=rfl
theorem a1_.turn4 {n N k}:a1_.loop4 n k (N+1)=a1_.step4 n k (a1_.loop4 n k N):=rfl
theorem aR_.turn4 {n N k}:aR_.loop4 n k (N+1)=aR_.step4 n k (aR_.loop4 n k N):=rfl
theorem ak_.turn3 {n N k}:ak_.loop3 n k (N+1)=ak_.step3 n k (ak_.loop3 n k N):=rfl
theorem ai_.turn3 {n N k}:ai_.loop3 n k (N+1)=ai_.step3 n k (ai_.loop3 n k N):=rfl
theorem bl_.turn8 {n N k}:bl_.loop8 n k (N+1)=bl_.step8 n k (bl_.loop8 n k N):=rfl
theorem bi_.turn12 {n N k}:bi_.loop12 n k (N+1)=bi_.step12 n k (bi_.loop12 n k N):=rfl
theorem ah_.turn3 {n N k}:ah_.loop3 n k (N+1)=ah_.step3 n k (ah_.loop3 n k N):=rfl
theorem aQ_.turn4 {n N k}:aQ_.loop4 n k (N+1)=aQ_.step4 n k (aQ_.loop4 n k N):=rfl
theorem aS_.turn6 {n N k}:aS_.loop6 n k (N+1)=aS_.step6 n k (aS_.loop6 n k N):=rfl
theorem aT_.turn6 {n N k}:aT_.loop6 n k (N+1)=aT_.step6 n k (aT_.loop6 n k N):=rfl
theorem al_.turn6 {n N k}:al_.loop6 n k (N+1)=al_.step6 n k (al_.loop6 n k N):=rfl
theorem a0_.turn6 {n N k}:a0_.loop6 n k (N+1)=a0_.step6 n k (a0_.loop6 n k N):=rfl
theorem aO_.turn6 {n N k}:aO_.loop6 n k (N+1)=aO_.step6 n k (aO_.loop6 n k N):=rfl
theorem aO_.turn15 {n N k}:aO_.loop15 n k (N+1)=aO_.step15 n k (aO_.loop15 n k N):=rfl
theorem bF_.turn3 {n N k}:bF_.loop3 n k (N+1)=bF_.step3 n k (bF_.loop3 n k N):=rfl
theorem aU_.turn4 {n N k}:aU_.loop4 n k (N+1)=aU_.step4 n k (aU_.loop4 n k N):=rfl
theorem aZ_.turn3 {n N k}:aZ_.loop3 n k (N+1)=aZ_.step3 n k (aZ_.loop3 n k N):=rfl
theorem ar_.turn4 {n N k}:ar_.loop4 n k (N+1)=ar_.step4 n k (ar_.loop4 n k N):=rfl
theorem bx_.turn4 {n N k}:bx_.loop4 n k (N+1)=bx_.step4 n k (bx_.loop4 n k N):=rfl
theorem aG_.turn3 {n N k}:aG_.loop3 n k (N+1)=aG_.step3 n k (aG_.loop3 n k N):=rfl
theorem az_.turn3 {n N k}:az_.loop3 n k (N+1)=az_.step3 n k (az_.loop3 n k N):=rfl
theorem bg_.turn7 {n N k0 k1}:bg_.loop7 n k0 k1 (N+1)=bg_.step7 n k0 k1 (bg_.loop7 n k0 k1 N):=rfl
theorem bp_.turn4 {n N k}:bp_.loop4 n k (N+1)=bp_.step4 n k (bp_.loop4 n k N):=rfl
theorem bj_.turn4 {n N k}:bj_.loop4 n k (N+1)=bj_.step4 n k (bj_.loop4 n k N):=rfl
theorem aj_.turn3 {n N k}:aj_.loop3 n k (N+1)=aj_.step3 n k (aj_.loop3 n k N):=rfl
theorem bE_.turn7 {n N k}:bE_.loop7 n k (N+1)=bE_.step7 n k (bE_.loop7 n k N):=rfl
theorem bS_.turn8 {n N k}:bS_.loop8 n k (N+1)=bS_.step8 n k (bS_.loop8 n k N):=rfl
theorem aM_.turn6 {n N k}:aM_.loop6 n k (N+1)=aM_.step6 n k (aM_.loop6 n k N):=rfl
theorem am_.turn6 {n N k0 k1}:am_.loop6 n k0 k1 (N+1)=am_.step6 n k0 k1 (am_.loop6 n k0 k1 N):=rfl
end Go.Pi
end
section
namespace Go.Pi
def gL_ (p:Nat→Bool):Nat→Nat→Bool
 |0,_=>true
 |d+1,i=>p i&&gL_ p d (i+1)
def jB_ (p:Nat→Bool) (len:Nat):Bool:=gL_ p len 0
theorem dE_ (L:Nat→Nat→Nat→Option Bool) (p:Nat→Bool) {len:Nat} {v:Bool}
  (h:∀ i w,i<len→Ev (fun n N=>L n N (i+1)) w→Ev (fun n N=>L n (N+1) i) (p i&&w)) (h2:Ev (fun n N=>L n (N+1) len) v) :
  Ev (fun n _=>L n n 0) (jB_ p len&&v):=by
 have key:∀ d i,d+i=len→Ev (fun n N=>L n N i) (gL_ p d i&&v):=by
  intro d
  induction d with
  |zero=>intro i hd;obtain rfl:i=len:=by omega
         simpa [gL_] using cc_ (f:=fun n N=>L n N i) h2
  |succ d ih=>intro i hd
              have:=h i _ (by omega) (ih (i+1) (by omega))
              rw [←Bool.and_assoc] at this
              exact cc_ (f:=fun n N=>L n N i) this
 exact d4_ (f:=fun n N=>L n N 0) (key len 0 (by omega))
theorem du_ {α:Type} {f:Nat→Nat→Option α} {v w:α} (h:Ev f v) (e:v=w):Ev f w:=e ▸ h
def inn (x lo hi:Int):Bool:=decide (lo≤x)&&decide (x≤hi)
theorem cS_ {x lo hi:Int}:inn x lo hi=true↔lo≤x∧x≤hi:=by simp [inn]
theorem l1In_ev {x lo hi:Int}:Ev (fun n _=>bO_ n x lo hi) (inn x lo hi):=by
 refine aJ_ ?_
 simp only [bO_,aD_,ap_,inn]
 grind
theorem within_ev {x lo hi:Int}:Ev (fun n _=>aE_ n x lo hi) (inn x lo hi):=by
 refine aJ_ ?_
 simp only [aE_,aD_,ap_,inn]
 grind
section
variable {β:Type} {x lo hi:Int} {g:Nat→Nat→Bool→Option β} {v:β}
theorem e5_:Ev (fun n N=>(bO_ n x lo hi).bind (g n N)) v↔Ev (fun n N=>g n N (inn x lo hi)) v:=as_ l1In_ev
theorem de_:Ev (fun n N=>(aE_ n x lo hi).bind (g n N)) v↔Ev (fun n N=>g n N (inn x lo hi)) v:=as_ within_ev
theorem mo_:Ev (fun n N=>(a5_ n x).bind (g n N)) v↔Ev (fun n N=>g n N (inn x (-1000000000) 1000000000)) v :=
 as_ (aJ_ (by simp only [a5_,de_,ap_]))
end
theorem cw_ {i len:Nat} (h:i<len):decide ((i:Int)<(len:Int))=true:=by simp;omega
theorem bZ_ {len:Nat}:decide ((len:Int)<(len:Int))=false:=by simp
theorem cp_ {i len:Nat} (h:i<len):((0:Int)≤(i:Int)∧(i:Int)<(len:Int))↔True:=by simp;omega
end Go.Pi
end
section
namespace Go.Pi
abbrev cap:Nat:=1048576
def ic_ {α:Type} (f:α→Nat):List α→Nat
 |[]=>0
 |x::xs=>f x+ic_ f xs
def hk_ {α:Type} (f:α→Nat) (l:List α):Nat:=l.length+ic_ f l
def mk_ {α:Type} (P:α→Prop) (l:List α):Prop:=l.length≤bG_∧∀ x ∈ l,P x
def szI (_:Int):Nat:=0
def szB (s:Bs):Nat:=s.length
def lenI (_:Int):Prop:=True
def lenB (s:Bs):Prop:=s.length≤bG_
theorem sumL_drop {α:Type} (f:α→Nat) (d:α) {a:List α} {i:Nat} (h:i<a.length):ic_ f (a.drop i)=f (a.getD i d)+ic_ f (a.drop (i+1)):=by
 rw [dq_ d h];rfl
theorem l9_ {α:Type} (f:α→Nat) {a:List α} {x:α} (h:x ∈ a):f x≤ic_ f a:=by
 induction a with
 |nil=>cases h
 |cons y a ih=>
  simp only [ic_]
  rcases List.mem_cons.1 h with rfl|h
  · omega
  · have:=ih h;omega
theorem getD_put {α:Type} (d:α) {a:List α} {i:Nat} (h:i<a.length) (x:α):(a.set i x).getD i d=x:=by
 rw [List.getD_eq_getElem?_getD,List.getElem?_set_self h];rfl
end Go.Pi
end
section
namespace Go.Pi
theorem W_dn {i:Nat} (h:i≤bG_):W ((i:Int) - 1)=(i:Int) - 1:=by
 rw [W_id (by omega) (by simp only [bG_] at h;omega)]
theorem fn_ {i:Nat}:((i:Int) - 1).toNat=i - 1:=by omega
theorem dT_ {x lo hi:Int} (h:inn x lo hi=true):lo≤x∧x≤hi:=cS_.1 h
def eO_ {α:Type} (s:Nat→α→α) (v:α):Nat→Nat→α
 |0,_=>v
 |d+1,i=>s i (eO_ s v d (i+1))
theorem gG_ {α:Type} (L:Nat→Nat→Nat→Option α) (s:Nat→α→α) {len:Nat} {v:α}
  (h:∀ i w,i<len→Ev (fun n N=>L n N (i+1)) w→Ev (fun n N=>L n (N+1) i) (s i w)) (h2:Ev (fun n N=>L n (N+1) len) v) :
  Ev (fun n _=>L n n 0) (eO_ s v len 0):=by
 have key:∀ d i,d+i=len→Ev (fun n N=>L n N i) (eO_ s v d i):=by
  intro d
  induction d with
  |zero=>intro i hd;obtain rfl:i=len:=by omega
         exact cc_ (f:=fun n N=>L n N i) h2
  |succ d ih=>intro i hd
              exact cc_ (f:=fun n N=>L n N i) (h i _ (by omega) (ih (i+1) (by omega)))
 exact d4_ (f:=fun n N=>L n N 0) (key len 0 (by omega))
theorem ch_ {α:Type} {n b:Nat} {f:Nat→Nat→Option α} {v:α}:Ev (fun m N=>cl_ n b (f m N)) v↔n*b≤140737488355328∧Ev f v:=by
 unfold cl_
 rw [aD_]
 by_cases h:n*b≤140737488355328<;>simp [h,ej_]
theorem lH_ {α β γ:Type} (d:α) (a:List α) (f:α→β) (L:Nat→Nat→Nat→List β→Option γ) (v:γ)
  (h1:∀ i s,i<a.length→s.length=i→∀ F,Ev (fun n N=>L n N (i+1) (s++[f (a.getD i d)])) F→Ev (fun n N=>L n (N+1) i s) F)
  (h2:Ev (fun n N=>L n (N+1) a.length (a.map f)) v):Ev (fun n _=>L n n 0 []) v:=by
 have key:∀ j i,j+i=a.length→Ev (fun n N=>L n N i ((a.take i).map f)) v:=by
  intro j
  induction j with
  |zero=>
   intro i hi
   have:i=a.length:=by omega
   subst this
   rw [List.take_of_length_le (Nat.le_refl _)]
   exact cc_ h2
  |succ j ih=>
   intro i hi
   refine cc_ (h1 i _ (by omega) (by simp;omega) _ ?_)
   have:=ih (i+1) (by omega)
   rw [List.take_add_one,List.map_append] at this
   have e:a[i]?.toList=[a.getD i d]:=by
    rw [List.getD_eq_getElem?_getD,List.getElem?_eq_getElem (by omega)];rfl
   rw [e] at this
   exact this
 have:=key a.length 0 (by omega)
 exact d4_ (f:=fun n N=>L n N 0 []) this
abbrev cX_:Nat:=1073741824
theorem g9_ {α γ:Type} (S:Nat→α) (len:Nat) (L:Nat→Nat→Nat→α→Option γ) (v:γ)
  (h1:∀ i,i<len→∀ F,Ev (fun n N=>L n N (i+1) (S (i+1))) F→Ev (fun n N=>L n (N+1) i (S i)) F)
  (h2:Ev (fun n N=>L n (N+1) len (S len)) v):Ev (fun n _=>L n n 0 (S 0)) v:=by
 have key:∀ j i,j+i=len→Ev (fun n N=>L n N i (S i)) v:=by
  intro j
  induction j with
  |zero=>
   intro i hi
   have:i=len:=by omega
   subst this
   exact cc_ h2
  |succ j ih=>exact fun i hi=>cc_ (h1 i (by omega) _ (ih (i+1) (by omega)))
 exact d4_ (f:=fun n N=>L n N 0 (S 0)) (key len 0 (by omega))
theorem dm_ {α:Type} (d:α) {a:List α} {i:Nat} (h:i<a.length):a.take (i+1)=a.take i++[a.getD i d]:=by
 rw [List.take_add_one,List.getD_eq_getElem?_getD,List.getElem?_eq_getElem h];rfl
theorem eA_ {α:Type} (d:α) (P:α→Bool):∀ (rows:List α),eO_ (fun i (x:Int)=>cond (P (rows.getD i d)) (i:Int) x) (-1) rows.length 0=if rows.findIdx P<rows.length then (rows.findIdx P:Int) else -1:=by
 intro rows
 have key:∀ j i,j+i=rows.length→(∀ k,k<i→P (rows.getD k d)=false)→eO_ (fun i (x:Int)=>cond (P (rows.getD i d)) (i:Int) x) (-1) j i=if rows.findIdx P<rows.length then (rows.findIdx P:Int) else -1:=by
  intro j
  induction j with
  |zero=>
   intro i hi hk
   have:¬ rows.findIdx P<rows.length:=by
    intro h
    have h1:=List.findIdx_getElem (w:=h)
    have h2:=hk _ (show rows.findIdx P<i by omega)
    rw [List.getD_eq_getElem?_getD,List.getElem?_eq_getElem h] at h2
    simp only [Option.getD_some] at h2
    rw [h1] at h2;cases h2
   rw [if_neg this];rfl
  |succ j ih=>
   intro i hi hk
   simp only [eO_]
   cases hp:P (rows.getD i d) with
   |true=>
    have hlt:i<rows.length:=by omega
    rw [List.getD_eq_getElem?_getD,List.getElem?_eq_getElem hlt] at hp
    have e:rows.findIdx P=i:=by
     apply Nat.le_antisymm
     · exact Nat.le_of_not_lt fun h=>by have:=List.not_of_lt_findIdx h;rw [Option.getD_some] at hp;rw [hp] at this;cases this
     · exact Nat.le_of_not_lt fun h=>by
        have h2:=hk _ h
        have hl:rows.findIdx P<rows.length:=by omega
        rw [List.getD_eq_getElem?_getD,List.getElem?_eq_getElem hl] at h2
        rw [Option.getD_some,List.findIdx_getElem (w:=hl)] at h2;cases h2
    rw [e,if_pos hlt];rfl
   |false=>
    rw [cond_false]
    exact ih (i+1) (by omega) fun k hk'=>by
     by_cases e:k=i
     · subst e;exact hp
     · exact hk k (by omega)
 exact key rows.length 0 (by omega) fun k hk=>by omega
theorem kM_ {α:Type} {lo hi:Int} {len:Nat} {f:Nat→Nat→Option α} {v:α}:Ev (fun n N=>j6_ lo hi len (f n N)) v↔(0≤lo∧lo≤hi∧hi≤(len:Int))∧Ev f v:=by
 unfold j6_
 simp only [aD_,ej_]
 by_cases h1:0≤lo<;>by_cases h2:lo≤hi<;>by_cases h3:hi≤(len:Int)<;>simp [h1,h2,h3]
theorem cY_ {p:Nat→Bool} {len:Nat}:jB_ p len=true↔∀ i,i<len→p i=true:=by
 have key:∀ d i,d+i=len→(gL_ p d i=true↔∀ k,i≤k→k<len→p k=true):=by
  intro d
  induction d with
  |zero=>intro i hi;simp only [gL_,true_iff];intro k h1 h2;omega
  |succ d ih=>
   intro i hi
   simp only [gL_,Bool.and_eq_true,ih (i+1) (by omega)]
   constructor
   · rintro ⟨h1,h2⟩ k h3 h4
     by_cases e:k=i
     · subst e;exact h1
     · exact h2 k (by omega) h4
   · exact fun h=>⟨h i (Nat.le_refl _) (by omega),fun k h1 h2=>h k (by omega) h2⟩
 have:=key len 0 (by omega)
 unfold jB_
 rw [this]
 exact ⟨fun h i hi=>h i (Nat.zero_le _) hi,fun h i _ hi=>h i hi⟩
end Go.Pi
end
section
namespace Go.Pi
section
variable {α:Type}
structure LtOk (lt:α→α→Bool) (D:α→Prop):Prop where
 asym:∀ x y,D x→D y→lt x y=true→lt y x=false
 tr:∀ x y z,D x→D y→D z→lt y x=false→lt z y=false→lt z x=false
abbrev Srt (lt:α→α→Bool) (l:List α):Prop:=l.Pairwise fun x y=>lt y x=false
variable {lt:α→α→Bool} {D:α→Prop}
def ei_ (lt:α→α→Bool):List α→α→List α
 |[],x=>[x]
 |y::l,x=>cond (lt x y) (y::ei_ lt l x) (x::y::l)
theorem ft_:∀ (l:List α) (x:α),(ei_ lt l x).Perm (x::l)
 |[],x=>.refl _
 |y::l,x=>by
  unfold ei_
  cases lt x y
  · exact .refl _
  · exact ((ft_ l x).cons y).trans (.swap x y l)
theorem jV_ {l:List α} {x z:α} (h:z ∈ ei_ lt l x):z=x∨z ∈ l:=by
 have:=(ft_ (lt:=lt) l x).mem_iff.1 h
 simpa using this
theorem jU_ (ho:LtOk lt D):∀ (l:List α) (x:α),D x→(∀ y ∈ l,D y)→l.Pairwise (fun x y=>lt x y=false)→(ei_ lt l x).Pairwise (fun x y=>lt x y=false)
 |[],x,_,_,_=>by simp [ei_]
 |y::l,x,hx,hl,h=>by
  have hy:=hl y (List.mem_cons_self ..)
  have hl':=fun z hz=>hl z (List.mem_cons_of_mem _ hz)
  have h1:=List.pairwise_cons.1 h
  unfold ei_
  cases hc:lt x y
  · simp only [cond_false]
    refine List.pairwise_cons.2 ⟨fun z hz => ?_,h⟩
    rcases List.mem_cons.1 hz with rfl|hz
    · exact hc
    · exact ho.tr z y x (hl' z hz) hy hx (h1.1 z hz) hc
  · simp only [cond_true]
    refine List.pairwise_cons.2 ⟨fun z hz => ?_,jU_ ho l x hx hl' h1.2⟩
    rcases jV_ hz with rfl|hz
    · exact ho.asym z y hx hy hc
    · exact h1.1 z hz
theorem srt_rev {l:List α}:Srt lt l.reverse↔l.Pairwise (fun x y=>lt x y=false):=List.pairwise_reverse
theorem jH_ (ha:∀ x y,D x→D y→lt x y=false→lt y x=false→x=y) {l l':List α} (hp:l.Perm l') (hD:∀ x ∈ l,D x) (h:Srt lt l) (h':Srt lt l'):l=l':=by
 induction l generalizing l' with
 |nil=>exact (List.nil_perm.1 hp).symm ▸ rfl
 |cons x l ih=>
  cases l' with
  |nil=>exact absurd hp.length_eq (by simp)
  |cons y r=>
   have h1:=List.pairwise_cons.1 h
   have h2:=List.pairwise_cons.1 h'
   have hx:x=y:=by
    have hxm:x ∈ y::r:=hp.mem_iff.1 (List.mem_cons_self ..)
    have hym:y ∈ x::l:=hp.mem_iff.2 (List.mem_cons_self ..)
    rcases List.mem_cons.1 hxm with e|hxr
    · exact e
    · rcases List.mem_cons.1 hym with e|hyl
      · exact e.symm
      · exact ha x y (hD x (List.mem_cons_self ..)) (hD y hym) (h2.1 x hxr) (h1.1 y hyl)
   subst hx
   rw [ih (List.Perm.cons_inv hp) (fun z hz=>hD z (List.mem_cons_of_mem _ hz)) h1.2 h2.2]
inductive BlkS (lt:α→α→Bool) (k:Nat):List α→Prop
 |last {l}:Srt lt l→l.length≤k→BlkS lt k l
 |cons {B l}:Srt lt B→B.length=k→BlkS lt k l→BlkS lt k (B++l)
theorem BlkS.split {k:Nat} {l:List α} (h:BlkS lt k l) (hk:k<l.length):∃ B r,l=B++r∧Srt lt B∧B.length=k∧BlkS lt k r:=by
 cases h with
 |last _ h=>omega
 |cons a b c=>exact ⟨_,_,rfl,a,b,c⟩
theorem mb_ {U V:List α}:Srt lt (U++V)↔Srt lt U∧Srt lt V∧∀ x ∈ U,∀ y ∈ V,lt y x=false:=List.pairwise_append
end
end Go.Pi
end
section
namespace Go.Pi
section
variable {α γ:Type}
theorem getD_app_r {P:List α} {l:List α} {d:α} {i:Nat}:(P++l).getD (P.length+i) d=l.getD i d:=by
 rw [List.getD_eq_getElem?_getD,List.getD_eq_getElem?_getD,List.getElem?_append_right (by omega)];congr 2;omega
theorem set_app_r {P l:List α} {x:α} {i:Nat}:(P++l).set (P.length+i) x=P++l.set i x:=by
 rw [List.set_append_right _ _ (by omega)];congr 2;omega
end
end Go.Pi
end
section
namespace Go.Pi
section
variable {α:Type} {lt:α→α→Bool} {D:α→Prop}
theorem LtOk.irr (ho:LtOk lt D) {x:α} (hx:D x):lt x x=false:=by
 cases h:lt x x with
 |false=>rfl
 |true=>rw [ho.asym x x hx hx h] at h;cases h
theorem srt_get (ho:LtOk lt D) {l:List α} (d:α) (hD:∀ x ∈ l,D x) (h:Srt lt l) {i j:Nat} (hij:i≤j) (hj:j<l.length):lt (l.getD j d) (l.getD i d)=false:=by
 by_cases e:i=j
 · subst e;exact ho.irr (hD _ (bL_ d hj))
 · have hi:i<l.length:=by omega
   have:=List.pairwise_iff_getElem.1 h i j hi hj (by omega)
   rw [List.getD_eq_getElem?_getD,List.getD_eq_getElem?_getD,List.getElem?_eq_getElem hi,List.getElem?_eq_getElem hj]
   exact this
theorem ll_ {l:List α} (d:α) {k:Nat} {x:α} (h:x ∈ l.take k):∃ i,i<k∧i<l.length∧x=l.getD i d:=by
 obtain ⟨i,hi,e⟩:=List.mem_iff_getElem.1 h
 simp only [List.length_take] at hi
 refine ⟨i,by omega,by omega,?_⟩
 rw [List.getElem_take] at e
 rw [List.getD_eq_getElem?_getD,List.getElem?_eq_getElem (by omega),←e];rfl
theorem lm_ {l:List α} (d:α) {k:Nat} {x:α} (h:x ∈ l.drop k):∃ i,k≤i∧i<l.length∧x=l.getD i d:=by
 obtain ⟨i,hi,e⟩:=List.mem_iff_getElem.1 h
 simp only [List.length_drop] at hi
 refine ⟨k+i,by omega,by omega,?_⟩
 rw [List.getElem_drop] at e
 rw [List.getD_eq_getElem?_getD,List.getElem?_eq_getElem (by omega),←e];rfl
end
end Go.Pi
end
section
namespace Go.Pi
def ku_ (c:Nat) (q:ae_):Prop:=q.where_.length≤c∧q.show_.length≤c
def e0_ (c:Nat) (r:List TRow):Prop:=r.length≤c∧∀ x ∈ r,x.cells.length≤c
def kt_ (c:Nat) (v:bd_):Prop:=ku_ c v.q∧e0_ c v.rows∧v.kids.length≤c
end Go.Pi
end
section
namespace Go.Pi
end Go.Pi
end
section
namespace Go.Pi
section
variable {β:Type} {x lo hi:Int} {g:Nat→Nat→Bool→Option β} {v:β}
theorem fg_ {s:au_}:Ev (fun n N=>(cg_ n s x).bind (g n N)) v↔Ev (fun n N=>g n N (inn x 0 (W ((s.cols.length:Int) - 1)))) v :=
 as_ (aJ_ (by simp only [cg_,de_,ap_]))
theorem mm_:Ev (fun n N=>(cJ_ n x).bind (g n N)) v↔Ev (fun n N=>g n N (inn x 0 100000)) v :=
 as_ (aJ_ (by simp only [cJ_,de_,ap_]))
end
def cy_ (s:au_):Bool:=jB_ (fun i=>inn (s.cols.getD i 0) 1 4) s.cols.length&&inn s.cols.length 1 3
theorem fG_ {s:au_} (hs:s.cols.length≤bG_):Ev (fun n _=>aW_ n s) (cy_ s):=by
 refine aJ_ ?_
 simp only [aW_]
 refine dE_ (fun n N i=>aW_.loop3 n _ N (i:Int) s.cols) _ (fun i w hi ih => ?_) ?_
 · simp only [aW_.turn3,aW_.step3,Int.toNat_natCast,aD_,bA_,e5_,ap_,W_up hi hs,cF_ ih,cw_ hi,cp_ hi]
   grind
 · simp only [aW_.turn3,aW_.step3,bZ_,cond_false,e5_,ap_]
theorem hW_ {s:au_} (hs:s.cols.length≤bG_):Ev (fun n _=>aX_ n s) (cy_ s):=by
 refine aJ_ ?_
 simp only [aX_]
 refine dE_ (fun n N i=>aX_.loop3 n _ N s.cols (s.cols.length:Int) (i:Int) s.cols) _ (fun i w hi ih => ?_) ?_
 · simp only [aX_.turn3,aX_.step3,Int.toNat_natCast,aD_,bA_,de_,ap_,W_up hi hs,cF_ ih,cw_ hi,cp_ hi]
   grind
 · simp only [aX_.turn3,aX_.step3,bZ_,cond_false,de_,ap_]
end Go.Pi
end
section
namespace Go.Pi
def nL_ (w:Int) (c:List aY_):Bool:=jB_ (fun i=>inn (c.getD i aY_.dflt).col 0 (W (w - 1))&&(inn (c.getD i aY_.dflt).op 1 4&&inn (c.getD i aY_.dflt).v (-1000000000) 1000000000)) c.length
def FShow (w:Int) (s:List Int):Bool:=jB_ (fun i=>inn (s.getD i 0) 0 (W (w - 1))&&(decide (i=0)||decide (s.getD (i - 1) 0<s.getD i 0))) s.length
def kX_ (s:au_) (q:ae_):Bool:=cond q.kids (inn q.kidTable 0 (W ((s.cols.length:Int) - 1))&&inn q.kidCol 0 (W ((s.cols.getD q.kidTable.toNat 0) - 1))) ((q.kidTable == 0)&&(q.kidCol == 0))
def dX_ (s:au_) (q:ae_):Bool:=cy_ s&&(inn q.table 0 (W ((s.cols.length:Int) - 1))&&(decide (q.where_.length≤3)&&(nL_ (s.cols.getD q.table.toNat 0) q.where_&&(FShow (s.cols.getD q.table.toNat 0) q.show_ &&
 (inn q.order 0 (s.cols.getD q.table.toNat 0)&&(inn q.first 0 24&&(!((q.order == 0)&&q.down)&&kX_ s q)))))))
section
variable {w:Int} {cols sh:List Int} {wh:List aY_} {t o f kt kc:Int} {d ks v:Bool}
theorem gR_ {k:Nat→aF_.K7} (hl:wh.length≤bG_) (hk:Ev (fun n N=>k n w cols t wh o d f sh ks kt kc) v) :
  Ev (fun n _=>aF_.loop7 n (k n) n w 0 cols t wh o d f sh ks kt kc) (nL_ w wh&&v):=by
 refine dE_ (fun n N i=>aF_.loop7 n (k n) N w (i:Int) cols t wh o d f sh ks kt kc) _ (fun i u hi ih => ?_) ?_
 · simp only [aF_.turn7,aF_.step7,Int.toNat_natCast,W_up hi hl,aD_,bA_,e5_,ap_,cF_ ih,cw_ hi,cp_ hi]
   clear ih hk
   repeat' (first|apply And.intro|intro _)
   all_goals (try rw [Bool.eq_iff_iff])
   all_goals (try simp only [Bool.not_eq_true',Bool.not_eq_false',decide_eq_true_eq,decide_eq_false_iff_not,beq_iff_eq,beq_eq_false_iff_ne,Bool.and_eq_true,Bool.or_eq_true,Bool.and_eq_false_iff,Bool.or_eq_false_iff] at *)
   all_goals grind
 · simp only [aF_.turn7,aF_.step7,bZ_,cond_false]
   exact hk
theorem gw_ {k:Nat→aF_.K16} (hl:sh.length≤bG_) (hk:Ev (fun n N=>k n w cols t wh o d f sh ks kt kc) v) :
  Ev (fun n _=>aF_.loop16 n (k n) n w 0 cols t wh o d f sh ks kt kc) (FShow w sh&&v):=by
 refine dE_ (fun n N i=>aF_.loop16 n (k n) N w (i:Int) cols t wh o d f sh ks kt kc) _ (fun i u hi ih => ?_) ?_
 · simp only [aF_.turn16,aF_.step16,Int.toNat_natCast,W_up hi hl,W_dn (i:=i) (by omega),fn_,aD_,bA_,e5_,ap_,cF_ ih,cw_ hi,cp_ hi]
   clear ih hk
   repeat' (first|apply And.intro|intro _)
   all_goals (try rw [Bool.eq_iff_iff])
   all_goals (try simp only [Bool.not_eq_true',Bool.not_eq_false',decide_eq_true_eq,decide_eq_false_iff_not,beq_iff_eq,beq_eq_false_iff_ne,Bool.and_eq_true,Bool.or_eq_true,Bool.and_eq_false_iff,Bool.or_eq_false_iff] at *)
   all_goals grind
 · simp only [aF_.turn16,aF_.step16,bZ_,cond_false]
   exact hk
theorem g6_ {k:Nat→aB_.K7} (hl:wh.length≤bG_) (hk:Ev (fun n N=>k n w cols t wh o d f sh ks kt kc) v) :
  Ev (fun n _=>aB_.loop7 n (k n) n w wh (wh.length:Int) 0 cols t wh o d f sh ks kt kc) (nL_ w wh&&v):=by
 refine dE_ (fun n N i=>aB_.loop7 n (k n) N w wh (wh.length:Int) (i:Int) cols t wh o d f sh ks kt kc) _ (fun i u hi ih => ?_) ?_
 · simp only [aB_.turn7,aB_.step7,Int.toNat_natCast,W_up hi hl,aD_,bA_,de_,mo_,ap_,cF_ ih,cw_ hi,cp_ hi]
   clear ih hk
   repeat' (first|apply And.intro|intro _)
   all_goals (try rw [Bool.eq_iff_iff])
   all_goals (try simp only [Bool.not_eq_true',Bool.not_eq_false',decide_eq_true_eq,decide_eq_false_iff_not,beq_iff_eq,beq_eq_false_iff_ne,Bool.and_eq_true,Bool.or_eq_true,Bool.and_eq_false_iff,Bool.or_eq_false_iff] at *)
   all_goals grind
 · simp only [aB_.turn7,aB_.step7,bZ_,cond_false]
   exact hk
theorem gE_ {k:Nat→aB_.K16} (hl:sh.length≤bG_) (hk:Ev (fun n N=>k n w cols t wh o d f sh ks kt kc) v) :
  Ev (fun n _=>aB_.loop16 n (k n) n w sh (sh.length:Int) 0 cols t wh o d f sh ks kt kc) (FShow w sh&&v):=by
 refine dE_ (fun n N i=>aB_.loop16 n (k n) N w sh (sh.length:Int) (i:Int) cols t wh o d f sh ks kt kc) _ (fun i u hi ih => ?_) ?_
 · simp only [aB_.turn16,aB_.step16,Int.toNat_natCast,W_up hi hl,W_dn (i:=i) (by omega),fn_,aD_,bA_,de_,ap_,cF_ ih,cw_ hi,cp_ hi]
   clear ih hk
   repeat' (first|apply And.intro|intro _)
   all_goals (try rw [Bool.eq_iff_iff])
   all_goals (try simp only [Bool.not_eq_true',Bool.not_eq_false',decide_eq_true_eq,decide_eq_false_iff_not,beq_iff_eq,beq_eq_false_iff_ne,Bool.and_eq_true,Bool.or_eq_true,Bool.and_eq_false_iff,Bool.or_eq_false_iff] at *)
   all_goals grind
 · simp only [aB_.turn16,aB_.step16,bZ_,cond_false]
   exact hk
end
theorem dI_ {β:Type} {s:au_} (hs:s.cols.length≤bG_) {g:Nat→Nat→Bool→Option β} {v:β}:Ev (fun n N=>(aW_ n s).bind (g n N)) v↔Ev (fun n N=>g n N (cy_ s)) v:=as_ (fG_ hs)
theorem dM_ {β:Type} {s:au_} (hs:s.cols.length≤bG_) {g:Nat→Nat→Bool→Option β} {v:β}:Ev (fun n N=>(aX_ n s).bind (g n N)) v↔Ev (fun n N=>g n N (cy_ s)) v:=as_ (hW_ hs)
theorem nZ_ {s:au_} {q:ae_} (hs:s.cols.length≤bG_):Ev (fun n _=>c2_ n s q) (kX_ s q):=by
 refine aJ_ ?_
 simp only [c2_,aD_,fg_,bA_,de_,ap_,kX_]
 have e:=@W_dn s.cols.length hs
 rw [e]
 repeat' (first|apply And.intro|intro _)
 all_goals (try rw [Bool.eq_iff_iff])
 all_goals (try simp only [inn,cond_true,cond_false,Bool.not_eq_true',Bool.not_eq_false',decide_eq_true_eq,decide_eq_false_iff_not,beq_iff_eq,beq_eq_false_iff_ne,Bool.and_eq_true,Bool.or_eq_true,Bool.and_eq_false_iff,Bool.or_eq_false_iff] at *)
 all_goals grind
theorem fO_ {s:au_} {q:ae_} (hs:s.cols.length≤bG_) (hq:ku_ bG_ q):Ev (fun n _=>aF_ n s q) (dX_ s q):=by
 refine aJ_ ?_
 have e:=@W_dn s.cols.length hs
 simp only [aF_,dI_ hs,e5_,aD_,bA_,ap_]
 refine ⟨fun h=>by simp at h;simp [dX_,h],fun h1=>⟨fun h=>by simp at h;simp [dX_,h],fun h2=>⟨fun h=>by simp at h;simp [dX_];grind,fun h3=>⟨by simp at h2;have:=dT_ h2;omega,?_⟩⟩⟩⟩
 refine du_ (gR_ (k:=fun n=>_) hq.1 (gw_ (k:=fun n=>_) (v:=inn q.order 0 (s.cols.getD q.table.toNat 0)&&(inn q.first 0 24&&(!((q.order == 0)&&q.down)&&kX_ s q))) hq.2 ?_)) ?_
 · simp only [e5_,aD_,bA_,ap_,kX_]
   repeat' (first|apply And.intro|intro _)
   all_goals (try rw [Bool.eq_iff_iff])
   all_goals (try simp only [inn,cond_true,cond_false,Bool.not_eq_true',Bool.not_eq_false',decide_eq_true_eq,decide_eq_false_iff_not,beq_iff_eq,beq_eq_false_iff_ne,Bool.and_eq_true,Bool.or_eq_true,Bool.and_eq_false_iff,Bool.or_eq_false_iff] at *)
   all_goals grind
 · simp [dX_];grind
theorem dN_ {s:au_} {q:ae_} (hs:s.cols.length≤bG_) (hq:ku_ bG_ q):Ev (fun n _=>aB_ n s q) (dX_ s q):=by
 refine aJ_ ?_
 have e:=@W_dn s.cols.length hs
 simp only [aB_,dM_ hs,fg_,aD_,bA_,ap_]
 refine ⟨fun h=>by simp at h;simp [dX_,h],fun h1=>⟨fun h=>by simp at h;simp [dX_,h],fun h2=>⟨by simp at h2;have:=dT_ h2;omega,?_⟩⟩⟩
 refine du_ (g6_ (k:=fun n=>_) hq.1 (gE_ (k:=fun n=>_) (v:=inn q.order 0 (s.cols.getD q.table.toNat 0)&&(decide (q.where_.length≤3)&&(inn q.first 0 24&&(!((q.order == 0)&&q.down)&&kX_ s q)))) hq.2 ?_)) ?_
 · simp only [de_,as_ (nZ_ (s:=s) (q:=q) hs),aD_,bA_,ap_]
   repeat' (first|apply And.intro|intro _)
   all_goals (try rw [Bool.eq_iff_iff])
   all_goals (try simp only [inn,cond_true,cond_false,Bool.not_eq_true',Bool.not_eq_false',decide_eq_true_eq,decide_eq_false_iff_not,beq_iff_eq,beq_eq_false_iff_ne,Bool.and_eq_true,Bool.or_eq_true,Bool.and_eq_false_iff,Bool.or_eq_false_iff] at *)
   all_goals grind
 · simp [dX_];grind
end Go.Pi
end
section
namespace Go.Pi
def dD_ (r:TRow) (col:Int):Int:=cond (inn col 0 (W ((r.cells.length:Int) - 1))) (r.cells.getD col.toNat 0) 0
theorem gq_ {r:TRow} {col:Int} (hr:r.cells.length≤bG_):Ev (fun n _=>dj_ n r col) (dD_ r col):=by
 refine aJ_ ?_
 have e:=@W_dn r.cells.length hr
 simp only [dj_,e5_,aD_,bA_,ap_,dD_]
 cases hi:inn col 0 (W ((r.cells.length:Int) - 1)) with
 |false=>simp
 |true=>have:=dT_ hi;exact ⟨fun h=>(by cases h),fun _=>⟨by omega,rfl⟩⟩
theorem f0_ {r:TRow} {col:Int} (hr:r.cells.length≤bG_):Ev (fun n _=>bn_ n r col) (dD_ r col):=by
 refine aJ_ ?_
 have e:=@W_dn r.cells.length hr
 simp only [bn_,de_,aD_,bA_,ap_,dD_]
 cases hi:inn col 0 (W ((r.cells.length:Int) - 1)) with
 |false=>simp
 |true=>have:=dT_ hi;exact ⟨fun h=>(by cases h),fun _=>⟨by omega,rfl⟩⟩
theorem dC_ {rows:List TRow} (hr:e0_ bG_ rows) (i:Nat):(rows.getD i TRow.dflt).cells.length≤bG_:=by
 by_cases h:i<rows.length
 · exact hr.2 _ (bL_ _ h)
 · rw [List.getD_eq_getElem?_getD,List.getElem?_eq_none (by omega)];exact Nat.zero_le _
end Go.Pi
end
section
namespace Go.Pi
def l2_ (c:List Int):Bool:=jB_ (fun i=>inn (c.getD i 0) (-1000000000) 1000000000) c.length
def FRow (s:au_) (t:Int) (r:TRow):Bool:=cy_ s&&(inn t 0 (W ((s.cols.length:Int) - 1))&&(inn r.id_ 1 999&&(decide ((r.cells.length:Int)=s.cols.getD t.toNat 0)&&l2_ r.cells)))
theorem gQ_ {s:au_} {t:Int} {r:TRow} (hs:s.cols.length≤bG_) (hr:r.cells.length≤bG_):Ev (fun n _=>bJ_ n s t r) (FRow s t r):=by
 refine aJ_ ?_
 have e:=@W_dn s.cols.length hs
 have hl:Ev (fun n _=>bJ_.loop6 n (some true) n 0 r.id_ r.cells) (l2_ r.cells&&true):=by
  refine dE_ (fun n N i=>bJ_.loop6 n (some true) N (i:Int) r.id_ r.cells) _ (fun i u hi ih => ?_) ?_
  · simp only [bJ_.turn6,bJ_.step6,Int.toNat_natCast,W_up hi hr,aD_,bA_,e5_,ap_,cF_ ih,cw_ hi,cp_ hi]
    clear ih
    grind
  · simp only [bJ_.turn6,bJ_.step6,bZ_,cond_false,ap_]
 simp only [bJ_,dI_ hs,e5_,aD_,bA_,ap_,cF_ hl]
 clear hl
 repeat' (first|apply And.intro|intro _)
 all_goals (try rw [Bool.eq_iff_iff])
 all_goals (try simp only [FRow,inn,bne_iff_ne,bne_eq_false_iff_eq,Bool.not_eq_true',Bool.not_eq_false',decide_eq_true_eq,decide_eq_false_iff_not,beq_iff_eq,beq_eq_false_iff_ne,Bool.and_eq_true,Bool.or_eq_true,Bool.and_eq_false_iff,Bool.or_eq_false_iff] at *)
 all_goals grind
theorem fv_ {s:au_} {t:Int} {r:TRow} (hs:s.cols.length≤bG_) (hr:r.cells.length≤bG_):Ev (fun n _=>bz_ n s t r) (FRow s t r):=by
 refine aJ_ ?_
 have e:=@W_dn s.cols.length hs
 simp only [bz_]
 have hl:∀ {k:Nat→bz_.K3} {v:Bool},Ev (fun n N=>k n t s.cols r.id_ r.cells) v→Ev (fun n _=>bz_.loop3 n (k n) n t r.cells (r.cells.length:Int) 0 s.cols r.id_ r.cells) (l2_ r.cells&&v):=by
  intro k v hk
  refine dE_ (fun n N i=>bz_.loop3 n (k n) N t r.cells (r.cells.length:Int) (i:Int) s.cols r.id_ r.cells) _ (fun i u hi ih => ?_) ?_
  · simp only [bz_.turn3,bz_.step3,Int.toNat_natCast,W_up hi hr,aD_,bA_,mo_,ap_,cF_ ih,cw_ hi,cp_ hi]
    clear ih hk
    grind
  · simp only [bz_.turn3,bz_.step3,bZ_,cond_false]
    exact hk
 refine du_ (hl (k:=fun n=>_) (v:=cy_ s&&(inn t 0 (W ((s.cols.length:Int) - 1))&&(decide ((r.cells.length:Int)=s.cols.getD t.toNat 0)&&inn r.id_ 1 999))) ?_) ?_
 · have hS:∀ {g:Nat→Nat→Bool→Option Bool} {v:Bool},Ev (fun n N=>(aX_ n (au_.mk s.cols)).bind (g n N)) v↔Ev (fun n N=>g n N (cy_ s)) v:=dM_ hs
   simp only [hS,fg_,de_,aD_,bA_,ap_]
   clear hl hS
   repeat' (first|apply And.intro|intro _)
   all_goals (try rw [Bool.eq_iff_iff])
   all_goals (try simp only [inn,bne_iff_ne,bne_eq_false_iff_eq,Bool.not_eq_true',Bool.not_eq_false',decide_eq_true_eq,decide_eq_false_iff_not,beq_iff_eq,beq_eq_false_iff_ne,Bool.and_eq_true,Bool.or_eq_true,Bool.and_eq_false_iff,Bool.or_eq_false_iff] at *)
   all_goals grind
 · clear hl;rw [Bool.eq_iff_iff];simp only [FRow,Bool.and_eq_true];grind
def hh_ (c:aY_) (r:TRow):Bool:=inn c.col 0 (W ((r.cells.length:Int) - 1))&&(cond (c.op == 1) (r.cells.getD c.col.toNat 0 == c.v) (cond (c.op == 2) (decide (r.cells.getD c.col.toNat 0<c.v)) (cond (c.op == 3) (decide (r.cells.getD c.col.toNat 0 > c.v)) (cond (c.op == 4) (r.cells.getD c.col.toNat 0 != c.v) false))))
theorem ig_ {c:aY_} {r:TRow} (hr:r.cells.length≤bG_):Ev (fun n _=>c0_ n c r) (hh_ c r):=by
 refine aJ_ ?_
 have e:=@W_dn r.cells.length hr
 simp only [c0_,e5_,aD_,bA_,ap_,hh_]
 repeat' (first|apply And.intro|intro _)
 all_goals (try simp only [inn,Bool.not_eq_true',Bool.not_eq_false',decide_eq_true_eq,decide_eq_false_iff_not,Bool.and_eq_true,Bool.and_eq_false_iff] at *)
 all_goals simp_all
 all_goals omega
theorem holds_ev {c:aY_} {r:TRow} (hr:r.cells.length≤bG_):Ev (fun n _=>impl_holds n c r) (hh_ c r):=by
 refine aJ_ ?_
 have e:=@W_dn r.cells.length hr
 simp only [impl_holds,de_,aD_,bA_,ap_,hh_]
 repeat' (first|apply And.intro|intro _)
 all_goals (try simp only [inn,Bool.not_eq_true',Bool.not_eq_false',decide_eq_true_eq,decide_eq_false_iff_not,Bool.and_eq_true,Bool.and_eq_false_iff] at *)
 all_goals simp_all
 all_goals omega
def cj_ (q:ae_) (r:TRow):Bool:=jB_ (fun i=>hh_ (q.where_.getD i aY_.dflt) r) q.where_.length
theorem ii_ {q:ae_} {r:TRow} (hq:q.where_.length≤bG_) (hr:r.cells.length≤bG_):Ev (fun n _=>br_ n q r) (cj_ q r):=by
 refine aJ_ ?_
 simp only [br_]
 have hH:∀ (c:aY_) (g:Nat→Nat→Bool→Option Bool) (v:Bool),Ev (fun n N=>(c0_ n c (TRow.mk r.id_ r.cells)).bind (g n N)) v↔Ev (fun n N=>g n N (hh_ c r)) v:=fun c g v=>as_ (ig_ hr)
 refine du_ (dE_ (fun n N i=>br_.loop3 n (some true) N (i:Int) q.table q.where_ q.order q.down q.first q.show_ q.kids q.kidTable q.kidCol r.id_ r.cells) (fun i=>hh_ (q.where_.getD i aY_.dflt) r) (len:=q.where_.length) (v:=true) (fun i u hi ih => ?_) ?_) (by rw [Bool.and_true];rfl)
 · simp only [br_.turn3,br_.step3,Int.toNat_natCast,W_up hi hq,aD_,bA_,hH,ap_,cF_ ih,cw_ hi,cp_ hi]
   clear ih hH
   grind
 · simp only [br_.turn3,br_.step3,bZ_,cond_false,ap_]
theorem eT_ {q:ae_} {r:TRow} (hq:q.where_.length≤bG_) (hr:r.cells.length≤bG_):Ev (fun n _=>bk_ n q r) (cj_ q r):=by
 refine aJ_ ?_
 simp only [bk_]
 have hH:∀ (c:aY_) (g:Nat→Nat→Bool→Option Bool) (v:Bool),Ev (fun n N=>(impl_holds n c (TRow.mk r.id_ r.cells)).bind (g n N)) v↔Ev (fun n N=>g n N (hh_ c r)) v:=fun c g v=>as_ (holds_ev hr)
 refine du_ (dE_ (fun n N i=>bk_.loop3 n (some true) N q.where_ (q.where_.length:Int) (i:Int) r.id_ r.cells) (fun i=>hh_ (q.where_.getD i aY_.dflt) r) (len:=q.where_.length) (v:=true) (fun i u hi ih => ?_) ?_) (by rw [Bool.and_true];rfl)
 · simp only [bk_.turn3,bk_.step3,Int.toNat_natCast,W_up hi hq,aD_,bA_,hH,ap_,cF_ ih,cw_ hi,cp_ hi]
   clear ih hH
   grind
 · simp only [bk_.turn3,bk_.step3,bZ_,cond_false,ap_]
def ca_ (rows:List TRow) (id:Int):Int:=eO_ (fun i x=>cond ((rows.getD i TRow.dflt).id_ == id) (i:Int) x) (-1) rows.length 0
theorem fo_ {rows:List TRow} {id:Int} (hr:rows.length≤bG_):Ev (fun n _=>bI_ n rows id) (ca_ rows id):=by
 refine aJ_ ?_
 simp only [bI_]
 refine gG_ (fun n N i=>bI_.loop3 n (some (-1)) N rows id (i:Int)) _ (fun i u hi ih => ?_) ?_
 · simp only [bI_.turn3,bI_.step3,Int.toNat_natCast,W_up hi hr,aD_,bA_,ap_,cF_ ih,cw_ hi,cp_ hi]
   clear ih
   grind
 · simp only [bI_.turn3,bI_.step3,bZ_,cond_false,ap_]
theorem eN_ {rows:List TRow} {id:Int} (hr:rows.length≤bG_):Ev (fun n _=>c4_ n rows id) (ca_ rows id):=by
 have hf:∀ r,Ev (fun n _=>cU_ n r id) (r.id_ == id):=fun r=>aJ_ (by simp only [cU_,ap_])
 have h:Ev (fun n _=>ak_ n rows id) (ca_ rows id):=by
  refine aJ_ ?_
  simp only [ak_]
  refine gG_ (fun n N i=>ak_.loop3 n (some (-1)) N rows id (rows.length:Int) (i:Int)) _ (fun i u hi ih => ?_) ?_
  · simp only [ak_.turn3,ak_.step3,Int.toNat_natCast,W_up hi hr,aD_,bA_,as_ (hf _),ap_,cF_ ih,cw_ hi,cp_ hi]
    clear ih
    grind
  · simp only [ak_.turn3,ak_.step3,bZ_,cond_false,ap_]
 exact aJ_ (by simp only [c4_,as_ h,ap_])
def bB_ (q:ae_) (a b:TRow):Bool:=cond (q.order == 0) (decide (a.id_<b.id_)) (cond (dD_ a (W (q.order - 1)) == dD_ b (W (q.order - 1))) (decide (a.id_<b.id_)) (cond q.down (decide (dD_ a (W (q.order - 1)) > dD_ b (W (q.order - 1)))) (decide (dD_ a (W (q.order - 1))<dD_ b (W (q.order - 1))))))
theorem kh_ {q:ae_} {a b:TRow} (ha:a.cells.length≤bG_) (hb:b.cells.length≤bG_):Ev (fun n _=>dB_ n q a b) (bB_ q a b):=by
 refine aJ_ ?_
 simp only [dB_,as_ (gq_ ha),as_ (gq_ hb),aD_,ap_,bB_]
 generalize dD_ a (W (q.order - 1))=x
 generalize dD_ b (W (q.order - 1))=y
 cases hd:q.down<;>grind
theorem fw_ {q:ae_} {a b:TRow} (ha:a.cells.length≤bG_) (hb:b.cells.length≤bG_):Ev (fun n _=>dp_ n q a b) (bB_ q a b):=by
 refine aJ_ ?_
 simp only [dp_,as_ (f0_ ha),as_ (f0_ hb),aD_,ap_,bB_]
 generalize dD_ a (W (q.order - 1))=x
 generalize dD_ b (W (q.order - 1))=y
 cases hd:q.down<;>grind
def mT_ (s:au_) (q:ae_) (rows:List TRow):Bool:=jB_ (fun i=>FRow s q.table (rows.getD i TRow.dflt)&&(cj_ q (rows.getD i TRow.dflt)&&(decide (ca_ rows (rows.getD i TRow.dflt).id_=(i:Int))&&(decide (i=0)||bB_ q (rows.getD (i - 1) TRow.dflt) (rows.getD i TRow.dflt))))) rows.length
def gl_ (kids:List TKid):Bool:=jB_ (fun i=>inn (kids.getD i TKid.dflt).n_ 1 24&&(decide (i=0)||decide ((kids.getD (i - 1) TKid.dflt).id_<(kids.getD i TKid.dflt).id_))) kids.length
def lX_ (s:au_) (v:bd_):Bool:=dX_ s v.q&&(decide (v.rows.length≤24)&&(mT_ s v.q v.rows&&(gl_ v.kids&&(decide (v.kids.length=0)||v.q.kids))))
section
variable {cols sh:List Int} {wh:List aY_} {t o f kt kc:Int} {d ks v:Bool} {rows:List TRow} {kids:List TKid}
theorem ff_ {k:Nat→aO_.K6} (hs:cols.length≤bG_) (hw:wh.length≤bG_) (hr:e0_ bG_ rows) (hk:Ev (fun n N=>k n t wh o d f sh ks kt kc rows kids) v) :
  Ev (fun n _=>aO_.loop6 n (k n) n rows (rows.length:Int) 0 cols t wh o d f sh ks kt kc rows kids) (mT_ (au_.mk cols) (ae_.mk t wh o d f sh ks kt kc) rows&&v):=by
 refine dE_ (fun n N i=>aO_.loop6 n (k n) N rows (rows.length:Int) (i:Int) cols t wh o d f sh ks kt kc rows kids) _ (fun i u hi ih => ?_) ?_
 · simp only [aO_.turn6,aO_.step6,Int.toNat_natCast,W_up hi hr.1,W_dn (i:=i) (by have:=hr.1;omega),fn_,aD_,bA_,as_ (fv_ (s:=au_.mk cols) (t:=t) hs (dC_ hr i)),
    as_ (eT_ (q:=ae_.mk t wh o d f sh ks kt kc) hw (dC_ hr i)),as_ (eN_ hr.1),as_ (fw_ (dC_ hr (i - 1)) (dC_ hr i)),ap_,cF_ ih,cw_ hi,cp_ hi]
   clear ih hk
   generalize rows.getD i TRow.dflt=x
   generalize rows.getD (i - 1) TRow.dflt=y
   repeat' (first|apply And.intro|intro _)
   all_goals (try rw [Bool.eq_iff_iff])
   all_goals (try simp only [bne_iff_ne,bne_eq_false_iff_eq,ne_eq,Bool.not_eq_true',Bool.not_eq_false',decide_eq_true_eq,decide_eq_false_iff_not,beq_iff_eq,beq_eq_false_iff_ne,Bool.and_eq_true,Bool.or_eq_true,Bool.and_eq_false_iff,Bool.or_eq_false_iff] at *)
   all_goals grind
 · simp only [aO_.turn6,aO_.step6,bZ_,cond_false]
   exact hk
theorem e6_ (hr:kids.length≤bG_) :
  Ev (fun n _=>aO_.loop15 n (some true) n kids (kids.length:Int) 0 t wh o d f sh ks kt kc rows kids) (gl_ kids):=by
 refine du_ (dE_ (fun n N i=>aO_.loop15 n (some true) N kids (kids.length:Int) (i:Int) t wh o d f sh ks kt kc rows kids) _ (v:=true) (fun i u hi ih => ?_) ?_) (Bool.and_true _)
 · simp only [aO_.turn15,aO_.step15,Int.toNat_natCast,W_up hi hr,W_dn (i:=i) (by omega),fn_,aD_,bA_,de_,ap_,cF_ ih,cw_ hi,cp_ hi]
   clear ih
   repeat' (first|apply And.intro|intro _)
   all_goals (try rw [Bool.eq_iff_iff])
   all_goals (try simp only [Bool.not_eq_true',Bool.not_eq_false',decide_eq_true_eq,decide_eq_false_iff_not,beq_iff_eq,beq_eq_false_iff_ne,Bool.and_eq_true,Bool.or_eq_true,Bool.and_eq_false_iff,Bool.or_eq_false_iff] at *)
   all_goals grind
 · simp only [aO_.turn15,aO_.step15,bZ_,cond_false,ap_]
end
theorem jt_ {s:au_} {x:bd_} (hs:s.cols.length≤bG_) (hx:kt_ bG_ x):Ev (fun n _=>aO_ n s x) (lX_ s x):=by
 refine aJ_ ?_
 simp only [aO_,as_ (dN_ hs hx.1),aD_,ap_]
 refine ⟨fun h=>by simp at h;simp [lX_,h],fun h1=>⟨fun h => ?_,fun h2 => ?_⟩⟩
 · simp only [decide_eq_true_eq] at h;have:¬ x.rows.length≤24:=by omega
   simp [lX_,this]
 have h2:x.rows.length≤24:=by simp at h2;omega
 simp only [Bool.not_eq_false'] at h1
 have e:∀ {b:Bool},b=true→(mT_ (au_.mk s.cols) (ae_.mk x.q.table x.q.where_ x.q.order x.q.down x.q.first x.q.show_ x.q.kids x.q.kidTable x.q.kidCol) x.rows&&gl_ x.kids)=(mT_ s x.q x.rows&&(gl_ x.kids&&b)):=by
  rintro b rfl;rw [Bool.and_true]
 refine ⟨fun h3=>⟨fun h => ?_,fun h => ?_⟩,fun h3 => ?_⟩
 · simp only [decide_eq_true_eq] at h3;have:¬ x.kids.length=0:=by omega
   simp only [Bool.not_eq_true'] at h
   simp [lX_,this,h]
 · refine du_ (ff_ (k:=fun n=>_) hs hx.1.1 hx.2.1 (e6_ hx.2.2)) ?_
   simp only [Bool.not_eq_false'] at h
   simp only [lX_,h1,decide_eq_true h2,Bool.true_and]
   exact e (by simp [h])
 · refine du_ (ff_ (k:=fun n=>_) hs hx.1.1 hx.2.1 (e6_ hx.2.2)) ?_
   simp only [lX_,h1,decide_eq_true h2,Bool.true_and]
   exact e (by simp at h3;simp [h3])
end Go.Pi
end
section
namespace Go.Pi
def keyOf (q:ae_) (r:TRow):Int:=cond (q.order == 0) 0 (cond q.down (- dD_ r (W (q.order - 1))) (dD_ r (W (q.order - 1))))
theorem he_ (q:ae_) (a b:TRow):bB_ q a b=decide (keyOf q a<keyOf q b∨(keyOf q a=keyOf q b∧a.id_<b.id_)):=by
 unfold bB_ keyOf
 generalize dD_ a (W (q.order - 1))=x
 generalize dD_ b (W (q.order - 1))=y
 cases q.order == 0
 · cases q.down
   · simp only [cond_false]
     by_cases h:x=y
     · subst h;simp
     · rw [beq_eq_false_iff_ne.2 h,cond_false,decide_eq_decide];omega
   · simp only [cond_false,cond_true]
     by_cases h:x=y
     · subst h;simp
     · rw [beq_eq_false_iff_ne.2 h,cond_false,decide_eq_decide];omega
 · simp
theorem kT_ (q:ae_):LtOk (bB_ q) fun _=>True where
 asym x y _ _ h:=by
  rw [he_,decide_eq_true_eq] at h
  rw [he_,decide_eq_false_iff_not];omega
 tr x y z _ _ _ h k:=by
  rw [he_,decide_eq_false_iff_not] at h k ⊢;omega
theorem kc_ {q:ae_} {x y:TRow} (h:bB_ q x y=false) (k:bB_ q y x=false):x.id_=y.id_:=by
 rw [he_,decide_eq_false_iff_not] at h k;omega
section
variable {α:Type}
def fK_ (lt:α→α→Bool) (l:List α):List α:=(l.foldl (ei_ lt) []).reverse
variable {lt:α→α→Bool} {D:α→Prop}
theorem g0_:∀ (l o:List α),(l.foldl (ei_ lt) o).Perm (l++o)
 |[],o=>.refl _
 |x::l,o=>by
  refine (g0_ l (ei_ lt o x)).trans ?_
  exact ((ft_ o x).append_left l).trans List.perm_middle
theorem hp_ (l:List α):(fK_ lt l).Perm l:=by
 have:=g0_ (lt:=lt) l []
 rw [List.append_nil] at this
 exact (List.reverse_perm _).trans this
theorem hL_ (ho:LtOk lt D) (hD:∀ x,D x):∀ (l o:List α),o.Pairwise (fun x y=>lt x y=false)→(l.foldl (ei_ lt) o).Pairwise (fun x y=>lt x y=false)
 |[],o,h=>h
 |x::l,o,h=>hL_ ho hD l _ (jU_ ho o x (hD _) (fun _ _=>hD _) h)
theorem isort_srt (ho:LtOk lt D) (hD:∀ x,D x) (l:List α):Srt lt (fK_ lt l):=srt_rev.2 (hL_ ho hD l [] .nil)
theorem lv_ (l:List α):(fK_ lt l).length=l.length:=(hp_ l).length_eq
end
abbrev insS:=ab_
theorem f1_ev {q:ae_} {a b:TRow} (ha:a.cells.length≤bG_) (hb:b.cells.length≤bG_):∃ k,∀ n,k≤n→b2_ n a b q.table q.where_ q.order q.down q.first q.show_ q.kids q.kidTable q.kidCol=some (cond (bB_ q a b) (-1) 1):=by
 have:Ev (fun n _=>b2_ n a b q.table q.where_ q.order q.down q.first q.show_ q.kids q.kidTable q.kidCol) (cond (bB_ q a b) (-1) 1):=by
  refine aJ_ ?_
  simp only [b2_,as_ (fw_ (q:=q) ha hb)]
  cases bB_ q a b<;>exact ap_.2 rfl
 obtain ⟨k,h⟩:=this
 exact ⟨k,fun n hn=>h n k hn (Nat.le_refl _)⟩
theorem two_at {U M:List TRow} {x y:TRow} {p:Nat} (hp:U.length=p):(U++y::x::M).getD p TRow.dflt=y∧(U++y::x::M).getD (p+1) TRow.dflt=x∧(((U++y::x::M).set (p+1) y).set p x)=U++x::y::M:=by
 subst hp
 have e3:=set_app_r (P:=U) (l:=y::x::M) (x:=y) (i:=1)
 refine ⟨by simp,by simp,?_⟩
 rw [e3];simp
section
variable {q:ae_} {P:List TRow} {a:Nat} (hP:P.length=a) (b i:Int)
include hP
theorem ins6 (x:TRow) (hx:x.cells.length≤bG_):∀ (L M:List TRow),(∀ y ∈ L,y.cells.length≤bG_)→a+L.length≤1000→∃ k,∀ n m,k≤n→k≤m→∀ K,ab_.loop6 n K m (a:Int) b q.table q.where_ q.order q.down q.first q.show_ q.kids q.kidTable q.kidCol i ((a+L.length:Nat):Int) (P++(L.reverse++x::M))=K (a:Int) b q.table q.where_ q.order q.down q.first q.show_ q.kids q.kidTable q.kidCol i (P++((ei_ (bB_ q) L x).reverse++M))
 |[],M,_,_=>by
  refine ⟨1,fun n m _ hm K => ?_⟩
  obtain ⟨m,rfl⟩:∃ m',m=m'+1:=⟨m - 1,by omega⟩
  rw [ab_.turn6]
  simp only [ab_.step6,List.length_nil,Nat.add_zero]
  rw [decide_eq_false (by omega)]
  rfl
 |y::L,M,hL,hl=>by
  simp only [List.length_cons] at hl
  obtain ⟨k,hk⟩:=ins6 x hx L (y::M) (fun z hz=>hL z (List.mem_cons_of_mem _ hz)) (by omega)
  obtain ⟨kf,hf⟩:=f1_ev (q:=q) hx (hL y (List.mem_cons_self ..))
  refine ⟨max k kf+1,fun n m hn hm K => ?_⟩
  obtain ⟨m,rfl⟩:∃ m',m=m'+1:=⟨m - 1,by omega⟩
  have hk:=hk n m (by omega) (by omega) K
  have hf:=hf n (by omega)
  have hu:(P++L.reverse).length=a+L.length:=by rw [List.length_append,hP,List.length_reverse]
  have eD:P++((y::L).reverse++x::M)=(P++L.reverse)++y::x::M:=by simp
  obtain ⟨t1,t2,t3⟩:=two_at (M:=M) (x:=x) (y:=y) hu
  have hlen:((P++L.reverse)++y::x::M).length=a+L.length+2+M.length:=by rw [List.length_append,hu];simp only [List.length_cons];omega
  have j0:((a+(y::L).length:Nat):Int)=((a+L.length+1:Nat):Int):=by simp only [List.length_cons];omega
  have w1:W (((a+L.length+1:Nat):Int) - 1)=((a+L.length:Nat):Int):=by rw [W_id (by omega) (by omega)];omega
  rw [ab_.turn6,eD,j0]
  simp only [ab_.step6,w1,Int.toNat_natCast,t1,t2,t3,hf,Option.bind_some,inB,List.length_set,hlen]
  rw [decide_eq_true (show ((a+L.length+1:Nat):Int) > (a:Int) by omega),decide_eq_true (show (0:Int)≤((a+L.length+1:Nat):Int) by omega),decide_eq_true (show ((a+L.length+1:Nat):Int)<((a+L.length+2+M.length:Nat):Int) by omega),decide_eq_true (show (0:Int)≤((a+L.length:Nat):Int) by omega),decide_eq_true (show ((a+L.length:Nat):Int)<((a+L.length+2+M.length:Nat):Int) by omega)]
  simp only [cond_true]
  unfold ei_
  cases bB_ q x y with
  |true=>
   simp only [cond_true]
   rw [decide_eq_true (show (-1:Int)<0 by decide)]
   simp only [cond_true]
   rw [List.append_assoc,hk]
   simp
  |false=>
   simp only [cond_false]
   rw [decide_eq_false (show ¬ (1:Int)<0 by decide)]
   simp only [cond_false]
   rw [←eD];simp
end
section
variable {q:ae_} {P R:List TRow} {a:Nat} (hP:P.length=a)
include hP
theorem ins1:∀ (T S:List TRow),(∀ y ∈ T,y.cells.length≤bG_)→(∀ y ∈ S,y.cells.length≤bG_)→a+S.length+T.length≤900→∃ k,∀ n m,k≤n→k≤m→∀ K,ab_.loop1 n K m (a:Int) ((a+S.length+T.length:Nat):Int) q.table q.where_ q.order q.down q.first q.show_ q.kids q.kidTable q.kidCol ((a+S.length:Nat):Int) (P++(S.reverse++(T++R)))=K (P++((T.foldl (ei_ (bB_ q)) S).reverse++R))
 |[],S,_,_,_=>by
  refine ⟨1,fun n m _ hm K => ?_⟩
  obtain ⟨m,rfl⟩:∃ m',m=m'+1:=⟨m - 1,by omega⟩
  rw [ab_.turn1]
  simp only [ab_.step1,List.length_nil,Nat.add_zero]
  rw [decide_eq_false (by omega)]
  rfl
 |x::T,S,hT,hS,hl=>by
  simp only [List.length_cons] at hl
  have hx:=hT x (List.mem_cons_self ..)
  have hS':∀ y ∈ ei_ (bB_ q) S x,y.cells.length≤bG_:=fun y hy=>by
   rcases jV_ hy with rfl|hy
   · exact hx
   · exact hS y hy
  have hn':(ei_ (bB_ q) S x).length=S.length+1:=by rw [(ft_ S x).length_eq];rfl
  obtain ⟨k,hk⟩:=ins1 T (ei_ (bB_ q) S x) (fun z hz=>hT z (List.mem_cons_of_mem _ hz)) hS' (by omega)
  obtain ⟨k6,h6⟩:=ins6 hP ((a+S.length+(x::T).length:Nat):Int) ((a+S.length:Nat):Int) x hx S (T++R) hS (by omega)
  refine ⟨max k k6+1,fun n m hn hm K => ?_⟩
  obtain ⟨m,rfl⟩:∃ m',m=m'+1:=⟨m - 1,by omega⟩
  have hk:=hk n m (by omega) (by omega) K
  rw [ab_.turn1]
  simp only [ab_.step1]
  rw [decide_eq_true (by simp only [List.length_cons];omega),List.cons_append,h6 n n (by omega) (by omega)]
  simp only [cond_true]
  have w1:W (((a+S.length:Nat):Int)+1)=((a+(ei_ (bB_ q) S x).length:Nat):Int):=by rw [hn',W_id (by omega) (by omega)];omega
  have e1:((a+S.length+(x::T).length:Nat):Int)=((a+(ei_ (bB_ q) S x).length+T.length:Nat):Int):=by rw [hn'];simp only [List.length_cons];omega
  rw [w1,e1,hk]
  rfl
end
theorem insS_ev {q:ae_} {P B R:List TRow} {a b:Nat} (hP:P.length=a) (hb:b=a+B.length) (hB:∀ y ∈ B,y.cells.length≤bG_) (hl:b≤900):∃ k,∀ n,k≤n→insS n (P++(B++R)) (a:Int) (b:Int) q.table q.where_ q.order q.down q.first q.show_ q.kids q.kidTable q.kidCol=some (P++(fK_ (bB_ q) B++R)):=by
 subst hb
 have w1:W ((a:Int)+1)=((a+1:Nat):Int):=by rw [W_id (by omega) (by omega)];omega
 cases B with
 |nil=>
  refine ⟨2,fun n hn => ?_⟩
  obtain ⟨n,rfl⟩:∃ m',n=m'+2:=⟨n - 2,by omega⟩
  simp only [insS,ab_,w1]
  rw [ab_.turn1]
  simp only [ab_.step1,List.length_nil,Nat.add_zero]
  rw [decide_eq_false (by omega)]
  rfl
 |cons x T=>
  simp only [List.length_cons] at hl
  obtain ⟨k,hk⟩:=ins1 (q:=q) (R:=R) hP T [x] (fun z hz=>hB z (List.mem_cons_of_mem _ hz)) (fun z hz=>by rw [List.mem_singleton.1 hz];exact hB x (List.mem_cons_self ..)) (by simp only [List.length_cons,List.length_nil];omega)
  refine ⟨k+1,fun n hn => ?_⟩
  obtain ⟨n,rfl⟩:∃ m',n=m'+1:=⟨n - 1,by omega⟩
  simp only [insS,ab_,w1]
  have hk:=hk n n (by omega) (by omega) (fun xy17=>some xy17)
  have e1:((a+(x::T).length:Nat):Int)=((a+([x]:List TRow).length+T.length:Nat):Int):=by simp only [List.length_cons,List.length_nil];omega
  rw [e1]
  exact hk
end Go.Pi
end
section
namespace Go.Pi
section
variable {α β σ:Type}
def Ans (f:Nat→Nat→Option α) (Q:α→Prop):Prop:=∃ v,Ev f v∧Q v
theorem ans_ev {f:Nat→Nat→Option α} {v:α} (h:Ev f v) {Q:α→Prop}:Ans f Q↔Q v :=
 ⟨fun ⟨w,h1,h2⟩=>(cF_ h).1 h1 ▸ h2,fun hq=>⟨v,h,hq⟩⟩
theorem b3_ {v:α} {Q:α→Prop}:Ans (fun _ _=>some v) Q↔Q v:=ans_ev (ap_.2 rfl)
theorem nF_ {Q:α→Prop}:Ans (fun _ _=>none) Q↔False :=
 ⟨fun ⟨_,h,_⟩=>ej_.1 h,fun h=>h.elim⟩
theorem cn_ {f:Nat→Nat→Option α} {a:α} (h:Ev f a) {g:Nat→Nat→α→Option β} {Q:β→Prop}:Ans (fun n N=>(f n N).bind (g n N)) Q↔Ans (fun n N=>g n N a) Q:=by
 unfold Ans;simp only [as_ h]
theorem a4_ {f:Nat→Nat→Option α} {P:α→Prop} (h:Ans f P) {g:Nat→Nat→α→Option β} {Q:β→Prop} (k:∀ v,P v→Ans (fun n N=>g n N v) Q):Ans (fun n N=>(f n N).bind (g n N)) Q:=by
 obtain ⟨v,h1,h2⟩:=h
 exact (cn_ h1).2 (k v h2)
theorem cu_ {c:Bool} {f g:Nat→Nat→Option α} {Q:α→Prop}:Ans (fun n N=>cond c (f n N) (g n N)) Q↔(c=true→Ans f Q)∧(c=false→Ans g Q):=by
 cases c<;>simp
theorem eF_ {i:Int} {len:Nat} {f:Nat→Nat→Option α} {Q:α→Prop}:Ans (fun n N=>inB i len (f n N)) Q↔(0≤i∧i<(len:Int))∧Ans f Q:=by
 unfold Ans;simp only [bA_]
 exact ⟨fun ⟨v,⟨h1,h2⟩,h3⟩=>⟨h1,v,h2,h3⟩,fun ⟨h1,v,h2,h3⟩=>⟨v,⟨h1,h2⟩,h3⟩⟩
theorem ek_ {n b:Nat} {f:Nat→Nat→Option α} {Q:α→Prop}:Ans (fun m N=>cl_ n b (f m N)) Q↔n*b≤140737488355328∧Ans f Q:=by
 unfold Ans;simp only [ch_]
 exact ⟨fun ⟨v,⟨h1,h2⟩,h3⟩=>⟨h1,v,h2,h3⟩,fun ⟨h1,v,h2,h3⟩=>⟨v,⟨h1,h2⟩,h3⟩⟩
theorem da_ {f:Nat→Nat→Option α} {Q:α→Prop} (h:Ans (fun n N=>f (n+1) N) Q):Ans f Q :=
 let ⟨v,h1,h2⟩:=h;⟨v,aJ_ h1,h2⟩
theorem bY_ {f:Nat→Nat→Option α} {Q:α→Prop} (h:Ans (fun n N=>f n (N+1)) Q):Ans f Q :=
 let ⟨v,h1,h2⟩:=h;⟨v,cc_ h1,h2⟩
theorem dF_ {f:Nat→Nat→Option α} {Q:α→Prop} (h:Ans f Q):Ans (fun n _=>f n n) Q :=
 let ⟨v,h1,h2⟩:=h;⟨v,d4_ h1,h2⟩
end
end Go.Pi
end
section
namespace Go.Pi
structure DwOk (c:aw_):Prop where
 lo:0≤c.i
 hi:c.i≤(c.b.length:Int)
 len:c.b.length≤1048576
abbrev and64 (x y:Int):Int:=IntKind.i64.wrap (BitVec.ofInt (IntKind.bits .i64) x &&& BitVec.ofInt (IntKind.bits .i64) y).toNat
theorem nG_ (x:Int) (m:Nat) (hm:m<2 ^ 31):0≤and64 x (m:Int)∧and64 x (m:Int)≤m:=by
 have h1:(BitVec.ofInt (IntKind.bits .i64) x &&& BitVec.ofInt (IntKind.bits .i64) (m:Int)).toNat≤m:=by
  rw [BitVec.toNat_and]
  refine Nat.le_trans Nat.and_le_right ?_
  rw [BitVec.ofInt_natCast,BitVec.toNat_ofNat]
  exact Nat.mod_le _ _
 show 0≤W _∧W _≤_
 generalize (BitVec.ofInt (IntKind.bits .i64) x &&& BitVec.ofInt (IntKind.bits .i64) (m:Int)).toNat=k at h1
 rw [W_id (by omega) (by omega)]
 omega
theorem cur_next {c:aw_} (h:DwOk c) (hlt:c.i<(c.b.length:Int)) (z:Int):DwOk (aw_.mk c.b (W (c.i+1)) z):=by
 have h1:=h.lo;have h2:=h.len
 have e:W (c.i+1)=c.i+1:=W_id (by omega) (by omega)
 exact ⟨by show 0≤W (c.i+1);rw [e];omega,by show W (c.i+1)≤(c.b.length:Int);rw [e];omega,h2⟩
theorem cur_same {c:aw_} (h:DwOk c) (z:Int):DwOk (aw_.mk c.b c.i z):=⟨h.lo,h.hi,h.len⟩
theorem b5_ (c:aw_):aw_.mk c.b c.i c.h=c:=rfl
theorem l1New_ans {eb_:List Int} (hc:eb_.length≤1048576):Ans (fun n _=>bH_ n eb_) DwOk:=by
 have key:∀ (m i:Nat) (h:Int),i+m=eb_.length→Ans (fun n N=>bH_.loop4 n (fun xy2 xy3=>(some (aw_.mk xy2 0 xy3))) N eb_ h (i:Int)) DwOk:=by
  intro m
  induction m with
  |zero=>
   intro i h hi
   have e:i=eb_.length:=by omega
   subst e
   refine bY_ ?_
   simp only [bH_.turn4,bH_.step4,bZ_,cond_false,b3_]
   exact ⟨Int.le_refl _,by simp,hc⟩
  |succ m ih=>
   intro i h hi
   have hlt:i<eb_.length:=by omega
   have hW:=W_up hlt (show eb_.length≤bG_ by simp only [bG_];omega)
   refine bY_ ?_
   simp only [bH_.turn4,bH_.step4,cw_ hlt,cond_true,cu_,eF_,b3_,hW]
   exact ⟨fun _=>⟨by omega,ih (i+1) _ (by omega)⟩,fun _=>⟨Int.le_refl _,by simp,hc⟩⟩
 refine da_ ?_
 simp only [bH_]
 exact dF_ (key eb_.length 0 _ (by omega))
theorem fe_ {c:aw_} (hc:DwOk c):Ans (fun n _=>cD_ n c) fun r=>0≤r.1∧r.1≤255∧DwOk r.2:=by
 refine da_ ?_
 simp only [cD_,cu_,eF_,b3_]
 refine ⟨fun h => ?_,fun _ => ?_⟩
 · have h:=of_decide_eq_true h
   exact ⟨⟨hc.lo,h⟩,(nG_ _ 255 (by decide)).1,(nG_ _ 255 (by decide)).2,cur_next hc h _⟩
 · exact ⟨(nG_ _ 255 (by decide)).1,(nG_ _ 255 (by decide)).2,cur_same hc _⟩
structure Drawn (n:Int) (r:Int × aw_):Prop where
 lo:0≤r.1
 hi:r.1<n∨r.1=0
 cur:DwOk r.2
theorem a9_ {c:aw_} {k:Int} (hc:DwOk c):Ans (fun n _=>ay_ n c k) (Drawn k):=by
 refine da_ ?_
 simp only [ay_,cu_,b3_]
 refine ⟨fun _=>⟨Int.le_refl _,.inr rfl,hc⟩,fun h0=>⟨fun h1 => ?_,fun h1 => ?_⟩⟩
 · have h0:=of_decide_eq_false h0
   refine a4_ (fe_ hc) fun r hr => ?_
   simp only [cu_,nF_,b3_]
   refine ⟨fun h=>by have:=of_decide_eq_true h;omega,fun _=>⟨Int.tmod_nonneg _ hr.1,.inl (Int.tmod_lt_of_pos _ (by omega)),hr.2.2⟩⟩
 · have h0:=of_decide_eq_false h0
   refine a4_ (fe_ hc) fun r1 h2=>a4_ (fe_ h2.2.2) fun r2 h3=>a4_ (fe_ h3.2.2) fun r3 h4=>a4_ (fe_ h4.2.2) fun r4 h5 => ?_
   simp only [cu_,nF_,b3_]
   refine ⟨fun h=>by have:=of_decide_eq_true h;omega,fun _ => ?_⟩
   obtain ⟨a1,a2,_⟩:=h2
   obtain ⟨b1,b2,_⟩:=h3
   obtain ⟨c1,c2,_⟩:=h4
   obtain ⟨d1,d2,hq⟩:=h5
   have e1:W (r1.1*16777216)=r1.1*16777216:=W_id (by omega) (by omega)
   have e2:W (r2.1*65536)=r2.1*65536:=W_id (by omega) (by omega)
   have e3:W (r3.1*256)=r3.1*256:=W_id (by omega) (by omega)
   rw [e1,e2,e3,W_id (n:=r1.1*16777216+r2.1*65536) (by omega) (by omega),W_id (n:=r1.1*16777216+r2.1*65536+r3.1*256) (by omega) (by omega),W_id (n:=r1.1*16777216+r2.1*65536+r3.1*256+r4.1) (by omega) (by omega)]
   exact ⟨Int.tmod_nonneg _ (by omega),.inl (Int.tmod_lt_of_pos _ (by omega)),hq⟩
theorem er_ {c:aw_} {k:Int} (hc:DwOk c):Ans (fun n _=>ck_ n c k) fun r=>DwOk r.2:=by
 refine da_ ?_
 simp only [ck_]
 exact a4_ (a9_ hc) fun r hr=>b3_.2 hr.cur
theorem eM_ {c:aw_} {l:List Int} (hc:DwOk c) (hl:l≠[]):Ans (fun n _=>bC_ n c l) fun r=>r.1 ∈ l∧DwOk r.2:=by
 have hp:0<l.length:=List.length_pos_iff.2 hl
 refine da_ ?_
 simp only [bC_]
 refine a4_ (a9_ hc) fun r hr => ?_
 have h1:=hr.lo
 have h2:=hr.hi
 simp only [eF_,b3_]
 exact ⟨⟨h1,by omega⟩,bL_ _ (by omega),hr.cur⟩
end Go.Pi
end
section
namespace Go.Pi
def lenRR (c:Nat) (t:List (List TRow)):Prop:=t.length≤c∧∀ x ∈ t,e0_ c x
def dw_ (c:Nat) (s:an_):Prop:=s.schema.cols.length≤c∧lenRR c s.tables
theorem dx_ {c:Nat} {t:List (List TRow)} (h:∀ x ∈ t,e0_ c x) (i:Nat):e0_ c (t.getD i []):=by
 by_cases hi:i<t.length
 · exact h _ (bL_ [] hi)
 · rw [List.getD_eq_getElem?_getD,List.getElem?_eq_none (by omega)]
   exact ⟨Nat.zero_le _,fun x hx=>by cases hx⟩
theorem d5_ (s:au_):au_.mk s.cols=s:=rfl
def i7_ (s:au_) (t:Int) (rows:List TRow):Bool :=
 jB_ (fun i=>FRow s t (rows.getD i TRow.dflt)&&(decide (i=0)||decide ((rows.getD (i - 1) TRow.dflt).id_<(rows.getD i TRow.dflt).id_))) rows.length&&(cy_ s&&(inn t 0 (W ((s.cols.length:Int) - 1))&&decide ((rows.length:Int)≤24)))
theorem jn_ {s:au_} {t:Int} {rows:List TRow} (hs:s.cols.length≤bG_) (hr:e0_ bG_ rows):Ev (fun n _=>bu_ n s t rows) (i7_ s t rows):=by
 refine aJ_ ?_
 simp only [bu_]
 refine dE_ (fun n N i=>bu_.loop3 n _ N t rows (i:Int) s.cols) _ (fun i u hi ih => ?_) ?_
 · simp only [d5_,bu_.turn3,bu_.step3,Int.toNat_natCast,W_up hi hr.1,W_dn (i:=i) (by have:=hr.1;omega),fn_,aD_,bA_,as_ (gQ_ (s:=s) (t:=t) (r:=rows.getD i TRow.dflt) hs (dC_ hr i)),ap_,cF_ ih,cw_ hi,cp_ hi]
   clear ih
   repeat' (first|apply And.intro|intro _)
   all_goals (try rw [Bool.eq_iff_iff])
   all_goals (try simp only [Bool.not_eq_true',Bool.not_eq_false',decide_eq_true_eq,decide_eq_false_iff_not,beq_iff_eq,beq_eq_false_iff_ne,Bool.and_eq_true,Bool.or_eq_true,Bool.and_eq_false_iff,Bool.or_eq_false_iff] at *)
   all_goals grind
 · simp only [d5_,bu_.turn3,bu_.step3,bZ_,cond_false,dI_ (s:=s) hs,e5_,aD_,ap_]
   repeat' (first|apply And.intro|intro _)
   all_goals (try simp_all)
theorem jv_ {s:au_} {t:Int} {rows:List TRow} (hs:s.cols.length≤bG_) (hr:e0_ bG_ rows):Ev (fun n _=>bw_ n s t rows) (i7_ s t rows):=by
 refine aJ_ ?_
 simp only [bw_]
 refine dE_ (fun n N i=>bw_.loop3 n _ N t rows rows (rows.length:Int) (i:Int) s.cols) _ (fun i u hi ih => ?_) ?_
 · simp only [d5_,bw_.turn3,bw_.step3,Int.toNat_natCast,W_up hi hr.1,W_dn (i:=i) (by have:=hr.1;omega),fn_,aD_,bA_,as_ (fv_ (s:=s) (t:=t) (r:=rows.getD i TRow.dflt) hs (dC_ hr i)),ap_,cF_ ih,cw_ hi,cp_ hi]
   clear ih
   repeat' (first|apply And.intro|intro _)
   all_goals (try rw [Bool.eq_iff_iff])
   all_goals (try simp only [Bool.not_eq_true',Bool.not_eq_false',decide_eq_true_eq,decide_eq_false_iff_not,beq_iff_eq,beq_eq_false_iff_ne,Bool.and_eq_true,Bool.or_eq_true,Bool.and_eq_false_iff,Bool.or_eq_false_iff] at *)
   all_goals grind
 · simp only [d5_,bw_.turn3,bw_.step3,bZ_,cond_false,dM_ (s:=s) hs,fg_,aD_,ap_]
   repeat' (first|apply And.intro|intro _)
   all_goals (try simp_all)
def kV_ (s:au_) (t:List (List TRow)):Bool:=jB_ (fun i=>i7_ s (i:Int) (t.getD i [])) t.length
def cC_ (s:an_):Bool:=cy_ s.schema&&(inn s.version 0 100000&&(decide (s.tables.length=s.schema.cols.length)&&kV_ s.schema s.tables))
theorem ee_ {s:an_} (h:dw_ bG_ s):Ev (fun n _=>be_ n s) (cC_ s):=by
 refine aJ_ ?_
 have hl:Ev (fun n _=>be_.loop6 n (some true) n 0 s.schema.cols s.version s.tables) (kV_ s.schema s.tables&&true):=by
  refine dE_ (fun n N i=>be_.loop6 n (some true) N (i:Int) s.schema.cols s.version s.tables) _ (fun i u hi ih => ?_) ?_
  · simp only [d5_,be_.turn6,be_.step6,Int.toNat_natCast,W_up hi h.2.1,aD_,bA_,as_ (jn_ (s:=s.schema) (t:=(i:Int)) h.1 (dx_ h.2.2 i)),ap_,cF_ ih,cw_ hi,cp_ hi]
    clear ih
    repeat' (first|apply And.intro|intro _)
    all_goals (try simp_all)
  · simp only [d5_,be_.turn6,be_.step6,bZ_,cond_false,ap_]
 simp only [be_,dI_ h.1,e5_,aD_,ap_,cF_ hl,cC_]
 clear hl
 repeat' (first|apply And.intro|intro _)
 all_goals (try simp_all)
 all_goals (intros;omega)
theorem c8_ {s:an_} (h:dw_ bG_ s):Ev (fun n _=>a8_ n s) (cC_ s):=by
 refine aJ_ ?_
 have hl:Ev (fun n _=>a8_.loop6 n (some true) n s.tables (s.tables.length:Int) 0 s.schema.cols s.version s.tables) (kV_ s.schema s.tables&&true):=by
  refine dE_ (fun n N i=>a8_.loop6 n (some true) N s.tables (s.tables.length:Int) (i:Int) s.schema.cols s.version s.tables) _ (fun i u hi ih => ?_) ?_
  · simp only [d5_,a8_.turn6,a8_.step6,Int.toNat_natCast,W_up hi h.2.1,aD_,bA_,as_ (jv_ (s:=s.schema) (t:=(i:Int)) h.1 (dx_ h.2.2 i)),ap_,cF_ ih,cw_ hi,cp_ hi]
    clear ih
    repeat' (first|apply And.intro|intro _)
    all_goals (try simp_all)
  · simp only [d5_,a8_.turn6,a8_.step6,bZ_,cond_false,ap_]
 simp only [a8_,dM_ h.1,mm_,aD_,ap_,cF_ hl,cC_]
 clear hl
 repeat' (first|apply And.intro|intro _)
 all_goals (try simp_all)
 all_goals (intros;omega)
section
variable {β:Type} {g:Nat→Nat→List Int→Option β} {gr:Nat→Nat→TRow→Option β} {v:β}
theorem hx_ {l:List Int} (h:l.length≤cX_):Ev (fun n N=>(cs_ n l).bind (g n N)) v↔Ev (fun n N=>g n N l) v :=
 as_ (aJ_ (by simp only [cs_,ch_,ap_,List.nil_append,and_true];simp only [cX_] at h;simp;omega))
theorem fi_ {r:TRow} (h:r.cells.length≤cX_):Ev (fun n N=>(bQ_ n r).bind (gr n N)) v↔Ev (fun n N=>gr n N r) v :=
 as_ (aJ_ (by simp only [bQ_,hx_ h,ap_]))
theorem e4_ {r:TRow} (h:r.cells.length≤cX_):Ev (fun n N=>(bT_ n r).bind (gr n N)) v↔Ev (fun n N=>gr n N r) v :=
 as_ (aJ_ (by simp only [bT_,ch_,ap_,List.nil_append,and_true];simp only [cX_] at h;simp;omega))
end
theorem gF_ {c:Nat} {rows:List TRow} (hr:e0_ c rows) (i:Nat):(rows.getD i TRow.dflt).cells.length≤c:=by
 by_cases hi:i<rows.length
 · exact hr.2 _ (bL_ TRow.dflt hi)
 · rw [List.getD_eq_getElem?_getD,List.getElem?_eq_none (by omega)]
   exact Nat.zero_le _
theorem eV_ {rows:List TRow} (h:e0_ cX_ rows):Ev (fun n _=>a1_ n rows) rows:=by
 refine aJ_ ?_
 have hl:=h.1
 simp only [cX_] at hl
 simp only [a1_]
 refine lH_ TRow.dflt rows id (fun n N i s=>a1_.loop4 n _ N rows (rows.length:Int) (i:Int) s) rows (fun i s hi hs F hF => ?_) ?_
 · simp only [a1_.turn4,a1_.step4,Int.toNat_natCast,W_up hi (show rows.length≤bG_ by simp only [bG_];omega),aD_,bA_,fi_ (gF_ h i),ch_,cw_ hi,cp_ hi]
   exact ⟨fun _=>⟨trivial,by simp;omega,hF⟩,fun h=>by cases h⟩
 · simp only [a1_.turn4,a1_.step4,bZ_,cond_false,ap_,List.map_id]
theorem l6Rows_ev {rows:List TRow} (h:e0_ cX_ rows):Ev (fun n _=>bs_ n rows) rows:=by
 refine aJ_ ?_
 have hl:=h.1
 simp only [cX_] at hl
 simp only [bs_]
 refine lH_ TRow.dflt rows id (fun n N i s=>bs_.loop4 n _ N rows (i:Int) s) rows (fun i s hi hs F hF => ?_) ?_
 · simp only [bs_.turn4,bs_.step4,Int.toNat_natCast,W_up hi (show rows.length≤bG_ by simp only [bG_];omega),aD_,bA_,e4_ (gF_ h i),ch_,cw_ hi,cp_ hi]
   exact ⟨fun _=>⟨trivial,by simp;omega,hF⟩,fun h=>by cases h⟩
 · simp only [bs_.turn4,bs_.step4,bZ_,cond_false,ap_,List.map_id]
theorem jR_ {β:Type} {s:au_} {g:Nat→Nat→au_→Option β} {v:β} (h:s.cols.length≤cX_):Ev (fun n N=>(cG_ n s).bind (g n N)) v↔Ev (fun n N=>g n N s) v :=
 as_ (aJ_ (by simp only [cG_,ch_,ap_,List.nil_append,and_true];simp only [cX_] at h;simp;omega))
theorem fZ_ {s:an_} (h:dw_ cX_ s):Ev (fun n _=>aR_ n s) s:=by
 refine aJ_ ?_
 have hl:=h.2.1
 simp only [cX_] at hl
 simp only [aR_,hx_ h.1]
 refine lH_ [] s.tables id (fun n N i q=>aR_.loop4 n _ N s.tables (s.tables.length:Int) (i:Int) 0 s.version s.schema.cols q) s (fun i q hi hs F hF => ?_) ?_
 · simp only [aR_.turn4,aR_.step4,Int.toNat_natCast,W_up hi (show s.tables.length≤bG_ by simp only [bG_];omega),aD_,bA_,as_ (eV_ (dx_ h.2.2 i)),ch_,cw_ hi,cp_ hi]
   exact ⟨fun _=>⟨trivial,by simp;omega,hF⟩,fun h=>by cases h⟩
 · simp only [aR_.turn4,aR_.step4,bZ_,cond_false,ap_,List.map_id]
theorem iB_ {s:an_} (h:dw_ cX_ s):Ev (fun n _=>bb_ n s) s:=by
 refine aJ_ ?_
 have hl:=h.2.1
 simp only [cX_] at hl
 simp only [bb_,jR_ h.1]
 refine lH_ [] s.tables id (fun n N i q=>bb_.loop4 n _ N (i:Int) s.schema.cols s.version s.tables 0 s.version s.schema.cols q) s (fun i q hi hs F hF => ?_) ?_
 · simp only [bb_.turn4,bb_.step4,Int.toNat_natCast,W_up hi (show s.tables.length≤bG_ by simp only [bG_];omega),aD_,bA_,as_ (l6Rows_ev (dx_ h.2.2 i)),ch_,cw_ hi,cp_ hi]
   exact ⟨fun _=>⟨trivial,by simp;omega,hF⟩,fun h=>by cases h⟩
 · simp only [bb_.turn4,bb_.step4,bZ_,cond_false,ap_,List.map_id]
end Go.Pi
end
section
namespace Go.Pi
theorem gj_ (rows:List TRow) (id:Int):ca_ rows id=if rows.findIdx (fun r=>r.id_ == id)<rows.length then (rows.findIdx (fun r=>r.id_ == id):Int) else -1:=eA_ TRow.dflt (fun r=>r.id_ == id) rows
def d9_ (rows:List TRow) (id:Int):List TRow:=rows.eraseIdx (rows.findIdx (fun r=>r.id_ == id))
def fY_ (rows:List TRow) (at_ i:Nat):List TRow:=(rows.take i).eraseIdx at_
theorem mA_ {rows:List TRow} {i:Nat} (h:i<rows.length):fY_ rows i (i+1)=fY_ rows i i:=by
 unfold fY_
 rw [dm_ TRow.dflt h]
 have e:(rows.take i).length=i:=by rw [List.length_take];omega
 rw [List.eraseIdx_of_length_le (l:=rows.take i) (by omega),List.eraseIdx_append_of_length_le (by omega),e,Nat.sub_self]
 simp
theorem lI_ {rows:List TRow} {at_ i:Nat} (h:i<rows.length) (hne:i≠at_):fY_ rows at_ (i+1)=fY_ rows at_ i++[rows.getD i TRow.dflt]:=by
 unfold fY_
 rw [dm_ TRow.dflt h]
 have e:(rows.take i).length=i:=by rw [List.length_take];omega
 by_cases hlt:at_<i
 · rw [List.eraseIdx_append_of_lt_length (by omega)]
 · rw [List.eraseIdx_of_length_le (l:=rows.take i) (by omega),List.eraseIdx_of_length_le (by simp;omega)]
theorem og_ {rows:List TRow} {at_ i:Nat}:(fY_ rows at_ i).length≤rows.length:=by
 unfold fY_
 have:=List.length_eraseIdx_le (rows.take i) at_
 rw [List.length_take] at this
 omega
theorem fN_ {rows:List TRow} {id:Int} (h:e0_ cX_ rows):Ev (fun n _=>a7_ n rows id) (d9_ rows id):=by
 refine aJ_ ?_
 have hl:=h.1
 simp only [cX_] at hl
 have ht:rows.length≤bG_:=by simp only [bG_];omega
 simp only [a7_,as_ (fo_ (rows:=rows) (id:=id) ht)]
 obtain ⟨p,hp⟩:∃ p,p=rows.findIdx (fun r=>r.id_ == id):=⟨_,rfl⟩
 have hat:∀ i:Nat,i<rows.length→(((i:Int) != ca_ rows id)=true↔i≠p):=fun i hi=>by
  rw [gj_,←hp,bne_iff_ne]
  split<;>omega
 have hF:d9_ rows id=fY_ rows p rows.length:=by unfold d9_ fY_;rw [List.take_length,hp]
 rw [hF]
 refine g9_ (fun i=>fY_ rows p i) rows.length (fun n N i s=>a7_.loop5 n (fun xy3=>some xy3) N rows (ca_ rows id) (i:Int) s) _ (fun i hi F hF => ?_) ?_
 · have hlen:=og_ (rows:=rows) (at_:=p) (i:=i)
   simp only [a7_.turn5,a7_.step5,Int.toNat_natCast,W_up hi ht,aD_,bA_,e4_ (gF_ h i),ch_,cw_ hi,cp_ hi]
   refine ⟨fun _=>⟨fun hne=>⟨trivial,by simp;omega,?_⟩,fun heq => ?_⟩,fun h=>by cases h⟩
   · rw [←lI_ hi ((hat i hi).1 hne)];exact hF
   · have:i=p:=Classical.byContradiction fun hn=>by rw [(hat i hi).2 hn] at heq;cases heq
     subst this
     rw [←mA_ hi];exact hF
 · simp only [a7_.turn5,a7_.step5,bZ_,cond_false,ap_]
theorem fV_ {rows:List TRow} {id:Int} (h:e0_ cX_ rows):Ev (fun n _=>cq_ n rows id) (d9_ rows id):=by
 refine aJ_ ?_
 have hl:=h.1
 simp only [cX_] at hl
 have ht:rows.length≤bG_:=by simp only [bG_];omega
 simp only [cq_,as_ (eV_ h),as_ (eN_ (rows:=rows) (id:=id) ht),aD_,ap_]
 rw [gj_]
 by_cases hp:rows.findIdx (fun r=>r.id_ == id)<rows.length
 · rw [if_pos hp]
   refine ⟨fun _ => ?_,fun h=>by simp at h⟩
   have:Ev (fun n _=>cf_ n rows ((rows.findIdx (fun r=>r.id_ == id):Nat):Int) (W (((rows.findIdx (fun r=>r.id_ == id):Nat):Int)+1))) (d9_ rows id):=by
    refine aJ_ ?_
    rw [W_up hp ht]
    simp only [cf_,hn_,aD_,ap_,ej_,d9_,List.eraseIdx_eq_take_drop_succ,Int.toNat_natCast]
    simp;omega
   simp only [as_ this,ap_]
 · rw [if_neg hp]
   refine ⟨fun h=>by simp at h,fun _ => ?_⟩
   unfold d9_
   rw [List.eraseIdx_of_length_le (by omega)]
end Go.Pi
end
section
namespace Go.Pi
def sameC (x y:aY_):Bool:=cond (x.col == y.col) (cond (x.op == y.op) (cond (x.v == y.v) true false) false) false
def hE_ (a b:List aY_):Bool:=decide (a.length=b.length)&&jB_ (fun i=>sameC (a.getD i aY_.dflt) (b.getD i aY_.dflt)) a.length
def hg_ (a b:List Int):Bool:=decide (a.length=b.length)&&jB_ (fun i=>a.getD i 0 == b.getD i 0) a.length
def hD_ (a b:ae_):Bool:=(a.table == b.table)&&(hE_ a.where_ b.where_&&((a.order == b.order)&&((a.down == b.down)&&((a.first == b.first)&&(hg_ a.show_ b.show_&&((a.kids == b.kids)&&((a.kidTable == b.kidTable)&&(a.kidCol == b.kidCol))))))))
theorem kY_ {a b:List aY_} (ha:a.length≤bG_):Ev (fun n _=>aS_ n a b) (hE_ a b):=by
 refine aJ_ ?_
 simp only [aS_,aD_,ap_]
 refine ⟨fun h => ?_,fun h2 => ?_⟩
 · simp only [bne_iff_ne,ne_eq] at h;have:¬ a.length=b.length:=by omega
   simp [hE_,this]
 · simp only [bne_eq_false_iff_eq] at h2
   have hl:a.length=b.length:=by omega
   refine du_ (dE_ (fun n N i=>aS_.loop6 n (some true) N a b (a.length:Int) (i:Int)) (fun i=>sameC (a.getD i aY_.dflt) (b.getD i aY_.dflt)) (len:=a.length) (v:=true) (fun i u hi ih => ?_) ?_) (by simp [hE_,hl])
   · have h2:i<b.length:=by omega
     simp only [aS_.turn6,aS_.step6,Int.toNat_natCast,W_up hi ha,aD_,bA_,ap_,cF_ ih,cw_ hi,cp_ hi,cp_ h2]
     clear ih
     simp only [sameC]
     generalize (cond ((a.getD i aY_.dflt).col == (b.getD i aY_.dflt).col) (cond ((a.getD i aY_.dflt).op == (b.getD i aY_.dflt).op) (cond ((a.getD i aY_.dflt).v == (b.getD i aY_.dflt).v) true false) false) false)=c
     cases c<;>simp
   · simp only [aS_.turn6,aS_.step6,bZ_,cond_false,ap_]
theorem hQ_ {a b:List Int} (ha:a.length≤bG_):Ev (fun n _=>aT_ n a b) (hg_ a b):=by
 refine aJ_ ?_
 simp only [aT_,aD_,ap_]
 refine ⟨fun h => ?_,fun h2 => ?_⟩
 · simp only [bne_iff_ne,ne_eq] at h;have:¬ a.length=b.length:=by omega
   simp [hg_,this]
 · simp only [bne_eq_false_iff_eq] at h2
   have hl:a.length=b.length:=by omega
   refine du_ (dE_ (fun n N i=>aT_.loop6 n (some true) N a b (a.length:Int) (i:Int)) (fun i=>a.getD i 0 == b.getD i 0) (len:=a.length) (v:=true) (fun i u hi ih => ?_) ?_) (by simp [hg_,hl])
   · have h2:i<b.length:=by omega
     simp only [aT_.turn6,aT_.step6,Int.toNat_natCast,W_up hi ha,aD_,bA_,ap_,cF_ ih,cw_ hi,cp_ hi,cp_ h2]
     clear ih
     generalize a.getD i 0=x
     generalize b.getD i 0=y
     grind
   · simp only [aT_.turn6,aT_.step6,bZ_,cond_false,ap_]
theorem ht_ {a b:ae_} (ha:ku_ bG_ a):Ev (fun n _=>cM_ n a b) (hD_ a b):=by
 refine aJ_ ?_
 simp only [cM_,as_ (kY_ ha.1),as_ (hQ_ ha.2),aD_,ap_,hD_]
 generalize hE_ a.where_ b.where_=c
 generalize hg_ a.show_ b.show_=d
 repeat' (first|apply And.intro|intro _)
 all_goals (try simp only [beq_iff_eq,beq_eq_false_iff_ne,ne_eq] at *)
 all_goals simp_all
end Go.Pi
end
