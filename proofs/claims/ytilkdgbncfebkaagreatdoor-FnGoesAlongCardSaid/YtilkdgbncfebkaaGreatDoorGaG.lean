/- FnGoesAlong: a view of a drawn store that goes along with a batch is the view of the store behind it, and its answer what asking anew tells. No condition. Text 7 of 7. -/
import Derived.Test.YtilkdgbncfebkaaGreatDoorGaF
set_option linter.unusedVariables false
set_option maxRecDepth 100000
set_option linter.unusedSimpArgs false
section
namespace Go.Pi
theorem e8_ (v:bd_):dP_ (gi_ v)=true:=by
 unfold gi_ FDoc eo_
 cases h:dP_ (hf_ v.rows.length (gn_ id v.q v.rows (fD_ v) (fl_ v.q v.rows.length)))
 · show dP_ nullJ=true;decide
 · exact h
theorem iZ_:∀ (d:Nat) (j:ax_),hi_ d j j=true
 |0,_=>rfl
 |d+1,j=>by
  have h1:hC_ j.names j.names=true:=by
   unfold hC_
   rw [decide_eq_true rfl,Bool.true_and]
   exact cY_.2 fun i _=>beq_self_eq_true _
  simp only [hi_,beq_self_eq_true,h1,decide_true,Bool.true_and]
  exact cY_.2 fun i _=>iZ_ d _
theorem nb_ {j:ax_} (h:dP_ j=true):lo_ 6 j:=jK_ 6 j (of_decide_eq_true h)
theorem iF_ (a:List Int):hg_ a a=true:=by
 unfold hg_;rw [decide_eq_true rfl,Bool.true_and];exact cY_.2 fun i _=>beq_self_eq_true _
theorem lc_ (q:ae_):hD_ q q=true:=by
 unfold hD_ hE_
 rw [decide_eq_true rfl,iF_]
 simp only [beq_self_eq_true,Bool.true_and,Bool.and_true]
 refine cY_.2 fun i _ => ?_
 unfold sameC
 simp
theorem l6_ (v:bd_):nJ_ v v=true:=by
 have h1:i8_ v.rows v.rows=true:=by
  unfold i8_;rw [decide_eq_true rfl,Bool.true_and]
  refine cY_.2 fun i _ => ?_
  unfold ow_;rw [beq_self_eq_true,iF_];rfl
 have h2:ja_ v.kids v.kids=true:=by
  unfold ja_;rw [decide_eq_true rfl,Bool.true_and]
  refine cY_.2 fun i _ => ?_
  rw [beq_self_eq_true,beq_self_eq_true];rfl
 unfold nJ_;rw [lc_,h1,h2];rfl
theorem big_evG {eb_:List Int}:Ev (fun n _=>eL_ n eb_) (decide ((eb_.length:Int) > 1048576)):=aJ_ (by simp only [eL_,ap_])
theorem i3_ {eb_:List Int} (hg:(mk_ lenI) eb_):∃ n,laws_FnGoesAlong n eb_=some true:=by
 have key:Ans (fun n _=>laws_FnGoesAlong n eb_) fun b=>b=true:=by
  refine da_ ?_
  simp only [laws_FnGoesAlong,cn_ big_evG]
  refine cu_.2 ⟨fun _=>b3_.2 rfl,fun hb => ?_⟩
  have hb:=of_decide_eq_false hb
  have hc:eb_.length≤1048576:=by omega
  refine a4_ (jE_ hc) fun r hr => ?_
  generalize r.1=s at hr ⊢
  generalize r.2.1=q at hr ⊢
  generalize r.2.2=l at hr ⊢
  have h:oA_ s q:=⟨hr.st,hr.ok,hr.qd,fun i=>by have:=hr.few i;omega,hr.sin.len.upto (by decide),⟨Nat.le_trans hr.qin.len.1 (by decide),Nat.le_trans hr.qin.len.2 (by decide)⟩⟩
  have hll:=hr.ll
  have hm:ln_ 1010 l:=fun m hm=>by have:=hr.lm m hm;omega
  simp only [laws_FnGoesAlong.tail4,d3_,dz_,d6_]
  rw [cn_ (ka_ h),cn_ (mJ_ h)]
  simp only [beq_self_eq_true,Bool.not_true,cond_false]
  rw [cn_ (iL_ hr.ok hr.sin.len hm (by omega))]
  simp only [laws_FnGoesAlong.tail10,d3_,dz_,d6_]
  rw [cn_ (ij_ hr.sin.len hm (by omega))]
  simp only [beq_self_eq_true,Bool.not_true,cond_false]
  cases hok:(cA_ s l).2.2 with
  |false=>exact b3_.2 rfl
  |true=>
   simp only [Bool.not_true,cond_false]
   obtain ⟨v1,v2,v3,v4,v5⟩:=batch_vo h.st h.qd hr.few hok
   obtain ⟨l1,l2,l3⟩:=l3_ hr.sin.len hm
   have hCh:Ev (fun n _=>aQ_ n (VO s q) (cA_ s l).2.1) (dv_ (VO s q) (cA_ s l).2.1):=gD_ ((vo_lenV h).upto (by decide)) (by simp only [cap];omega) (fun x hx=>by
    have:=l3 x hx
    exact ⟨Nat.le_trans this.1 (by simp only [cap];omega),Nat.le_trans this.2 (by simp only [cap];omega)⟩)
   rw [v1] at hCh
   have hCh:Ev (fun n _=>aQ_ n (bd_.mk (VO s q).q (VO s q).rows (VO s q).kids) (cA_ s l).2.1) (VO (cA_ s l).1 q):=hCh
   rw [cn_ hCh]
   generalize (cA_ s l).1=t at v2 v3 v4 v5 l1 ⊢
   have ht:oA_ t q:=⟨v2,v3,by rw [v4];exact h.qd,fun i=>by have:=v5 i;omega,l1.upto (by omega),h.ql⟩
   simp only [laws_FnGoesAlong.tail18,d3_,dz_,d6_,es_]
   rw [cn_ (ka_ ht)]
   have hV:=vo_lenV ht
   have hVT:kt_ bG_ (VO t q):=hV.upto (by decide)
   have e1:bd_.mk (VO t q).q (VO t q).rows (VO t q).kids=VO t q:=rfl
   simp only [cond_true,e1]
   rw [cn_ (hV_ hVT),l6_]
   simp only [cond_true]
   rw [cn_ (jt_ (d2_ ht.len.1 (by decide)) hVT),vo_ok ht]
   simp only [cond_true]
   rw [cn_ (iJ_ (hV.upto (by decide)) (m2_ ht)),cn_ (ask_Eval ht),cn_ (hX_ (nb_ (e8_ _)) (nb_ (e8_ _)))]
   refine b3_.2 ?_
   unfold jc_
   rw [e8_,iZ_];rfl
 obtain ⟨v,hv,rfl⟩:=key
 exact ev_ex hv
end Go.Pi
end
section
namespace Go.Pi
theorem good_str {l:Bs} (h:Good (.s l)):lenB l:=by
 cases h with
 |s l h=>exact h
theorem good_IntS {a:List Int} (h:Good (.sl .v .u8 a)):(mk_ lenI) a:=⟨(good_sl (t:=.u8) h).1,fun x0 hx0=>trivial⟩
end Go.Pi
end
section
namespace Go.Pi
open Go.Proofs Go.Proofs.YtilkdgbncfebkaaGreatDoor
namespace laws_FnGoesAlong
theorem pure_law:Pure:=fun o h0=>i3_ (good_IntS (h0 _ (by simp)))
theorem proved:Rows.FnGoesAlongCardSaid:=card pure_law
end laws_FnGoesAlong
end Go.Pi
end
namespace Go.Proofs.YtilkdgbncfebkaaGreatDoor
theorem fnGoesAlong_holds:Rows.FnGoesAlongCardSaid:=Go.Pi.laws_FnGoesAlong.proved
#print axioms fnGoesAlong_holds
end Go.Proofs.YtilkdgbncfebkaaGreatDoor
