/- FnCut: of a drawn text that is cut into pieces the pieces together are it, each as long as wanted, but at the end. No condition. Text 8 of 8. -/
import Derived.Test.YtmgcfhlcdhlafaaGreatDoorCuG
set_option linter.unusedVariables false
set_option maxRecDepth 100000
set_option linter.unusedSimpArgs false
namespace Go.Pi
theorem big_ev {eQ_:List Int}:Ev (fun n _=>gh_ n eQ_) (decide ((eQ_.length:Int) > 1048576)):=am_ (by simp only [gh_,ae_])
theorem max0_ev {x:Int}:Ev (fun n _=>fq_ n x) (max x 0):=by
 refine am_ ?_;simp only [fq_,al_,ae_];refine ⟨fun h => ?_,fun h => ?_⟩
 . have:=of_decide_eq_true h;omega
 . have:=of_decide_eq_false h;omega
theorem FnCut_law {eQ_:List Int} (hg:(pV_ lenI) eQ_):∃ n,laws_FnCut n eQ_=some true:=by
 have T:Ans (fun n _=>laws_FnCut n eQ_) fun b=>b=true:=by
  refine ci_ ?_;simp only [laws_FnCut,bg_ big_ev];refine bj_.2 ⟨fun _=>aX_.2 rfl,fun hb => ?_⟩;have hb:=of_decide_eq_false hb;have hc:eQ_.length<=1048576:=by omega
  refine az_ (nv_ hc) fun p Y => ?_;obtain ⟨p1,p2⟩:=Y;rw [bg_ (np_ (zs:=p.2) (t:=p.1) (by omega) (by omega)),bg_ (iV_ (zs:=p.2) (t:=p.1) (by omega) (by omega))];simp only [bne_self_eq_false,cond_false];have O:=ks_ p.2 p.1;have k:=mf_ p.2 p.1;have u:=nI_ p.2 p.1;have J:=kr_ p.2 p.1;generalize dS_ p.2 p.1=l at O k u J ⊢;have z:∀ (m i:Nat) (all:Bs),i+m=l.length->all++(l.drop i).flatten=p.1->Ans (fun n N=>laws_FnCut.loop12 n (fun B6 B7 B8=>((c5_ n B6).bind fun A9=>((bH_ n A9.1 A9.2).bind fun A10=>((bE_ n A9.1 A9.2).bind fun A11=>(cond (B8 == B7) (let C12:Bool:=(cond (A10.1.wait == A11.1.wait) (cond (A10.1.bad == A11.1.bad) true false) false);(cond C12 (some ((A10.2.length:Int) == (A11.2.length:Int))) (some false))) (some false)))))) N eQ_ p.1 all (i:Int) p.2 l) fun b=>b=true:=by
   intro m;induction m with
   |zero=>
    intro i all hi ha;have e:i=l.length:=by omega
    subst e;rw [List.drop_length,List.flatten_nil,List.append_nil] at ha;refine cA_ ?_;simp only [laws_FnCut.turn12,laws_FnCut.step12,co_,cond_false];refine az_ (na_ hc) fun f Z => ?_;obtain ⟨f1,f2,f3⟩:=Z;obtain ⟨g1,g2⟩:=tF_ (s:=f.1) (l:=f.2) (by omega) (by omega);rw [bg_ g2,bg_ g1];simp only [ha,beq_self_eq_true,cond_true,aX_]
   |succ m ih=>
    intro i all hi ha;have S:i<l.length:=by omega
    have hW:=up1 (show i<=1000000 by omega);rw [ds_ [] S,List.flatten_cons,<-List.append_assoc] at ha;have hal:all.length+(l.getD i []).length<=60:=by have:=congrArg List.length ha;simp only [List.length_append] at this;omega
    have U:=ih (i+1) (all++l.getD i []) (by omega) ha;refine cA_ ?_;simp only [laws_FnCut.turn12,laws_FnCut.step12,cE_ S,cond_true,hW,Int.toNat_natCast];rw [decide_eq_true (show all.length+(l.getD i []).length<=9223372036854775807 by omega)];simp only [cond_true];have I:0<=(i:Int)/\(i:Int)<(l.length:Int):=by omega
    refine bj_.2 ⟨fun h => ?_,fun _=>eN_.2 ⟨I,U⟩⟩;have h:=of_decide_eq_true h;have hz:=u i (by omega);refine eN_.2 ⟨I,eN_.2 ⟨by omega,?_⟩⟩;rw [bg_ max0_ev,decide_eq_false (by omega)];simp only [cond_false];exact eN_.2 ⟨I,U⟩
  exact eu_ (z l.length 0 [] (by omega) (by rw [List.drop_zero,List.nil_append];exact k))
 obtain ⟨v,V,rfl⟩:=T;exact ev_ex V
theorem good_sl {t:TC} {xs:List (El t)} (h:Good (.sl .v t xs)):xs.length<=cf_/\∀ x ∈ xs,∀ c ∈ ah_.enc .v t x,Good c:=by
 cases h with
 |sl t xs h1 h2=>exact ⟨h1,h2⟩
theorem good_str {l:Bs} (h:Good (.s l)):lenB l:=by
 cases h with
 |s l h=>exact h
theorem good_IntS {a:List Int} (h:Good (.sl .v .u8 a)):(pV_ lenI) a:=⟨(good_sl (t:=.u8) h).1,fun x0 k=>trivial⟩
section
open Go.Proofs Go.Proofs.YtmgcfhlcdhlafaaGreatDoor
namespace laws_FnCut
theorem pure_law:Pure:=fun o k=>FnCut_law (good_IntS (k _ (by simp)))
theorem proved:Rows.FnCutCardSaid:=card pure_law
end laws_FnCut
end
end Go.Pi
namespace Go.Proofs.YtmgcfhlcdhlafaaGreatDoor
theorem fnCut_holds:Rows.FnCutCardSaid:=Go.Pi.laws_FnCut.proved
#print axioms fnCut_holds
end Go.Proofs.YtmgcfhlcdhlafaaGreatDoor
