/- FnShort: what is sent of two drawn views as a patch is less than the answer would be; of alike ones nothing is. No condition. Text 7 of 7. -/
import Derived.Test.YtmgcfhlcdhlafabGreatDoorShF
import Derived.Lib.AtoiAllCases
set_option linter.unusedVariables false
set_option maxRecDepth 100000
set_option linter.unusedSimpArgs false
section
namespace Go.Pi
def del {α:Type} (l:List α) (k:Nat):List α:=l.take k++l.drop (k+1)
def fU_ {α:Type} (l:List α) (k:Nat) (x:α):List α:=l.take k++[x]++l.drop k
def rmOp (k:Nat):TOp:=TOp.mk 2 [Lib.itoa k] (aa_.mk 0 0 [] [] [])
def repOp (k:Nat) (j:aa_):TOp:=TOp.mk 3 [Lib.itoa k] j
def addOp (k:Nat) (j:aa_):TOp:=TOp.mk 1 [Lib.itoa k] j
theorem hY_ {α:Type} {l:List α} {k:Nat} (h:k<l.length):(del l k).length+1=l.length:=by
 simp only [del,List.length_append,List.length_take,List.length_drop];omega
theorem nh_ {α:Type} {l:List α} {k:Nat} {x:α} (h:k≤l.length):(fU_ l k x).length=l.length+1:=by
 simp only [fU_,List.length_append,List.length_take,List.length_drop,List.length_cons,List.length_nil];omega
theorem del_mem {α:Type} {l:List α} {k:Nat} {x:α} (h:x ∈ del l k):x ∈ l:=by
 rcases List.mem_append.1 h with h|h
 · exact List.mem_of_mem_take h
 · exact List.mem_of_mem_drop h
theorem nf_ {α:Type} {l:List α} {k:Nat} {x y:α} (h:y ∈ fU_ l k x):y=x∨y ∈ l:=by
 rcases List.mem_append.1 h with h|h
 · rcases List.mem_append.1 h with h|h
   · exact .inr (List.mem_of_mem_take h)
   · exact .inl (List.mem_singleton.1 h)
 · exact .inr (List.mem_of_mem_drop h)
theorem del_map {α β:Type} (f:α→β) (l:List α) (k:Nat):(del l k).map f=del (l.map f) k:=by
 simp only [del,List.map_append,List.map_take,List.map_drop]
theorem ng_ {α β:Type} (f:α→β) (l:List α) (k:Nat) (x:α):(fU_ l k x).map f=fU_ (l.map f) k (f x):=by
 simp only [fU_,List.map_append,List.map_take,List.map_drop,List.map_cons,List.map_nil]
theorem del_take {α:Type} {l:List α} {k:Nat} (h:k≤l.length):(del l k).take k=l.take k:=by
 unfold del
 rw [List.take_append_of_le_length (by simp;omega),List.take_of_length_le (by simp;omega)]
theorem qe_ {α:Type} (d:α) {l m:List α} {k:Nat} (h:l.take (k+1)=m.take (k+1)):l.getD k d=m.getD k d:=by
 have:=congrArg (fun z=>z[k]?) h
 simp only [List.getElem?_take_of_lt (Nat.lt_succ_self k)] at this
 rw [List.getD_eq_getElem?_getD,List.getD_eq_getElem?_getD,this]
theorem mG_ {α:Type} {l m:List α} {k:Nat} (h:l.take (k+1)=m.take (k+1)):l.take k=m.take k:=by
 have:=congrArg (List.take k) h
 rwa [List.take_take,List.take_take,Nat.min_eq_left (Nat.le_succ k)] at this
theorem lM_ {k:Nat} (h:k≤4000000):Ev (fun n _=>dn_ n (k:Int)) [Lib.itoa k]:=as_ (by simp only [dn_,ab_ (oF_ (x:=(k:Int)) (by omega) (by omega)),af_])
theorem he_ {l:List aq_} {k:Nat} (h:k<l.length):Ev (fun n _=>bZ_ n l (k:Int) ((k+1:Nat):Int)) (del l k):=by
 refine as_ ?_
 simp only [bZ_,l7_,ao_,af_,c9_,Int.toNat_natCast,del]
 refine ⟨fun _=>trivial,fun hc => ?_⟩
 rw [decide_eq_true (show (0:Int)≤(k:Int) by omega),decide_eq_true (show (k:Int)≤((k+1:Nat):Int) by omega),decide_eq_true (show ((k+1:Nat):Int)≤(l.length:Int) by omega)] at hc
 cases hc
theorem g9_ {l:List aq_} {k:Nat} {x:aq_} (h:k≤l.length) (hl:l.length≤10000000):Ev (fun n _=>bY_ n l (k:Int) [x]) (fU_ l k x):=by
 refine as_ ?_
 simp only [bY_,gU_,ao_,af_,c9_,Int.toNat_natCast,fU_]
 refine ⟨fun _=>⟨fun _=>trivial,fun hc => ?_⟩,fun hc => ?_⟩
 · have hc:=of_decide_eq_false hc
   simp only [List.length_cons,List.length_nil] at hc;omega
 · rw [decide_eq_true (show (0:Int)≤(k:Int) by omega),decide_eq_true (show (k:Int)≤(l.length:Int) by omega)] at hc
   cases hc
theorem k6_ {ks:List Int} {k:Nat} (h:k<ks.length) (hl:ks.length≤10000000):Ev (fun n _=>cP_ n ks (k:Int)) (del ks k):=by
 refine as_ ?_
 have hw:=W_up h (show ks.length≤bR_ by simp only [bR_];omega)
 simp only [cP_,hw,gm_,bn_,af_,Int.toNat_natCast,List.drop_zero,List.nil_append,List.take_length,del,List.length_nil,List.length_take,List.length_drop]
 repeat' (first|apply And.intro)
 all_goals (first|trivial|rfl|omega)
theorem ne_ {ks:List Int} {k:Nat} {x:Int} (h:k≤ks.length) (hl:ks.length≤10000000):Ev (fun n _=>c3_ n ks (k:Int) x) (fU_ ks k x):=by
 refine as_ ?_
 simp only [c3_,gm_,bn_,af_,Int.toNat_natCast,List.drop_zero,List.nil_append,List.take_length,fU_,List.length_nil,List.length_append,List.length_cons,List.length_take,List.length_drop]
 repeat' (first|apply And.intro)
 all_goals (first|trivial|rfl|omega)
def lb_ (nk:List Int) (old:List aq_):Nat→List aq_→List TOp→List aq_ × List TOp
 |0,l,ops=>(l,ops)
 |k+1,l,ops=>if (old.getD k aq_.dflt).key ∈ nk then lb_ nk old k l ops else lb_ nk old k (del l k) (ops++[rmOp k])
theorem jx_ (nk:List Int) (old:List aq_):∀ k l ops,∀ x ∈ (lb_ nk old k l ops).1,x ∈ l
 |0,l,ops,x,h=>h
 |k+1,l,ops,x,h=>by
  simp only [lb_] at h
  split at h
  · exact jx_ nk old k l ops x h
  · exact del_mem (jx_ nk old k (del l k) _ x h)
theorem ik_ (nk:List Int) (old:List aq_):∀ k l ops,k≤l.length→(lb_ nk old k l ops).1.length≤l.length∧(lb_ nk old k l ops).2.length≤ops.length+k
 |0,l,ops,_=>⟨Nat.le_refl _,Nat.le_refl _⟩
 |k+1,l,ops,h=>by
  simp only [lb_]
  split
  · have:=ik_ nk old k l ops (by omega);omega
  · have hd:=hY_ (l:=l) (k:=k) (by omega)
    have:=ik_ nk old k (del l k) (ops++[rmOp k]) (by omega)
    simp only [List.length_append,List.length_cons,List.length_nil] at this;omega
theorem dn_ge {k:Nat}:decide ((k:Int)≥0)=true:=decide_eq_true (by omega)
theorem dn_eq {k:Nat}:(((k+1:Nat):Int) - 1)=(k:Int):=by omega
theorem neg_dec {ks:List Int} {k:Int}:decide (kAt ks k<0) = !decide (k ∈ ks):=by
 have:=me_ (ks:=ks) (k:=k)
 by_cases h:k ∈ ks
 · rw [decide_eq_true h,decide_eq_false (fun h'=>this.1 h' h)];rfl
 · rw [decide_eq_false h,decide_eq_true (this.2 h)];rfl
theorem of_ {old now:List aq_} (hn:now.length≤2000000) (K:Nat→List aq_→List aq_→List TOp→Option (List TOp)) (F:List TOp):∀ k l ops,l.take k=old.take k→k≤l.length→l.length≤2000000→ops.length+k≤2000000 →
  Ev (fun n N=>K n (lb_ (bt_ now) old k l ops).1 now (lb_ (bt_ now) old k l ops).2) F→Ev (fun n N=>a3_.loop9 n (K n) N ((k:Int) - 1) l now ops) F
 |0,l,ops,_,_,_,_,hF=>by
  refine cr_ ?_
  have e:decide ((((0:Nat):Int) - 1)≥0)=false:=rfl
  simp only [a3_.turn9,a3_.step9,e,cond_false]
  exact hF
 |k+1,l,ops,ht,hk,hl,ho,hF=>by
  refine cr_ ?_
  have hg:=qe_ aq_.dflt ht
  have hkl:k<l.length:=by omega
  have hA:=iA_ (l:=now) (k:=(old.getD k aq_.dflt).key) (by simp only [bR_];omega)
  simp only [lb_] at hF
  simp only [a3_.turn9,a3_.step9,dn_ge,dn_eq,cond_true,bl_,b9_ hkl,Int.toNat_natCast,hg,ab_ hA,neg_dec,ao_,W_dn (i:=k) (by simp only [bR_];omega),ab_ (lM_ (k:=k) (by omega)),bn_,W_up hkl (show l.length≤bR_ by simp only [bR_];omega),ab_ (he_ hkl)]
  refine ⟨trivial,fun hc => ?_,fun hc => ?_⟩
  · have hc:¬ (old.getD k aq_.dflt).key ∈ bt_ now:=by simpa using hc
    rw [if_neg hc] at hF
    have hd:=hY_ hkl
    refine ⟨by simp only [List.length_cons,List.length_nil];omega,of_ hn K F k (del l k) _ ?_ (by omega) (by omega) (by simp only [List.length_append,List.length_cons,List.length_nil];omega) hF⟩
    rw [del_take (by omega)];exact mG_ ht
  · have hc:(old.getD k aq_.dflt).key ∈ bt_ now:=by simpa using hc
    rw [if_pos hc] at hF
    exact of_ hn K F k l ops (mG_ ht) (by omega) hl (by omega) hF
theorem dK_ {l:List aq_} {k:Nat} (h:k<l.length):(bt_ l).getD k 0=(l.getD k aq_.dflt).key:=gl_ (fun x:aq_=>x.key) aq_.dflt 0 h
theorem nW_ {old now:List aq_} (hn:now.length≤2000000) (hold:old.length≤2000000) (o t2:List aa_) (K:Nat→List aa_→List Int→List aa_→List Int→List TOp→List Int→Option (List TOp)) (F:List TOp):∀ k l ops,k≤old.length→k≤l.length→l.length≤2000000→ops.length+k≤2000000 →
  Ev (fun n N=>K n o (bt_ old) t2 (bt_ now) (lb_ (bt_ now) old k l ops).2 (bt_ (lb_ (bt_ now) old k l ops).1)) F→Ev (fun n N=>aE_.loop5 n (K n) N o (bt_ old) t2 (bt_ now) ((k:Int) - 1) ops (bt_ l)) F
 |0,l,ops,_,_,_,_,hF=>by
  refine cr_ ?_
  have e:decide ((((0:Nat):Int) - 1)≥0)=false:=rfl
  simp only [aE_.turn5,aE_.step5,e,cond_false]
  exact hF
 |k+1,l,ops,hko,hk,hl,ho,hF=>by
  refine cr_ ?_
  have hko':k<(bt_ old).length:=by rw [b8_];omega
  have hkl:k<l.length:=by omega
  have hkl':k<(bt_ l).length:=by rw [b8_];omega
  have hg:=dK_ (l:=old) (k:=k) (by omega)
  have hA:=fF_ (ks:=bt_ now) (k:=(old.getD k aq_.dflt).key) (by rw [b8_];simp only [bR_];omega)
  have hW:=k6_ hkl' (by rw [b8_];omega)
  have hm:del (bt_ l) k=bt_ (del l k):=(del_map (fun x:aq_=>x.key) l k).symm
  rw [hm] at hW
  simp only [lb_] at hF
  simp only [aE_.turn5,aE_.step5,dn_ge,dn_eq,cond_true,bl_,b9_ hko',Int.toNat_natCast,hg,ab_ hA,neg_dec,ao_,W_dn (i:=k) (by simp only [bR_];omega),ab_ (dQ_ (x:=(k:Int)) (by omega) (by omega)),bn_,ab_ hW]
  refine ⟨trivial,fun hc => ?_,fun hc => ?_⟩
  · have hc:¬ (old.getD k aq_.dflt).key ∈ bt_ now:=by simpa using hc
    rw [if_neg hc] at hF
    have hd:=hY_ hkl
    exact ⟨by simp only [List.length_cons,List.length_nil];omega,nW_ hn hold o t2 K F k (del l k) _ (by omega) (by omega) (by omega) (by simp only [List.length_append,List.length_cons,List.length_nil];omega) hF⟩
  · have hc:(old.getD k aq_.dflt).key ∈ bt_ now:=by simpa using hc
    rw [if_pos hc] at hF
    exact nW_ hn hold o t2 K F k l ops (by omega) (by omega) hl (by omega) hF
end Go.Pi
end
section
namespace Go.Pi
def fx_ (l:List aq_) (i:Nat) (x:aq_):List aq_ × List TOp :=
 if kAt (bt_ l) x.key=(i:Int) then (l,cond (ee_ 6 (l.getD i aq_.dflt).value x.value) [] [repOp i x.value])
 else if (i:Int)<kAt (bt_ l) x.key then (fU_ (del l (kAt (bt_ l) x.key).toNat) i x,[rmOp (kAt (bt_ l) x.key).toNat,addOp i x.value])
 else (fU_ l i x,[addOp i x.value])
def fE_ (now:List aq_) (s:List aq_ × List TOp):Nat→List aq_ × List TOp
 |0=>s
 |i+1=>((fx_ (fE_ now s i).1 i (now.getD i aq_.dflt)).1,(fE_ now s i).2++(fx_ (fE_ now s i).1 i (now.getD i aq_.dflt)).2)
theorem nd_ {l:List aq_} {k:Int} {i:Nat} (h:(i:Int)<kAt (bt_ l) k):∃ p:Nat,kAt (bt_ l) k=p∧i<p∧p<l.length:=by
 obtain ⟨p,hp⟩:∃ p:Nat,kAt (bt_ l) k=p:=⟨(kAt (bt_ l) k).toNat,by omega⟩
 have:=(kk_ hp).1
 rw [b8_] at this
 exact ⟨p,hp,by omega,this⟩
theorem lG_ {l:List aq_} {i:Nat} {x:aq_} (h:i≤l.length):i+1≤(fx_ l i x).1.length∧(fx_ l i x).1.length≤l.length+1∧(fx_ l i x).2.length≤2:=by
 unfold fx_
 by_cases h1:kAt (bt_ l) x.key=(i:Int)
 · rw [if_pos h1]
   have:=(kk_ h1).1
   rw [b8_] at this
   refine ⟨by dsimp only;omega,by dsimp only;omega,?_⟩
   dsimp only
   cases ee_ 6 (l.getD i aq_.dflt).value x.value<;>simp
 · rw [if_neg h1]
   by_cases h2:(i:Int)<kAt (bt_ l) x.key
   · rw [if_pos h2]
     obtain ⟨p,hp,h3,h4⟩:=nd_ h2
     rw [hp,Int.toNat_natCast]
     have:=hY_ h4
     have:=nh_ (l:=del l p) (k:=i) (x:=x) (by omega)
     exact ⟨by dsimp only;omega,by dsimp only;omega,Nat.le_refl _⟩
   · rw [if_neg h2]
     have:=nh_ (l:=l) (k:=i) (x:=x) h
     exact ⟨by dsimp only;omega,by dsimp only;omega,by simp⟩
theorem lF_ {l:List aq_} {i:Nat} {x y:aq_} (h:y ∈ (fx_ l i x).1):y=x∨y ∈ l:=by
 unfold fx_ at h
 split at h
 · exact .inr h
 · split at h
   · rcases nf_ h with h|h
     · exact .inl h
     · exact .inr (del_mem h)
   · exact nf_ h
theorem g7_ (now:List aq_) (s:List aq_ × List TOp):∀ i,i≤(fE_ now s i).1.length∧(fE_ now s i).1.length≤s.1.length+i∧(fE_ now s i).2.length≤s.2.length+2*i
 |0=>⟨Nat.zero_le _,Nat.le_refl _,Nat.le_refl _⟩
 |i+1=>by
  have h:=g7_ now s i
  have k:=lG_ (x:=now.getD i aq_.dflt) h.1
  simp only [fE_,List.length_append];omega
def okK (x:aq_):Prop:=cB_ x.value=true∧gh_ 6 x.value
theorem pF_ {now:List aq_} {s:List aq_ × List TOp} (hn:∀ x ∈ now,okK x) (hs:∀ x ∈ s.1,okK x):∀ i,i≤now.length→∀ x ∈ (fE_ now s i).1,okK x
 |0,_,x,h=>hs x h
 |i+1,hi,x,h=>by
  rcases lF_ h with h|h
  · rw [h];exact hn _ (bH_ aq_.dflt (by omega))
  · exact pF_ hn hs i (by omega) x h
theorem hj_ {x:aq_} (h:okK x):cs_ 6 x.value≤400:=of_decide_eq_true h.1
theorem impl_add {now:List aq_} {s:List aq_ × List TOp} (hnl:now.length≤2000000) (hsl:s.1.length≤2000000) (hol:s.2.length≤2000000) (hn:∀ x ∈ now,okK x) (hs:∀ x ∈ s.1,okK x) :
  Ev (fun n _=>a3_.loop17 n (fun xy21=>(some xy21)) n (now.length:Int) 0 s.1 s.2 now) (fE_ now s now.length).2:=by
 refine dT_ (fE_ now s) now.length (fun n N i (z:List aq_ × List TOp)=>a3_.loop17 n (fun xy21=>(some xy21)) N (now.length:Int) (i:Int) z.1 z.2 now) _ (fun i hi F hF => ?_) ?_
 · have hL:=g7_ now s i
   have hO:=pF_ hn hs i (by omega)
   simp only [fE_] at hF
   obtain ⟨x,hx⟩:∃ x,x=now.getD i aq_.dflt:=⟨_,rfl⟩
   have hxo:okK x:=by rw [hx];exact hn _ (bH_ aq_.dflt hi)
   rw [←hx] at hF
   generalize fE_ now s i=z at hF hL hO ⊢
   obtain ⟨l,ops⟩:=z
   dsimp only at hF hL hO ⊢
   have hA:=iA_ (l:=l) (k:=x.key) (by simp only [bR_];omega)
   have hC:=el_ 6 x.value (hj_ hxo)
   have hWi:=lM_ (k:=i) (by omega)
   simp only [a3_.turn17,a3_.step17,bN_,nc_,Int.toNat_natCast,←hx,W_up hi (show now.length≤bR_ by simp only [bR_];omega),ct_ hi,b9_ hi,cond_true,bl_,ab_ hA]
   refine ⟨trivial,?_⟩
   unfold fx_ at hF
   by_cases h1:kAt (bt_ l) x.key=(i:Int)
   · rw [if_pos h1] at hF
     have hil:=(kk_ h1).1
     rw [b8_] at hil
     have ho:=hO _ (bH_ aq_.dflt hil)
     have hK:=iB_ 6 (l.getD i aq_.dflt).value x.value (hu_ 6 _ (hj_ ho)) ho.2
     simp only [h1,beq_self_eq_true,cond_true,bl_,b9_ hil,Int.toNat_natCast,ab_ hK,ao_,ab_ hWi,ab_ hC,bn_]
     refine ⟨trivial,fun hc => ?_,fun hc => ?_⟩
     · have hc:ee_ 6 (l.getD i aq_.dflt).value x.value=false:=by simpa using hc
       rw [hc] at hF
       exact ⟨by simp only [List.length_cons,List.length_nil];omega,hF⟩
     · have hc:ee_ 6 (l.getD i aq_.dflt).value x.value=true:=by simpa using hc
       rw [hc] at hF
       simp only [cond_true,List.append_nil] at hF
       exact hF
   · rw [if_neg h1] at hF
     have hne:(kAt (bt_ l) x.key == (i:Int))=false:=beq_eq_false_iff_ne.2 h1
     by_cases h2:(i:Int)<kAt (bt_ l) x.key
     · rw [if_pos h2] at hF
       obtain ⟨p,hp,h3,h4⟩:=nd_ h2
       rw [hp,Int.toNat_natCast] at hF
       rw [hp] at h2 hne
       have hdl:=hY_ h4
       have hI:=g9_ (l:=del l p) (k:=i) (x:=x) (by omega) (by omega)
       simp only [hp,hne,decide_eq_true (show (p:Int) > (i:Int) by omega),cond_true,cond_false,ab_ (lM_ (k:=p) (by omega)),bn_,W_up h4 (show l.length≤bR_ by simp only [bR_];omega),ab_ (he_ h4),ab_ hWi,ab_ hC,ab_ hI]
       refine ⟨by simp only [List.length_cons,List.length_nil];omega,by simp only [List.length_append,List.length_cons,List.length_nil];omega,?_⟩
       rw [List.append_assoc]
       exact hF
     · rw [if_neg h2] at hF
       have hI:=g9_ (l:=l) (k:=i) (x:=x) (by omega) (by omega)
       simp only [hne,decide_eq_false (show ¬ kAt (bt_ l) x.key > (i:Int) from h2),cond_false,ab_ hWi,ab_ hC,bn_,ab_ hI]
       exact ⟨by simp only [List.length_cons,List.length_nil];omega,hF⟩
 · simp only [a3_.turn17,a3_.step17,b7_,cond_false,af_]
structure AddInv (old now:List aq_) (l:List aq_) (i:Nat):Prop where
 len:i≤l.length
 front:∀ j,j<i→(l.getD j aq_.dflt).key=(now.getD j aq_.dflt).key
 from_:∀ x ∈ l,x ∈ old∨∃ j,j<i∧x.key=(now.getD j aq_.dflt).key
def iF_ (now:List aq_):Prop:=∀ i j,i<j→j<now.length→(now.getD i aq_.dflt).key≠(now.getD j aq_.dflt).key
theorem nr_ {α:Type} (d:α) {a b:List α} {j:Nat} (h:j<a.length):(a++b).getD j d=a.getD j d:=by
 rw [List.getD_eq_getElem?_getD,List.getD_eq_getElem?_getD,List.getElem?_append_left h]
theorem kl_ {l:List aq_} {i j:Nat} {x:aq_} (hi:i≤l.length) (h:j<i):(fU_ l i x).getD j aq_.dflt=l.getD j aq_.dflt:=by
 have hl:(l.take i).length=i:=by simp;omega
 unfold fU_
 rw [List.append_assoc,nr_ _ (by omega),List.getD_eq_getElem?_getD,List.getD_eq_getElem?_getD,List.getElem?_take_of_lt h]
theorem pj_ {l:List aq_} {i:Nat} {x:aq_} (hi:i≤l.length):(fU_ l i x).getD i aq_.dflt=x:=by
 have hl:(l.take i).length=i:=by simp;omega
 unfold fU_
 rw [List.append_assoc,List.getD_eq_getElem?_getD,List.getElem?_append_right (by omega),hl,Nat.sub_self];rfl
theorem del_front {l:List aq_} {p j:Nat} (hp:p≤l.length) (h:j<p):(del l p).getD j aq_.dflt=l.getD j aq_.dflt:=by
 have hl:(l.take p).length=p:=by simp;omega
 unfold del
 rw [nr_ _ (by omega),List.getD_eq_getElem?_getD,List.getD_eq_getElem?_getD,List.getElem?_take_of_lt h]
theorem oB_ {old now l:List aq_} {i:Nat} (h:AddInv old now l i) (hi:i<now.length):AddInv old now (fx_ l i (now.getD i aq_.dflt)).1 (i+1):=by
 refine ⟨(lG_ h.len).1,fun j hj => ?_,fun x hx => ?_⟩
 · unfold fx_
   by_cases h1:kAt (bt_ l) (now.getD i aq_.dflt).key=(i:Int)
   · rw [if_pos h1]
     by_cases e:j=i
     · subst e
       obtain ⟨a,b⟩:=kk_ h1
       rw [b8_] at a
       rw [←b,dK_ a]
     · exact h.front j (by omega)
   · rw [if_neg h1]
     by_cases h2:(i:Int)<kAt (bt_ l) (now.getD i aq_.dflt).key
     · rw [if_pos h2]
       obtain ⟨p,hp,h3,h4⟩:=nd_ h2
       rw [hp,Int.toNat_natCast]
       have hdl:=hY_ h4
       by_cases e:j=i
       · subst e;rw [pj_ (by omega)]
       · rw [kl_ (by omega) (by omega),del_front (by omega) (by omega)];exact h.front j (by omega)
     · rw [if_neg h2]
       by_cases e:j=i
       · subst e;rw [pj_ h.len]
       · rw [kl_ h.len (by omega)];exact h.front j (by omega)
 · rcases lF_ hx with e|hx
   · exact .inr ⟨i,by omega,by rw [e]⟩
   · rcases h.from_ x hx with h' | ⟨j,hj,e⟩
     · exact .inl h'
     · exact .inr ⟨j,by omega,e⟩
theorem lH_ {old now:List aq_} {s:List aq_ × List TOp} (h0:∀ x ∈ s.1,x ∈ old):∀ i,i≤now.length→AddInv old now (fE_ now s i).1 i
 |0,_=>⟨Nat.zero_le _,fun j hj=>by omega,fun x hx=>.inl (h0 x hx)⟩
 |i+1,hi=>oB_ (lH_ h0 i (by omega)) (by omega)
theorem jK_ {l:List aq_} {k:Nat} (h:k<l.length):(l.map (·.value)).getD k aa_.dflt=(l.getD k aq_.dflt).value:=gl_ (fun x:aq_=>x.value) aq_.dflt aa_.dflt h
theorem spec_add {old now:List aq_} {s:List aq_ × List TOp} (hnl:now.length≤2000000) (hold:old.length≤2000000) (hsl:s.1.length≤2000000) (hol:s.2.length≤2000000) (hn:∀ x ∈ now,okK x) (ho:∀ x ∈ old,okK x) (h0:∀ x ∈ s.1,x ∈ old)
  (hd:iF_ now) (hod:∀ x ∈ old,∀ y ∈ old,x.key=y.key→x=y) :
  Ev (fun n _=>aE_.loop13 n (fun xy21=>(some xy21)) n (old.map (·.value)) (bt_ old) (now.map (·.value)) (bt_ now) 0 s.2 (bt_ s.1)) (fE_ now s now.length).2:=by
 refine dT_ (fE_ now s) now.length (fun n N i (z:List aq_ × List TOp)=>aE_.loop13 n (fun xy21=>(some xy21)) N (old.map (·.value)) (bt_ old) (now.map (·.value)) (bt_ now) (i:Int) z.2 (bt_ z.1)) _ (fun i hi F hF => ?_) ?_
 · have hL:=g7_ now s i
   have hI:=lH_ (now:=now) h0 i (by omega)
   simp only [fE_] at hF
   obtain ⟨x,hx⟩:∃ x,x=now.getD i aq_.dflt:=⟨_,rfl⟩
   have hxo:okK x:=by rw [hx];exact hn _ (bH_ aq_.dflt hi)
   have hik:i<(bt_ now).length:=by rw [b8_];exact hi
   have hiv:i<(now.map (·.value)).length:=by simpa using hi
   have hkey:(bt_ now).getD i 0=x.key:=by rw [dK_ hi,hx]
   have hval:(now.map (·.value)).getD i aa_.dflt=x.value:=by rw [jK_ hi,hx]
   rw [←hx] at hF
   generalize fE_ now s i=z at hF hL hI ⊢
   obtain ⟨l,ops⟩:=z
   dsimp only at hF hL hI ⊢
   have hA:=fF_ (ks:=bt_ l) (k:=x.key) (by rw [b8_];simp only [bR_];omega)
   have hC:=eR_ 6 x.value (hj_ hxo)
   have hWi:=dQ_ (x:=(i:Int)) (by omega) (by omega)
   simp only [aE_.turn13,aE_.step13,bN_,Int.toNat_natCast,hkey,hval,W_up hik (show (bt_ now).length≤bR_ by rw [b8_];simp only [bR_];omega),ct_ hik,b9_ hik,b9_ hiv,cond_true,bl_,ab_ hA,ab_ hWi]
   refine ⟨trivial,?_⟩
   unfold fx_ at hF
   by_cases h1:kAt (bt_ l) x.key=(i:Int)
   · rw [if_pos h1] at hF
     obtain ⟨hil,hke⟩:=kk_ h1
     rw [b8_] at hil
     rw [dK_ hil] at hke
     have hmem:l.getD i aq_.dflt ∈ old:=by
      rcases hI.from_ _ (bH_ aq_.dflt hil) with h' | ⟨j,hj,e⟩
      · exact h'
      · exact absurd (by rw [←e,hke,hx]) (hd j i hj hi)
     have hin:x.key ∈ bt_ old:=List.mem_map.2 ⟨_,hmem,hke⟩
     obtain ⟨q,hq,hql,hqk⟩:=lm_ hin
     have hqo:q<old.length:=by rwa [b8_] at hql
     have hqe:old.getD q aq_.dflt=l.getD i aq_.dflt:=hod _ (bH_ aq_.dflt hqo) _ hmem (by rw [←dK_ hqo,hqk,hke])
     have hqv:(old.map (·.value)).getD q aa_.dflt=(l.getD i aq_.dflt).value:=by rw [jK_ hqo,hqe]
     have hqi:q<(old.map (·.value)).length:=by simpa using hqo
     have hB:=fF_ (ks:=bt_ old) (k:=x.key) (by rw [b8_];simp only [bR_];omega)
     rw [hq] at hB
     have hoo:=ho _ hmem
     have hK:=fQ_ 6 (l.getD i aq_.dflt).value x.value (hu_ 6 _ (hj_ hoo)) hoo.2
     simp only [h1,beq_self_eq_true,cond_true,bl_,ab_ hB,b9_ hqi,b9_ hik,b9_ hiv,Int.toNat_natCast,hqv,ab_ hK,ao_,ab_ hC,bn_]
     refine ⟨trivial,trivial,trivial,fun hc => ?_,fun hc => ?_⟩
     · have hc:ee_ 6 (l.getD i aq_.dflt).value x.value=false:=by simpa using hc
       rw [hc] at hF
       exact ⟨trivial,by simp only [List.length_cons,List.length_nil];omega,hF⟩
     · have hc:ee_ 6 (l.getD i aq_.dflt).value x.value=true:=by simpa using hc
       rw [hc] at hF
       simp only [cond_true,List.append_nil] at hF
       exact hF
   · rw [if_neg h1] at hF
     have hne:(kAt (bt_ l) x.key == (i:Int))=false:=beq_eq_false_iff_ne.2 h1
     by_cases h2:(i:Int)<kAt (bt_ l) x.key
     · rw [if_pos h2] at hF
       obtain ⟨p,hp,h3,h4⟩:=nd_ h2
       rw [hp,Int.toNat_natCast] at hF
       rw [hp] at h2 hne
       have hdl:=hY_ h4
       have hpk:p<(bt_ l).length:=by rw [b8_];exact h4
       have hW:=k6_ hpk (by rw [b8_];omega)
       have hm:del (bt_ l) p=bt_ (del l p):=(del_map (fun x:aq_=>x.key) l p).symm
       rw [hm] at hW
       have hN:=ne_ (ks:=bt_ (del l p)) (k:=i) (x:=x.key) (by rw [b8_];omega) (by rw [b8_];omega)
       have hm2:fU_ (bt_ (del l p)) i x.key=bt_ (fU_ (del l p) i x):=(ng_ (fun x:aq_=>x.key) (del l p) i x).symm
       rw [hm2] at hN
       simp only [hp,hne,decide_eq_true (show (p:Int)≥0 by omega),cond_true,cond_false,ab_ (dQ_ (x:=(p:Int)) (by omega) (by omega)),bn_,ab_ hW,bl_,b9_ hik,b9_ hiv,ab_ hC,ab_ hN]
       refine ⟨by simp only [List.length_cons,List.length_nil];omega,trivial,by simp only [List.length_append,List.length_cons,List.length_nil];omega,trivial,?_⟩
       rw [List.append_assoc]
       exact hF
     · rw [if_neg h2] at hF
       have hlt:kAt (bt_ l) x.key<0:=Classical.byContradiction fun hc=>by
        obtain ⟨q,hq⟩:∃ q:Nat,kAt (bt_ l) x.key=q:=⟨(kAt (bt_ l) x.key).toNat,by omega⟩
        have hqi:q<i:=by omega
        obtain ⟨a,b⟩:=kk_ hq
        rw [b8_] at a
        rw [dK_ a,hI.front q hqi,hx] at b
        exact hd q i hqi hi b
       have hN:=ne_ (ks:=bt_ l) (k:=i) (x:=x.key) (by rw [b8_];omega) (by rw [b8_];omega)
       have hm2:fU_ (bt_ l) i x.key=bt_ (fU_ l i x):=(ng_ (fun x:aq_=>x.key) l i x).symm
       rw [hm2] at hN
       simp only [hne,decide_eq_false (show ¬ kAt (bt_ l) x.key≥0 by omega),cond_false,bl_,b9_ hik,b9_ hiv,ab_ hC,bn_,ab_ hN]
       exact ⟨trivial,by simp only [List.length_cons,List.length_nil];omega,trivial,hF⟩
 · have e:((bt_ now).length:Int)=(now.length:Int):=by rw [b8_]
   simp only [aE_.turn13,aE_.step13,e,b7_,cond_false,af_]
end Go.Pi
end
section
namespace Go.Pi
def gx_ (kids:List TKid) (id:Int):Int:=fM_ (fun i x=>cond ((kids.getD i TKid.dflt).id_ == id) (kids.getD i TKid.dflt).n_ x) 0 kids.length 0
theorem hF_ {v:aD_} {id:Int} (h:v.kids.length≤bR_):Ev (fun n _=>bP_ n v id) (gx_ v.kids id):=by
 refine as_ ?_
 simp only [bP_]
 refine hW_ (fun n N i=>bP_.loop3 n (some 0) N id (i:Int) v.q.table v.q.where_ v.q.order v.q.down v.q.first v.q.show_ v.q.kids v.q.kidTable v.q.kidCol v.rows v.kids) _ (fun i u hi ih => ?_) ?_
 · simp only [bP_.turn3,bP_.step3,Int.toNat_natCast,W_up hi h,ao_,bl_,af_,c0_ ih,ct_ hi,b9_ hi]
   cases ((v.kids.getD i TKid.dflt).id_ == id)<;>simp
 · simp only [bP_.turn3,bP_.step3,b7_,cond_false,af_]
theorem k1_ {v:aD_} {id:Int} (h:v.kids.length≤bR_):Ev (fun n _=>bW_ n v id) (gx_ v.kids id):=by
 refine as_ ?_
 simp only [bW_]
 refine hW_ (fun n N i=>bW_.loop3 n (some 0) N id v.kids (v.kids.length:Int) (i:Int)) _ (fun i u hi ih => ?_) ?_
 · simp only [bW_.turn3,bW_.step3,Int.toNat_natCast,W_up hi h,ao_,bl_,af_,c0_ ih,ct_ hi,b9_ hi]
   cases ((v.kids.getD i TKid.dflt).id_ == id)<;>simp
 · simp only [bW_.turn3,bW_.step3,b7_,cond_false,af_]
def dP_ (v:aD_):List Int:=v.rows.map fun r=>gx_ v.kids r.id_
theorem oW_ (v:aD_):aD_.mk (an_.mk v.q.table v.q.where_ v.q.order v.q.down v.q.first v.q.show_ v.q.kids v.q.kidTable v.q.kidCol) v.rows v.kids=v:=rfl
theorem iO_ {v:aD_} (h:v.kids.length≤bR_) (hr:v.rows.length≤eu_):Ev (fun n _=>a4_ n v) (dP_ v):=by
 refine as_ ?_
 have hl:=hr
 simp only [eu_] at hl
 simp only [a4_]
 refine ly_ TRow.dflt v.rows (fun r=>gx_ v.kids r.id_) (fun n N i s=>a4_.loop4 n (fun xy2=>(some xy2)) N (i:Int) v.q.table v.q.where_ v.q.order v.q.down v.q.first v.q.show_ v.q.kids v.q.kidTable v.q.kidCol v.rows v.kids s) (dP_ v) (fun i s hi hs F hF => ?_) ?_
 · simp only [a4_.turn4,a4_.step4,oW_,Int.toNat_natCast,W_up hi (show v.rows.length≤bR_ by simp only [bR_];omega),ao_,bl_,ab_ (hF_ (v:=v) (id:=(v.rows.getD i TRow.dflt).id_) h),bn_,ct_ hi,b9_ hi]
   exact ⟨fun _=>⟨trivial,by simp;omega,hF⟩,fun h=>by cases h⟩
 · simp only [a4_.turn4,a4_.step4,b7_,cond_false,af_];rfl
theorem fL_ {v:aD_} (h:v.kids.length≤bR_) (hr:v.rows.length≤eu_):Ev (fun n _=>aQ_ n v) (dP_ v):=by
 refine as_ ?_
 have hl:=hr
 simp only [eu_] at hl
 simp only [aQ_]
 refine ly_ TRow.dflt v.rows (fun r=>gx_ v.kids r.id_) (fun n N i s=>aQ_.loop4 n (fun xy2=>(some xy2)) N v.rows (v.rows.length:Int) (i:Int) v.q.table v.q.where_ v.q.order v.q.down v.q.first v.q.show_ v.q.kids v.q.kidTable v.q.kidCol v.rows v.kids s) (dP_ v) (fun i s hi hs F hF => ?_) ?_
 · simp only [aQ_.turn4,aQ_.step4,oW_,Int.toNat_natCast,W_up hi (show v.rows.length≤bR_ by simp only [bR_];omega),ao_,bl_,ab_ (k1_ (v:=v) (id:=(v.rows.getD i TRow.dflt).id_) h),bn_,ct_ hi,b9_ hi]
   exact ⟨fun _=>⟨trivial,by simp;omega,hF⟩,fun h=>by cases h⟩
 · simp only [aQ_.turn4,aQ_.step4,b7_,cond_false,af_];rfl
def et_ (q:an_) (n:Nat):Nat:=if q.first=0 then n else min n q.first.toNat
theorem ko_ {q:an_} {n:Nat}:Ev (fun m _=>dy_ m q (n:Int)) (et_ q n:Int):=by
 refine as_ ?_
 simp only [dy_,ao_,af_,et_]
 refine ⟨fun h=>by rw [if_pos (by simpa using h)],fun h => ?_⟩
 rw [if_neg (by simpa using h)]
 by_cases h1:(0:Int) > q.first
 · rw [decide_eq_true h1,cond_true]
   rw [decide_eq_false (by omega),cond_false];omega
 · rw [decide_eq_false h1,cond_false]
   by_cases h2:(n:Int)<q.first
   · rw [decide_eq_true h2,cond_true];omega
   · rw [decide_eq_false h2,cond_false];omega
theorem ej_ {q:an_} {n:Nat}:Ev (fun m _=>c4_ m q (n:Int)) (et_ q n:Int):=by
 refine as_ ?_
 have hmin:∀ a b:Int,Ev (fun m _=>d7_ m a b) (min a b):=fun a b=>as_ (by simp only [d7_,ao_,af_,decide_eq_true_eq,decide_eq_false_iff_not];constructor<;>intro h<;>omega)
 have hmax:∀ a b:Int,Ev (fun m _=>cp_ m a b) (max a b):=fun a b=>as_ (by simp only [cp_,ao_,af_,decide_eq_true_eq,decide_eq_false_iff_not];constructor<;>intro h<;>omega)
 simp only [c4_,ao_,af_,ab_ (hmin _ _),ab_ (hmax _ _),et_]
 refine ⟨fun h=>by rw [if_pos (by simpa using h)],fun h => ?_⟩
 rw [if_neg (by simpa using h)]
 omega
end Go.Pi
end
section
namespace Go.Pi
def fZ_ (g:aa_→aa_) (q:an_) (rows:List TRow) (kids:List Int) (m:Nat):List aa_:=(List.range m).map fun i=>g (fW_ q (rows.getD i TRow.dflt) (kids.getD i 0))
theorem i6_ {g:aa_→aa_} {q:an_} {rows:List TRow} {kids:List Int} {m:Nat}:fZ_ g q rows kids (m+1)=fZ_ g q rows kids m++[g (fW_ q (rows.getD m TRow.dflt) (kids.getD m 0))]:=by
 unfold fZ_;rw [List.range_succ,List.map_append];rfl
theorem fA_ {g:aa_→aa_} {q:an_} {rows:List TRow} {kids:List Int} {m:Nat}:(fZ_ g q rows kids m).length=m:=by unfold fZ_;simp
abbrev nmCount:Bs:=[99,111,117,110,116]
abbrev hI_:Bs:=[114,111,119,115]
def hO_ (n:Nat) (docs:List aa_):aa_:=aa_.mk 5 0 [] [hH_ n,aa_.mk 4 0 [] docs []] [nmCount,hI_]
theorem hd_ {q:an_} {n:Nat}:et_ q n≤n:=by unfold et_;split<;>omega
def FDoc (q:an_) (rows:List TRow) (kids:List Int):aa_:=da_ (hO_ rows.length (fZ_ id q rows kids (et_ q rows.length)))
theorem pZ_ {n:Nat} {docs:List aa_} (hl:docs.length≤bR_) (hd:∀ j ∈ docs,gh_ 4 j):gh_ 6 (hO_ n docs):=by
 refine ⟨⟨Nat.zero_le _,by show 2≤bR_;decide,fun x hx => ?_⟩,by show 2≤bR_;decide,fun x hx => ?_⟩
 · rcases List.mem_cons.1 hx with e|hx
   · rw [e];show 5≤bR_;decide
   · rw [List.mem_singleton.1 hx];show 4≤bR_;decide
 · rcases List.mem_cons.1 hx with e|hx
   · rw [e];exact iw_ 5
   · rw [List.mem_singleton.1 hx]
     exact ⟨⟨Nat.zero_le _,Nat.zero_le _,fun x hx=>(by cases hx)⟩,hl,hd⟩
theorem whole_bad {n:Nat} {docs:List aa_} {j:aa_} (hj:j ∈ docs) (hb:cs_ 4 j=401):cB_ (hO_ n docs)=false:=by
 refine decide_eq_false fun h => ?_
 have h1:=lP_ (cs_ 4) hj
 have h2:cs_ 5 (aa_.mk 4 0 [] docs [])=401:=by
  show cond (FOwn _) (min 401 (1+hy_ (cs_ 4) docs)) 401=401
  cases FOwn (aa_.mk 4 0 [] docs [])<;>simp only [cond_true,cond_false]
  omega
 have h3:cs_ 6 (hO_ n docs)=401:=by
  show cond (FOwn _) (min 401 (1+(cs_ 5 (hH_ n)+(cs_ 5 (aa_.mk 4 0 [] docs [])+0)))) 401=401
  rw [h2]
  cases FOwn (hO_ n docs)<;>simp only [cond_true,cond_false]
  omega
 omega
theorem lJ_ {q:an_} {r:TRow} {kids:Int} (d:Nat):cs_ (d+2) (fW_ q r kids)=cs_ 2 (fW_ q r kids):=FSize_obj _ d
theorem ka_ {q:an_} {rows:List TRow} {kids:List Int} (hq:q.show_.length≤1100000) (hs:∀ c ∈ q.show_,i64 c) (hl:rows.length≤2000000) {m:Nat} (hm:m≤rows.length):gh_ 6 (hO_ rows.length (fZ_ id q rows kids m)):=by
 refine pZ_ (by rw [fA_];simp only [bR_];omega) fun j hj => ?_
 obtain ⟨i,_,e⟩:=List.mem_map.1 hj
 rw [←e];exact jA_ hq hs 4
theorem kP_ {l:List aa_} (hl:l.length≤bR_):Ev (fun n _=>a1_ n l) (decide (∃ j ∈ l,j.kind=0)):=by
 have hf:∀ j:aa_,Ev (fun n _=>dh_ n j) (j.kind == 0):=fun j=>as_ (by simp only [dh_,af_])
 have h:Ev (fun n _=>ae_ n l) (if l.findIdx (fun j=>j.kind == 0)<l.length then ((l.findIdx (fun j=>j.kind == 0):Nat):Int) else -1):=by
  refine as_ ?_
  rw [←e0_ aa_.dflt]
  simp only [ae_]
  refine hW_ (fun n N i=>ae_.loop3 n (some (-1)) N l (l.length:Int) (i:Int)) _ (fun i u hi ih => ?_) ?_
  · simp only [ae_.turn3,ae_.step3,bN_,Int.toNat_natCast,W_up hi hl,ao_,bl_,ab_ (hf _),af_,c0_ ih,ct_ hi,b9_ hi]
    clear ih
    cases ((l.getD i aa_.dflt).kind == 0)<;>simp
  · simp only [ae_.turn3,ae_.step3,b7_,cond_false,af_]
 refine as_ ?_
 simp only [a1_,ab_ h,af_]
 have e:(l.findIdx (fun j=>j.kind == 0)<l.length)↔∃ j ∈ l,j.kind=0:=by
  rw [List.findIdx_lt_length];simp
 by_cases hm:∃ j ∈ l,j.kind=0
 · rw [if_pos (e.2 hm),decide_eq_true hm,decide_eq_true (by omega)]
 · rw [if_neg (fun h=>hm (e.1 h)),decide_eq_false hm];rfl
section
variable {q:an_} {rows:List TRow} {kids:List Int} (hq:q.show_.length≤1100000) (hs:∀ c ∈ q.show_,i64 c) (hr:f8_ bR_ rows) (hl:rows.length≤2000000)
include hq hs hr hl
theorem lT_ (hk:kids.length≤bR_):Ev (fun n _=>b1_ n q rows kids) (FDoc q rows kids):=by
 refine as_ ?_
 simp only [b1_]
 have hF:=hd_ (q:=q) (n:=rows.length)
 have eq0:an_.mk q.table q.where_ q.order q.down q.first q.show_ q.kids q.kidTable q.kidCol=q:=rfl
 have:=dT_ (fZ_ id q rows kids) (et_ q rows.length) (fun n N i (s:List aa_)=>b1_.loop4 n (fun xy4 xy5 xy6 xy7 xy8 xy9 xy10 xy11=>((cL_ n (xy4.length:Int)).bind fun xr12=>((cQ_ n (aa_.mk 5 0 [] ([(aa_.re xr12),(aa_.mk xy8 xy9 xy10 xy11 [])]:List aa_) ([[99,111,117,110,116],[114,111,119,115]]:List Bs))).bind fun xr13=>(some (aa_.re xr13))))) N rows kids (i:Int) q.table q.where_ q.order q.down q.first q.show_ q.kids q.kidTable q.kidCol 0 0 [] 4 0 [] s) (FDoc q rows kids) (fun i hi F hF => ?_) ?_
 · exact this
 · have hir:i<rows.length:=by omega
   have hR:∀ k,Ev (fun n _=>bv_ n q (rows.getD i TRow.dflt) k) (fW_ q (rows.getD i TRow.dflt) k):=fun k=>hC_ hq hs (f5_ hr i)
   rw [i6_] at hF
   simp only [bN_] at hF
   have hlen:=fA_ (g:=id) (q:=q) (rows:=rows) (kids:=kids) (m:=i)
   generalize fZ_ id q rows kids i=s at hF hlen
   simp only [b1_.turn4,b1_.step4,eq0,Int.toNat_natCast,bN_,W_up hir (show rows.length≤bR_ by simp only [bR_];omega),ab_ ej_,ab_ (hR _),decide_eq_true (show ((i:Int)<(et_ q rows.length:Int)) by omega),b9_ hir,cond_true,ao_,bl_,bn_]
   refine ⟨fun h=>⟨⟨by omega,by have:=of_decide_eq_true h;omega⟩,trivial,by simp;omega,hF⟩,fun h=>⟨trivial,by simp;omega,?_⟩⟩
   have h:=of_decide_eq_false h
   have e:kids.getD i 0=0:=by rw [List.getD_eq_getElem?_getD,List.getElem?_eq_none (by omega)];rfl
   rw [e] at hF;exact hF
 · have hw:=kg_ (ka_ hq hs hl (kids:=kids) hF)
   unfold hO_ at hw
   simp only [b1_.turn4,b1_.step4,eq0,bN_,ab_ ej_,b7_,cond_false,ab_ kh_,ab_ hw,af_]
   rfl
theorem gZ_ (hk:kids.length≤bR_):Ev (fun n _=>bf_ n q rows kids) (fZ_ da_ q rows kids (et_ q rows.length)):=by
 refine as_ ?_
 have hF:=hd_ (q:=q) (n:=rows.length)
 simp only [bf_,ab_ ko_,gm_,Int.toNat_natCast,List.drop_zero]
 refine ⟨⟨by omega,by omega,by omega⟩,?_⟩
 have eq0:an_.mk q.table q.where_ q.order q.down q.first q.show_ q.kids q.kidTable q.kidCol=q:=rfl
 generalize hm:et_ q rows.length=m at hF
 have hml:(rows.take m).length=m:=by simp;omega
 have:=dT_ (fZ_ da_ q rows kids) m (fun n N i (s:List aa_)=>bf_.loop4 n (fun xy4=>(some xy4)) N kids (rows.take m) ((rows.take m).length:Int) (i:Int) q.table q.where_ q.order q.down q.first q.show_ q.kids q.kidTable q.kidCol s) (fZ_ da_ q rows kids m) (fun i hi F hF' => ?_) ?_
 · exact this
 · have hR:∀ k,Ev (fun n _=>bB_ n q (rows.getD i TRow.dflt) k) (da_ (fW_ q (rows.getD i TRow.dflt) k)):=fun k=>k0_ hq hs (f5_ hr i)
   rw [i6_] at hF'
   have hlen:=fA_ (g:=da_) (q:=q) (rows:=rows) (kids:=kids) (m:=i)
   generalize fZ_ da_ q rows kids i=s at hF' hlen
   have hil:i<(rows.take m).length:=by omega
   have eg:(rows.take m).getD i TRow.dflt=rows.getD i TRow.dflt:=by rw [List.getD_eq_getElem?_getD,List.getD_eq_getElem?_getD,List.getElem?_take_of_lt hi]
   simp only [bf_.turn4,bf_.step4,eq0,Int.toNat_natCast,bN_,eg,W_up hil (show (rows.take m).length≤bR_ by simp only [bR_];omega),ct_ hil,b9_ hil,ab_ (hR _),cond_true,ao_,bl_,bn_]
   refine ⟨trivial,fun h=>⟨⟨by omega,by have:=of_decide_eq_true h;omega⟩,by simp;omega,hF'⟩,fun h=>⟨by simp;omega,?_⟩⟩
   have h:=of_decide_eq_false h
   have e:kids.getD i 0=0:=by rw [List.getD_eq_getElem?_getD,List.getElem?_eq_none (by omega)];rfl
   rw [e] at hF';exact hF'
 · have e:(((rows.take m).length:Nat):Int)=(m:Int):=by rw [hml]
   simp only [bf_.turn4,bf_.step4,e,b7_,cond_false,af_]
theorem mm_ (hk:kids.length≤bR_):Ev (fun n _=>ec_ n q rows kids) (FDoc q rows kids):=by
 refine as_ ?_
 have hF:=hd_ (q:=q) (n:=rows.length)
 have hC:=kP_ (l:=fZ_ da_ q rows kids (et_ q rows.length)) (by rw [fA_];simp only [bR_];omega)
 simp only [ec_,ab_ (gZ_ hq hs hr hl hk),ab_ hC,ao_,af_]
 have hbad:∀ i,i<et_ q rows.length→cB_ (fW_ q (rows.getD i TRow.dflt) (kids.getD i 0))=false→FDoc q rows kids=is_:=fun i hi hb=>by
  have h4:cs_ 4 (fW_ q (rows.getD i TRow.dflt) (kids.getD i 0))=401:=by
   have h6:¬ cs_ 6 (fW_ q (rows.getD i TRow.dflt) (kids.getD i 0))≤400:=of_decide_eq_false hb
   have:=pJ_ 6 (fW_ q (rows.getD i TRow.dflt) (kids.getD i 0))
   rw [lJ_ 4] at h6 this
   rw [lJ_ 2];omega
  have:cB_ (hO_ rows.length (fZ_ id q rows kids (et_ q rows.length)))=false :=
   whole_bad (List.mem_map.2 ⟨i,List.mem_range.2 hi,rfl⟩) h4
  unfold FDoc da_;rw [this];rfl
 refine ⟨fun h => ?_,fun h => ?_⟩
 · obtain ⟨j,hj,hk⟩:=of_decide_eq_true h
   obtain ⟨i,hi,e⟩:=List.mem_map.1 hj
   rw [hbad i (List.mem_range.1 hi)];· rfl
   rw [←e] at hk
   cases ho:cB_ (fW_ q (rows.getD i TRow.dflt) (kids.getD i 0)) with
   |false=>rfl
   |true=>unfold da_ at hk;rw [ho] at hk;cases hk
 · have h:=of_decide_eq_false h
   have e:fZ_ da_ q rows kids (et_ q rows.length)=fZ_ id q rows kids (et_ q rows.length):=by
    refine List.map_congr_left fun i hi => ?_
    cases ho:cB_ (fW_ q (rows.getD i TRow.dflt) (kids.getD i 0)) with
    |true=>unfold da_;rw [ho];rfl
    |false=>exact absurd ⟨_,List.mem_map.2 ⟨i,hi,rfl⟩,by unfold da_;rw [ho];rfl⟩ h
   rw [e]
   have hw:=iq_ (ka_ hq hs hl (kids:=kids) hF)
   unfold hO_ hH_ at hw
   simp only [bN_,ab_ hw,af_]
   rfl
end
end Go.Pi
end
section
namespace Go.Pi
def iJ_ (v:aD_):aa_:=FDoc v.q v.rows (dP_ v)
theorem h3_ {v:aD_}:(dP_ v).length=v.rows.length:=by unfold dP_;simp
theorem f8_.top {r:List TRow} (h:f8_ cap r):f8_ bR_ r:=⟨Nat.le_trans h.1 (by decide),fun x hx=>Nat.le_trans (h.2 x hx) (by decide)⟩
section
variable {v:aD_} (h:iv_ cap v) (hs:∀ c ∈ v.q.show_,i64 c)
include h hs
theorem gV_:gh_ 6 (iJ_ v):=by
 have h1:=h.1.2;have h2:=h.2.1.1
 simp only [cap] at h1 h2
 unfold iJ_ FDoc da_
 have:=ka_ (kids:=dP_ v) (rows:=v.rows) (show v.q.show_.length≤1100000 by omega) hs (by omega) (hd_ (q:=v.q))
 cases cB_ (hO_ v.rows.length (fZ_ id v.q v.rows (dP_ v) (et_ v.q v.rows.length))) with
 |true=>exact this
 |false=>exact ⟨⟨Nat.zero_le _,Nat.zero_le _,fun x hx=>(by cases hx)⟩,Nat.zero_le _,fun x hx=>(by cases hx)⟩
theorem jS_:Ev (fun n _=>dv_ n v) (iJ_ v):=by
 refine as_ ?_
 have h1:=h.1.2;have h2:=h.2.1.1;have h3:=h.2.2
 simp only [cap] at h1 h2 h3
 have hc:=h3_ (v:=v)
 have hD:=lT_ (q:=v.q) (rows:=v.rows) (kids:=dP_ v) (by omega) hs h.2.1.top (by omega) (by simp only [bR_];omega)
 simp only [dv_,bN_,ab_ (iO_ (v:=v) (by simp only [bR_];omega) (by simp only [eu_];omega)),ab_ hD,af_]
 rfl
theorem g1_:Ev (fun n _=>c8_ n v) (iJ_ v):=by
 refine as_ ?_
 have h1:=h.1.2;have h2:=h.2.1.1;have h3:=h.2.2
 simp only [cap] at h1 h2 h3
 have hc:=h3_ (v:=v)
 have hD:=mm_ (q:=v.q) (rows:=v.rows) (kids:=dP_ v) (by omega) hs h.2.1.top (by omega) (by simp only [bR_];omega)
 simp only [c8_,bN_,ab_ (fL_ (v:=v) (by simp only [bR_];omega) (by simp only [eu_];omega)),ab_ hD,af_]
 rfl
end
end Go.Pi
end
section
namespace Go.Pi
def hz_ (l:List TOp):Nat:=l.findIdx fun o=>(dD_ o).kind == 0
def mz_ (l:List TOp):aa_:=aa_.mk 4 0 [] (l.map dD_) []
def dZ_ (l:List TOp):Int:=cond (decide (hz_ l<l.length)) (-1) (cond (gz_ (mz_ l) == []) (-1) ((gz_ (mz_ l)).length:Int))
theorem lC_ {l:List TOp} {i:Nat} (hi:i<hz_ l):((dD_ (l.getD i TOp.dflt)).kind == 0)=false:=by
 have hl:hz_ l≤l.length:=List.findIdx_le_length
 rw [List.getD_eq_getElem?_getD,List.getElem?_eq_getElem (by omega),Option.getD_some]
 have:=List.not_of_lt_findIdx (xs:=l) (p:=fun o=>(dD_ o).kind == 0) (i:=i) hi
 simpa using this
theorem bad_at {l:List TOp} (h:hz_ l<l.length):((dD_ (l.getD (hz_ l) TOp.dflt)).kind == 0)=true:=by
 rw [List.getD_eq_getElem?_getD,List.getElem?_eq_getElem h,Option.getD_some]
 exact List.findIdx_getElem (xs:=l) (p:=fun o=>(dD_ o).kind == 0) (w:=h)
theorem pb_ {α β:Type} (f:α→β) (d:α) {a:List α} {i:Nat} (h:i<a.length):(a.take (i+1)).map f=(a.take i).map f++[f (a.getD i d)]:=by
 rw [cC_ d h,List.map_append];rfl
def lk_ (l:List TOp):Prop:=l.length≤4000000∧∀ o ∈ l,n8_ o
theorem pg_ {l:List TOp} (h:lk_ l):gh_ 6 (mz_ l):=by
 refine ⟨⟨Nat.zero_le _,Nat.zero_le _,fun x hx=>(by cases hx)⟩,by have:=h.1;simp [mz_,bR_];omega,fun x hx => ?_⟩
 obtain ⟨o,ho,e⟩:=List.mem_map.1 hx
 rw [←e];exact oa_ 5 _ (n9_ (h.2 o ho))
theorem km_ {l:List TOp} (h:lk_ l):Ev (fun n _=>bg_ n l) (cond (decide (hz_ l<l.length)) (is_,false) (mz_ l,true)):=by
 refine as_ ?_
 have hl:=h.1
 have ht:l.length≤bR_:=by simp only [bR_];omega
 have hb:hz_ l≤l.length:=List.findIdx_le_length
 simp only [bg_]
 have:=dT_ (fun i=>(l.take i).map dD_) (hz_ l) (fun n N i (o:List aa_)=>bg_.loop4 n (fun xy2 xy3 xy4 xy5 xy6 xy7 xy8=>(some ((aa_.mk xy5 xy6 xy7 xy8 ([]:List Bs)),true))) N l (l.length:Int) (i:Int) 0 0 [] 4 0 [] o) (cond (decide (hz_ l<l.length)) (is_,false) (mz_ l,true)) (fun i hi F hF => ?_) ?_
 · exact this
 · have hi2:i<l.length:=by omega
   have hx:=hL_ (h.2 _ (bH_ TOp.dflt hi2))
   rw [pb_ dD_ TOp.dflt hi2] at hF
   have hol:((l.take i).map dD_).length≤i:=by simp;omega
   generalize (l.take i).map dD_=o at hF hol ⊢
   simp only [bg_.turn4,bg_.step4,bN_,j6_,Int.toNat_natCast,W_up hi2 ht,ct_ hi2,b9_ hi2,lC_ hi,cond_true,cond_false,bl_,bn_,ab_ hx]
   exact ⟨trivial,by simp;omega,hF⟩
 · by_cases hp:hz_ l<l.length
   · have hx:=hL_ (h.2 _ (bH_ TOp.dflt hp))
     simp only [bg_.turn4,bg_.step4,bN_,j6_,Int.toNat_natCast,ct_ hp,b9_ hp,bad_at hp,cond_true,bl_,ab_ hx,af_]
     rw [decide_eq_true hp]
     exact ⟨trivial,rfl⟩
   · have e:hz_ l=l.length:=by omega
     rw [decide_eq_false hp,cond_false]
     unfold mz_
     rw [e,List.take_length]
     simp only [bg_.turn4,bg_.step4,b7_,cond_false,af_]
theorem eN_ {l:List TOp} (h:lk_ l):Ev (fun n _=>cG_ n l) (dZ_ l):=by
 refine as_ ?_
 simp only [cG_,bN_,ab_ (km_ h)]
 unfold dZ_
 cases hp:decide (hz_ l<l.length) with
 |true=>
  simp only [cond_true,ab_ (eW_ (fr_ 6)),ao_,af_]
  simp
 |false=>
  simp only [cond_false,ab_ (eW_ (pg_ h)),ao_,af_]
  generalize gz_ (mz_ l)=s
  cases (s == [])<;>simp
end Go.Pi
end
section
namespace Go.Pi
def hw_ (old now:List aq_):List TOp:=(fE_ now (lb_ (bt_ now) old old.length old []) now.length).2
def es_ (docs:List aa_) (keys:List Int) (docs':List aa_) (keys':List Int):List TOp:=cond (kOk docs keys) (cond (kOk docs' keys') (hw_ (h7_ docs keys docs.length) (h7_ docs' keys' docs'.length)) []) []
structure KIs (docs:List aa_) (keys:List Int):Prop where
 len:docs.length=keys.length
 ok:∀ i,i<docs.length→cB_ (docs.getD i aa_.dflt)=true
 no:∀ i,i<docs.length→keys.getD i 0 ∉ keys.take i
theorem k_is {docs:List aa_} {keys:List Int} (h:kOk docs keys=true):KIs docs keys:=by
 unfold kOk at h
 rw [Bool.and_eq_true,fi_] at h
 refine ⟨of_decide_eq_true h.1,fun i hi => ?_,fun i hi => ?_⟩
 · have:=h.2 i hi
   rw [Bool.and_eq_true] at this;exact this.1
 · have:=h.2 i hi
   rw [Bool.and_eq_true] at this
   simpa using this.2
theorem jI_ {docs:List aa_} {keys:List Int} {m i:Nat} (h:i<m):(h7_ docs keys m).getD i aq_.dflt=aq_.mk (keys.getD i 0) (docs.getD i aa_.dflt):=by
 unfold h7_
 rw [gl_ (fun i=>aq_.mk (keys.getD i 0) (docs.getD i aa_.dflt)) 0 aq_.dflt (by simpa using h)]
 have:(List.range m).getD i 0=i:=by
  rw [List.getD_eq_getElem?_getD,List.getElem?_range h];rfl
 rw [this]
theorem lf_ {α:Type} (d:α) (l:List α):(List.range l.length).map (fun i=>l.getD i d)=l:=by
 apply List.ext_getElem?
 intro i
 by_cases h:i<l.length
 · rw [List.getElem?_map,List.getElem?_range h,List.getElem?_eq_getElem h]
   simp only [Option.map_some]
   rw [List.getD_eq_getElem?_getD,List.getElem?_eq_getElem h];rfl
 · rw [List.getElem?_eq_none (by simpa using h),List.getElem?_eq_none (by omega)]
theorem jG_ {docs:List aa_} {keys:List Int}:(h7_ docs keys docs.length).map (·.value)=docs:=by
 unfold h7_
 rw [List.map_map]
 exact lf_ aa_.dflt docs
theorem mD_ {docs:List aa_} {keys:List Int} (h:docs.length=keys.length):bt_ (h7_ docs keys docs.length)=keys:=by
 unfold bt_ h7_
 rw [List.map_map,h]
 exact lf_ 0 keys
theorem l9_ {α:Type} (d:α) {l:List α} {x:α} (h:x ∈ l):∃ i,i<l.length∧l.getD i d=x:=by
 obtain ⟨i,hi,e⟩:=List.mem_iff_getElem.1 h
 exact ⟨i,hi,by rw [List.getD_eq_getElem?_getD,List.getElem?_eq_getElem hi];exact e⟩
theorem lO_ {α:Type} (d:α) {l:List α} {i j:Nat} (h:i<j) (hj:j≤l.length):l.getD i d ∈ l.take j:=by
 have e:(l.take j).getD i d=l.getD i d:=by rw [List.getD_eq_getElem?_getD,List.getD_eq_getElem?_getD,List.getElem?_take_of_lt h]
 rw [←e];exact bH_ d (by simp;omega)
theorem f9_ {docs:List aa_} {keys:List Int} (h:KIs docs keys):iF_ (h7_ docs keys docs.length):=by
 intro i j hij hj
 rw [fb_] at hj
 rw [jI_ (by omega),jI_ hj]
 intro e
 have e:keys.getD i 0=keys.getD j 0:=e
 exact h.no j hj (e ▸ lO_ 0 hij (by have:=h.len;omega))
theorem mr_ {l:List aq_} (h:iF_ l):∀ x ∈ l,∀ y ∈ l,x.key=y.key→x=y:=by
 intro x hx y hy e
 obtain ⟨i,hi,ei⟩:=l9_ aq_.dflt hx
 obtain ⟨j,hj,ej⟩:=l9_ aq_.dflt hy
 rcases Nat.lt_trichotomy i j with hij|hij|hij
 · exact absurd (by rw [ei,ej,e]) (h i j hij hj)
 · subst hij;rw [←ei,←ej]
 · exact absurd (by rw [ei,ej,e]) (h j i hij hi)
theorem jH_ {docs:List aa_} {keys:List Int} (h:KIs docs keys) (hJ:∀ j ∈ docs,gh_ 6 j):∀ x ∈ h7_ docs keys docs.length,okK x:=by
 intro x hx
 obtain ⟨i,hi,e⟩:=l9_ aq_.dflt hx
 rw [fb_] at hi
 rw [jI_ hi] at e
 rw [←e]
 exact ⟨h.ok i hi,hJ _ (bH_ aa_.dflt hi)⟩
section
variable {docs docs':List aa_} {keys keys':List Int} (hd:docs.length≤1500000) (hd':docs'.length≤1500000) (hJ:∀ j ∈ docs,gh_ 6 j) (hJ':∀ j ∈ docs',gh_ 6 j)
include hd hd' hJ hJ'
theorem ni_:Ev (fun n _=>a3_ n docs keys docs' keys') (es_ docs keys docs' keys'):=by
 refine as_ ?_
 simp only [a3_,ab_ (g0_ (keys:=keys) (by omega) hJ),ab_ (g0_ (keys:=keys') (by omega) hJ'),ao_,af_,es_]
 cases h1:kOk docs keys with
 |false=>exact ⟨fun _=>rfl,fun h=>(by cases h)⟩
 |true=>
  cases h2:kOk docs' keys' with
  |false=>exact ⟨fun h=>(by cases h),fun _=>⟨fun _=>rfl,fun h=>(by cases h)⟩⟩
  |true=>
   refine ⟨fun h=>(by cases h),fun _=>⟨fun h=>(by cases h),fun _ => ?_⟩⟩
   simp only [cond_true]
   have k1:=k_is h1
   have k2:=k_is h2
   have o1:=jH_ k1 hJ
   have o2:=jH_ k2 hJ'
   have l1:=fb_ (docs:=docs) (keys:=keys) (m:=docs.length)
   have l2:=fb_ (docs:=docs') (keys:=keys') (m:=docs'.length)
   generalize h7_ docs keys docs.length=old at o1 l1 ⊢
   generalize h7_ docs' keys' docs'.length=now at o2 l2 ⊢
   have hr:=ik_ (bt_ now) old old.length old [] (Nat.le_refl _)
   have hm:=jx_ (bt_ now) old old.length old []
   rw [W_dn (show old.length≤bR_ by simp only [bR_];omega)]
   simp only [List.length_nil] at hr
   refine en_ (f:=fun n N=>a3_.loop9 n (fun xy6 xy7 xy8=>(a3_.loop17 n (fun xy21=>(some xy21)) n (xy7.length:Int) 0 xy6 xy8 xy7)) N ((old.length:Int) - 1) old now []) (of_ (old:=old) (by omega) (fun n xy6 xy7 xy8=>(a3_.loop17 n (fun xy21=>(some xy21)) n (xy7.length:Int) 0 xy6 xy8 xy7)) _ old.length old [] rfl (Nat.le_refl _) (by omega) (by simp only [List.length_nil];omega) ?_)
   exact impl_add (by omega) (by omega) (by omega) o2 fun x hx=>o1 x (hm x hx)
theorem mL_ (hk:keys.length≤1500000) (hk':keys'.length≤1500000):Ev (fun n _=>eg_ n docs keys docs' keys') (es_ docs keys docs' keys'):=by
 refine as_ ?_
 simp only [eg_,ab_ (hB_ (docs:=docs) (keys:=keys) (by omega) (by omega) hJ),ab_ (hB_ (docs:=docs') (keys:=keys') (by omega) (by omega) hJ'),ao_,af_,es_]
 cases h1:kOk docs keys with
 |false=>exact ⟨fun _=>rfl,fun h=>(by cases h)⟩
 |true=>
  cases h2:kOk docs' keys' with
  |false=>exact ⟨fun h=>(by cases h),fun _=>⟨fun _=>rfl,fun h=>(by cases h)⟩⟩
  |true=>
   refine ⟨fun h=>(by cases h),fun _=>⟨fun h=>(by cases h),fun _ => ?_⟩⟩
   simp only [cond_true]
   have k1:=k_is h1
   have k2:=k_is h2
   have o1:=jH_ k1 hJ
   have o2:=jH_ k2 hJ'
   have d1:=mr_ (f9_ k1)
   have d2:=f9_ k2
   have l1:=fb_ (docs:=docs) (keys:=keys) (m:=docs.length)
   have l2:=fb_ (docs:=docs') (keys:=keys') (m:=docs'.length)
   have hR:Ev (fun n _=>aE_ n docs keys docs' keys') (hw_ (h7_ docs keys docs.length) (h7_ docs' keys' docs'.length)):=by
    have v1:=jG_ (docs:=docs) (keys:=keys)
    have v2:=jG_ (docs:=docs') (keys:=keys')
    have e1:=mD_ k1.len
    have e2:=mD_ k2.len
    generalize h7_ docs keys docs.length=old at o1 l1 d1 v1 e1 ⊢
    generalize h7_ docs' keys' docs'.length=now at o2 l2 d2 v2 e2 ⊢
    subst e1 e2 v1 v2
    simp only [List.length_map] at l1 l2 hd hd'
    have hr:=ik_ (bt_ now) old old.length old [] (Nat.le_refl _)
    have hm:=jx_ (bt_ now) old old.length old []
    simp only [List.length_nil] at hr
    refine as_ ?_
    simp only [aE_,bn_,List.nil_append,List.length_nil,b8_,W_dn (show old.length≤bR_ by simp only [bR_];omega)]
    refine ⟨by omega,?_⟩
    refine en_ (f:=fun n N=>aE_.loop5 n (fun xy4 xy5 xy6 xy7 xy8 xy9=>(aE_.loop13 n (fun xy21=>(some xy21)) n xy4 xy5 xy6 xy7 0 xy8 xy9)) N (old.map (·.value)) (bt_ old) (now.map (·.value)) (bt_ now) ((old.length:Int) - 1) [] (bt_ old)) (nW_ (old:=old) (by omega) (by omega) _ _ (fun n xy4 xy5 xy6 xy7 xy8 xy9=>(aE_.loop13 n (fun xy21=>(some xy21)) n xy4 xy5 xy6 xy7 0 xy8 xy9)) _ old.length old [] (Nat.le_refl _) (Nat.le_refl _) (by omega) (by simp only [List.length_nil];omega) ?_)
    exact spec_add (by omega) (by omega) (by omega) (by omega) o2 o1 (fun x hx=>hm x hx) d2 d1
   simp only [ab_ hR,af_]
end
def opK (o:TOp):Prop:=(∃ t:Bs,t.length≤25∧o.way=[t])∧cs_ 6 o.value≤400∧gh_ 6 o.value
theorem null_size:cs_ 6 (aa_.mk 0 0 [] [] [])≤400:=by decide
theorem iT_ {k:Nat} (h:k≤4000000):(Lib.itoa (k:Int)).length≤25:=by
 have:=Lib.itoa_length_le (k:Int) (by omega) (by omega);omega
theorem rmOp_ok {k:Nat} (h:k≤4000000):opK (rmOp k):=⟨⟨_,iT_ h,rfl⟩,null_size,fr_ 6⟩
theorem lZ_ (nk:List Int) (old:List aq_):∀ k l ops,k≤4000000→(∀ o ∈ ops,opK o)→∀ o ∈ (lb_ nk old k l ops).2,opK o
 |0,l,ops,_,h=>h
 |k+1,l,ops,hk,h=>by
  simp only [lb_]
  split
  · exact lZ_ nk old k l ops (by omega) h
  · refine lZ_ nk old k (del l k) _ (by omega) fun o ho => ?_
    rcases List.mem_append.1 ho with ho|ho
    · exact h o ho
    · rw [List.mem_singleton.1 ho];exact rmOp_ok (by omega)
theorem qn_ {l:List aq_} {i:Nat} {x:aq_} (hl:l.length≤4000000) (hi:i≤4000000) (hx:okK x):∀ o ∈ (fx_ l i x).2,opK o:=by
 have ha:∀ k,k≤4000000→opK (addOp k x.value):=fun k hk=>⟨⟨_,iT_ hk,rfl⟩,hj_ hx,hx.2⟩
 have hr:∀ k,k≤4000000→opK (repOp k x.value):=fun k hk=>⟨⟨_,iT_ hk,rfl⟩,hj_ hx,hx.2⟩
 unfold fx_
 by_cases h1:kAt (bt_ l) x.key=(i:Int)
 · rw [if_pos h1]
   dsimp only
   cases ee_ 6 (l.getD i aq_.dflt).value x.value with
   |true=>intro o ho;cases ho
   |false=>intro o ho;rw [List.mem_singleton.1 ho];exact hr i hi
 · rw [if_neg h1]
   by_cases h2:(i:Int)<kAt (bt_ l) x.key
   · rw [if_pos h2]
     obtain ⟨p,hp,h3,h4⟩:=nd_ h2
     intro o ho
     rw [hp,Int.toNat_natCast] at ho
     rcases List.mem_cons.1 ho with e|ho
     · rw [e];exact rmOp_ok (by omega)
     · rw [List.mem_singleton.1 ho];exact ha i hi
   · rw [if_neg h2]
     intro o ho
     rw [List.mem_singleton.1 ho];exact ha i hi
theorem nJ_ {now:List aq_} {s:List aq_ × List TOp} (hnl:now.length≤1500000) (hsl:s.1.length≤1500000) (hn:∀ x ∈ now,okK x) (h:∀ o ∈ s.2,opK o):∀ i,i≤now.length→∀ o ∈ (fE_ now s i).2,opK o
 |0,_=>h
 |i+1,hi=>by
  intro o ho
  simp only [fE_] at ho
  have hL:=g7_ now s i
  rcases List.mem_append.1 ho with ho|ho
  · exact nJ_ hnl hsl hn h i (by omega) o ho
  · exact qn_ (by omega) (by omega) (hn _ (bH_ aq_.dflt (by omega))) o ho
theorem qu_ {docs docs':List aa_} {keys keys':List Int} (hd:docs.length≤1500000) (hd':docs'.length≤1500000) (hJ:∀ j ∈ docs,gh_ 6 j) (hJ':∀ j ∈ docs',gh_ 6 j):(∀ o ∈ es_ docs keys docs' keys',opK o)∧(es_ docs keys docs' keys').length≤docs.length+2*docs'.length:=by
 unfold es_
 cases h1:kOk docs keys with
 |false=>exact ⟨fun o ho=>(by cases ho),Nat.zero_le _⟩
 |true=>
  cases h2:kOk docs' keys' with
  |false=>exact ⟨fun o ho=>(by cases ho),Nat.zero_le _⟩
  |true=>
   simp only [cond_true,hw_]
   have o2:=jH_ (k_is h2) hJ'
   have l1:=fb_ (docs:=docs) (keys:=keys) (m:=docs.length)
   have l2:=fb_ (docs:=docs') (keys:=keys') (m:=docs'.length)
   generalize h7_ docs keys docs.length=old at l1 ⊢
   generalize h7_ docs' keys' docs'.length=now at o2 l2 ⊢
   have hr:=ik_ (bt_ now) old old.length old [] (Nat.le_refl _)
   have hL:=g7_ now (lb_ (bt_ now) old old.length old []) now.length
   simp only [List.length_nil] at hr
   exact ⟨nJ_ (by omega) (by omega) o2 (lZ_ _ _ _ _ _ (by omega) fun o ho=>(by cases ho)) now.length (Nat.le_refl _),by omega⟩
def nT_ (name:Bs) (o:TOp):TOp:=TOp.mk o.kind (name::o.way) o.value
def kE_ (name:Bs) (l:List TOp):List TOp:=l.map (nT_ name)
def lenO (l:List TOp):Prop:=l.length≤6000000∧∀ o ∈ l,o.way.length≤1000000∧cs_ 6 o.value≤400
theorem lQ_ {name:Bs} {l:List TOp} (h:lenO l):Ev (fun n _=>bT_ n name l) (kE_ name l):=by
 refine as_ ?_
 have hl:=h.1
 have ht:l.length≤bR_:=by simp only [bR_];omega
 simp only [bT_]
 refine ly_ TOp.dflt l (nT_ name) (fun n N i (s:List TOp)=>bT_.loop4 n (fun xy2=>(some xy2)) N name l (i:Int) s) _ (fun i s hi hs F hF => ?_) ?_
 · have ho:=h.2 _ (bH_ TOp.dflt hi)
   have hC:=eR_ 6 _ ho.2
   have hw:=ho.1
   simp only [bT_.turn4,bT_.step4,bN_,Int.toNat_natCast,W_up hi ht,ct_ hi,b9_ hi,cond_true,bl_,bn_,ab_ hC]
   exact ⟨trivial,trivial,by simp only [List.length_cons,List.length_nil];omega,trivial,by simp only [List.length_cons,List.length_nil];omega,hF⟩
 · simp only [bT_.turn4,bT_.step4,b7_,cond_false,af_];rfl
theorem mk_ {name:Bs} {l:List TOp} (h:lenO l):Ev (fun n _=>bV_ n name l) (kE_ name l):=by
 refine as_ ?_
 have hl:=h.1
 have ht:l.length≤bR_:=by simp only [bR_];omega
 simp only [bV_]
 refine ly_ TOp.dflt l (nT_ name) (fun n N i (s:List TOp)=>bV_.loop4 n (fun xy2=>(some xy2)) N name l (l.length:Int) (i:Int) s) _ (fun i s hi hs F hF => ?_) ?_
 · have ho:=h.2 _ (bH_ TOp.dflt hi)
   have hw:=ho.1
   have hT:Ev (fun n _=>cz_ n (l.getD i TOp.dflt).way) (l.getD i TOp.dflt).way:=as_ (by simp only [cz_,bn_,af_,List.nil_append,List.length_nil,and_true];omega)
   have hC:Ev (fun n _=>dM_ n (l.getD i TOp.dflt)) (l.getD i TOp.dflt):=as_ (by simp only [dM_,bN_,ab_ hT,ab_ (el_ 6 _ ho.2),af_])
   simp only [bV_.turn4,bV_.step4,bN_,j6_,Int.toNat_natCast,W_up hi ht,ct_ hi,b9_ hi,cond_true,bl_,bn_,ab_ hC]
   exact ⟨trivial,by simp only [List.length_cons,List.length_nil];omega,by simp only [List.length_cons,List.length_nil];omega,hF⟩
 · simp only [bV_.turn4,bV_.step4,b7_,cond_false,af_];rfl
end Go.Pi
end
section
namespace Go.Pi
def eh_ (v:aD_):Nat:=et_ v.q v.rows.length
def cH_ (v:aD_):List aa_:=fZ_ da_ v.q v.rows (dP_ v) (eh_ v)
def cO_ (v:aD_):List Int:=(List.range (eh_ v)).map fun i=>(v.rows.getD i TRow.dflt).id_
theorem e3_ (v:aD_):eh_ v≤v.rows.length:=hd_
theorem pm_ (v:aD_) (i:Nat):((List.range (i+1)).map fun i=>(v.rows.getD i TRow.dflt).id_)=((List.range i).map fun i=>(v.rows.getD i TRow.dflt).id_)++[(v.rows.getD i TRow.dflt).id_]:=by
 rw [List.range_succ,List.map_append];rfl
theorem ot_ {v:aD_} {i:Nat} (h:i<v.rows.length):(dP_ v).getD i 0=gx_ v.kids (v.rows.getD i TRow.dflt).id_:=gl_ (fun r:TRow=>gx_ v.kids r.id_) TRow.dflt 0 h
section
variable {v:aD_} (h:iv_ cap v) (hs:∀ c ∈ v.q.show_,i64 c)
include h hs
theorem iz_:Ev (fun n _=>bO_ n v) (cH_ v,cO_ v):=by
 refine as_ ?_
 have h1:=h.1.2;have h2:=h.2.1.1;have h3:=h.2.2
 simp only [cap] at h1 h2 h3
 have hc:=h3_ (v:=v)
 have hm:=e3_ v
 have hD:=gZ_ (q:=v.q) (rows:=v.rows) (kids:=dP_ v) (by omega) hs h.2.1.top (by omega) (by simp only [bR_];omega)
 have hl:(cH_ v).length=eh_ v:=fA_
 have hD:Ev (fun n _=>bf_ n v.q v.rows (dP_ v)) (cH_ v):=hD
 simp only [bO_,ab_ (fL_ (v:=v) (by simp only [bR_];omega) (by simp only [eu_];omega)),ab_ hD,gm_,Int.toNat_natCast,List.drop_zero,hl]
 refine ⟨⟨by omega,by omega,by omega⟩,?_⟩
 have htl:(v.rows.take (eh_ v)).length=eh_ v:=by simp;omega
 unfold cO_
 generalize cH_ v=docs at hl ⊢
 have:=dT_ (fun i=>(List.range i).map fun i=>(v.rows.getD i TRow.dflt).id_) (eh_ v) (fun n N i (s:List Int)=>bO_.loop5 n (fun xy3 xy4=>(some (xy3,xy4))) N (v.rows.take (eh_ v)) ((v.rows.take (eh_ v)).length:Int) (i:Int) docs s) (docs,(List.range (eh_ v)).map fun i=>(v.rows.getD i TRow.dflt).id_) (fun i hi F hF => ?_) ?_
 · exact this
 · rw [pm_] at hF
   have hol:((List.range i).map fun i=>(v.rows.getD i TRow.dflt).id_).length=i:=by simp
   have hil:i<(v.rows.take (eh_ v)).length:=by omega
   have eg:(v.rows.take (eh_ v)).getD i TRow.dflt=v.rows.getD i TRow.dflt:=by rw [List.getD_eq_getElem?_getD,List.getD_eq_getElem?_getD,List.getElem?_take_of_lt hi]
   generalize ((List.range i).map fun i=>(v.rows.getD i TRow.dflt).id_)=s at hF hol ⊢
   simp only [bO_.turn5,bO_.step5,Int.toNat_natCast,eg,W_up hil (show (v.rows.take (eh_ v)).length≤bR_ by simp only [bR_];omega),ct_ hil,b9_ hil,cond_true,bl_,bn_]
   exact ⟨trivial,by simp only [List.length_cons,List.length_nil];omega,hF⟩
 · have e:(((v.rows.take (eh_ v)).length:Nat):Int)=(eh_ v:Int):=by rw [htl]
   simp only [bO_.turn5,bO_.step5,e,b7_,cond_false,af_]
theorem gM_:Ev (fun n _=>bb_ n v) (cH_ v,cO_ v):=by
 refine as_ ?_
 have h1:=h.1.2;have h2:=h.2.1.1;have h3:=h.2.2
 simp only [cap] at h1 h2 h3
 have hm:=e3_ v
 simp only [bb_]
 let S:Nat→List aa_ × List Int:=fun i=>(fZ_ da_ v.q v.rows (dP_ v) i,(List.range i).map fun i=>(v.rows.getD i TRow.dflt).id_)
 have:=dT_ S (eh_ v) (fun n N i (s:List aa_ × List Int)=>bb_.loop5 n (fun xy4 xy5=>(some (xy4,xy5))) N (i:Int) v.q.table v.q.where_ v.q.order v.q.down v.q.first v.q.show_ v.q.kids v.q.kidTable v.q.kidCol v.rows v.kids s.1 s.2) (cH_ v,cO_ v) (fun i hi F hF => ?_) ?_
 · exact this
 · have hir:i<v.rows.length:=by omega
   simp only [S,i6_,pm_,ot_ hir] at hF ⊢
   have hol:=fA_ (g:=da_) (q:=v.q) (rows:=v.rows) (kids:=dP_ v) (m:=i)
   have hol2:((List.range i).map fun i=>(v.rows.getD i TRow.dflt).id_).length=i:=by simp
   generalize ((List.range i).map fun i=>(v.rows.getD i TRow.dflt).id_)=s2 at hF hol2 ⊢
   generalize fZ_ da_ v.q v.rows (dP_ v) i=s1 at hF hol ⊢
   have e0:an_.mk v.q.table v.q.where_ v.q.order v.q.down v.q.first v.q.show_ v.q.kids v.q.kidTable v.q.kidCol=v.q:=rfl
   have e1:aD_.mk v.q v.rows v.kids=v:=rfl
   have hK:=hF_ (v:=v) (id:=(v.rows.getD i TRow.dflt).id_) (by simp only [bR_];omega)
   have hrow:=f5_ h.2.1.top i
   have hRd:Ev (fun n _=>dI_ n v.q (v.rows.getD i TRow.dflt) (gx_ v.kids (v.rows.getD i TRow.dflt).id_)) (da_ (fW_ v.q (v.rows.getD i TRow.dflt) (gx_ v.kids (v.rows.getD i TRow.dflt).id_))) :=
    as_ (by simp only [dI_,bN_,ab_ (hC_ (q:=v.q) (by omega) hs hrow),ab_ (kg_ (jA_ (q:=v.q) (by omega) hs 6)),af_])
   have hlt:decide ((i:Int)<(et_ v.q v.rows.length:Int))=true:=decide_eq_true (by unfold eh_ at hi;omega)
   simp only [bb_.turn5,bb_.step5,e0,e1,bN_,Int.toNat_natCast,W_up hir (show v.rows.length≤bR_ by simp only [bR_];omega),ab_ ej_,hlt,b9_ hir,cond_true,bl_,ab_ hK,ab_ hRd,bn_]
   exact ⟨trivial,trivial,by simp only [List.length_cons,List.length_nil];omega,trivial,by simp only [List.length_cons,List.length_nil];omega,hF⟩
 · have e0:an_.mk v.q.table v.q.where_ v.q.order v.q.down v.q.first v.q.show_ v.q.kids v.q.kidTable v.q.kidCol=v.q:=rfl
   have hlt:decide ((eh_ v:Int)<(et_ v.q v.rows.length:Int))=false:=decide_eq_false (by unfold eh_;omega)
   simp only [bb_.turn5,bb_.step5,e0,ab_ ej_,hlt,cond_false,af_]
   rfl
theorem fm_:∀ j ∈ cH_ v,gh_ 6 j:=by
 have h1:=h.1.2
 simp only [cap] at h1
 intro j hj
 obtain ⟨i,_,e⟩:=List.mem_map.1 hj
 rw [←e]
 unfold da_
 cases cB_ (fW_ v.q (v.rows.getD i TRow.dflt) ((dP_ v).getD i 0)) with
 |true=>exact jA_ (by omega) hs 6
 |false=>exact fr_ 6
end
theorem er_ (v:aD_):(cH_ v).length=eh_ v:=fA_
theorem lI_ (v:aD_):(cO_ v).length=eh_ v:=by unfold cO_;simp
def fl_ (a b:aD_):List TOp:=cond (!decide (a.rows.length=b.rows.length)) [TOp.mk 3 [nmCount] (da_ (hH_ b.rows.length))] []
def cN_ (a b:aD_):List TOp:=cond (fX_ a.q b.q) (fl_ a b++kE_ hI_ (es_ (cH_ a) (cO_ a) (cH_ b) (cO_ b))) []
theorem ml_ {n:Nat}:Ev (fun m _=>eb_ m (n:Int)) (da_ (hH_ n)):=by
 refine as_ ?_
 have hl:=iw_ (n:=(n:Int)) 6
 unfold hH_ at hl ⊢
 simp only [eb_,bN_,ab_ (iq_ hl),af_]
theorem lR_ {n:Nat}:Ev (fun m _=>d8_ m (n:Int)) (da_ (hH_ n)):=by
 refine as_ ?_
 have:=dW_ (iw_ (n:=(n:Int)) 6)
 unfold da_
 unfold hH_ at this ⊢
 simp only [d8_,ab_ this,ao_,af_,is_]
 cases cB_ (aa_.mk 2 (n:Int) [] [] [])<;>simp
section
variable {a b:aD_} (ha:iv_ cap a) (hb:iv_ cap b) (hsa:∀ c ∈ a.q.show_,i64 c) (hsb:∀ c ∈ b.q.show_,i64 c)
include ha hb hsa hsb
theorem ij_:lenO (es_ (cH_ a) (cO_ a) (cH_ b) (cO_ b))∧(∀ o ∈ es_ (cH_ a) (cO_ a) (cH_ b) (cO_ b),opK o)∧(es_ (cH_ a) (cO_ a) (cH_ b) (cO_ b)).length≤a.rows.length+2*b.rows.length:=by
 have h1:=ha.2.1.1;have h2:=hb.2.1.1
 simp only [cap] at h1 h2
 have:=e3_ a
 have:=e3_ b
 obtain ⟨k1,k2⟩:=qu_ (keys:=cO_ a) (keys':=cO_ b) (by rw [er_];omega) (by rw [er_];omega) (fm_ ha hsa) (fm_ hb hsb)
 rw [er_,er_] at k2
 refine ⟨⟨by omega,fun o ho=>⟨?_,(k1 o ho).2.1⟩⟩,k1,by omega⟩
 obtain ⟨t,_,e⟩:=(k1 o ho).1
 rw [e];exact (by decide:1≤1000000)
theorem eH_:Ev (fun n _=>cE_ n a b) (cN_ a b):=by
 refine as_ ?_
 have h1:=ha.2.1.1;have h2:=hb.2.1.1
 simp only [cap] at h1 h2
 have n1:=e3_ a
 have n2:=e3_ b
 obtain ⟨r1,_,r3⟩:=ij_ ha hb hsa hsb
 have hR:=mL_ (docs:=cH_ a) (keys:=cO_ a) (docs':=cH_ b) (keys':=cO_ b) (by rw [er_];omega) (by rw [er_];omega) (fm_ ha hsa) (fm_ hb hsb) (by rw [lI_];omega) (by rw [lI_];omega)
 have hU:=lQ_ (name:=hI_) r1
 have hq:m5_ bR_ a.q:=⟨Nat.le_trans ha.1.1 (by decide),Nat.le_trans ha.1.2 (by decide)⟩
 have hUl:(kE_ hI_ (es_ (cH_ a) (cO_ a) (cH_ b) (cO_ b))).length=(es_ (cH_ a) (cO_ a) (cH_ b) (cO_ b)).length:=List.length_map _
 simp only [cE_,ab_ (iP_ hq),lj_,ao_,bN_,ab_ lR_,ab_ (gM_ ha hsa),ab_ (gM_ hb hsb),ab_ hR,ab_ hU,bn_,af_,List.nil_append,List.length_nil,cN_,fl_]
 cases fX_ a.q b.q with
 |false=>exact ⟨fun _=>rfl,fun h=>(by cases h)⟩
 |true=>
  refine ⟨fun h=>(by cases h),fun _=>⟨fun hc=>⟨?_,?_,?_⟩,fun hc=>⟨?_,?_⟩⟩⟩
  · simp only [List.length_cons,List.length_nil];omega
  · simp only [List.length_cons,List.length_nil];omega
  · rw [hc];rfl
  · omega
  · rw [hc];rfl
theorem eM_:Ev (fun n _=>cF_ n a b) (cN_ a b):=by
 refine as_ ?_
 have h1:=ha.2.1.1;have h2:=hb.2.1.1
 simp only [cap] at h1 h2
 have n1:=e3_ a
 have n2:=e3_ b
 obtain ⟨r1,_,r3⟩:=ij_ ha hb hsa hsb
 have hR:=ni_ (docs:=cH_ a) (keys:=cO_ a) (docs':=cH_ b) (keys':=cO_ b) (by rw [er_];omega) (by rw [er_];omega) (fm_ ha hsa) (fm_ hb hsb)
 have hU:=mk_ (name:=hI_) r1
 have hq:m5_ bR_ a.q:=⟨Nat.le_trans ha.1.1 (by decide),Nat.le_trans ha.1.2 (by decide)⟩
 have hUl:(kE_ hI_ (es_ (cH_ a) (cO_ a) (cH_ b) (cO_ b))).length=(es_ (cH_ a) (cO_ a) (cH_ b) (cO_ b)).length:=List.length_map _
 simp only [cF_,ab_ (iX_ hq),lj_,ao_,bN_,ab_ ml_,ab_ (iz_ ha hsa),ab_ (iz_ hb hsb),ab_ hR,ab_ hU,bn_,af_,List.nil_append,List.length_nil,cN_,fl_]
 cases fX_ a.q b.q with
 |false=>exact ⟨fun _=>rfl,fun h=>(by cases h)⟩
 |true=>
  refine ⟨fun h=>(by cases h),fun _=>⟨fun hc=>⟨?_,?_,?_⟩,fun hc=>⟨?_,?_⟩⟩⟩
  · simp only [List.length_cons,List.length_nil];omega
  · simp only [List.length_cons,List.length_nil];omega
  · rw [hc];rfl
  · omega
  · rw [hc];rfl
theorem fI_ (hab:a.rows.length+b.rows.length≤1500000):lk_ (cN_ a b):=by
 obtain ⟨r1,r2,r3⟩:=ij_ ha hb hsa hsb
 unfold cN_
 cases fX_ a.q b.q with
 |false=>exact ⟨Nat.zero_le _,fun o ho=>(by cases ho)⟩
 |true=>
  have hUl:(kE_ hI_ (es_ (cH_ a) (cO_ a) (cH_ b) (cO_ b))).length=(es_ (cH_ a) (cO_ a) (cH_ b) (cO_ b)).length:=List.length_map _
  have hcl:(fl_ a b).length≤1:=by unfold fl_;cases (!decide (a.rows.length=b.rows.length))<;>simp
  refine ⟨by simp only [cond_true,List.length_append];omega,fun o ho => ?_⟩
  rw [cond_true] at ho
  rcases List.mem_append.1 ho with ho|ho
  · unfold fl_ at ho
    cases hc:(!decide (a.rows.length=b.rows.length))<;>rw [hc] at ho
    · cases ho
    · rw [List.mem_singleton.1 ho]
      refine ⟨⟨by show 1≤bR_;decide,fun x hx => ?_⟩,?_⟩
      · rw [List.mem_singleton.1 hx];show 5≤bR_;decide
      · show gh_ 6 (da_ (hH_ b.rows.length))
        unfold da_
        cases cB_ (hH_ b.rows.length) with
        |true=>exact iw_ 6
        |false=>exact fr_ 6
  · obtain ⟨o',ho',e⟩:=List.mem_map.1 ho
    obtain ⟨⟨t,ht,e2⟩,_,hv⟩:=r2 o' ho'
    rw [←e]
    refine ⟨⟨?_,fun x hx => ?_⟩,hv⟩
    · show (hI_::o'.way).length≤bR_
      rw [e2];show 2≤bR_;decide
    · have hx:x ∈ hI_::o'.way:=hx
      rw [e2] at hx
      rcases List.mem_cons.1 hx with e3|hx
      · rw [e3];show 4≤bR_;decide
      · rw [List.mem_singleton.1 hx];simp only [bR_];omega
end
end Go.Pi
end
section
namespace Go.Pi
theorem eI_ {l:List TOp} (h:lk_ l):Ev (fun n _=>aP_ n l) (dZ_ l):=by
 refine as_ ?_
 have hl:=h.1
 have ht:l.length≤bR_:=by simp only [bR_];omega
 have hb:hz_ l≤l.length:=List.findIdx_le_length
 simp only [aP_]
 have:=dT_ (fun i=>(l.take i).map dD_) (hz_ l) (fun n N i (o:List aa_)=>aP_.loop4 n (fun xy2 xy3 xy4 xy5=>((do_ n (aa_.mk xy2 xy3 xy4 xy5 [])).bind fun xr6=>(cond (xr6 == []) (some (-1)) (some (xr6.length:Int))))) N l (i:Int) 4 0 [] o) (dZ_ l) (fun i hi F hF => ?_) ?_
 · exact this
 · have hi2:i<l.length:=by omega
   have hx:=hE_ (h.2 _ (bH_ TOp.dflt hi2))
   rw [pb_ dD_ TOp.dflt hi2] at hF
   have hol:((l.take i).map dD_).length≤i:=by simp;omega
   generalize (l.take i).map dD_=o at hF hol ⊢
   simp only [aP_.turn4,aP_.step4,bN_,j6_,Int.toNat_natCast,W_up hi2 ht,ct_ hi2,b9_ hi2,lC_ hi,cond_true,cond_false,bl_,bn_,ab_ hx]
   exact ⟨trivial,by simp;omega,hF⟩
 · by_cases hp:hz_ l<l.length
   · have hx:=hE_ (h.2 _ (bH_ TOp.dflt hp))
     simp only [aP_.turn4,aP_.step4,bN_,j6_,Int.toNat_natCast,ct_ hp,b9_ hp,bad_at hp,cond_true,bl_,ab_ hx,af_]
     unfold dZ_
     rw [decide_eq_true hp]
     exact ⟨trivial,rfl⟩
   · have e:hz_ l=l.length:=by omega
     have hE:=hG_ (pg_ h)
     unfold dZ_
     rw [decide_eq_false hp,cond_false]
     unfold mz_ at hE ⊢
     rw [e,List.take_length]
     simp only [aP_.turn4,aP_.step4,b7_,cond_false,ab_ hE,ao_,af_]
     generalize gz_ _=s
     cases (s == [])<;>simp
end Go.Pi
end
section
namespace Go.Pi
end Go.Pi
end
section
namespace Go.Pi
def hv_ (a b:aD_):Bool:=decide (((cN_ a b).length:Int)≤40)&&(decide (dZ_ (cN_ a b)≥0)&&decide (dZ_ (cN_ a b)<((gz_ (iJ_ b)).length:Int)))
section
variable {a b:aD_} (ha:iv_ cap a) (hb:iv_ cap b) (hsa:∀ c ∈ a.q.show_,i64 c) (hsb:∀ c ∈ b.q.show_,i64 c) (hab:a.rows.length+b.rows.length≤1500000)
include ha hb hsa hsb hab
theorem jT_:Ev (fun n _=>dw_ n a b) (hv_ a b):=by
 refine as_ ?_
 have hP:=eI_ (fI_ ha hb hsa hsb hab)
 have hE:=hG_ (gV_ hb hsb)
 simp only [dw_,bN_,ab_ (eH_ ha hb hsa hsb),ab_ hP,ao_,ab_ (jS_ hb hsb),ab_ hE,af_,hv_]
 cases decide (((cN_ a b).length:Int)≤40)<;>cases decide (dZ_ (cN_ a b)≥0)<;>simp
theorem kq_:Ev (fun n _=>dz_ n a b) (hv_ a b):=by
 refine as_ ?_
 have hP:=eN_ (fI_ ha hb hsa hsb hab)
 have hE:=eW_ (gV_ hb hsb)
 simp only [dz_,bN_,ab_ (eM_ ha hb hsa hsb),ab_ hP,ao_,ab_ (g1_ hb hsb),ab_ hE,af_,hv_]
 cases decide (((cN_ a b).length:Int)≤40)<;>cases decide (dZ_ (cN_ a b)≥0)<;>simp
end
end Go.Pi
end
section
namespace Go.Pi
end Go.Pi
end
section
namespace Go.Pi
end Go.Pi
end
section
namespace Go.Pi
end Go.Pi
end
section
namespace Go.Pi
end Go.Pi
end
section
namespace Go.Pi
end Go.Pi
end
section
namespace Go.Pi
def eD_ (v:aD_) (l:List aT_):aD_:=l.foldl i7_ v
theorem oQ_ {c:Nat} {v:aD_} {x:aT_} (h:iv_ c v) (hx:p0_ c x):iv_ (c+2) (i7_ v x):=by
 have hr:f8_ (c+1) (pG_ v x):=by
  have h1:=kL_ (id:=x.old.id_) h.2.1
  unfold pG_
  cases (x.table == v.q.table)<;>cases (x.has&&fk_ v.q x.new)<;>cases x.had<;>simp only [cond_true,cond_false]
  all_goals (first|exact jD_ h1 hx.2|exact jD_ h.2.1 hx.2|exact h1.upto (by omega)|exact h.2.1.upto (by omega))
 have hk:(pH_ v x).length≤c+2:=by
  have h0:=h.2.2
  have h1:=jF_ (kids:=v.kids) (id:=eF_ x.old v.q.kidCol) (by_:=-1)
  have h2:=jF_ (kids:=v.kids) (id:=eF_ x.new v.q.kidCol) (by_:=1)
  have h3:=jF_ (kids:=FKid v.kids (eF_ x.old v.q.kidCol) (-1)) (id:=eF_ x.new v.q.kidCol) (by_:=1)
  unfold pH_
  cases (v.q.kids&&(x.table == v.q.kidTable))<;>cases x.has<;>cases x.had<;>simp only [cond_true,cond_false]<;>omega
 exact ⟨⟨Nat.le_trans h.1.1 (by omega),Nat.le_trans h.1.2 (by omega)⟩,hr.upto (by omega),hk⟩
theorem jl_ {c:Nat} {v:aD_} {l:List aT_} (h:iv_ c v) (hl:∀ x ∈ l,p0_ c x):iv_ (c+2*l.length) (eD_ v l):=by
 have key:∀ (l:List aT_) (d:Nat) (v:aD_),c≤d→iv_ d v→(∀ x ∈ l,p0_ c x)→iv_ (d+2*l.length) (eD_ v l):=by
  intro l
  induction l with
  |nil=>intro d v _ h _;exact h
  |cons x l ih=>
   intro d v hd h hl
   have hx:=hl x (List.mem_cons_self ..)
   have:=ih (d+2) (i7_ v x) (by omega) (oQ_ h ⟨Nat.le_trans hx.1 hd,Nat.le_trans hx.2 hd⟩) (fun y hy=>hl y (List.mem_cons_of_mem _ hy))
   simp only [List.length_cons]
   rw [show d+2*(l.length+1)=d+2+2*l.length by omega]
   exact this
 exact key l c v (Nat.le_refl _) h hl
section
variable {v:aD_} {l:List aT_} (h:iv_ cap v) (hl:l.length≤cap) (hx:∀ x ∈ l,p0_ cap x)
include h hl hx
omit hl in
theorem nD_ {i:Nat} (hi:i<l.length):iv_ (cap+2*i) (eD_ v (l.take i))∧p0_ (cap+2*i) (l.getD i aT_.dflt)∧eD_ v (l.take (i+1))=i7_ (eD_ v (l.take i)) (l.getD i aT_.dflt):=by
 refine ⟨?_,?_,?_⟩
 · have:=jl_ (l:=l.take i) h fun x h=>hx x (List.mem_of_mem_take h)
   rwa [List.length_take,Nat.min_eq_left (by omega)] at this
 · have:=hx _ (bH_ aT_.dflt hi)
   exact ⟨Nat.le_trans this.1 (by omega),Nat.le_trans this.2 (by omega)⟩
 · rw [cC_ aT_.dflt hi];simp only [eD_,List.foldl_append,List.foldl_cons,List.foldl_nil]
theorem hQ_:Ev (fun n _=>aN_ n v l) (eD_ v l):=by
 refine as_ ?_
 simp only [cap] at hl
 have ht:l.length≤bR_:=by simp only [bR_];omega
 simp only [aN_,m9_ (h.upto (show cap≤eu_ by decide))]
 refine dT_ (fun i=>eD_ v (l.take i)) l.length (fun n N i (s:aD_)=>aN_.loop4 n (fun xy3 xy4 xy5 xy6 xy7 xy8 xy9 xy10 xy11 xy12 xy13 xy14 xy15 xy16 xy17 xy18 xy19 xy20=>(some (aD_.mk (an_.mk xy10 xy17 xy11 xy12 xy13 xy18 xy14 xy15 xy16) xy19 xy20))) N l (i:Int) 0 0 false 0 false 0 0 s.q.table s.q.order s.q.down s.q.first s.q.kids s.q.kidTable s.q.kidCol s.q.where_ s.q.show_ s.rows s.kids) _ (fun i hi F hF => ?_) ?_
 · obtain ⟨a,b,e⟩:=nD_ h hx hi
   have hs:=ic_ a b (by simp only [eu_,cap];omega)
   rw [e] at hF
   simp only [aN_.turn4,aN_.step4,Int.toNat_natCast,W_up hi ht,ao_,bl_,ct_ hi,b9_ hi]
   refine ⟨fun _=>⟨trivial,?_⟩,fun h=>by cases h⟩
   exact (ab_ hs).2 hF
 · simp only [aN_.turn4,aN_.step4,b7_,cond_false,af_,List.take_length]
end
end Go.Pi
end
section
namespace Go.Pi
theorem zeroV_len (c:Nat):iv_ c zeroV:=⟨⟨Nat.zero_le _,Nat.zero_le _⟩,⟨Nat.zero_le _,fun x hx=>(by cases hx)⟩,Nat.zero_le _⟩
theorem oK_ {s:aw_} {q:an_} {c:Nat} (hl:e6_ c s) (hq:m5_ c q):iv_ (c+c) (i3_ s q).1:=by
 have hT:∀ i,f8_ c (s.tables.getD i []):=fun i=>eY_ hl.2.2 i
 unfold i3_
 cases FSQ s q
 · exact zeroV_len _
 · refine ⟨⟨Nat.le_trans hq.1 (Nat.le_add_right _ _),Nat.le_trans hq.2 (Nat.le_add_right _ _)⟩,?_,?_⟩
   · show f8_ (c+c) (gv_ s q)
     unfold gv_
     cases FSQ s q
     · exact ⟨Nat.zero_le _,fun x hx=>(by cases hx)⟩
     · have:=kG_ (c:=c) (q:=q) (rows:=s.tables.getD q.table.toNat []) (o:=[]) (k:=0) ⟨Nat.zero_le _,fun x hx=>(by cases hx)⟩ (hT _).2
       exact this.upto (by have:=(hT q.table.toNat).1;omega)
   · show (jE_ s q).length≤c+c
     unfold jE_
     cases q.kids
     · exact Nat.zero_le _
     · have:=kJ_ (q:=q) (rows:=s.tables.getD q.kidTable.toNat []) (k:=[])
       have:=(hT q.kidTable.toNat).1
       simp only [cond_true,List.length_nil] at *
       omega
theorem changes_q (l:List aT_) (v:aD_):(eD_ v l).q=v.q:=by
 unfold eD_
 induction l generalizing v with
 |nil=>rfl
 |cons x l ih=>rw [List.foldl_cons,ih];rfl
theorem jJ_ (x:aD_):aD_.mk x.q x.rows x.kids=x:=rfl
end Go.Pi
end
section
namespace Go.Pi
end Go.Pi
end
section
namespace Go.Pi
end Go.Pi
end
section
namespace Go.Pi
theorem gD_ {c:al_} (hc:DwOk c):Ans (fun n _=>b2_ n c) fun r=>StIn 1100 r.1∧(iv_ 3000 r.2.1∧∀ y ∈ r.2.1.q.show_,0≤y∧y≤1000)∧DwOk r.2.2:=by
 refine di_ ?_
 simp only [b2_]
 refine bc_ (kb_ hc) fun r hr => ?_
 simp only [b2_.tail1,eK_,ep_,cU_]
 refine bc_ (gW_ hr.2 hr.1.col) fun q hq => ?_
 have hN:=kS_ (s:=r.1) (q:=q.1) hr.1.len ⟨Nat.le_trans hq.1.len.1 (by decide),Nat.le_trans hq.1.len.2 (by decide)⟩ (by decide)
 rw [cV_ hN,ch_]
 refine ⟨hr.1.upto (by decide),⟨(oK_ hr.1.len hq.1.len).upto (by decide),?_⟩,hq.2⟩
 show ∀ y ∈ (i3_ r.1 q.1).1.q.show_,_
 unfold i3_
 cases FSQ r.1 q.1
 · exact fun y hy=>(by cases hy)
 · exact hq.1.show_
section
variable {a b:aD_} (ha:iv_ cap a) (hb:iv_ cap b) (hsa:∀ c ∈ a.q.show_,i64 c) (hsb:∀ c ∈ b.q.show_,i64 c)
include ha hb hsa hsb
theorem patch_few (hab:a.rows.length+b.rows.length≤1500000):(cN_ a b).length≤3900000:=by
 obtain ⟨r1,r2,r3⟩:=ij_ ha hb hsa hsb
 unfold cN_
 cases fX_ a.q b.q with
 |false=>exact Nat.zero_le _
 |true=>
  have hUl:(kE_ hI_ (es_ (cH_ a) (cO_ a) (cH_ b) (cO_ b))).length=(es_ (cH_ a) (cO_ a) (cH_ b) (cO_ b)).length:=List.length_map _
  have hcl:(fl_ a b).length≤1:=by unfold fl_;cases (!decide (a.rows.length=b.rows.length))<;>simp
  simp only [cond_true,List.length_append];omega
end
end Go.Pi
end
section
namespace Go.Pi
structure VIn (c:Nat) (v:aD_):Prop where
 len:iv_ c v
 show_:∀ y ∈ v.q.show_,0≤y∧y≤1000
theorem VIn.upto {c d:Nat} {v:aD_} (h:VIn c v) (hc:c≤d):VIn d v:=⟨h.len.upto hc,h.show_⟩
theorem VIn.ints {c:Nat} {v:aD_} (h:VIn c v):∀ y ∈ v.q.show_,i64 y:=fun y hy=>by have:=h.show_ y hy;unfold i64;omega
theorem oV_ {c:Nat} {q:an_} {rows:List TRow} {kids:List TKid} (h1:m5_ c q) (h2:f8_ c rows) (h3:kids.length≤c) (h4:∀ y ∈ q.show_,0≤y∧y≤1000):VIn c (aD_.mk q rows kids):=⟨⟨h1,h2,h3⟩,h4⟩
theorem p1_ {c:al_} {s:aA_} (hc:DwOk c) (hs:∀ x ∈ s.cols,x≤1000):Ans (fun n _=>dH_ n c s) fun r=>(m5_ 1020 r.1∧∀ x ∈ r.1.show_,0≤x∧x≤1000)∧DwOk r.2:=by
 refine di_ ?_
 simp only [dH_]
 refine bc_ (gW_ hc hs) fun q hq => ?_
 obtain ⟨hq,hcu⟩:=hq
 have h1:=hq.len.1
 have h2:=hq.len.2
 have hl:m5_ 1020 q.1:=⟨by omega,by omega⟩
 repeat' (first
  |(refine bc_ (bU_ (by assumption)) fun _ hd => ?_;obtain ⟨_,_,_⟩:=hd)
  |(refine bc_ (gi_ (by assumption) (by simp)) fun _ hd => ?_;obtain ⟨_,_⟩:=hd)
  |(with_reducible refine cy_.2 ⟨fun _ => ?_,fun _ => ?_⟩)
  |(with_reducible refine eB_.2 ⟨by simp;omega,?_⟩)
  |((with_reducible refine ch_.2 ?_);refine ⟨⟨?_,?_⟩,by assumption⟩))
 all_goals (first
  |exact hl
  |exact hq.show_
  |exact ⟨by simp;omega,by show q.1.show_.length≤1020;omega⟩
  |exact ⟨by show q.1.where_.length≤1020;omega,by simp;omega⟩
  |(intro x hx;rcases List.mem_append.1 hx with h|h
    · exact hq.show_ x h
    · rw [List.mem_singleton.1 h];omega))
theorem ob_ {c:al_} (hc:DwOk c):Ans (fun n _=>du_ n c) fun r=>VIn 3010 r.2.1∧DwOk r.2.2:=by
 refine di_ ?_
 simp only [du_]
 refine bc_ (gD_ hc) fun r hr => ?_
 obtain ⟨hs,⟨hv,hsh⟩,hcu⟩:=hr
 have hV:VIn 3010 r.2.1:=⟨hv.upto (by decide),hsh⟩
 obtain ⟨⟨q1,q2⟩,⟨r1,r2⟩,k1⟩:=hv
 have hq0:m5_ 3010 r.2.1.q:=⟨by omega,by omega⟩
 have hrow:∀ i,(r.2.1.rows.getD i TRow.dflt).cells.length≤3000:=fun i=>by
  by_cases hi:i<r.2.1.rows.length
  · exact r2 _ (bH_ _ hi)
  · rw [List.getD_eq_getElem?_getD,List.getElem?_eq_none (by omega)];exact Nat.zero_le _
 refine bc_ (bU_ hcu) fun x hx => ?_
 have hcu:=hx.cur
 with_reducible refine cy_.2 ⟨fun _ => ?_,fun _ => ?_⟩
 · with_reducible refine cy_.2 ⟨fun h => ?_,fun _=>ch_.2 ⟨hV,hcu⟩⟩
   have h:=of_decide_eq_true h
   with_reducible refine gt_.2 ⟨by omega,?_⟩
   with_reducible refine eB_.2 ⟨by simp;omega,?_⟩
   refine ch_.2 ⟨oV_ hq0 ⟨by simp;omega,fun y hy => ?_⟩ (by omega) hsh,hcu⟩
   rcases List.mem_append.1 hy with h|h
   · have:=r2 y h;omega
   · rw [List.mem_singleton.1 h];have:=hrow 0;omega
 · with_reducible refine cy_.2 ⟨fun _ => ?_,fun _ => ?_⟩
   · refine bc_ (bU_ hcu) fun a ha=>bc_ (bU_ ha.cur) fun b hb => ?_
     with_reducible refine eB_.2 ⟨by simp;omega,?_⟩
     exact ch_.2 ⟨oV_ hq0 ⟨by omega,fun y hy=>by have:=r2 y hy;omega⟩ (by simp;omega) hsh,hb.cur⟩
   · with_reducible refine cy_.2 ⟨fun _ => ?_,fun _ => ?_⟩
     · refine bc_ (p1_ hcu hs.col) fun q hq=>ch_.2 ⟨oV_ ⟨Nat.le_trans hq.1.1.1 (by decide),Nat.le_trans hq.1.1.2 (by decide)⟩ ⟨by omega,fun y hy=>by have:=r2 y hy;omega⟩ (by omega) hq.1.2,hq.2⟩
     · with_reducible refine cy_.2 ⟨fun _ => ?_,fun _=>ch_.2 ⟨hV,hcu⟩⟩
       with_reducible refine cy_.2 ⟨fun h => ?_,fun _=>ch_.2 ⟨hV,hcu⟩⟩
       have h:=of_decide_eq_true h
       refine bc_ (bU_ hcu) fun a ha => ?_
       with_reducible refine gt_.2 ⟨by omega,?_⟩
       refine ch_.2 ⟨oV_ hq0 ⟨by simp;omega,fun y hy => ?_⟩ (by omega) hsh,ha.cur⟩
       rcases List.mem_or_eq_of_mem_set hy with h|h
       · have:=r2 y h;omega
       · rw [h];have:=hrow 0;show (r.2.1.rows.getD 0 TRow.dflt).cells.length≤3010;omega
theorem kf_ {ed_:List Int} (hc:ed_.length≤1048576):Ans (fun n _=>aG_ n ed_) fun r=>VIn 5000 r.1∧VIn 5000 r.2:=by
 refine di_ ?_
 simp only [aG_]
 refine bc_ (m8_ hc) fun c h => ?_
 refine bc_ (gD_ h) fun r hr => ?_
 obtain ⟨hs,⟨hv,hsh⟩,hcu⟩:=hr
 have hV:VIn 5000 r.2.1:=⟨hv.upto (by decide),hsh⟩
 have hW:VIn 4000 r.2.1:=⟨hv.upto (by decide),hsh⟩
 clear hv hsh h
 generalize r.2.1=v at hV hW ⊢
 generalize r.2.2=c at hcu ⊢
 generalize r.1=s at hs ⊢
 simp only [aG_.tail3,eK_,ep_,cU_,f1_,jJ_]
 have key:∀ (K:Nat→aG_.K7) (t20 t22:Int) (t23:Bool) (t24:Int) (t26:Bool) (t27 t28 t30 t32:Int) (t33:Bool) (t34:Int) (t36:Bool) (t37 t38:Int),(∀ (c:al_) (w:aD_),DwOk c→VIn 5000 w→Ans (fun n _=>K n t20 t22 t23 t24 t26 t27 t28 t30 t32 t33 t34 t36 t37 t38 c.b c.i c.h v.q.table v.q.where_ v.q.order v.q.down v.q.first v.q.show_ v.q.kids v.q.kidTable v.q.kidCol v.rows v.kids w.q.table w.q.where_ w.q.order w.q.down w.q.first w.q.show_ w.q.kids w.q.kidTable w.q.kidCol w.rows w.kids) fun r=>VIn 5000 r.1∧VIn 5000 r.2) →
   ∀ (m i:Nat) (c:al_) (s:aw_) (w:aD_),i+m=3→DwOk c→StIn (1100+3*i) s→VIn (4000+10*i) w→Ans (fun n N=>aG_.loop7 n (K n) N (i:Int) t20 t22 t23 t24 t26 t27 t28 t30 t32 t33 t34 t36 t37 t38 c.b c.i c.h v.q.table v.q.where_ v.q.order v.q.down v.q.first v.q.show_ v.q.kids v.q.kidTable v.q.kidCol v.rows v.kids s.schema.cols s.version s.tables w.q.table w.q.where_ w.q.order w.q.down w.q.first w.q.show_ w.q.kids w.q.kidTable w.q.kidCol w.rows w.kids) fun r=>VIn 5000 r.1∧VIn 5000 r.2:=by
  intro K t20 t22 t23 t24 t26 t27 t28 t30 t32 t33 t34 t36 t37 t38 hK m
  induction m with
  |zero=>
   intro i c s w hi hc hs hw
   refine cW_ ?_
   simp only [aG_.turn7,aG_.step7,cU_]
   refine bc_ (bU_ hc) fun r hr => ?_
   have h1:=hr.lo;have h2:=hr.hi
   rw [Wn (by omega) (by omega),decide_eq_false (by omega)]
   simp only [cond_false]
   exact hK _ _ hr.cur (hw.upto (by omega))
  |succ m ih=>
   intro i c s w hi hc hs hw
   refine cW_ ?_
   simp only [aG_.turn7,aG_.step7,cU_]
   refine bc_ (bU_ hc) fun r hr => ?_
   simp only [cy_]
   refine ⟨fun _ => ?_,fun _=>hK _ _ hr.cur (hw.upto (by omega))⟩
   simp only [aG_.tail8,aG_.tail12,aG_.tail13,eK_,ep_,cU_,f1_,jJ_,up1 (show i≤1000000 by omega)]
   refine bc_ (kc_ hr.cur hs (by omega) (by omega)) fun b hb => ?_
   have hm:j9_ (1100+3*i) b.1:=fun z hz=>Nat.le_trans (hb.2.1 z hz) (by omega)
   have hB:=jV_ (l:=b.1) hs.len hm (by have:=hb.1;omega)
   have hL:=jm_ (l:=b.1) hs.len hm
   have hI:=oR_ (l:=b.1) hs hm
   have hC:∀ z ∈ (em_ s b.1).2.1,p0_ (4000+10*i) z:=fun z hz=>⟨Nat.le_trans (hL.2.2 z hz).1 (by have:=hb.1;omega),Nat.le_trans (hL.2.2 z hz).2 (by have:=hb.1;omega)⟩
   have h5:=hL.2.1
   have hVC:=hQ_ (v:=w) (l:=(em_ s b.1).2.1) (hw.len.upto (by simp only [cap];omega)) (by simp only [cap];omega) (fun z hz=>⟨Nat.le_trans (hC z hz).1 (by simp only [cap];omega),Nat.le_trans (hC z hz).2 (by simp only [cap];omega)⟩)
   have hVL:=jl_ hw.len hC
   rw [cV_ hB]
   simp only [cy_]
   refine ⟨fun _ => ?_,fun _=>ih (i+1) b.2 s w (by omega) hb.2.2 (hs.upto (by omega)) (hw.upto (by omega))⟩
   rw [cV_ hVC]
   refine ih (i+1) b.2 (em_ s b.1).1 (eD_ w (em_ s b.1).2.1) (by omega) hb.2.2 (hI.upto (by have:=hb.1;omega)) ⟨hVL.upto (by omega),?_⟩
   rw [changes_q];exact hw.show_
 refine fh_ (key _ 0 0 false 0 false 0 0 0 0 false 0 false 0 0 (fun c w hc hw => ?_) 3 0 c s v rfl hcu (hs.upto (by decide)) (hW.upto (by decide)))
 simp only [cU_,f1_,jJ_]
 refine bc_ (fn_ hc) fun o ho => ?_
 with_reducible refine cy_.2 ⟨fun _ => ?_,fun _=>ch_.2 ⟨hV,hw⟩⟩
 exact bc_ (ob_ ho) fun x hx=>ch_.2 ⟨hV,hx.1.upto (by decide)⟩
end Go.Pi
end
section
namespace Go.Pi
end Go.Pi
end
section
namespace Go.Pi
end Go.Pi
end
section
namespace Go.Pi
end Go.Pi
end
section
namespace Go.Pi
end Go.Pi
end
section
namespace Go.Pi
end Go.Pi
end
section
namespace Go.Pi
end Go.Pi
end
section
namespace Go.Pi
end Go.Pi
end
section
namespace Go.Pi
end Go.Pi
end
section
namespace Go.Pi
end Go.Pi
end
section
namespace Go.Pi
end Go.Pi
end
section
namespace Go.Pi
end Go.Pi
end
section
namespace Go.Pi
end Go.Pi
end
section
namespace Go.Pi
end Go.Pi
end
section
namespace Go.Pi
end Go.Pi
end
section
namespace Go.Pi
end Go.Pi
end
section
namespace Go.Pi
end Go.Pi
end
section
namespace Go.Pi
end Go.Pi
end
section
namespace Go.Pi
end Go.Pi
end
section
namespace Go.Pi
end Go.Pi
end
section
namespace Go.Pi
end Go.Pi
end
section
namespace Go.Pi
inductive mw_:List aa_→List TOp→List aa_→Prop
 |nil (vs):mw_ vs [] vs
 |rm {vs k ops us}:k<vs.length→mw_ (del vs k) ops us→mw_ vs (rmOp k::ops) us
 |rep {vs k j ops us}:k<vs.length→mw_ (vs.set k j) ops us→mw_ vs (repOp k j::ops) us
 |add {vs k j ops us}:k≤vs.length→mw_ (fU_ vs k j) ops us→mw_ vs (addOp k j::ops) us
theorem mw_.none {a b:List aa_} (h:mw_ a [] b):a=b:=by cases h;rfl
theorem kAt_ge {ks:List Int} {k:Int} (h:kAt ks k<0):k ∉ ks:=me_.1 h
end Go.Pi
end
section
namespace Go.Pi
theorem mT_ {nk:List Int} {old:List aq_}:∀ k,(∀ i,i<k→(old.getD i aq_.dflt).key ∈ nk)→∀ l ops,lb_ nk old k l ops=(l,ops)
 |0,_,l,ops=>rfl
 |k+1,h,l,ops=>by
  simp only [lb_]
  rw [if_pos (h k (Nat.lt_succ_self k))]
  exact mT_ k (fun i hi=>h i (by omega)) l ops
theorem nG_ {p:Nat→Bool} {len:Nat} (h:∀ i,i<len→p i=true):g6_ p len=true:=fi_.2 h
theorem lE_:∀ (d:Nat) (j:aa_),ee_ d j j=true
 |0,_=>rfl
 |d+1,j=>by
  have h1:ha_ j.names j.names=true:=by
   unfold ha_
   rw [decide_eq_true rfl,Bool.true_and]
   exact nG_ fun i _=>beq_self_eq_true _
  simp only [ee_,beq_self_eq_true,h1,decide_true,Bool.true_and]
  exact nG_ fun i _=>lE_ d _
theorem kAt_same {l:List aq_} (hd:iF_ l) {i:Nat} (hi:i<l.length):kAt (bt_ l) (l.getD i aq_.dflt).key=(i:Int):=by
 have hm:(l.getD i aq_.dflt).key ∈ bt_ l:=by
  rw [←dK_ hi];exact bH_ 0 (by rw [b8_];exact hi)
 have hge:¬ kAt (bt_ l) (l.getD i aq_.dflt).key<0:=fun h=>kAt_ge h hm
 obtain ⟨p,hp⟩:∃ p:Nat,kAt (bt_ l) (l.getD i aq_.dflt).key=p:=⟨(kAt (bt_ l) (l.getD i aq_.dflt).key).toNat,by omega⟩
 obtain ⟨q1,q2⟩:=kk_ hp
 rw [b8_] at q1
 rw [dK_ q1] at q2
 rw [hp]
 rcases Nat.lt_trichotomy p i with h|h|h
 · exact absurd q2 (hd p i h hi)
 · rw [h]
 · exact absurd q2.symm (hd i p h q1)
theorem rows_same {l:List aq_} (hd:iF_ l):hw_ l l=[]:=by
 have h1:lb_ (bt_ l) l l.length l []=(l,[]):=mT_ l.length (fun i hi=>by rw [←dK_ hi];exact bH_ 0 (by rw [b8_];exact hi)) l []
 have key:∀ i,i≤l.length→fE_ l (l,[]) i=(l,[]):=by
  intro i
  induction i with
  |zero=>intro _;rfl
  |succ i ih=>
   intro hi
   simp only [fE_,ih (by omega)]
   unfold fx_
   rw [if_pos (kAt_same hd (by omega)),lE_]
   rfl
 unfold hw_
 rw [h1,key l.length (Nat.le_refl _)]
theorem pU_ (b:aD_):cN_ b b=[]:=by
 unfold cN_ fl_ es_
 have hr:cond (kOk (cH_ b) (cO_ b)) (cond (kOk (cH_ b) (cO_ b)) (hw_ (h7_ (cH_ b) (cO_ b) (cH_ b).length) (h7_ (cH_ b) (cO_ b) (cH_ b).length)) []) []=[]:=by
  cases h:kOk (cH_ b) (cO_ b) with
  |false=>rfl
  |true=>
   have:=rows_same (f9_ (k_is h))
   simp only [cond_true];exact this
 rw [hr,decide_eq_true rfl]
 cases fX_ b.q b.q<;>rfl
theorem big_evS {ed_:List Int}:Ev (fun n _=>ff_ n ed_) (decide ((ed_.length:Int) > 1048576)):=as_ (by simp only [ff_,af_])
theorem i8_ {ed_:List Int} (hc:ed_.length≤1048576):Ans (fun n _=>cv_ n ed_) lk_:=by
 refine di_ ?_
 simp only [cv_]
 refine bc_ (m8_ hc) fun c h=>bc_ (kf_ hc) fun r hr => ?_
 obtain ⟨ha,hb⟩:=hr
 have k1:iv_ cap r.1:=ha.len.upto (by decide)
 have k2:iv_ cap r.2:=hb.len.upto (by decide)
 have hab:r.1.rows.length+r.2.rows.length≤1500000:=by have:=ha.len.2.1.1;have:=hb.len.2.1.1;omega
 have hO:=fI_ k1 k2 ha.ints hb.ints hab
 have hF:=patch_few k1 k2 ha.ints hb.ints hab
 rw [cV_ (eH_ k1 k2 ha.ints hb.ints)]
 refine bc_ (fn_ h) fun o ho => ?_
 with_reducible refine cy_.2 ⟨fun _ => ?_,fun _=>ch_.2 hO⟩
 refine bc_ (bU_ ho) fun x hx => ?_
 with_reducible refine eB_.2 ⟨by simp;omega,?_⟩
 refine ch_.2 ⟨by simp;omega,fun y hy => ?_⟩
 rcases List.mem_append.1 hy with h|h
 · exact hO.2 y h
 · rw [List.mem_singleton.1 h]
   exact ⟨⟨Nat.zero_le _,fun x hx=>(by cases hx)⟩,fr_ 6⟩
theorem oI_ {ed_:List Int} (hg:(nS_ lenI) ed_):∃ n,laws_FnShort n ed_=some true:=by
 have key:Ans (fun n _=>laws_FnShort n ed_) fun b=>b=true:=by
  refine di_ ?_
  simp only [laws_FnShort,cV_ big_evS,bN_]
  refine cy_.2 ⟨fun _=>ch_.2 rfl,fun hb => ?_⟩
  have hb:=of_decide_eq_false hb
  have hc:ed_.length≤1048576:=by omega
  have hD:Ans (fun n _=>cI_ n ed_) fun r=>VIn 5000 r.1∧VIn 5000 r.2:=by
   refine di_ ?_
   simp only [cI_]
   exact bc_ (kf_ hc) fun r hr=>ch_.2 hr
  refine bc_ hD fun r hr => ?_
  obtain ⟨ha,hb⟩:=hr
  have k1:iv_ cap r.1:=ha.len.upto (by decide)
  have k2:iv_ cap r.2:=hb.len.upto (by decide)
  have hab:r.1.rows.length+r.2.rows.length≤1500000:=by have:=ha.len.2.1.1;have:=hb.len.2.1.1;omega
  have hO:=fI_ k1 k2 ha.ints hb.ints hab
  rw [cV_ (kq_ k1 k2 ha.ints hb.ints hab),cV_ (eM_ k1 k2 ha.ints hb.ints),cV_ (eN_ hO),cV_ (jT_ k1 k2 ha.ints hb.ints hab)]
  simp only [beq_self_eq_true,Bool.not_true,cond_false]
  rw [cV_ (eH_ k1 k2 ha.ints hb.ints)]
  simp only [bne_self_eq_false,cond_false]
  rw [cV_ (eI_ hO)]
  simp only [bne_self_eq_false,cond_false]
  refine bc_ (i8_ hc) fun ops ho => ?_
  rw [cV_ (eN_ ho),cV_ (eI_ ho)]
  simp only [bne_self_eq_false,cond_false]
  rw [cV_ (eM_ k2 k2 hb.ints hb.ints),pU_]
  have e0:((([]:List TOp).length:Int) != 0)=false:=rfl
  simp only [e0,cond_false]
  refine cy_.2 ⟨fun _=>ch_.2 rfl,fun hs => ?_⟩
  have hs:hv_ r.1 r.2=true:=by simpa using hs
  unfold hv_ at hs
  simp only [Bool.and_eq_true] at hs
  rw [cV_ (g1_ k2 hb.ints),cV_ (eW_ (gV_ k2 hb.ints)),hs.2.2]
  simp only [cond_true]
  exact ch_.2 hs.1
 obtain ⟨v,hv,rfl⟩:=key
 exact ev_ex hv
end Go.Pi
end
section
namespace Go.Pi
theorem good_sl {t:TC} {xs:List (El t)} (h:Good (.sl .v t xs)):xs.length≤bR_∧∀ x ∈ xs,∀ c ∈ ah_.enc .v t x,Good c:=by
 cases h with
 |sl t xs h1 h2=>exact ⟨h1,h2⟩
end Go.Pi
end
section
namespace Go.Pi
theorem good_str {l:Bs} (h:Good (.s l)):lenB l:=by
 cases h with
 |s l h=>exact h
theorem good_IntS {a:List Int} (h:Good (.sl .v .u8 a)):(nS_ lenI) a:=⟨(good_sl (t:=.u8) h).1,fun x0 hx0=>trivial⟩
end Go.Pi
end
section
namespace Go.Pi
open Go.Proofs Go.Proofs.YtmgcfhlcdhlafabGreatDoor
namespace laws_FnShort
theorem pure_law:Pure:=fun o h0=>oI_ (good_IntS (h0 _ (by simp)))
theorem proved:Rows.FnShortCardSaid:=card pure_law
end laws_FnShort
end Go.Pi
end
namespace Go.Proofs.YtmgcfhlcdhlafabGreatDoor
theorem fnShort_holds:Rows.FnShortCardSaid:=Go.Pi.laws_FnShort.proved
#print axioms fnShort_holds
end Go.Proofs.YtmgcfhlcdhlafabGreatDoor
