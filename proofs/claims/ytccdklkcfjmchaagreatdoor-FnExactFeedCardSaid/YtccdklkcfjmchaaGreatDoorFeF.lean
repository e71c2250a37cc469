/- Feed of the program returns what Feed of the reference returns, for all arguments. Text 6 of 7. -/
import Derived.Test.YtccdklkcfjmchaaGreatDoorFeE
import Derived.Lib.ItoaLen
import Derived.Lib.AtoiAllCases
set_option linter.unusedVariables false
set_option maxRecDepth 100000
set_option linter.unusedSimpArgs false
section
namespace Go.Pi
theorem join_snoc (x sep:Bs):∀ l:List Bs,Lib.join (l++[x]) sep=if l=[] then x else Lib.join l sep++sep++x
 |[]=>by rw [if_pos rfl];exact Lib.join_one x sep
 |y::l=>by
  rw [if_neg (by simp),List.cons_append,Lib.join_cons,Lib.join_cons]
  simp [Lib.joinTail]
theorem mm_ {α:Type} (f:α→Nat):∀ a b:List α,dD_ f (a++b)=dD_ f a+dD_ f b
 |[],b=>by simp [dD_]
 |x::a,b=>by simp only [List.cons_append,dD_,mm_ f a b];omega
theorem ml_ {α:Type} (f:α→Nat) (h:∀ x,1≤f x):∀ a:List α,a.length≤dD_ f a
 |[]=>Nat.le_refl _
 |x::a=>by have:=ml_ f h a;have:=h x;simp only [dD_,List.length_cons];omega
theorem lq_:∀ (d:Nat) (j:aa_),1≤bD_ d j
 |0,_=>by simp only [bD_];omega
 |d+1,j=>by
  simp only [bD_]
  cases FOwn j<;>simp only [cond_true,cond_false]<;>omega
theorem fP_ {s:Bs} (h:gy_ s=true):s.length≤60:=by
 unfold gy_ at h
 rw [Bool.and_eq_true] at h
 have:=of_decide_eq_true h.2;omega
theorem f7_ {l:List Bs} (h:hN_ l=true) {i:Nat} (hi:i<l.length):(l.getD i []).length≤60:=by
 have:=f4_.1 h i hi
 rw [Bool.and_eq_true] at this
 exact fP_ this.1
structure Own (j:aa_):Prop where
 kind:j.kind=0∨j.kind=1∨j.kind=2∨j.kind=3∨j.kind=4∨j.kind=5
 list:j.kind≠4→j.kind≠5→j.list=[]
 bool:j.kind=1→0≤j.n_∧j.n_≤1
 num:j.kind=2 → -1000000000≤j.n_∧j.n_≤1000000000
 text:j.kind=3→j.s.length≤60
 obj:j.kind=5→j.names.length=j.list.length∧hN_ j.names=true
theorem FOwn_own {j:aa_} (h:FOwn j=true):Own j:=by
 unfold FOwn FOwnK at h
 simp only [Bool.and_eq_true,Bool.or_eq_true] at h
 obtain ⟨h1,h2,h3,h4,h5⟩:=h
 refine ⟨?_,fun k4 k5 => ?_,fun hk => ?_,fun hk => ?_,fun hk => ?_,fun hk => ?_⟩
 · rcases iw_ j.kind with hk|hk|hk|hk|hk|hk|⟨k0,k1,k2,k3,k4,k5⟩
   · exact .inl hk
   · exact .inr (.inl hk)
   · exact .inr (.inr (.inl hk))
   · exact .inr (.inr (.inr (.inl hk)))
   · exact .inr (.inr (.inr (.inr (.inl hk))))
   · exact .inr (.inr (.inr (.inr (.inr hk))))
   · simp only [beq_eq_false_iff_ne.2 k0,beq_eq_false_iff_ne.2 k1,beq_eq_false_iff_ne.2 k2,beq_eq_false_iff_ne.2 k3,beq_eq_false_iff_ne.2 k4,beq_eq_false_iff_ne.2 k5,cond_false,Bool.or_false] at h5
     cases h5
 · rcases h1 with h1|h1|h1
   · exact List.eq_nil_of_length_eq_zero (of_decide_eq_true h1)
   · exact absurd (by simpa using h1) k4
   · exact absurd (by simpa using h1) k5
 · simp only [hk,Int.reduceBEq,cond_true,cond_false] at h5;exact fU_ h5
 · simp only [hk,Int.reduceBEq,cond_true,cond_false] at h5;exact fU_ h5
 · simp only [hk,Int.reduceBEq,cond_true,cond_false] at h5;exact fP_ h5
 · simp only [hk,Int.reduceBEq,cond_true,cond_false,Bool.and_eq_true] at h5
   exact ⟨by have:=h5.1;simp at this;omega,h5.2⟩
def cV_ (enc:aa_→Bs) (j:aa_) (i:Nat):Bs:=cond (j.kind == 5) (cN_ (j.names.getD i [])++([58]++enc (j.list.getD i aa_.dflt))) (enc (j.list.getD i aa_.dflt))
def c5_ (enc:aa_→Bs) (j:aa_) (m:Nat):Bs:=Lib.join ((List.range m).map (cV_ enc j)) [44]
def FEnc:Nat→aa_→Bs
 |0,_=>[]
 |d+1,j=>cond (j.kind == 0) [110,117,108,108] (cond (j.kind == 1) (cond (j.n_ == 1) [116,114,117,101] [102,97,108,115,101]) (cond (j.kind == 2) (Lib.itoa j.n_) (cond (j.kind == 3) (cN_ j.s)
   (cond (j.kind == 5) ([123]++c5_ (FEnc d) j j.list.length++[125]) ([91]++c5_ (FEnc d) j j.list.length++[93])))))
theorem jI_ (enc:aa_→Bs) (j:aa_):c5_ enc j 0=[]:=rfl
theorem fR_ (enc:aa_→Bs) (j:aa_):c5_ enc j 1=cV_ enc j 0:=Lib.join_one _ _
theorem eR_ (enc:aa_→Bs) (j:aa_) {m:Nat} (h:0<m):c5_ enc j (m+1)=c5_ enc j m++[44]++cV_ enc j m:=by
 unfold c5_
 rw [List.range_succ,List.map_append,List.map_cons,List.map_nil,join_snoc,if_neg]
 intro e
 have:=congrArg List.length e
 simp at this;omega
theorem c0_ {d:Nat} {j:aa_} (h:bD_ (d+1) j≤400):Own j∧bD_ (d+1) j=1+dD_ (bD_ d) j.list:=by
 simp only [bD_] at h ⊢
 cases ho:FOwn j with
 |false=>rw [ho,cond_false] at h;omega
 |true=>
  rw [ho,cond_true] at h
  exact ⟨FOwn_own ho,by rw [cond_true];omega⟩
theorem enc_len:∀ (d:Nat) (j:aa_),bD_ d j≤400→(FEnc d j).length+150≤300*bD_ d j
 |0,j,h=>by simp only [bD_] at h;omega
 |d+1,j,h=>by
  obtain ⟨ho,hs⟩:=c0_ h
  have hJ:∀ m,m≤j.list.length→(c5_ (FEnc d) j m).length≤300*dD_ (bD_ d) (j.list.take m):=by
   intro m
   induction m with
   |zero=>intro _;exact Nat.zero_le _
   |succ m ih=>
    intro hm
    have hi:m<j.list.length:=by omega
    have h1:=ih (by omega)
    have h2:=he_ (bD_ d) (cC_ aa_.dflt hi)
    have h3:=enc_len d (j.list.getD m aa_.dflt) (by omega)
    have h4:(cV_ (FEnc d) j m).length≤123+(FEnc d (j.list.getD m aa_.dflt)).length:=by
     unfold cV_
     cases hk:(j.kind == 5) with
     |false=>rw [cond_false];omega
     |true=>
      obtain ⟨e1,e2⟩:=ho.obj (by simpa using hk)
      have:=f7_ e2 (i:=m) (by omega)
      have:=eh_ (j.names.getD m [])
      rw [cond_true];simp only [List.length_append,List.length_cons,List.length_nil];omega
    rw [cJ_ aa_.dflt hi,mm_]
    simp only [dD_,Nat.mul_add]
    by_cases h0:m=0
    · subst h0;rw [fR_];omega
    · rw [eR_ _ _ (by omega)];simp only [List.length_append,List.length_cons,List.length_nil];omega
  have hL:=hJ j.list.length (Nat.le_refl _)
  rw [List.take_length] at hL
  rw [hs]
  rcases ho.kind with hk|hk|hk|hk|hk|hk
  · simp only [FEnc,hk,Int.reduceBEq,cond_true,cond_false,List.length_cons,List.length_nil];omega
  · simp only [FEnc,hk,Int.reduceBEq,cond_true,cond_false]
    cases (j.n_ == 1)<;>simp only [cond_true,cond_false,List.length_cons,List.length_nil]<;>omega
  · have:=ho.num hk
    have:=Lib.itoa_length_le j.n_ (by omega) (by omega)
    simp only [FEnc,hk,Int.reduceBEq,cond_true,cond_false];omega
  · have:=ho.text hk
    have:=eh_ j.s
    simp only [FEnc,hk,Int.reduceBEq,cond_true,cond_false];omega
  · simp only [FEnc,hk,Int.reduceBEq,cond_true,cond_false,List.length_append,List.length_cons,List.length_nil];omega
  · simp only [FEnc,hk,Int.reduceBEq,cond_true,cond_false,List.length_append,List.length_cons,List.length_nil];omega
structure Part (d:Nat) (j:aa_) (i:Nat):Prop where
 size:bD_ d (j.list.getD i aa_.dflt)≤400
 enc:(FEnc d (j.list.getD i aa_.dflt)).length≤120000
 name:j.kind=5→i<j.names.length∧(j.names.getD i []).length≤60
theorem dQ_ {d:Nat} {j:aa_} (h:bD_ (d+1) j≤400) {i:Nat} (hi:i<j.list.length):Part d j i:=by
 obtain ⟨ho,hs⟩:=c0_ h
 have h2:=he_ (bD_ d) (cC_ aa_.dflt hi)
 have h3:=enc_len d (j.list.getD i aa_.dflt) (by omega)
 exact ⟨by omega,by omega,fun hk=>⟨by have:=(ho.obj hk).1;omega,f7_ (ho.obj hk).2 (by have:=(ho.obj hk).1;omega)⟩⟩
theorem kb_ {d:Nat} {j:aa_} (h:bD_ (d+1) j≤400):∀ m,m≤j.list.length→(c5_ (FEnc d) j m).length≤m*120200:=by
 intro m
 induction m with
 |zero=>intro _;exact Nat.zero_le _
 |succ m ih=>
  intro hm
  have hp:=dQ_ h (i:=m) (by omega)
  have h1:=ih (by omega)
  have h4:(cV_ (FEnc d) j m).length≤123+120000:=by
   have:=hp.enc
   unfold cV_
   cases hk:(j.kind == 5) with
   |false=>rw [cond_false];omega
   |true=>
    have:=(hp.name (by simpa using hk)).2
    have:=eh_ (j.names.getD m [])
    rw [cond_true];simp only [List.length_append,List.length_cons,List.length_nil];omega
  by_cases h0:m=0
  · subst h0;rw [fR_];omega
  · rw [eR_ _ _ (by omega)];simp only [List.length_append,List.length_cons,List.length_nil];omega
theorem dt_ {d:Nat} {j:aa_} (h:bD_ (d+1) j≤400):j.list.length≤400:=by
 have:=(c0_ h).2
 have:=ml_ (bD_ d) (lq_ d) j.list
 omega
end Go.Pi
end
section
namespace Go.Pi
def dR_ (c:UInt8):Prop:=48≤c.toNat∧c.toNat≤57
theorem g2_ {d:Nat} (h:d<10):(UInt8.ofNat (48+d)).toNat=48+d:=by
 rw [UInt8.toNat_ofNat'];omega
theorem fK_:∀ (u:Nat),∀ c ∈ Lib.decDigits u,dR_ c:=by
 intro u
 induction u using Nat.strongRecOn with
 |ind u ih=>
  intro c hc
  rw [Lib.decDigits] at hc
  by_cases h:u<10
  · rw [dif_pos h] at hc
    obtain rfl:=List.mem_singleton.1 hc
    unfold dR_;rw [g2_ h];omega
  · rw [dif_neg h] at hc
    rcases List.mem_append.1 hc with hc|hc
    · exact ih (u / 10) (by omega) c hc
    · obtain rfl:=List.mem_singleton.1 hc
      unfold dR_;rw [g2_ (by omega)];omega
theorem iG_ (u:Nat):1≤(Lib.decDigits u).length:=by
 rw [Lib.decDigits]
 by_cases h:u<10
 · rw [dif_pos h];simp
 · rw [dif_neg h];simp
theorem lX_:∀ (k u:Nat),u<10 ^ (k+1)→(Lib.decDigits u).length≤k+1
 |0,u,h=>by rw [Lib.decDigits,dif_pos (by simpa using h)];simp
 |k+1,u,h=>by
  rw [Lib.decDigits]
  by_cases h1:u<10
  · rw [dif_pos h1];simp
  · rw [dif_neg h1,List.length_append]
    have:=lX_ k (u / 10) (by rw [Nat.pow_succ] at h;omega)
    simp;omega
def ha_ (x:Nat) (l:Bs):Nat:=l.foldl (fun x c=>10*x+(c.toNat - 48)) x
theorem val_nil (x:Nat):ha_ x []=x:=rfl
theorem gA_ (x:Nat) (c:UInt8) (l:Bs):ha_ x (c::l)=ha_ (10*x+(c.toNat - 48)) l:=by unfold ha_;rw [List.foldl_cons]
theorem val_app (x:Nat) (a b:Bs):ha_ x (a++b)=ha_ (ha_ x a) b:=List.foldl_append
theorem jK_:∀ (u:Nat),ha_ 0 (Lib.decDigits u)=u:=by
 intro u
 induction u using Nat.strongRecOn with
 |ind u ih=>
  rw [Lib.decDigits]
  by_cases h:u<10
  · rw [dif_pos h,gA_,val_nil,g2_ h];omega
  · rw [dif_neg h,val_app,ih (u / 10) (by omega)]
    have e:=g2_ (d:=u % 10) (by omega)
    rw [gA_,val_nil,e]
    omega
theorem val_le:∀ (x:Nat) (l:Bs),x≤ha_ x l
 |_,[]=>Nat.le_refl _
 |x,c::l=>by rw [gA_];exact Nat.le_trans (by omega) (val_le _ l)
theorem pu_val:∀ (x:Nat) (l:Bs),(∀ c ∈ l,dR_ c)→ha_ x l≤1000000000000000000→Lib.parseUint10 x l = .ok (ha_ x l)
 |_,[],_,_=>rfl
 |x,c::l,h,hv=>by
  have hc:=h c (List.mem_cons_self ..)
  have h1:=val_le (10*x+(c.toNat - 48)) l
  rw [gA_] at hv ⊢
  unfold dR_ at hc
  rw [Lib.parseUint10,if_pos hc,if_neg (by omega),if_neg (by omega),show x*10+(c.toNat - 48)=10*x+(c.toNat - 48) by omega]
  exact pu_val _ l (fun c hc=>h c (List.mem_cons_of_mem _ hc)) hv
theorem lk_ {n:Int} (h0 : -1000000000≤n) (h1:n≤1000000000):Lib.atoiAll (Lib.itoa n) = .ok n:=by
 unfold Lib.itoa
 have key:∀ u:Nat,u≤1000000000→Lib.parseMag (Lib.decDigits u) = .ok u:=by
  intro u hu
  have:=iG_ u
  unfold Lib.parseMag
  rw [if_neg (fun e=>by rw [e] at this;simp at this),pu_val 0 _ (fK_ u) (by rw [jK_];omega),jK_]
 by_cases hn:n<0
 · rw [if_pos hn,Lib.atoiAll_minus,key n.natAbs (by omega)]
   show (if 9223372036854775808<n.natAbs then Lib.NumEnd.range else .ok (-(n.natAbs:Int)))=_
   rw [if_neg (by omega),show (-(n.natAbs:Int))=n by omega]
 · rw [if_neg hn]
   have e:=key n.toNat (by omega)
   have hp:=iG_ n.toNat
   have hd:=fK_ n.toNat
   generalize Lib.decDigits n.toNat=l at e hp hd ⊢
   cases l with
   |nil=>simp at hp
   |cons c r=>
    have hc:=hd c (List.mem_cons_self ..)
    unfold dR_ at hc
    rw [Lib.atoiAll_plain c r (by omega) (by omega),e]
    show (if 9223372036854775808≤n.toNat then Lib.NumEnd.range else .ok (n.toNat:Int))=_
    rw [if_neg (by omega),show (n.toNat:Int)=n by omega]
def cX_ (enc:aa_→Bs) (j:aa_):Nat→Nat→Bs
 |0,_=>[]
 |k+1,i=>(if i=0 then [] else [44])++(cV_ enc j i++cX_ enc j k (i+1))
theorem jJ_ (enc:aa_→Bs) (j:aa_):∀ k i,c5_ enc j i++cX_ enc j k i=c5_ enc j (i+k)
 |0,i=>by rw [cX_,List.append_nil];rfl
 |k+1,i=>by
  rw [cX_,show i+(k+1)=i+1+k by omega,←jJ_ enc j k (i+1)]
  by_cases h:i=0
  · subst h;rw [jI_,fR_,if_pos rfl];simp
  · rw [if_neg h,eR_ enc j (by omega)];simp
theorem iU_ (enc:aa_→Bs) (j:aa_) (m:Nat):c5_ enc j m=cX_ enc j m 0:=by
 have:=jJ_ enc j m 0
 rw [jI_,List.nil_append,Nat.zero_add] at this
 exact this.symm
def Stop (r:Bs):Prop:=∀ c t,r=c::t→¬ dR_ c
theorem jP_:Stop []:=fun c t h=>(by cases h)
theorem h6_ {c:UInt8} {t:Bs} (h:¬ dR_ c):Stop (c::t):=fun d u e=>by cases e;exact h
theorem fx_ (n:Int):∃ c t,Lib.itoa n=c::t∧(c=45∨dR_ c):=by
 unfold Lib.itoa
 by_cases h:n<0
 · rw [if_pos h];exact ⟨45,_,rfl,.inl rfl⟩
 · rw [if_neg h]
   have hp:=iG_ n.toNat
   have hd:=fK_ n.toNat
   generalize Lib.decDigits n.toNat=l at hp hd ⊢
   cases l with
   |nil=>simp at hp
   |cons c r=>exact ⟨c,r,rfl,.inr (hd c (List.mem_cons_self ..))⟩
theorem enc_head {d:Nat} {j:aa_} (h:bD_ d j≤400):∃ c t,FEnc d j=c::t∧c.toNat≠93∧c.toNat≠125∧c.toNat≠44:=by
 cases d with
 |zero=>simp only [bD_] at h;omega
 |succ d=>
  have ho:=(c0_ h).1
  rcases ho.kind with hk|hk|hk|hk|hk|hk
  · exact ⟨110,[117,108,108],by simp only [FEnc,hk,Int.reduceBEq,cond_true],by decide⟩
  · cases hb:(j.n_ == 1) with
    |true=>exact ⟨116,[114,117,101],by simp only [FEnc,hk,hb,Int.reduceBEq,cond_true,cond_false],by decide⟩
    |false=>exact ⟨102,[97,108,115,101],by simp only [FEnc,hk,hb,Int.reduceBEq,cond_true,cond_false],by decide⟩
  · obtain ⟨c,t,e,hc⟩:=fx_ j.n_
    refine ⟨c,t,by simp only [FEnc,hk,Int.reduceBEq,cond_true,cond_false,e],?_⟩
    rcases hc with rfl|hc
    · decide
    · unfold dR_ at hc;omega
  · exact ⟨34,j.s.flatMap d0_++[34],by simp only [FEnc,hk,Int.reduceBEq,cond_true,cond_false,cN_];rfl,by decide⟩
  · exact ⟨91,c5_ (FEnc d) j j.list.length++[93],by simp only [FEnc,hk,Int.reduceBEq,cond_true,cond_false];rfl,by decide⟩
  · exact ⟨123,c5_ (FEnc d) j j.list.length++[125],by simp only [FEnc,hk,Int.reduceBEq,cond_true,cond_false];rfl,by decide⟩
theorem jH_ {d:Nat} {j:aa_} (h:bD_ (d+1) j≤400) {i:Nat} (hi:i<j.list.length):∃ c t,cV_ (FEnc d) j i=c::t∧c.toNat≠93∧c.toNat≠125∧c.toNat≠44:=by
 unfold cV_
 cases (j.kind == 5) with
 |true=>exact ⟨34,(j.names.getD i []).flatMap d0_++[34]++([58]++FEnc d (j.list.getD i aa_.dflt)),by simp only [cond_true,cN_];rfl,by decide⟩
 |false=>exact enc_head (dQ_ h hi).size
theorem qesc_nl {s:Bs} (h:∀ c ∈ s,c≠10):∀ c ∈ cN_ s,c≠10:=by
 intro c hc
 unfold cN_ at hc
 simp only [List.cons_append,List.mem_cons,List.mem_append,List.mem_flatMap,List.not_mem_nil,or_false] at hc
 rcases hc with rfl|⟨b,hb,hc⟩|rfl
 · decide
 · have:=h b hb
   unfold d0_ at hc
   split at hc
   · simp only [List.mem_cons,List.not_mem_nil,or_false] at hc
     rcases hc with rfl|rfl
     · decide
     · exact this
   · obtain rfl:=List.mem_singleton.1 hc;exact this
 · decide
theorem text_nl {s:Bs} (h:gy_ s=true):∀ c ∈ s,c≠10:=by
 intro c hc e
 subst e
 unfold gy_ at h
 rw [Bool.and_eq_true] at h
 obtain ⟨i,hi,e⟩:=List.getElem_of_mem hc
 have:=f4_.1 h.1 i hi
 rw [List.getD_eq_getElem?_getD,List.getElem?_eq_getElem hi,Option.getD_some,e] at this
 revert this;decide
theorem gr_ (n:Int):∀ c ∈ Lib.itoa n,c≠10:=by
 intro c hc e
 subst e
 unfold Lib.itoa at hc
 have key:∀ u,(10:UInt8) ∈ Lib.decDigits u→False:=fun u h=>by have:=fK_ u 10 h;unfold dR_ at this;revert this;decide
 split at hc
 · rcases List.mem_cons.1 hc with h|h
   · revert h;decide
   · exact key _ h
 · exact key _ hc
structure Own2 (j:aa_):Prop where
 text:j.kind=3→gy_ j.s=true
 n0:j.kind≠1→j.kind≠2→j.n_=0
 s0:j.kind≠3→j.s=[]
 ns0:j.kind≠5→j.names=[]
theorem dK_ {j:aa_} (h:FOwn j=true):Own2 j:=by
 unfold FOwn FOwnK at h
 simp only [Bool.and_eq_true,Bool.or_eq_true] at h
 obtain ⟨h1,h2,h3,h4,h5⟩:=h
 refine ⟨fun hk => ?_,fun k1 k2 => ?_,fun k3 => ?_,fun k5 => ?_⟩
 · simpa only [hk,Int.reduceBEq,cond_true,cond_false] using h5
 · rcases h3 with h|h|h
   · simpa using h
   · exact absurd (by simpa using h) k1
   · exact absurd (by simpa using h) k2
 · rcases h4 with h|h
   · simpa using h
   · exact absurd (by simpa using h) k3
 · rcases h2 with h|h
   · exact List.eq_nil_of_length_eq_zero (of_decide_eq_true h)
   · exact absurd (by simpa using h) k5
theorem dy_ {d:Nat} {j:aa_} (h:bD_ (d+1) j≤400):FOwn j=true:=by
 simp only [bD_] at h
 cases ho:FOwn j with
 |false=>rw [ho,cond_false] at h;omega
 |true=>rfl
theorem enc_nl:∀ (d:Nat) (j:aa_),bD_ d j≤400→∀ c ∈ FEnc d j,c≠10
 |0,j,h=>by simp only [bD_] at h;omega
 |d+1,j,h=>by
  have ho:=(c0_ h).1
  have ho2:=dK_ (dy_ h)
  have hJ:∀ k i,i+k≤j.list.length→∀ c ∈ cX_ (FEnc d) j k i,c≠10:=by
   intro k
   induction k with
   |zero=>intro i _ c hc;cases hc
   |succ k ih=>
    intro i hi c hc
    have hp:=dQ_ h (i:=i) (by omega)
    simp only [cX_,List.mem_append] at hc
    rcases hc with hc|hc|hc
    · split at hc
      · cases hc
      · obtain rfl:=List.mem_singleton.1 hc;decide
    · have he:=enc_nl d _ hp.size
      unfold cV_ at hc
      cases hk:(j.kind == 5) with
      |false=>rw [hk,cond_false] at hc;exact he c hc
      |true=>
       obtain ⟨e1,e2⟩:=ho.obj (by simpa using hk)
       have hn:=f4_.1 e2 i (by omega)
       rw [Bool.and_eq_true] at hn
       rw [hk,cond_true] at hc
       simp only [List.mem_append] at hc
       rcases hc with hc|hc|hc
       · exact qesc_nl (text_nl hn.1) c hc
       · obtain rfl:=List.mem_singleton.1 hc;decide
       · exact he c hc
    · exact ih (i+1) (by omega) c hc
  have hA:=hJ j.list.length 0 (by omega)
  rw [←iU_] at hA
  intro c hc
  rcases ho.kind with hk|hk|hk|hk|hk|hk
  · simp only [FEnc,hk,Int.reduceBEq,cond_true] at hc
    intro e;subst e;revert hc;decide
  · simp only [FEnc,hk,Int.reduceBEq,cond_true,cond_false] at hc
    intro e;subst e;revert hc;cases (j.n_ == 1)<;>decide
  · simp only [FEnc,hk,Int.reduceBEq,cond_true,cond_false] at hc
    exact gr_ _ c hc
  · simp only [FEnc,hk,Int.reduceBEq,cond_true,cond_false] at hc
    exact qesc_nl (text_nl (ho2.text hk)) c hc
  all_goals (
   simp only [FEnc,hk,Int.reduceBEq,cond_true,cond_false,List.mem_append,List.mem_singleton] at hc
   rcases hc with (rfl|hc)|rfl
   · decide
   · exact hA c hc
   · decide)
end Go.Pi
end
section
namespace Go.Pi
def dp_ (b:UInt8):Bs→List Bs
 |[]=>[[]]
 |c::l=>if c=b then []::dp_ b l else match dp_ b l with
  |[]=>[[c]]
  |p::ps=>(c::p)::ps
theorem hg_ (b:UInt8):∀ l,∃ p ps,dp_ b l=p::ps
 |[]=>⟨[],[],rfl⟩
 |c::l=>by
  obtain ⟨p,ps,e⟩:=hg_ b l
  unfold dp_
  by_cases h:c=b
  · rw [if_pos h];exact ⟨_,_,rfl⟩
  · rw [if_neg h,e];exact ⟨_,_,rfl⟩
theorem hf_ (b:UInt8):∀ (s:Bs) (k:Nat),s.count b≤k→Lib.splitK [b] 0 k s=dp_ b s
 |[],0,_=>rfl
 |[],k+1,_=>by
  rw [Lib.splitK]
  have:Lib.index [] [b] = -1:=rfl
  rw [this,if_pos (by decide)];rfl
 |c::l,k,h=>by
  unfold dp_
  by_cases e:c=b
  · subst e
    rw [List.count_cons_self] at h
    obtain ⟨k,rfl⟩:∃ m,k=m+1:=⟨k - 1,by omega⟩
    rw [Lib.splitK,eg_,if_pos rfl,if_neg (by decide),if_pos rfl]
    show []::Lib.splitK [c] 0 k l=_
    rw [hf_ c l k (by omega)]
  · rw [List.count_cons_of_ne e] at h
    have ih:=hf_ b l k h
    rw [if_neg e,←ih]
    cases k with
    |zero=>rfl
    |succ k=>
     have hx:Lib.index (c::l) [b]=if Lib.index l [b] = -1 then -1 else Lib.index l [b]+1:=by rw [eg_,if_neg (show ¬ b=c from fun h=>e h.symm)]
     rw [Lib.splitK,Lib.splitK,hx]
     by_cases h2:Lib.index l [b] = -1
     · rw [if_pos h2,if_pos (by decide),h2,if_pos (by decide)]
     · have:=Lib.index_ge l [b]
       obtain ⟨i,hi⟩:∃ i:Nat,Lib.index l [b]=i:=⟨(Lib.index l [b]).toNat,by omega⟩
       rw [if_neg h2,if_neg (by rw [hi];simp<;>omega),if_neg (by rw [hi];simp<;>omega),hi,show ((i:Int)+1).toNat=i+1 by omega,show ((i:Int)).toNat=i by omega]
       rfl
theorem split_one (b:UInt8) (s:Bs):Lib.split s [b]=dp_ b s:=by
 unfold Lib.split
 rw [iH_]
 exact hf_ b s _ (Nat.le_refl _)
theorem hh_ (b:UInt8):∀ (s:Bs),(dp_ b s).length≤s.length+1∧∀ p ∈ dp_ b s,p.length≤s.length
 |[]=>⟨Nat.le_refl _,fun p hp=>by obtain rfl:=List.mem_singleton.1 hp;exact Nat.le_refl _⟩
 |c::l=>by
  obtain ⟨h1,h2⟩:=hh_ b l
  obtain ⟨p,ps,e⟩:=hg_ b l
  unfold dp_
  by_cases h:c=b
  · rw [if_pos h]
    refine ⟨by simp;omega,fun q hq => ?_⟩
    rcases List.mem_cons.1 hq with rfl|hq
    · simp
    · have:=h2 q hq;simp;omega
  · rw [if_neg h,e]
    rw [e] at h1 h2
    refine ⟨by simp at h1 ⊢;omega,fun q hq => ?_⟩
    rcases List.mem_cons.1 hq with rfl|hq
    · have:=h2 p (List.mem_cons_self ..);simp;omega
    · have:=h2 q (List.mem_cons_of_mem _ hq);simp;omega
theorem hi_ (b:UInt8) (r:Bs):∀ (a:Bs),(∀ c ∈ a,c≠b)→dp_ b (a++b::r)=a::dp_ b r
 |[],_=>by rw [List.nil_append,dp_,if_pos rfl]
 |c::a,h=>by
  rw [List.cons_append,dp_,if_neg (h c (List.mem_cons_self ..)),hi_ b r a fun x hx=>h x (List.mem_cons_of_mem _ hx)]
theorem jb_ (b:UInt8):∀ (a:Bs),(∀ c ∈ a,c≠b)→dp_ b a=[a]
 |[],_=>rfl
 |c::a,h=>by rw [dp_,if_neg (h c (List.mem_cons_self ..)),jb_ b a fun x hx=>h x (List.mem_cons_of_mem _ hx)]
theorem wesc_sl (s:Bs):∀ c ∈ s.flatMap et_,c≠47:=by
 intro c hc
 obtain ⟨b,_,hc⟩:=List.mem_flatMap.1 hc
 unfold et_ at hc
 split at hc
 · intro e;subst e;revert hc;decide
 · split at hc
   · intro e;subst e;revert hc;decide
   · obtain rfl:=List.mem_singleton.1 hc;assumption
theorem kD_:∀ (w:List Bs),dp_ 47 (FWay w)=[]::w.map fun s=>s.flatMap et_
 |[]=>rfl
 |s::w=>by
  have e:FWay (s::w)=[]++47::(s.flatMap et_++FWay w):=rfl
  rw [e,hi_ 47 _ [] (fun c h=>by cases h)]
  congr 1
  cases w with
  |nil=>
   have:FWay ([]:List Bs)=[]:=rfl
   rw [this,List.append_nil,jb_ 47 _ (wesc_sl s)];rfl
  |cons t w=>
   have ih:=kD_ (t::w)
   have e2:FWay (t::w)=47::(t.flatMap et_++FWay w):=rfl
   rw [e2,dp_,if_pos rfl] at ih
   rw [e2,hi_ 47 _ _ (wesc_sl s),List.map_cons,List.cons.inj ih |>.2]
def eH_ (a b:UInt8) (new:Bs):Bs→Bs
 |[]=>[]
 |[x]=>[x]
 |x::y::l=>if x=a∧y=b then new++eH_ a b new l else x::eH_ a b new (y::l)
theorem hE_ (a b x:UInt8) (l:Bs):Lib.index (x::l) [a,b]=if x=a∧l.head?=some b then 0 else if Lib.index l [a,b] = -1 then -1 else Lib.index l [a,b]+1:=by
 rw [Lib.index]
 have:List.isPrefixOf [a,b] (x::l)=decide (x=a∧l.head?=some b):=by
  refine Bool.eq_iff_iff.2 ?_
  cases l with
  |nil=>simp [List.isPrefixOf]
  |cons y l=>
   simp only [List.isPrefixOf,List.head?_cons,Option.some.injEq,decide_eq_true_eq,Bool.and_true,Bool.and_eq_true,beq_iff_eq]
   exact ⟨fun ⟨h1,h2⟩=>⟨h1.symm,h2.symm⟩,fun ⟨h1,h2⟩=>⟨h1.symm,h2.symm⟩⟩
 rw [this]
 by_cases h:x=a∧l.head?=some b
 · rw [decide_eq_true h,if_pos rfl,if_pos h]
 · rw [decide_eq_false h,if_neg (by simp),if_neg h]
   by_cases h2:Lib.index l [a,b] = -1
   · rw [h2,if_pos rfl,if_pos (by decide)]
   · rw [if_neg h2,if_neg (by simpa using h2)]
def cnt2 (a b:UInt8):Bs→Nat
 |[]=>0
 |[_]=>0
 |x::y::l=>if x=a∧y=b then 1+cnt2 a b l else cnt2 a b (y::l)
theorem l1_ (a b:UInt8):∀ l:Bs,cnt2 a b l≤l.length
 |[]=>Nat.le_refl _
 |[_]=>by simp [cnt2]
 |x::y::l=>by
  unfold cnt2
  have h1:=l1_ a b l
  have h2:=l1_ a b (y::l)
  split
  · simp;omega
  · simp at h2 ⊢;omega
theorem ht_ (a b:UInt8):∀ (s:Bs) (f:Nat),s.length<f→Lib.countFrom [a,b] f s=cnt2 a b s
 |[],f+1,_=>by
  rw [Lib.countFrom]
  have:Lib.index [] [a,b] = -1:=rfl
  rw [this,if_pos (by decide)];rfl
 |[x],f+1,_=>by
  rw [Lib.countFrom]
  have:Lib.index [x] [a,b] = -1:=by
   rw [hE_,if_neg (by simp)];rfl
  rw [this,if_pos (by decide)];rfl
 |x::y::l,f+1,h=>by
  have hl:l.length+1<f:=by simpa using h
  unfold cnt2
  by_cases e:x=a∧y=b
  · have hx:Lib.index (x::y::l) [a,b]=0:=by rw [hE_,if_pos (show x=a∧(y::l).head?=some b by simpa using e)]
    rw [if_pos e,Lib.countFrom,hx,if_neg (by decide)]
    show 1+Lib.countFrom [a,b] f l=_
    rw [ht_ a b l f (by omega)]
  · have hx:Lib.index (x::y::l) [a,b]=if Lib.index (y::l) [a,b] = -1 then -1 else Lib.index (y::l) [a,b]+1:=by rw [hE_,if_neg (show ¬ (x=a∧(y::l).head?=some b) by simpa using e)]
    rw [if_neg e,←ht_ a b (y::l) (f+1) (by simp;omega),Lib.countFrom,Lib.countFrom,hx]
    by_cases h2:Lib.index (y::l) [a,b] = -1
    · rw [if_pos h2,if_pos (by decide),h2,if_pos (by decide)]
    · have:=Lib.index_ge (y::l) [a,b]
      obtain ⟨i,hi⟩:∃ i:Nat,Lib.index (y::l) [a,b]=i:=⟨(Lib.index (y::l) [a,b]).toNat,by omega⟩
      rw [if_neg h2,if_neg (by rw [hi];simp<;>omega),if_neg (by rw [hi];simp<;>omega),hi,show ((i:Int)+1).toNat=i+1 by omega,show ((i:Int)).toNat=i by omega]
      rfl
theorem count2 (a b:UInt8) (s:Bs):Lib.count s [a,b]=cnt2 a b s:=ht_ a b s _ (Nat.lt_succ_self _)
theorem il_ (a b:UInt8) (new:Bs):∀ (s:Bs) (k:Nat),cnt2 a b s≤k→Lib.replaceK [a,b] new k s=eH_ a b new s
 |[],0,_=>rfl
 |[],k+1,_=>by
  rw [Lib.replaceK]
  have:Lib.index [] [a,b] = -1:=rfl
  rw [this,if_pos (by decide)];rfl
 |[x],0,_=>rfl
 |[x],k+1,_=>by
  rw [Lib.replaceK]
  have:Lib.index [x] [a,b] = -1:=by rw [hE_,if_neg (by simp)];rfl
  rw [this,if_pos (by decide)];rfl
 |x::y::l,k,h=>by
  unfold cnt2 at h
  unfold eH_
  by_cases e:x=a∧y=b
  · rw [if_pos e] at h ⊢
    obtain ⟨k,rfl⟩:∃ m,k=m+1:=⟨k - 1,by omega⟩
    have hx:Lib.index (x::y::l) [a,b]=0:=by rw [hE_,if_pos (show x=a∧(y::l).head?=some b by simpa using e)]
    rw [Lib.replaceK,hx,if_neg (by decide)]
    show []++new++Lib.replaceK [a,b] new k l=_
    rw [il_ a b new l k (by omega)];rfl
  · rw [if_neg e] at h ⊢
    have ih:=il_ a b new (y::l) k h
    rw [←ih]
    cases k with
    |zero=>rfl
    |succ k=>
     have hx:Lib.index (x::y::l) [a,b]=if Lib.index (y::l) [a,b] = -1 then -1 else Lib.index (y::l) [a,b]+1:=by rw [hE_,if_neg (show ¬ (x=a∧(y::l).head?=some b) by simpa using e)]
     rw [Lib.replaceK,Lib.replaceK,hx]
     by_cases h2:Lib.index (y::l) [a,b] = -1
     · rw [if_pos h2,if_pos (by decide),h2,if_pos (by decide)]
     · have:=Lib.index_ge (y::l) [a,b]
       obtain ⟨i,hi⟩:∃ i:Nat,Lib.index (y::l) [a,b]=i:=⟨(Lib.index (y::l) [a,b]).toNat,by omega⟩
       rw [if_neg h2,if_neg (by rw [hi];simp<;>omega),if_neg (by rw [hi];simp<;>omega),hi,show ((i:Int)+1).toNat=i+1 by omega,show ((i:Int)).toNat=i by omega]
       rfl
theorem lG_ (a b:UInt8) (new s:Bs) (hne:([a,b] == new)=false):Lib.replaceAll s [a,b] new=eH_ a b new s:=by
 unfold Lib.replaceAll Lib.replace Lib.replaceNum
 rw [hne,if_neg (by simp),if_pos (.inl (by decide)),count2]
 exact il_ a b new s _ (Nat.le_refl _)
theorem eX_ (a b c:UInt8):∀ l:Bs,(eH_ a b [c] l).length≤l.length
 |[]=>Nat.le_refl _
 |[_]=>Nat.le_refl _
 |x::y::l=>by
  unfold eH_
  have h1:=eX_ a b c l
  have h2:=eX_ a b c (y::l)
  split
  · simp;omega
  · simp at h2 ⊢;omega
theorem mt_ (a b:UInt8) (new l:Bs):eH_ a b new (a::b::l)=new++eH_ a b new l:=by rw [eH_,if_pos ⟨rfl,rfl⟩]
theorem im_ {a b x:UInt8} (h:x≠a) (new l:Bs):eH_ a b new (x::l)=x::eH_ a b new l:=by
 cases l with
 |nil=>rfl
 |cons y l=>rw [eH_,if_neg fun e=>h e.1]
theorem nm_ {a b y:UInt8} (h:y≠b) (new l:Bs) (h2:y≠a):eH_ a b new (a::y::l)=a::y::eH_ a b new l:=by
 rw [eH_,if_neg fun e=>h e.2,im_ h2]
def ku_ (c:UInt8):Bs:=if c=126 then [126,48] else [c]
theorem unesc1:∀ (s:Bs),eH_ 126 49 [47] (s.flatMap et_)=s.flatMap ku_
 |[]=>rfl
 |c::s=>by
  have ih:=unesc1 s
  rw [List.flatMap_cons,List.flatMap_cons]
  generalize s.flatMap et_=x at ih ⊢
  generalize s.flatMap ku_=y at ih ⊢
  by_cases h1:c=126
  · have e1:et_ c=[126,48]:=if_pos h1
    have e2:ku_ c=[126,48]:=if_pos h1
    rw [e1,e2]
    show eH_ 126 49 [47] (126::48::x)=126::48::y
    rw [nm_ (by decide) _ _ (by decide),ih]
  · have e2:ku_ c=[c]:=if_neg h1
    by_cases h2:c=47
    · have e1:et_ c=[126,49]:=by unfold et_;rw [if_neg h1,if_pos h2]
      rw [e1,e2]
      show eH_ 126 49 [47] (126::49::x)=c::y
      rw [mt_,ih,h2];rfl
    · have e1:et_ c=[c]:=by unfold et_;rw [if_neg h1,if_neg h2]
      rw [e1,e2]
      show eH_ 126 49 [47] (c::x)=c::y
      rw [im_ h1,ih]
theorem unesc2:∀ (s:Bs),eH_ 126 48 [126] (s.flatMap ku_)=s
 |[]=>rfl
 |c::s=>by
  have ih:=unesc2 s
  rw [List.flatMap_cons]
  generalize s.flatMap ku_=y at ih ⊢
  by_cases h1:c=126
  · have e2:ku_ c=[126,48]:=if_pos h1
    rw [e2]
    show eH_ 126 48 [126] (126::48::y)=_
    rw [mt_,ih,h1];rfl
  · have e2:ku_ c=[c]:=if_neg h1
    rw [e2]
    show eH_ 126 48 [126] (c::y)=_
    rw [im_ h1,ih]
end Go.Pi
end
section
namespace Go.Pi
theorem fd_:∀ (d:Nat) (j:aa_),bD_ d j≤400→Ev (fun n _=>aC_ n j) (FEnc d j)
 |0,j,h=>by simp only [bD_] at h;omega
 |d+1,j,h=>by
  have ho:=(c0_ h).1
  have hll:=dt_ h
  refine aV_ ?_
  have hloop:(j.kind=4∨j.kind=5)→∀ (K:Nat→Bs→Int→Int→Bs→List aa_→List Bs→Option Bs) (v:Bs),Ev (fun n N=>K n (c5_ (FEnc d) j j.list.length) j.kind j.n_ j.s j.list j.names) v→Ev (fun n _=>aC_.loop17 n (aC_ n) (K n) n [] 0 j.kind j.n_ j.s j.list j.names) v:=by
   intro hk45 K v hK
   refine ex_ (fun i=>c5_ (FEnc d) j i) j.list.length (fun n N i (o:Bs)=>aC_.loop17 n (aC_ n) (K n) N o (i:Int) j.kind j.n_ j.s j.list j.names) v (fun i hi F hF => ?_) ?_
   · have hp:=dQ_ h hi
     have hx:=fd_ d (j.list.getD i aa_.dflt) hp.size
     have hjl:=kb_ h i (by omega)
     have he:=hp.enc
     have hW:=W_up hi (show j.list.length≤cz_ by simp only [cz_];omega)
     rcases hk45 with hk|hk
     · have h5:(j.kind == 5)=false:=by rw [hk];rfl
       by_cases h0:i=0
       · have hg:decide ((i:Int) > 0)=false:=decide_eq_false (by omega)
         have e0:c5_ (FEnc d) j i=[]:=by rw [h0];rfl
         have e1:c5_ (FEnc d) j (i+1)=cV_ (FEnc d) j i:=by rw [h0];exact fR_ _ _
         rw [e1] at hF
         unfold cV_ at hF
         rw [h5,cond_false] at hF
         simp only [e0,aC_.turn17,aC_.step17,by_,Int.toNat_natCast,hW,h5,hg,reduceCtorEq,false_implies,true_implies,true_and,and_true,aH_,bQ_,cT_,cS_ hi,cG_ hi,ae_ hx,List.nil_append]
         generalize FEnc d (j.list.getD i aa_.dflt)=x at hF he ⊢
         repeat' (first|apply And.intro|intro _)
         all_goals (first|contradiction|exact hF|trivial|(rename_i hc;have hc:=of_decide_eq_false hc;simp only [List.length_append,List.length_cons,List.length_nil] at hc;omega))
       · rw [eR_ _ _ (by omega)] at hF
         unfold cV_ at hF
         rw [h5,cond_false] at hF
         have hg:decide ((i:Int) > 0)=true:=decide_eq_true (by omega)
         simp only [aC_.turn17,aC_.step17,by_,Int.toNat_natCast,hW,h5,hg,aH_,bQ_,cT_,cS_ hi,cG_ hi,ae_ hx]
         generalize FEnc d (j.list.getD i aa_.dflt)=x at hF he ⊢
         generalize c5_ (FEnc d) j i=o at hF hjl ⊢
         repeat' (first|apply And.intro|intro _)
         all_goals (first|contradiction|exact hF|trivial|(rename_i hc;have hc:=of_decide_eq_false hc;simp only [List.length_append,List.length_cons,List.length_nil] at hc;omega))
     · have h5:(j.kind == 5)=true:=by rw [hk];rfl
       have hn:=hp.name hk
       have hq:=fp_ (s:=j.names.getD i []) (by omega)
       have hql:=eh_ (j.names.getD i [])
       by_cases h0:i=0
       · have hg:decide ((i:Int) > 0)=false:=decide_eq_false (by omega)
         have e0:c5_ (FEnc d) j i=[]:=by rw [h0];rfl
         have e1:c5_ (FEnc d) j (i+1)=cV_ (FEnc d) j i:=by rw [h0];exact fR_ _ _
         rw [e1] at hF
         unfold cV_ at hF
         rw [h5,cond_true] at hF
         simp only [e0,aC_.turn17,aC_.step17,by_,Int.toNat_natCast,hW,h5,hg,reduceCtorEq,false_implies,true_implies,true_and,and_true,aH_,bQ_,cT_,cS_ hi,cG_ hi,cG_ hn.1,ae_ hx,ae_ hq,List.nil_append]
         generalize FEnc d (j.list.getD i aa_.dflt)=x at hF he ⊢
         generalize cN_ (j.names.getD i [])=y at hF hql ⊢
         rw [←List.append_assoc] at hF
         repeat' (first|apply And.intro|intro _)
         all_goals (first|contradiction|exact hF|trivial|(rename_i hc;have hc:=of_decide_eq_false hc;simp only [List.length_append,List.length_cons,List.length_nil] at hc;omega))
       · rw [eR_ _ _ (by omega)] at hF
         unfold cV_ at hF
         rw [h5,cond_true] at hF
         have hg:decide ((i:Int) > 0)=true:=decide_eq_true (by omega)
         simp only [aC_.turn17,aC_.step17,by_,Int.toNat_natCast,hW,h5,hg,aH_,bQ_,cT_,cS_ hi,cG_ hi,cG_ hn.1,ae_ hx,ae_ hq]
         generalize FEnc d (j.list.getD i aa_.dflt)=x at hF he ⊢
         generalize cN_ (j.names.getD i [])=y at hF hql ⊢
         generalize c5_ (FEnc d) j i=o at hF hjl ⊢
         rw [←List.append_assoc,←List.append_assoc] at hF
         repeat' (first|apply And.intro|intro _)
         all_goals (first|contradiction|exact hF|trivial|(rename_i hc;have hc:=of_decide_eq_false hc;simp only [List.length_append,List.length_cons,List.length_nil] at hc;omega))
   · simp only [aC_.turn17,aC_.step17,cQ_,cond_false]
     exact hK
  have hjl:=kb_ h j.list.length (Nat.le_refl _)
  simp only [aC_,by_]
  rcases ho.kind with hk|hk|hk|hk|hk|hk
  · simp only [FEnc,hk,Int.reduceBEq,cond_true,al_]
  · simp only [FEnc,hk,Int.reduceBEq,cond_true,cond_false,aH_,al_]
    cases (j.n_ == 1)<;>simp
  · have hn:=ho.num hk
    simp only [FEnc,hk,Int.reduceBEq,cond_true,cond_false,ae_ (c1_ (x:=j.n_) (by omega) (by omega)),al_]
  · have hs:=ho.text hk
    simp only [FEnc,hk,Int.reduceBEq,cond_true,cond_false,ae_ (fp_ (s:=j.s) (by omega)),al_]
  all_goals (
   have e0:(j.kind == 0)=false:=by rw [hk];rfl
   have e1:(j.kind == 1)=false:=by rw [hk];rfl
   have e2:(j.kind == 2)=false:=by rw [hk];rfl
   have e3:(j.kind == 3)=false:=by rw [hk];rfl
   simp only [FEnc,e0,e1,e2,e3,cond_false]
   refine hloop (by omega) _ _ ?_
   generalize c5_ (FEnc d) j j.list.length=o at hjl ⊢
   simp only [hk,Int.reduceBEq,cond_true,cond_false,aH_,al_,cT_]
   refine ⟨fun _=>⟨fun _=>trivial,fun hc => ?_⟩,fun hc => ?_⟩
   · have hc:=of_decide_eq_false hc
     simp only [List.length_append,List.length_cons,List.length_nil] at hc;omega
   · have hc:=of_decide_eq_false hc
     simp only [List.length_append,List.length_cons,List.length_nil] at hc;omega)
theorem Join_ev {l:List Bs} {sep:Bs} (hl:l.length≤1000000) (hj:(Lib.join l sep).length≤1000000000):Ev (fun n _=>strings_Join n l sep) (Lib.join l sep):=by
 refine aV_ ?_
 simp only [strings_Join,nJoin,aH_,al_,cT_]
 refine ⟨fun _=>trivial,fun h => ?_⟩
 rw [decide_eq_true (by omega),decide_eq_true (by omega)] at h;cases h
theorem fy_:∀ (d:Nat) (j:aa_),bD_ d j≤400→Ev (fun n _=>aR_ n j) (FEnc d j)
 |0,j,h=>by simp only [bD_] at h;omega
 |d+1,j,h=>by
  have ho:=(c0_ h).1
  have hll:=dt_ h
  refine aV_ ?_
  have hloop:∀ (K:Nat→Int→Int→Bs→List aa_→List Bs→List Bs→Option Bs) (v:Bs),Ev (fun n N=>K n j.kind j.n_ j.s j.list j.names ((List.range j.list.length).map (cV_ (FEnc d) j))) v→Ev (fun n _=>aR_.loop4 n (aR_ n) (K n) n j.list (j.list.length:Int) 0 j.kind j.n_ j.s j.list j.names []) v:=by
   intro K v hK
   refine ex_ (fun i=>(List.range i).map (cV_ (FEnc d) j)) j.list.length (fun n N i (o:List Bs)=>aR_.loop4 n (aR_ n) (K n) N j.list (j.list.length:Int) (i:Int) j.kind j.n_ j.s j.list j.names o) v (fun i hi F hF => ?_) ?_
   · have hp:=dQ_ h hi
     have hx:=fy_ d (j.list.getD i aa_.dflt) hp.size
     have he:=hp.enc
     have hW:=W_up hi (show j.list.length≤cz_ by simp only [cz_];omega)
     have hol:((List.range i).map (cV_ (FEnc d) j)).length=i:=by simp
     rw [List.range_succ,List.map_append,List.map_cons,List.map_nil] at hF
     unfold cV_ at hF
     cases h5:(j.kind == 5) with
     |false=>
      simp only [h5,cond_false] at hF
      unfold cV_ at hol ⊢
      simp only [h5,cond_false] at hol ⊢
      simp only [aR_.turn4,aR_.step4,by_,Int.toNat_natCast,hW,h5,cond_false,aH_,bQ_,cT_,ce_,cS_ hi,cG_ hi,ae_ hx]
      generalize FEnc d (j.list.getD i aa_.dflt)=x at hF he ⊢
      generalize (List.range i).map _=o at hF hol ⊢
      exact ⟨fun _=>⟨trivial,by simp;omega,hF⟩,fun h=>(by cases h)⟩
     |true=>
      have hn:=hp.name (by simpa using h5)
      have hq:=gf_ (s:=j.names.getD i []) (by omega)
      have hql:=eh_ (j.names.getD i [])
      simp only [h5,cond_true] at hF
      unfold cV_ at hol ⊢
      simp only [h5,cond_true] at hol ⊢
      simp only [aR_.turn4,aR_.step4,by_,Int.toNat_natCast,hW,h5,cond_true,aH_,bQ_,cT_,ce_,cS_ hi,cG_ hi,cG_ hn.1,ae_ hx,ae_ hq]
      generalize FEnc d (j.list.getD i aa_.dflt)=x at hF he ⊢
      generalize cN_ (j.names.getD i [])=y at hF hql ⊢
      generalize (List.range i).map _=o at hF hol ⊢
      rw [←List.append_assoc] at hF
      repeat' (first|apply And.intro|intro _)
      all_goals (first|contradiction|exact hF|trivial|(rename_i hc;have hc:=of_decide_eq_false hc;simp only [List.length_append,List.length_cons,List.length_nil] at hc;omega)|(simp;omega))
   · simp only [aR_.turn4,aR_.step4,cQ_,cond_false]
     exact hK
  have hjl:=kb_ h j.list.length (Nat.le_refl _)
  have hJ:=Join_ev (l:=(List.range j.list.length).map (cV_ (FEnc d) j)) (sep:=[44]) (by simp;omega) (by unfold c5_ at hjl;omega)
  simp only [aR_,by_]
  refine hloop _ _ ?_
  rcases ho.kind with hk|hk|hk|hk|hk|hk
  · simp only [FEnc,hk,Int.reduceBEq,cond_true,al_]
  · have hb:=ho.bool hk
    simp only [FEnc,hk,Int.reduceBEq,cond_true,cond_false,bQ_,al_]
    have:j.n_=0∨j.n_=1:=by omega
    rcases this with e|e<;>rw [e]<;>exact ⟨⟨by decide,by decide⟩,rfl⟩
  · have hn:=ho.num hk
    simp only [FEnc,hk,Int.reduceBEq,cond_true,cond_false,ae_ (Itoa_ev (x:=j.n_) (by omega) (by omega)),al_]
  · have hs:=ho.text hk
    simp only [FEnc,hk,Int.reduceBEq,cond_true,cond_false,ae_ (gf_ (s:=j.s) (by omega)),al_]
  all_goals (
   simp only [FEnc,hk,Int.reduceBEq,cond_true,cond_false,ae_ hJ]
   unfold c5_ at hjl ⊢
   generalize Lib.join ((List.range j.list.length).map (cV_ (FEnc d) j)) [44]=o at hjl ⊢
   simp only [aH_,al_,cT_]
   refine ⟨fun _=>⟨fun _=>trivial,fun hc => ?_⟩,fun hc => ?_⟩
   · have hc:=of_decide_eq_false hc
     simp only [List.length_append,List.length_cons,List.length_nil] at hc;omega
   · have hc:=of_decide_eq_false hc
     simp only [List.length_append,List.length_cons,List.length_nil] at hc;omega)
def bC_ (j:aa_):Bs:=cond (cO_ j) (cond (decide (((FEnc 6 j).length:Int) > 6000)) [] (FEnc 6 j)) []
theorem df_ {j:aa_} (h:fg_ 6 j):Ev (fun n _=>b0_ n j) (bC_ j):=by
 refine aV_ ?_
 simp only [b0_,by_,ae_ (de_ h),aH_,al_,bC_]
 cases hj:cO_ j with
 |false=>simp
 |true=>
  simp only [ae_ (fd_ 6 j (of_decide_eq_true hj)),aH_,al_]
  cases decide (((FEnc 6 j).length:Int) > 6000)<;>simp
theorem c4_ {j:aa_} (h:fg_ 6 j):Ev (fun n _=>b2_ n j) (bC_ j):=by
 refine aV_ ?_
 simp only [b2_,by_,ae_ (dh_ h),aH_,al_,bC_]
 cases hj:cO_ j with
 |false=>simp
 |true=>
  simp only [ae_ (fy_ 6 j (of_decide_eq_true hj)),aH_,al_]
  cases decide (((FEnc 6 j).length:Int) > 6000)<;>simp
end Go.Pi
end
section
namespace Go.Pi
def nM_:Nat→aa_→Prop
 |0,_=>False
 |d+1,j=>∀ x ∈ j.list,nM_ d x
theorem f5_:∀ (d:Nat) (j:aa_),bD_ d j≤400→nM_ d j
 |0,j,h=>by simp only [bD_] at h;omega
 |d+1,j,h=>fun x hx=>by
  refine f5_ d x ?_
  simp only [bD_] at h
  have:=he_ (bD_ d) hx
  cases ho:FOwn j with
  |false=>rw [ho] at h;simp only [cond_false] at h;omega
  |true=>rw [ho] at h;simp only [cond_true] at h;omega
def gx_ (a b:List Bs):Bool:=decide (a.length=b.length)&&l7_ (fun i=>a.getD i [] == b.getD i []) a.length
def eb_:Nat→aa_→aa_→Bool
 |0,_,_=>true
 |d+1,a,b=>(a.kind == b.kind)&&((a.n_ == b.n_)&&((a.s == b.s)&&(gx_ a.names b.names&&(decide (a.list.length=b.list.length)&&l7_ (fun i=>eb_ d (a.list.getD i aa_.dflt) (b.list.getD i aa_.dflt)) a.list.length))))
theorem ne_len {n m:Nat}:((n:Int) != (m:Int)) = !decide (n=m):=by
 by_cases h:n=m
 · rw [h,decide_eq_true rfl];simp
 · rw [decide_eq_false h];simp;omega
theorem eD_:∀ (d:Nat) (a b:aa_),nM_ d a→fg_ d a→Ev (fun n _=>ah_ n a b) (eb_ d a b)
 |0,a,b,h,_=>h.elim
 |d+1,a,b,h,hl=>by
  refine aV_ ?_
  simp only [ah_,ne_len,aH_,al_,eb_,gx_]
  by_cases hq:a.list.length=b.list.length
  · by_cases hq2:a.names.length=b.names.length
    · have hN:Ev (fun n _=>ah_.loop14 n (ah_ n) (some true) n 0 a.kind a.n_ a.s a.list a.names b.kind b.n_ b.s b.list b.names) (l7_ (fun i=>a.names.getD i [] == b.names.getD i []) a.names.length):=by
       refine h0_ (gh_ (fun n N i=>ah_.loop14 n (ah_ n) (some true) N (i:Int) a.kind a.n_ a.s a.list a.names b.kind b.n_ b.s b.list b.names) (fun i=>a.names.getD i [] == b.names.getD i []) (len:=a.names.length) (v:=true) (fun i w hi ih => ?_) ?_) (by rw [Bool.and_true])
       · simp only [ah_.turn14,ah_.step14,Int.toNat_natCast,W_up hi hl.1.2.1,aH_,bQ_,al_,dN_ ih,cS_ hi,cG_ hi,cG_ (hq2 ▸ hi)]
         cases (a.names.getD i [] == b.names.getD i [])<;>simp
       · simp only [ah_.turn14,ah_.step14,cQ_,cond_false,al_]
      have hL:Ev (fun n _=>ah_.loop6 n (ah_ n) (fun xy2 xy3 xy4 xy5 xy6 xy7 xy8 xy9 xy10 xy11=>(ah_.loop14 n (ah_ n) (some true) n 0 xy2 xy3 xy4 xy5 xy6 xy7 xy8 xy9 xy10 xy11)) n 0 a.kind a.n_ a.s a.list a.names b.kind b.n_ b.s b.list b.names) (l7_ (fun i=>eb_ d (a.list.getD i aa_.dflt) (b.list.getD i aa_.dflt)) a.list.length&&l7_ (fun i=>a.names.getD i [] == b.names.getD i []) a.names.length):=by
       refine gh_ (fun n N i=>ah_.loop6 n (ah_ n) (fun xy2 xy3 xy4 xy5 xy6 xy7 xy8 xy9 xy10 xy11=>(ah_.loop14 n (ah_ n) (some true) n 0 xy2 xy3 xy4 xy5 xy6 xy7 xy8 xy9 xy10 xy11)) N (i:Int) a.kind a.n_ a.s a.list a.names b.kind b.n_ b.s b.list b.names) _ (fun i w hi ih => ?_) ?_
       · have hx:=eD_ d (a.list.getD i aa_.dflt) (b.list.getD i aa_.dflt) (h _ (cC_ _ hi)) (hl.2.2 _ (cC_ _ hi))
         simp only [ah_.turn6,ah_.step6,by_,Int.toNat_natCast,W_up hi hl.2.1,aH_,bQ_,ae_ hx,al_,dN_ ih,cS_ hi,cG_ hi,cG_ (hq ▸ hi)]
         cases eb_ d (a.list.getD i aa_.dflt) (b.list.getD i aa_.dflt)<;>simp
       · simp only [ah_.turn6,ah_.step6,cQ_,cond_false]
         exact hN
      rw [decide_eq_true hq,decide_eq_true hq2]
      simp only [dN_ hL,bne]
      generalize l7_ (fun i=>eb_ d (a.list.getD i aa_.dflt) (b.list.getD i aa_.dflt)) a.list.length=u
      generalize l7_ (fun i=>a.names.getD i [] == b.names.getD i []) a.names.length=w
      cases (a.kind == b.kind)<;>cases (a.n_ == b.n_)<;>cases (a.s == b.s)<;>cases u<;>cases w<;>simp
    · rw [decide_eq_false hq2]
      simp only [bne]
      cases (a.kind == b.kind)<;>cases (a.n_ == b.n_)<;>cases (a.s == b.s)<;>cases decide (a.list.length=b.list.length)<;>simp
  · rw [decide_eq_false hq]
    simp only [bne]
    cases (a.kind == b.kind)<;>cases (a.n_ == b.n_)<;>cases (a.s == b.s)<;>simp
end Go.Pi
end
section
namespace Go.Pi
def jU_ (ns:List Bs) (x:Bs):Nat:=ns.findIdx (fun y => !Op.bytesLess y x)
def jT_ (ns:List Bs) (x:Bs):Nat:=if ns.getD (jU_ ns x) []=x∧jU_ ns x<ns.length then jU_ ns x+1 else jU_ ns x
def putL {α:Type} (ns:List Bs) (x:Bs) (l:List α) (y:α):List α:=l.take (jU_ ns x)++[y]++l.drop (jT_ ns x)
theorem fS_ {α:Type} (d:α) {a m:List α} {i q:Nat} (p:Nat) (hi:i<a.length) (h:q≤i):a.take p++m++(a.take (i+1)).drop q=a.take p++m++(a.take i).drop q++[a.getD i d]:=by
 rw [cJ_ d hi,List.drop_append_of_le_length (by simp;omega)]
 simp
theorem put_idx {ns:List Bs} {x:Bs} {i:Nat} (hi:i<ns.length) (hle:i≤jU_ ns x):(!Op.bytesLess (ns.getD i []) x)=decide (i=jU_ ns x):=by
 rw [List.getD_eq_getElem?_getD,List.getElem?_eq_getElem hi,Option.getD_some]
 unfold jU_ at hle ⊢
 by_cases h:i=ns.findIdx (fun y => !Op.bytesLess y x)
 · rw [decide_eq_true h]
   have:=List.findIdx_getElem (xs:=ns) (p:=fun y => !Op.bytesLess y x) (w:=by omega)
   simp only [←h] at this
   exact this
 · rw [decide_eq_false h]
   exact List.not_of_lt_findIdx (xs:=ns) (p:=fun y => !Op.bytesLess y x) (i:=i) (by omega)
theorem jQ_ {o j:aa_} {x:Bs} (hk:o.names.length≤2000000) (he:o.list.length=o.names.length) (hlt:∀ y,Op.bytesLess y x=true→(y == x)=false) (hne:∀ i,jT_ o.names x≤i→i<o.names.length→(o.names.getD i [] == x)=false) :
  Ev (fun n _=>bk_ n o x j) (aa_.mk 5 0 [] (putL o.names x o.list j) (putL o.names x o.names x)):=by
 refine aV_ ?_
 have ht:o.names.length≤cz_:=by simp only [cz_];omega
 obtain ⟨p,hp⟩:∃ p,p=jU_ o.names x:=⟨_,rfl⟩
 have hpl:p≤o.names.length:=by rw [hp];exact List.findIdx_le_length
 obtain ⟨q,hq⟩:∃ q,q=jT_ o.names x:=⟨_,rfl⟩
 have hqp:p≤q∧q≤p+1:=by rw [hq,hp];unfold jT_;split<;>omega
 have hT:o.list.take o.names.length=o.list:=List.take_of_length_le (by omega)
 let S:Nat→Bool × List aa_ × List Bs:=fun i=>if i≤p then (false,o.list.take i,o.names.take i) else (true,o.list.take p++[j]++(o.list.take i).drop q,o.names.take p++[x]++(o.names.take i).drop q)
 have hS0:S 0=(false,[],[]):=by simp [S]
 simp only [bk_]
 have:=ex_ S o.names.length (fun n N i (s:Bool × List aa_ × List Bs)=>bk_.loop5 n (fun xy1 xy2 xy3 xy4 xy5 xy6 xy7 xy8 xy9 xy10 xy11 xy12 xy13 xy14 xy15=>(cond (!xy2) (co_ (xy15.length+([xy1]:List Bs).length) 16 (co_ (xy14.length+([(aa_.mk xy3 xy4 xy5 xy6 xy7)]:List aa_).length) 80 (some (aa_.mk xy11 xy12 xy13 (xy14++([(aa_.mk xy3 xy4 xy5 xy6 xy7)]:List aa_)) (xy15++([xy1]:List Bs)))))) (some (aa_.mk xy11 xy12 xy13 xy14 xy15)))) N x s.1 (i:Int) o.kind o.n_ o.s o.list o.names j.kind j.n_ j.s j.list j.names 0 0 [] 5 0 [] s.2.1 s.2.2)
  (aa_.mk 5 0 [] (putL o.names x o.list j) (putL o.names x o.names x)) (fun i hi F hF => ?_) ?_
 · rw [hS0] at this;exact this
 · have hx:=put_idx (ns:=o.names) (x:=x) hi
   rw [←hp] at hx
   have hln:(S i).2.2.length≤o.names.length+1:=by simp only [S];split<;>simp<;>omega
   have hll:(S i).2.1.length≤o.names.length+1:=by simp only [S];split<;>simp<;>omega
   have hil:i<o.list.length:=by omega
   simp only [bk_.turn5,bk_.step5,dv_,by_,Int.toNat_natCast,W_up hi ht,aH_,bQ_,ce_,cS_ hi,cG_ hi,cG_ hil]
   by_cases hle:i≤p
   · have s1:S i=(false,o.list.take i,o.names.take i):=by simp only [S,if_pos hle]
     rw [s1] at hln hll ⊢
     by_cases e:i=p
     · have hb:(!Op.bytesLess (o.names.getD i []) x)=true:=by rw [hx hle];exact decide_eq_true e
       subst e
       by_cases hs:o.names.getD i []=x
       · have hqv:q=i+1:=by rw [hq];unfold jT_;rw [←hp,if_pos ⟨hs,hi⟩]
         have s2:S (i+1)=(true,o.list.take i++[j],o.names.take i++[x]):=by
          simp only [S,if_neg (show ¬ i+1≤i by omega)]
          rw [List.drop_eq_nil_of_le (by simp;omega),List.drop_eq_nil_of_le (by simp;omega),List.append_nil,List.append_nil]
         rw [s2] at hF
         have hs':(o.names.getD i [] == x)=true:=by simpa using hs
         simp only [hb,hs',cond_true,cond_false,Bool.not_true,Bool.not_false]
         repeat' (first|apply And.intro|intro _)
         all_goals (first|contradiction|exact hF|trivial|(simp;omega))
       · have hqv:q=i:=by rw [hq];unfold jT_;rw [←hp,if_neg (fun h=>hs h.1)]
         have s2:S (i+1)=(true,o.list.take i++[j]++[o.list.getD i aa_.dflt],o.names.take i++[x]++[o.names.getD i []]):=by
          simp only [S,if_neg (show ¬ i+1≤i by omega),hqv]
          rw [fS_ aa_.dflt i hil (Nat.le_refl _),fS_ [] i hi (Nat.le_refl _),List.drop_eq_nil_of_le (by simp;omega),List.drop_eq_nil_of_le (by simp;omega),List.append_nil,List.append_nil]
         rw [s2] at hF
         have hs':(o.names.getD i [] == x)=false:=by simpa using hs
         simp only [hb,hs',cond_true,cond_false,Bool.not_true,Bool.not_false]
         repeat' (first|apply And.intro|intro _)
         all_goals (first|contradiction|exact hF|trivial|(simp;omega))
     · have hb:(!Op.bytesLess (o.names.getD i []) x)=false:=by rw [hx hle];exact decide_eq_false e
       have hs':(o.names.getD i [] == x)=false:=hlt (o.names.getD i []) (by rw [Bool.not_eq_false'] at hb;exact hb)
       have s2:S (i+1)=(false,o.list.take i++[o.list.getD i aa_.dflt],o.names.take i++[o.names.getD i []]):=by
        simp only [S,if_pos (show i+1≤p by omega),cJ_ aa_.dflt hil,cJ_ [] hi]
       rw [s2] at hF
       simp only [hb,hs',cond_true,cond_false,Bool.not_true,Bool.not_false]
       repeat' (first|apply And.intro|intro _)
       all_goals (first|contradiction|exact hF|trivial|(simp;omega))
   · have s1:S i=(true,o.list.take p++[j]++(o.list.take i).drop q,o.names.take p++[x]++(o.names.take i).drop q):=by simp only [S,if_neg hle]
     have s2:S (i+1)=(true,o.list.take p++[j]++(o.list.take i).drop q++[o.list.getD i aa_.dflt],o.names.take p++[x]++(o.names.take i).drop q++[o.names.getD i []]):=by
      simp only [S,if_neg (show ¬ i+1≤p by omega)]
      rw [fS_ aa_.dflt p hil (by omega),fS_ [] p hi (by omega)]
     have hs':=hne i (by omega) hi
     rw [s1] at hln hll ⊢
     rw [s2] at hF
     simp only [hs',cond_true,cond_false,Bool.not_true,Bool.not_false]
     repeat' (first|apply And.intro|intro _)
     all_goals (first|contradiction|exact hF|trivial|(simp at hln hll ⊢;omega))
 · simp only [bk_.turn5,bk_.step5,dv_,cQ_,cond_false,aH_,ce_,al_]
   unfold putL
   rw [←hp,←hq]
   by_cases hle:o.names.length≤p
   · have e:p=o.names.length:=by omega
     have hqv:q=p:=by rw [hq];unfold jT_;rw [←hp,if_neg (fun h=>by omega)]
     have s1:S o.names.length=(false,o.list,o.names):=by simp only [S,if_pos hle,List.take_length];rw [List.take_of_length_le (by omega)]
     rw [s1,hqv,e,List.take_of_length_le (l:=o.list) (by omega),List.drop_eq_nil_of_le (show o.list.length≤o.names.length by omega),List.take_length,List.drop_length]
     refine ⟨fun _=>⟨by simp;omega,by simp;omega,by simp⟩,fun h=>(by cases h)⟩
   · have s1:S o.names.length=(true,o.list.take p++[j]++o.list.drop q,o.names.take p++[x]++o.names.drop q):=by simp only [S,if_neg hle,List.take_length];rw [hT]
     rw [s1]
     exact ⟨fun h=>(by cases h),fun _=>rfl⟩
end Go.Pi
end
section
namespace Go.Pi
theorem bytesLt:∀ (x y:Bs),Op.bytesLess x y=decide (x<y)
 |[],[]=>by simp [Op.bytesLess]
 |_::_,[]=>by simp [Op.bytesLess]
 |[],_::_=>by simp [Op.bytesLess]
 |a::x,b::y=>by
  rw [Op.bytesLess,bytesLt x y]
  simp only [List.cons_lt_cons_iff]
  by_cases h1:a<b<;>by_cases h2:a=b<;>by_cases h3:x<y<;>simp [h1,h2,h3]
theorem less_ne {x y:Bs} (h:Op.bytesLess y x=true):(y == x)=false:=by
 rw [bytesLt] at h
 exact beq_eq_false_iff_ne.2 fun e=>by subst e;exact List.lt_irrefl y (of_decide_eq_true h)
end Go.Pi
end
section
namespace Go.Pi
def fl_:aa_:=aa_.mk 0 0 [] [] []
def iT_ (j:aa_):aa_:=cond (cO_ j) j fl_
theorem orNull_ev {j:aa_} (h:fg_ 6 j):Ev (fun n _=>cg_ n j) (iT_ j):=by
 refine aV_ ?_
 simp only [cg_,by_,ae_ (dh_ h),aH_,al_,iT_,fl_]
 cases cO_ j<;>simp
end Go.Pi
end
section
namespace Go.Pi
theorem d2_ {d:Nat} {j:aa_} (h:bD_ (d+1) j≤400):j.names.length≤400:=by
 have h1:=dt_ h
 have ho:=(c0_ h).1
 by_cases hk:j.kind=5
 · have:=(ho.obj hk).1;omega
 · have:FOwn j=true:=by
    simp only [bD_] at h
    cases hf:FOwn j with
    |true=>rfl
    |false=>rw [hf,cond_false] at h;omega
   unfold FOwn at this
   simp only [Bool.and_eq_true,Bool.or_eq_true] at this
   rcases this.2.1 with h2|h2
   · have:=of_decide_eq_true h2;omega
   · exact absurd (by simpa using h2) hk
theorem d7_:∀ (d:Nat) (j:aa_),bD_ d j≤400→Ev (fun n _=>aM_ n j) j
 |0,j,h=>by simp only [bD_] at h;omega
 |d+1,j,h=>by
  have hll:=dt_ h
  have hnl:=d2_ h
  refine aV_ ?_
  have hc:Ev (fun n _=>bI_ n j.names) j.names:=aV_ (by simp only [bI_,ce_,al_,List.nil_append,List.length_nil,and_true];omega)
  simp only [aM_,ae_ hc]
  have:=ex_ (fun i=>j.list.take i) j.list.length (fun n N i (o:List aa_)=>aM_.loop4 n (aM_ n) (fun xy3 xy4 xy5 xy6 xy7 xy8 xy9 xy10=>(some (aa_.mk xy6 xy7 xy8 xy9 xy10))) N j.list (j.list.length:Int) (i:Int) 0 0 [] j.kind j.n_ j.s o j.names) j (fun i hi F hF => ?_) ?_
  · exact this
  · have hp:=dQ_ h hi
    have hx:=d7_ d (j.list.getD i aa_.dflt) hp.size
    rw [cJ_ aa_.dflt hi] at hF
    simp only [aM_.turn4,aM_.step4,by_,Int.toNat_natCast,W_up hi (show j.list.length≤cz_ by simp only [cz_];omega),aH_,bQ_,ce_,cS_ hi,cG_ hi,ae_ hx]
    exact ⟨fun _=>⟨trivial,by simp;omega,hF⟩,fun h=>(by cases h)⟩
  · simp only [aM_.turn4,aM_.step4,cQ_,cond_false,List.take_length,al_,dv_]
theorem eE_:∀ (d:Nat) (j:aa_),bD_ d j≤400→Ev (fun n _=>a9_ n j) j
 |0,j,h=>by simp only [bD_] at h;omega
 |d+1,j,h=>by
  have hll:=dt_ h
  have hnl:=d2_ h
  refine aV_ ?_
  simp only [a9_,ce_,List.nil_append,List.length_nil]
  refine ⟨by omega,?_⟩
  have:=ex_ (fun i=>j.list.take i) j.list.length (fun n N i (o:List aa_)=>a9_.loop4 n (a9_ n) (fun xy2 xy3 xy4 xy5 xy6 xy7 xy8 xy9=>(some (aa_.mk xy5 xy6 xy7 xy8 xy9))) N (i:Int) j.kind j.n_ j.s j.list j.names 0 0 [] j.kind j.n_ j.s o j.names) j (fun i hi F hF => ?_) ?_
  · exact this
  · have hp:=dQ_ h hi
    have hx:=eE_ d (j.list.getD i aa_.dflt) hp.size
    rw [cJ_ aa_.dflt hi] at hF
    simp only [a9_.turn4,a9_.step4,by_,Int.toNat_natCast,W_up hi (show j.list.length≤cz_ by simp only [cz_];omega),aH_,bQ_,ce_,cS_ hi,cG_ hi,ae_ hx]
    exact ⟨fun _=>⟨trivial,by simp;omega,hF⟩,fun h=>(by cases h)⟩
  · simp only [a9_.turn4,a9_.step4,cQ_,cond_false,List.take_length,al_,dv_]
def g8_ (j:aa_):Bool:=(j.kind == 0)&&((j.n_ == 0)&&((j.s == [])&&(decide (j.list.length=0)&&decide (j.names.length=0))))
theorem j5_ {α:Type} (l:List α):((l.length:Int) == 0)=decide (l.length=0):=by
 by_cases h:l.length=0
 · rw [h];rfl
 · rw [decide_eq_false h];simp;intro e;exact h (by rw [e];rfl)
theorem gg_ {j:aa_}:Ev (fun n _=>ca_ n j) (g8_ j):=by
 refine aV_ ?_
 simp only [ca_,aH_,al_,g8_,j5_]
 cases (j.kind == 0)<;>cases (j.n_ == 0)<;>cases (j.s == [])<;>cases decide (j.list.length=0)<;>simp
theorem nQ_ (d:Nat) (j:aa_):eb_ (d+1) j fl_=g8_ j:=by
 simp only [eb_,fl_,gx_,g8_,List.length_nil]
 by_cases h1:j.names.length=0
 · by_cases h2:j.list.length=0
   · rw [h1,h2];simp [l7_,fM_]
   · have h2:j.list≠[]:=fun e=>h2 (by rw [e];rfl)
     simp [h2]
 · have h1:j.names≠[]:=fun e=>h1 (by rw [e];rfl)
   simp [h1]
def ne_ (w:List Bs):Bool:=l7_ (fun i=>gy_ (w.getD i [])) w.length
def ga_ (o:TOp):Bool:=inn o.kind 1 4&&(decide (o.way.length≤6)&&(cO_ o.value&&(ne_ o.way&&((o.kind != 2)||g8_ o.value))))
def d3_ (o:TOp):Prop:=lenNs cz_ o.way∧fg_ 6 o.value
theorem gd_ (o:TOp):TOp.mk o.kind o.way o.value=o:=rfl
theorem gt_le {n:Nat}:decide ((n:Int) > 6) = !decide (n≤6):=by
 by_cases h:n≤6
 · rw [decide_eq_true h,decide_eq_false (by omega)];rfl
 · rw [decide_eq_false h,decide_eq_true (by omega)];rfl
theorem le_le {n:Nat}:decide ((n:Int)≤6)=decide (n≤6):=by
 by_cases h:n≤6
 · rw [decide_eq_true h,decide_eq_true (by omega)]
 · rw [decide_eq_false h,decide_eq_false (by omega)]
theorem kF_ {o:TOp} (h:d3_ o):Ev (fun n _=>bt_ n o) (ga_ o):=by
 refine aV_ ?_
 simp only [bt_,by_,l1In_b,ae_ (de_ h.2),aH_,al_,gt_le,ga_]
 cases hj:cO_ o.value with
 |false=>cases inn o.kind 1 4<;>cases decide (o.way.length≤6)<;>simp
 |true=>
  have hS:=eD_ 6 o.value fl_ (f5_ 6 o.value (of_decide_eq_true hj)) h.2
  rw [nQ_] at hS
  unfold fl_ at hS
  have hl:Ev (fun n _=>bt_.loop6 n (fun xy4 xy5 xy6 xy7 xy8 xy9 xy10=>(cond (xy4 != 2) (some true) ((ah_ n (aa_.mk xy6 xy7 xy8 xy9 xy10) (aa_.mk 0 0 [] [] [])).bind fun xr11=>(some xr11)))) n 0 o.kind o.way o.value.kind o.value.n_ o.value.s o.value.list o.value.names) (ne_ o.way&&((o.kind != 2)||g8_ o.value)):=by
   refine gh_ (fun n N i=>bt_.loop6 n (fun xy4 xy5 xy6 xy7 xy8 xy9 xy10=>(cond (xy4 != 2) (some true) ((ah_ n (aa_.mk xy6 xy7 xy8 xy9 xy10) (aa_.mk 0 0 [] [] [])).bind fun xr11=>(some xr11)))) N (i:Int) o.kind o.way o.value.kind o.value.n_ o.value.s o.value.list o.value.names) _ (fun i w hi ih => ?_) ?_
   · simp only [bt_.turn6,bt_.step6,Int.toNat_natCast,W_up hi h.1.1,aH_,bQ_,ae_ (eC_ (gY_ h.1 i)),al_,dN_ ih,cS_ hi,cG_ hi]
     cases gy_ (o.way.getD i [])<;>simp
   · simp only [bt_.turn6,bt_.step6,cQ_,cond_false,dv_,aH_,ae_ hS,al_]
     cases (o.kind != 2)<;>simp
  simp only [dN_ hl]
  cases inn o.kind 1 4<;>cases decide (o.way.length≤6)<;>simp
theorem fC_ {o:TOp} (h:d3_ o):Ev (fun n _=>bu_ n o) (ga_ o):=by
 refine aV_ ?_
 simp only [bu_]
 have e:ga_ o=(ne_ o.way&&(inn o.kind 1 4&&(decide (o.way.length≤6)&&(cO_ o.value&&((o.kind != 2)||g8_ o.value))))):=by
  unfold ga_
  cases inn o.kind 1 4<;>cases decide (o.way.length≤6)<;>cases cO_ o.value<;>cases ne_ o.way<;>simp
 rw [e]
 refine gh_ (fun n N i=>bu_.loop3 n (fun xy2 xy3 xy4 xy5 xy6 xy7 xy8=>((aS_ n xy2 1 4).bind fun xr9=>(cond xr9 (cond (decide ((xy3.length:Int)≤6)) ((bW_ n (aa_.mk xy4 xy5 xy6 xy7 xy8)).bind fun xr10=>(cond xr10 (cond (xy2 != 2) (some true) ((ca_ n (aa_.mk xy4 xy5 xy6 xy7 xy8)).bind fun xr11=>(some xr11))) (some false))) (some false)) (some false)))) N o.way (o.way.length:Int) (i:Int) o.kind o.way o.value.kind o.value.n_ o.value.s o.value.list o.value.names) _ (fun i w hi ih => ?_) ?_
 · simp only [bu_.turn3,bu_.step3,Int.toNat_natCast,W_up hi h.1.1,aH_,bQ_,ae_ (eI_ (gY_ h.1 i)),al_,dN_ ih,cS_ hi,cG_ hi]
   cases gy_ (o.way.getD i [])<;>simp
 · simp only [bu_.turn3,bu_.step3,cQ_,cond_false,dv_,aH_,ev_,le_le,ae_ (dh_ h.2),ae_ gg_,al_]
   cases inn o.kind 1 4<;>cases decide (o.way.length≤6)<;>cases cO_ o.value<;>cases (o.kind != 2)<;>simp
def d9_ (k:Int):Bs:=cond (k == 1) [97,100,100] (cond (k == 2) [114,101,109,111,118,101] (cond (k == 3) [114,101,112,108,97,99,101] [116,101,115,116]))
def ng_ (s:Bs):aa_:=aa_.mk 3 0 s [] []
abbrev nW_:Bs:=[111,112]
abbrev d1_:Bs:=[112,97,116,104]
abbrev e0_:Bs:=[118,97,108,117,101]
def dd_ (o:TOp):aa_:=cond (o.kind == 2) (aa_.mk 5 0 [] [ng_ (d9_ o.kind),ng_ (FWay o.way)] [nW_,d1_]) (aa_.mk 5 0 [] [ng_ (d9_ o.kind),ng_ (FWay o.way),o.value] [nW_,d1_,e0_])
def cx_ (o:TOp):aa_:=cond (ga_ o) (iT_ (dd_ o)) fl_
theorem lK_:∀ (d:Nat) (j:aa_),fg_ (d+1) j→fg_ d j
 |0,_,_=>trivial
 |d+1,j,h=>⟨h.1,h.2.1,fun x hx=>lK_ d x (h.2.2 x hx)⟩
theorem hX_ {s:Bs} (h:s.length≤cz_):∀ d,fg_ d (ng_ s)
 |0=>trivial
 |d+1=>⟨⟨h,Nat.zero_le _,fun x hx=>(by cases hx)⟩,Nat.zero_le _,fun x hx=>(by cases hx)⟩
theorem ek_:∀ d,fg_ d fl_
 |0=>trivial
 |d+1=>⟨⟨Nat.zero_le _,Nat.zero_le _,fun x hx=>(by cases hx)⟩,Nat.zero_le _,fun x hx=>(by cases hx)⟩
structure OpIs (o:TOp):Prop where
 kind:o.kind=1∨o.kind=2∨o.kind=3∨o.kind=4
 way:o.way.length≤6
 text:∀ s ∈ o.way,s.length≤60
 val:bD_ 6 o.value≤400
theorem lH_ {o:TOp} (h:ga_ o=true):OpIs o:=by
 unfold ga_ at h
 simp only [Bool.and_eq_true] at h
 obtain ⟨h1,h2,h3,h4,_⟩:=h
 have hk:=fU_ h1
 refine ⟨by omega,of_decide_eq_true h2,fun s hs => ?_,of_decide_eq_true h3⟩
 obtain ⟨i,hi,e⟩:=List.mem_iff_getElem.1 hs
 have:=f4_.1 h4 i hi
 rw [List.getD_eq_getElem?_getD,List.getElem?_eq_getElem hi,Option.getD_some,e] at this
 exact fP_ this
theorem name_len (k:Int):(d9_ k).length≤60:=by
 unfold d9_
 cases (k == 1)<;>cases (k == 2)<;>cases (k == 3)<;>simp
theorem hm_ {o:TOp} (h:d3_ o) (ho:OpIs o):fg_ 6 (dd_ o):=by
 have hw:=kq_ ho.text
 have hwl:=ho.way
 have hw2:(FWay o.way).length≤cz_:=by simp only [cz_];omega
 have hn:(d9_ o.kind).length≤cz_:=by have:=name_len o.kind;simp only [cz_];omega
 have hv:=lK_ 5 _ h.2
 unfold dd_
 cases (o.kind == 2) with
 |true=>
  refine ⟨⟨Nat.zero_le _,by show 2≤cz_;decide,fun x hx => ?_⟩,by show 2≤cz_;decide,fun x hx => ?_⟩
  · simp at hx;rcases hx with e|e<;>(rw [e];decide)
  · simp at hx;rcases hx with e|e
    · rw [e];exact hX_ hn 5
    · rw [e];exact hX_ hw2 5
 |false=>
  refine ⟨⟨Nat.zero_le _,by show 3≤cz_;decide,fun x hx => ?_⟩,by show 3≤cz_;decide,fun x hx => ?_⟩
  · simp at hx;rcases hx with e|e|e<;>(rw [e];decide)
  · simp at hx;rcases hx with e|e|e
    · rw [e];exact hX_ hn 5
    · rw [e];exact hX_ hw2 5
    · rw [e];exact hv
theorem gq_ {o:TOp} (h:d3_ o):fg_ 6 (cx_ o):=by
 unfold cx_
 cases ho:ga_ o with
 |false=>exact ek_ 6
 |true=>
  unfold iT_
  cases cO_ (dd_ o) with
  |false=>exact ek_ 6
  |true=>exact hm_ h (lH_ ho)
theorem put_value (a b v:aa_):Ev (fun n _=>bk_ n (aa_.mk 5 0 [] [a,b] [nW_,d1_]) e0_ v) (aa_.mk 5 0 [] [a,b,v] [nW_,d1_,e0_]) :=
 jQ_ (o:=aa_.mk 5 0 [] [a,b] [nW_,d1_]) (j:=v) (x:=e0_) (by show 2≤2000000;decide) rfl (fun _=>less_ne) (fun i h1 h2=>by
  have:jT_ [nW_,d1_] e0_=2:=by decide
  have h2:i<2:=h2
  have h1:jT_ [nW_,d1_] e0_≤i:=h1
  omega)
theorem dW_ {o:TOp} (h:d3_ o):Ev (fun n _=>cf_ n o) (cx_ o):=by
 refine aV_ ?_
 have hN:Ev (fun n _=>bS_ n ()) [[],[97,100,100],[114,101,109,111,118,101],[114,101,112,108,97,99,101],[116,101,115,116]]:=aV_ (by simp only [bS_,al_])
 simp only [cf_,by_,gd_,ae_ (kF_ h),aH_,al_]
 unfold cx_
 cases ho:ga_ o with
 |false=>exact ⟨fun _=>rfl,fun h=>(by cases h)⟩
 |true=>
  refine ⟨fun h=>(by cases h),fun _ => ?_⟩
  have hi:=lH_ ho
  have hV:=de_ (hm_ h hi)
  have hCp:=eE_ 6 o.value hi.val
  simp only [ae_ hN,bQ_,ae_ (ia_ hi.way hi.text)]
  unfold iT_ fl_ dd_ ng_ d9_
  unfold dd_ ng_ d9_ at hV
  rcases hi.kind with hk|hk|hk|hk
  all_goals (
   simp only [hk,Int.reduceBEq,cond_true,cond_false] at hV
   simp only [hk,Int.reduceBEq,cond_true,cond_false,bne,Bool.not_false,Bool.not_true,Int.reduceToNat,List.getD_cons_succ,List.getD_cons_zero,aH_,ae_ hCp,ae_ (put_value _ _ _),ae_ hV,al_]
   refine ⟨⟨by decide,by decide⟩,?_⟩
   generalize cO_ _=q
   cases q<;>simp)
theorem dY_ {o:TOp} (h:d3_ o):Ev (fun n _=>ci_ n o) (cx_ o):=by
 refine aV_ ?_
 have hN:Ev (fun n _=>bT_ n ()) [[97,100,100],[114,101,109,111,118,101],[114,101,112,108,97,99,101],[116,101,115,116]]:=aV_ (by simp only [bT_,al_])
 simp only [ci_,by_,gd_,ae_ (fC_ h),aH_,al_]
 unfold cx_
 cases ho:ga_ o with
 |false=>exact ⟨fun _=>rfl,fun h=>(by cases h)⟩
 |true=>
  refine ⟨fun h=>(by cases h),fun _ => ?_⟩
  have hi:=lH_ ho
  have hV:=orNull_ev (hm_ h hi)
  have hCp:=d7_ 6 o.value hi.val
  simp only [ae_ hN,bQ_,ae_ (fA_ hi.way hi.text)]
  simp only [cond_true]
  unfold dd_ ng_ d9_
  unfold dd_ ng_ d9_ at hV
  have w1:W ((1:Int) - 1)=0:=by rw [W_id (by decide) (by decide)];rfl
  have w2:W ((2:Int) - 1)=1:=by rw [W_id (by decide) (by decide)];rfl
  have w3:W ((3:Int) - 1)=2:=by rw [W_id (by decide) (by decide)];rfl
  have w4:W ((4:Int) - 1)=3:=by rw [W_id (by decide) (by decide)];rfl
  rcases hi.kind with hk|hk|hk|hk
  all_goals (
   simp only [hk,Int.reduceBEq,cond_true,cond_false] at hV
   simp only [hk,w1,w2,w3,w4,Int.reduceBEq,cond_true,cond_false,bne,Bool.not_false,Bool.not_true,Int.reduceToNat,List.getD_cons_succ,List.getD_cons_zero,List.cons_append,List.nil_append,aH_,ce_,ae_ hCp,ae_ hV,al_,true_implies,false_implies,reduceCtorEq,and_true,true_and]
   simp only [List.length_cons,List.length_nil]
   decide)
end Go.Pi
end
section
namespace Go.Pi
def pfx (p s:Bs):Bool:=p.isPrefixOf s
theorem kQ_ {a c:UInt8} (h:c≠a) (p t:Bs):pfx (a::p) (c::t)=false:=by
 have e:(a == c)=false:=beq_eq_false_iff_ne.2 fun e=>h e.symm
 show (a == c&&List.isPrefixOf p t)=false
 rw [e];rfl
theorem pfx_nil (a:UInt8) (p:Bs):pfx (a::p) []=false:=rfl
theorem gp_ (p t:Bs):pfx p (p++t)=true:=List.isPrefixOf_iff_prefix.2 (List.prefix_append p t)
theorem go_ {p t:Bs} (h:pfx p t=true):p.length≤t.length:=(List.isPrefixOf_iff_prefix.1 h).length_le
theorem hW_ (p s:Bs):pfx p s=((s.take p.length).drop 0 == p):=by
 rw [List.drop_zero]
 refine Bool.eq_iff_iff.2 ?_
 rw [beq_iff_eq]
 exact ⟨fun h=>(List.prefix_iff_eq_take.1 (List.isPrefixOf_iff_prefix.1 h)).symm,fun h=>List.isPrefixOf_iff_prefix.2 (List.prefix_iff_eq_take.2 h.symm)⟩
section
variable {β:Type} {g:Nat→Nat→Bool→Option β} {v:β}
theorem fO_ {s p:Bs}:Ev (fun n _=>ax_ n s p) (pfx p s):=by
 refine aV_ ?_
 simp only [ax_,aH_,dr_,al_,Int.toNat_natCast]
 refine ⟨fun h => ?_,fun h => ?_⟩
 · have h:=of_decide_eq_true h
   exact ⟨⟨by omega,by omega,by omega⟩,(hW_ p s).symm⟩
 · have h:=of_decide_eq_false h
   cases e:pfx p s with
   |false=>rfl
   |true=>have:=go_ e;omega
theorem eB_ {s p:Bs}:Ev (fun n _=>bp_ n s p) (cond (pfx p s) (s.drop p.length,true) (s,false)):=by
 have:Ev (fun n _=>aE_ n s p) (cond (pfx p s) (s.drop p.length,true) (s,false)):=by
  refine aV_ ?_
  simp only [aE_,ae_ fO_,aH_,dr_,al_,Int.toNat_natCast,List.take_length]
  cases e:pfx p s with
  |false=>exact ⟨fun _=>rfl,fun h=>(by cases h)⟩
  |true=>exact ⟨fun h=>(by cases h),fun _=>⟨⟨by omega,by have:=go_ e;omega,by omega⟩,rfl⟩⟩
 exact aV_ (by simp only [bp_,ae_ this,al_])
theorem fb_ {s p:Bs}:Ev (fun n _=>bl_ n s p) (cond (pfx p s) (s.drop p.length) s):=by
 have:Ev (fun n _=>aA_ n s p) (cond (pfx p s) (s.drop p.length) s):=by
  refine aV_ ?_
  simp only [aA_,ae_ fO_,aH_,dr_,al_,Int.toNat_natCast,List.take_length]
  cases e:pfx p s with
  |false=>exact ⟨fun h=>(by cases h),fun _=>rfl⟩
  |true=>exact ⟨fun _=>⟨⟨by omega,by have:=go_ e;omega,by omega⟩,rfl⟩,fun h=>(by cases h)⟩
 exact aV_ (by simp only [bl_,ae_ this,al_])
end
def ds_ (r:aQ_) (p:Bs):Bool × aQ_:=cond (pfx p r.text) (!r.bad,⟨r.text.drop p.length,r.bad⟩) (false,⟨r.text,r.bad⟩)
def iS_ (r:aQ_) (p:Bs):aQ_:=cond (pfx p r.text) ⟨r.text.drop p.length,r.bad⟩ ⟨r.text,true⟩
theorem lx_ {r:aQ_} {p:Bs}:Ev (fun n _=>a5_ n r p) (ds_ r p):=by
 refine aV_ ?_
 simp only [a5_,ae_ eB_,aH_,al_,ds_]
 cases pfx p r.text<;>simp
theorem want_ev {r:aQ_} {p:Bs}:Ev (fun n _=>bi_ n r p) (iS_ r p):=by
 refine aV_ ?_
 simp only [bi_,ae_ lx_,aH_,al_,ds_,iS_]
 cases pfx p r.text<;>cases r.bad<;>simp
theorem eU_ (r:aQ_) (p:Bs):(ds_ r p).2.text.length≤r.text.length:=by
 unfold ds_
 cases pfx p r.text<;>simp
theorem take_less {r:aQ_} {p:Bs} (h:(ds_ r p).1=true):(ds_ r p).2.text.length+p.length≤r.text.length:=by
 unfold ds_ at h ⊢
 cases e:pfx p r.text with
 |false=>rw [e] at h;cases h
 |true=>have:=go_ e;simp;omega
theorem lu_ (r:aQ_) (p:Bs):(iS_ r p).text.length≤r.text.length:=by
 unfold iS_
 cases pfx p r.text<;>simp
section
variable {β:Type} {Q:β→Prop} {v:β}
theorem mk_ {r:aQ_} {p:Bs} {g:Nat→Nat→Bool × aQ_→Option β}:Ans (fun n N=>(a5_ n r p).bind (g n N)) Q↔Ans (fun n N=>g n N (ds_ r p)) Q:=bP_ lx_
theorem want_a {r:aQ_} {p:Bs} {g:Nat→Nat→aQ_→Option β}:Ans (fun n N=>(bi_ n r p).bind (g n N)) Q↔Ans (fun n N=>g n N (iS_ r p)) Q:=bP_ want_ev
theorem dM_ {r:aQ_} {p:Bs} {g:Nat→Nat→Bool × aQ_→Option β}:Ev (fun n N=>(a5_ n r p).bind (g n N)) v↔Ev (fun n N=>g n N (ds_ r p)) v:=ae_ lx_
theorem me_ {r:aQ_} {p:Bs} {g:Nat→Nat→aQ_→Option β}:Ev (fun n N=>(bi_ n r p).bind (g n N)) v↔Ev (fun n N=>g n N (iS_ r p)) v:=ae_ want_ev
end
theorem e4_ {s p:Bs}:Ev (fun n _=>bs_ n s p) (pfx p s):=aV_ (by simp only [bs_,ae_ fO_,al_])
theorem ec_ (p t:Bs):ds_ ⟨p++t,false⟩ p=(true,⟨t,false⟩):=by
 unfold ds_;rw [gp_,List.drop_left];rfl
theorem cB_ {a c:UInt8} (h:c≠a) (p t:Bs) (b:Bool):ds_ ⟨c::t,b⟩ (a::p)=(false,⟨c::t,b⟩):=by
 unfold ds_;rw [kQ_ h];rfl
theorem take_nil (a:UInt8) (p:Bs) (b:Bool):ds_ ⟨[],b⟩ (a::p)=(false,⟨[],b⟩):=rfl
theorem hU_ (p t:Bs):iS_ ⟨p++t,false⟩ p=⟨t,false⟩:=by
 unfold iS_;rw [gp_,List.drop_left];rfl
theorem jh_ {r:aQ_} (hr:r.text.length≤4194304):Ans (fun n _=>ai_ n r) fun x=>x.2.text.length≤r.text.length∧x.1.length≤r.text.length:=by
 refine cY_ ?_
 simp only [ai_,want_a]
 have hw:=lu_ r [34]
 generalize iS_ r [34]=q at hw ⊢
 refine eA_ (σ:=Bs × Bool × List Int) (fun n N s=>ai_.loop4 n (fun xy4 xy5=>(some ([],(aQ_.mk xy4 xy5)))) N s.1 s.2.1 s.2.2) (fun s=>s.1.length) (fun s=>s.1.length+s.2.2.length≤r.text.length) _ (fun s hI ih => ?_) (q.text,q.bad,[]) (by simp;omega)
 obtain ⟨t,b,o⟩:=s
 simp only at hI ih ⊢
 simp only [ai_.turn4,ai_.step4,mk_,cv_,cp_,hv_,eq_,nb_,Int.toNat_natCast,List.take_length]
 have h1:=eU_ ⟨t,b⟩ [34]
 have h2:=eU_ (ds_ ⟨t,b⟩ [34]).2 [92]
 simp only at h1
 generalize ds_ ⟨t,b⟩ [34]=x at h1 h2 ⊢
 generalize ds_ x.2 [92]=y at h2 ⊢
 refine ⟨fun _=>⟨fun _=>⟨by omega,by simp;omega⟩,fun _=>⟨fun _=>⟨by omega,by simp⟩,fun hc => ?_⟩⟩,fun _=>⟨by omega,by simp⟩⟩
 have hne:1≤y.2.text.length:=by
  cases he:y.2.text with
  |nil=>rw [he] at hc;cases hc
  |cons _ _=>simp
 refine ⟨by omega,by simp;omega,⟨by omega,by omega,by omega⟩,?_⟩
 exact ih (y.2.text.drop 1,y.2.bad,o++[((y.2.text.getD 0 0).toNat:Int)]) (by simp;omega) (by simp;omega)
theorem kl_ (o:Bs) (c:UInt8):bi o++[((c.toNat:Nat):Int)]=bi (o++[c]):=by simp [bi]
theorem hj_ {s r:Bs} (hl:(cN_ s++r).length≤1000000000000):Ev (fun n _=>ai_ n ⟨cN_ s++r,false⟩) (s,⟨r,false⟩):=by
 have hq:=eh_ s
 have hsl:s.length≤(cN_ s).length:=by
  have:∀ s:Bs,s.length≤(s.flatMap d0_).length:=by
   intro s
   induction s with
   |nil=>exact Nat.le_refl _
   |cons c s ih=>rw [List.flatMap_cons,List.length_append,List.length_cons];have:1≤(d0_ c).length:=by unfold d0_;split<;>simp
                 omega
  have:=this s
  simp only [cN_,List.cons_append,List.length_cons,List.length_append];omega
 simp only [List.length_append] at hl
 have e:cN_ s++r=[34]++(s.flatMap d0_++34::r):=by simp [cN_]
 refine aV_ ?_
 simp only [ai_,me_,e,hU_]
 have:=ex_ (fun i=>((s.drop i).flatMap d0_++34::r,bi (s.take i))) s.length (fun n N i (q:Bs × List Int)=>ai_.loop4 n (fun xy4 xy5=>(some ([],(aQ_.mk xy4 xy5)))) N q.1 false q.2) (s,⟨r,false⟩) (fun i hi F hF => ?_) ?_
 · exact this
 · have hd:=dA_ 0 hi
   have ht:=cJ_ 0 hi
   rw [ht] at hF
   simp only [hd,List.flatMap_cons,List.append_assoc]
   have hbl:=hL_ (s.take i)
   rw [List.length_take] at hbl
   generalize (s.drop (i+1)).flatMap d0_++34::r=T at hF ⊢
   generalize s.getD i 0=c at hF ⊢
   rw [←kl_] at hF
   generalize bi (s.take i)=o at hF hbl ⊢
   simp only [ai_.turn4,ai_.step4,Bool.not_false,cond_true,dM_]
   by_cases hc:c=34∨c=92
   · have e1:d0_ c=[92,c]:=if_pos hc
     have e2:d0_ c++T=92::c::T:=by rw [e1];rfl
     have e3:ds_ ⟨92::c::T,false⟩ [92]=(true,⟨c::T,false⟩):=ec_ [92] (c::T)
     simp only [e2,dM_,cB_ (show (92:UInt8)≠34 by decide),e3,cond_false,aH_,bQ_,ce_,dr_,Int.toNat_natCast,List.take_length,List.getD_cons_zero,List.drop_succ_cons,List.drop_zero]
     repeat' (first|exact hF|apply And.intro|intro _)
     all_goals (first|contradiction|omega|(simp;done)|(simp;omega)|trace_state)
   · have e1:d0_ c=[c]:=if_neg hc
     have e2:d0_ c++T=c::T:=by rw [e1];rfl
     simp only [e2,dM_,cB_ (show c≠34 from fun e=>hc (.inl e)),cB_ (show c≠92 from fun e=>hc (.inr e)),cond_false,aH_,bQ_,ce_,dr_,Int.toNat_natCast,List.take_length,List.getD_cons_zero,List.drop_succ_cons,List.drop_zero]
     repeat' (first|exact hF|apply And.intro|intro _)
     all_goals (first|contradiction|omega|(simp;done)|(simp;omega)|trace_state)
 · have e3:ds_ ⟨34::r,false⟩ [34]=(true,⟨r,false⟩):=ec_ [34] r
   simp only [List.drop_length,List.take_length,List.flatMap_nil,List.nil_append,ai_.turn4,ai_.step4,Bool.not_false,cond_true,dM_,e3,hc_,al_]
theorem iW_ {s:Bs} (h:s.length≤281474976710656):Ev (fun n _=>bN_ n s) (endOf s (Lib.atoiAll s)) :=
 aV_ (by simp only [bN_,nAtoi,decide_eq_true h,cond_true,al_])
theorem np_ {r:aQ_} (hr:r.text.length≤4194304):Ans (fun n _=>ag_ n r) fun x=>x.2.text.length≤r.text.length∧x.1.s=[]∧x.1.list=[]∧x.1.names=[]:=by
 refine cY_ ?_
 simp only [ag_]
 obtain ⟨t,b⟩:=r
 simp only at hr ⊢
 have key:∀ (K:Nat→ag_.K3) (Q:aa_ × aQ_→Prop),(∀ i,i≤t.length→Ans (fun n _=>K n ((i:Nat):Int) t b 0 0 []) Q)→Ans (fun n _=>ag_.loop3 n (K n) n 0 t b 0 0 []) Q:=by
  intro K Q hK
  refine eA_ (σ:=Nat) (fun n N i=>ag_.loop3 n (K n) N (i:Int) t b 0 0 []) (fun i=>t.length - i) (fun i=>i≤t.length) _ (fun i hI ih => ?_) 0 (Nat.zero_le _)
  have hend:=hK i hI
  simp only [ag_.turn3,ag_.step3,Int.toNat_natCast]
  by_cases hi:i<t.length
  · have ihn:=ih (i+1) hi (by omega)
    have hW:=W_up hi (show t.length≤cz_ by simp only [cz_];omega)
    simp only [hW,cS_ hi,cond_true,hv_,cG_ hi,true_and,bP_ kt_,cv_]
    exact ⟨fun _=>ihn,fun _=>⟨fun _=>⟨by omega,fun _=>ihn,fun _=>hend⟩,fun _=>hend⟩⟩
  · have e:i=t.length:=by omega
    subst e
    simp only [cQ_,cond_false]
    exact hend
 refine key _ _ fun i hi => ?_
 have hA:=iW_ (s:=(t.take i).drop 0) (by simp;omega)
 simp only [Int.toNat_natCast,List.take_length,nb_,bP_ hA,cv_,cp_]
 exact ⟨by omega,fun _=>⟨by omega,by simp⟩,fun _=>⟨by omega,by simp⟩⟩
theorem itoa_at (n:Int) {i:Nat} (hi:i<(Lib.itoa n).length):dR_ ((Lib.itoa n).getD i 0)∨(i=0∧(Lib.itoa n).getD i 0=45):=by
 unfold Lib.itoa at hi ⊢
 by_cases h:n<0
 · rw [if_pos h] at hi ⊢
   cases i with
   |zero=>exact .inr ⟨rfl,rfl⟩
   |succ i=>
    left
    rw [List.getD_cons_succ]
    exact fK_ n.natAbs _ (cC_ 0 (by simpa using hi))
 · rw [if_neg h] at hi ⊢
   exact .inl (fK_ n.toNat _ (cC_ 0 hi))
theorem k7_ {a b:Bs} {i:Nat} (h:i<a.length):(a++b).getD i 0=a.getD i 0:=by
 rw [List.getD_eq_getElem?_getD,List.getElem?_append_left h,←List.getD_eq_getElem?_getD]
theorem nG_ {a b:Bs} {c:UInt8}:(a++c::b).getD a.length 0=c:=by
 rw [List.getD_eq_getElem?_getD,List.getElem?_append_right (Nat.le_refl _)];simp
theorem inn_dig {c:UInt8} (h:dR_ c):inn (c.toNat:Int) 48 57=true:=by
 unfold dR_ at h
 exact inn_iff.2 (by omega)
theorem inn_not {c:UInt8} (h:¬ dR_ c):inn (c.toNat:Int) 48 57=false:=by
 cases e:inn (c.toNat:Int) 48 57 with
 |false=>rfl
 |true=>exact absurd (by unfold dR_;have:=fU_ e;omega) h
theorem no_ {n:Int} {r:Bs} (h0 : -1000000000≤n) (h1:n≤1000000000) (hs:Stop r) (hl:(Lib.itoa n++r).length≤1000000000000):Ev (fun m _=>ag_ m ⟨Lib.itoa n++r,false⟩) (aa_.mk 2 n [] [] [],⟨r,false⟩):=by
 have hA:=iW_ (s:=Lib.itoa n) (by simp only [List.length_append] at hl;omega)
 rw [lk_ h0 h1] at hA
 obtain ⟨c0,t0,e0,_⟩:=fx_ n
 have hp:1≤(Lib.itoa n).length:=by rw [e0];simp
 have hat:=fun i=>itoa_at n (i:=i)
 generalize Lib.itoa n=t at hl hA hp hat ⊢
 simp only [List.length_append] at hl
 refine aV_ ?_
 simp only [ag_]
 have key:∀ (K:Nat→ag_.K3) (F:aa_ × aQ_),Ev (fun n _=>K n (t.length:Int) (t++r) false 0 0 []) F→Ev (fun n _=>ag_.loop3 n (K n) n 0 (t++r) false 0 0 []) F:=by
  intro K F hK
  refine ex_ (fun _=>()) t.length (fun n N i (_:Unit)=>ag_.loop3 n (K n) N (i:Int) (t++r) false 0 0 []) F (fun i hi F hF => ?_) ?_
  · have hi2:i<(t++r).length:=by simp;omega
    have hW:=W_up hi2 (by simp only [cz_,List.length_append];omega)
    simp only [ag_.turn3,ag_.step3,Int.toNat_natCast,hW,cS_ hi2,cond_true,bQ_,cG_ hi2,true_and,ev_,m9_,k7_ hi,aH_]
    rcases hat i hi with hd|⟨rfl,hd⟩
    · rw [inn_dig hd]
      exact ⟨fun _=>hF,fun h=>(by cases h)⟩
    · simp only [k7_ hi,hd]
      exact ⟨fun _=>hF,fun _=>⟨fun _=>⟨by omega,fun _=>hF,fun h=>absurd h (by decide)⟩,fun h=>(by cases h)⟩⟩
  · simp only [ag_.turn3,ag_.step3,Int.toNat_natCast]
    cases r with
    |nil=>
     rw [List.append_nil] at hK ⊢
     simp only [cQ_,cond_false]
     exact hK
    |cons c r=>
     have hi2:t.length<(t++c::r).length:=by simp
     have hz:(((t.length:Nat):Int) == 0)=false:=beq_eq_false_iff_ne.2 (by omega)
     simp only [cS_ hi2,cond_true,bQ_,cG_ hi2,true_and,ev_,m9_,nG_,inn_not (hs c r rfl),hz,cond_false]
     exact hK
 refine key _ _ ?_
 have e1:((t++r).take t.length).drop 0=t:=by simp
 simp only [Int.toNat_natCast,e1,List.take_length,List.drop_left,dr_,ae_ hA,endOf,Bool.not_true,cond_false,al_]
 exact ⟨by simp;omega,by simp;omega,trivial⟩
end Go.Pi
end
section
namespace Go.Pi
def nS_ (L d:Nat) (x:aa_ × aQ_):Prop:=x.2.text.length≤L∧fg_ d x.1
theorem dz_ {d:Nat} {k n:Int}:fg_ d (aa_.mk k n [] [] []):=by
 cases d with
 |zero=>trivial
 |succ d=>exact ⟨⟨Nat.zero_le _,Nat.zero_le _,fun x h=>(by cases h)⟩,Nat.zero_le _,fun x h=>(by cases h)⟩
theorem kX_ {d:Nat} {k n:Int} {s:Bs} (h:s.length≤cz_):fg_ d (aa_.mk k n s [] []):=by
 cases d with
 |zero=>trivial
 |succ d=>exact ⟨⟨h,Nat.zero_le _,fun x h=>(by cases h)⟩,Nat.zero_le _,fun x h=>(by cases h)⟩
theorem nS_.mono {L M d:Nat} {x:aa_ × aQ_} (h:nS_ L d x) (hl:L≤M):nS_ M d x:=⟨Nat.le_trans h.1 hl,h.2⟩
theorem parts_any {d:Nat} (hd:d≤1000) (ih:∀ r:aQ_,r.text.length≤4194304→Ans (fun n _=>aI_ n r (d:Int)) (nS_ r.text.length d))
  {r:aQ_} (hr:r.text.length≤4194304) (kind:Int) (end_:Bs):Ans (fun n _=>af_ n r kind end_ ((d+1:Nat):Int)) (nS_ r.text.length (d+1)):=by
 refine cY_ ?_
 have hW:W (((d+1:Nat):Int) - 1)=(d:Int):=by rw [W_id (by omega) (by omega)];omega
 simp only [af_,mk_,cv_,cp_]
 have ht:=eU_ r end_
 generalize ds_ r end_=x at ht ⊢
 refine ⟨fun _=>⟨ht,dz_⟩,fun _ => ?_⟩
 obtain ⟨x1,t0,b0⟩:=x
 simp only at ht ⊢
 have key:∀ (K:Nat→af_.K7_1) (Q:aa_ × aQ_→Prop),(∀ t b l ns,t.length≤t0.length→l.length≤4194305→(∀ y ∈ l,fg_ d y)→ns.length≤l.length→(∀ y ∈ ns,y.length≤4194304)→Ans (fun n _=>K n end_ t b 0 0 [] kind 0 [] l ns) Q) →
   Ans (fun n _=>af_.loop7 n (aI_ n) (K n) n kind end_ ((d+1:Nat):Int) true t0 b0 0 0 [] kind 0 [] [] []) Q:=by
  intro K Q hK
  refine eA_ (σ:=Bool × Bs × Bool × List aa_ × List Bs) (fun n N s=>af_.loop7 n (aI_ n) (K n) N kind end_ ((d+1:Nat):Int) s.1 s.2.1 s.2.2.1 0 0 [] kind 0 [] s.2.2.2.1 s.2.2.2.2)
   (fun s=>s.2.1.length+cond s.1 1 0) (fun s=>s.2.1.length≤t0.length∧s.2.2.2.1.length+s.2.1.length≤t0.length+cond s.1 0 1∧(∀ y ∈ s.2.2.2.1,fg_ d y)∧s.2.2.2.2.length≤s.2.2.2.1.length∧(∀ y ∈ s.2.2.2.2,y.length≤4194304)) _ (fun s hI ihl => ?_) (true,t0,b0,[],[]) (by simp)
  obtain ⟨more,t,b,l,ns⟩:=s
  simp only at hI ihl ⊢
  obtain ⟨h1,h2,h3,h4,h5⟩:=hI
  have hll:l.length≤4194305:=by cases more<;>simp at h2<;>omega
  have hend:=hK t b l ns h1 hll h3 h4 h5
  simp only [af_.turn7,af_.step7,hW,by_,cv_]
  refine ⟨fun hm=>⟨fun _ => ?_,fun _=>hend⟩,fun _=>hend⟩
  subst hm
  simp only [cond_true,Nat.add_zero] at h2 ihl
  have step:∀ (q:aQ_) (ns':List Bs),q.text.length≤t.length→ns'.length≤l.length+1→(∀ y ∈ ns',y.length≤4194304) →
    Ans (fun n N=>(aI_ n q (d:Int)).bind fun xr4=>co_ (l.length+[xr4.1].length) 80 ((a5_ n xr4.2 [44]).bind fun xr5=>af_.loop7 n (aI_ n) (K n) N kind end_ ((d+1:Nat):Int) xr5.1 xr5.2.text xr5.2.bad 0 0 [] kind 0 [] (l++[xr4.1]) ns')) Q:=by
   intro q ns' hq hn hb
   refine cP_ (ih q (by omega)) fun v hv => ?_
   simp only [eq_,mk_]
   have g1:=eU_ v.2 [44]
   have g2:=take_less (r:=v.2) (p:=[44])
   generalize ds_ v.2 [44]=x at g1 g2 ⊢
   obtain ⟨m',t',b'⟩:=x
   simp only [List.length_cons,List.length_nil] at g1 g2 ⊢
   have hv1:=hv.1
   refine ⟨by omega,ihl (m',t',b',l++[v.1],ns') ⟨by simp only;omega,?_,?_,by simpa using hn,hb⟩ ?_⟩
   · cases m' with
     |true=>have:=g2 rfl;simp;omega
     |false=>simp;omega
   · intro y hy
     rcases List.mem_append.1 hy with hy|hy
     · exact h3 y hy
     · obtain rfl:=List.mem_singleton.1 hy;exact hv.2
   · cases m' with
     |true=>have:=g2 rfl;simp;omega
     |false=>simp;omega
  refine ⟨fun _ => ?_,fun _=>step ⟨t,b⟩ ns (Nat.le_refl _) (by omega) h5⟩
  refine cP_ (jh_ (r:=⟨t,b⟩) (by simp only;omega)) fun v hv => ?_
  simp only at hv
  simp only [want_a,eq_]
  have hw:=lu_ v.2 [58]
  refine ⟨by simp;omega,step (iS_ v.2 [58]) (ns++[v.1]) (by omega) (by simp;omega) fun y hy => ?_⟩
  rcases List.mem_append.1 hy with hy|hy
  · exact h5 y hy
  · obtain rfl:=List.mem_singleton.1 hy;omega
 refine key _ _ fun t b l ns h1 h2 h3 h4 h5 => ?_
 simp only [want_a,cp_]
 have hw:=lu_ ⟨t,b⟩ end_
 simp only at hw
 exact ⟨by simp only;omega,⟨Nat.zero_le _,by show ns.length≤cz_;simp only [cz_];omega,fun y hy=>by have:=h5 y hy;simp only [cz_];omega⟩,by show l.length≤cz_;simp only [cz_];omega,h3⟩
theorem kx_:∀ (d:Nat),d≤1000→∀ r:aQ_,r.text.length≤4194304→Ans (fun n _=>aI_ n r (d:Int)) (nS_ r.text.length d)
 |0,_,r,hr=>by
  refine cY_ ?_
  simp only [aI_,cv_,cp_]
  exact ⟨fun _=>⟨Nat.le_refl _,trivial⟩,fun h=>by simp at h⟩
 |d+1,hd,r,hr=>by
  have ih:=fun (r:aQ_) hr=>parts_any (d:=d) (by omega) (kx_ d (by omega)) (r:=r) hr
  refine cY_ ?_
  simp only [aI_,by_,cv_,cp_,mk_,bP_ e4_]
  refine ⟨fun h=>by have:=of_decide_eq_true h;omega,fun _=>⟨fun _=>⟨Nat.le_refl _,dz_⟩,fun _ => ?_⟩⟩
  have h1:=eU_ r [110,117,108,108]
  generalize ds_ r [110,117,108,108]=x1 at h1 ⊢
  have h2:=eU_ x1.2 [102,97,108,115,101]
  generalize ds_ x1.2 [102,97,108,115,101]=x2 at h2 ⊢
  have h3:=eU_ x2.2 [116,114,117,101]
  generalize ds_ x2.2 [116,114,117,101]=x3 at h3 ⊢
  have h4:=eU_ x3.2 [91]
  generalize ds_ x3.2 [91]=x4 at h4 ⊢
  have h5:=eU_ x4.2 [123]
  generalize ds_ x4.2 [123]=x5 at h5 ⊢
  refine ⟨fun _=>⟨h1,dz_⟩,fun _=>⟨fun _=>⟨by simp only;omega,dz_⟩,fun _=>⟨fun _=>⟨by simp only;omega,dz_⟩,fun _=>⟨fun _ => ?_,fun _=>⟨fun _ => ?_,fun _=>⟨fun _ => ?_,fun _ => ?_⟩⟩⟩⟩⟩⟩
  · refine cP_ (jh_ (r:=x3.2) (by omega)) fun v hv => ?_
    simp only [cp_]
    exact ⟨by simp only;omega,kX_ (by simp only [cz_];omega)⟩
  · refine cP_ (ih x4.2 (by omega) 4 [93]) fun v hv => ?_
    simp only [cp_]
    exact hv.mono (by omega)
  · refine cP_ (ih x5.2 (by omega) 5 [125]) fun v hv => ?_
    simp only [cp_]
    exact hv.mono (by omega)
  · refine cP_ (np_ (r:=x5.2) (by omega)) fun v hv => ?_
    simp only [cp_]
    obtain ⟨⟨k,nn,s,l,ns⟩,q⟩:=v
    obtain ⟨e1,e2,e3,e4⟩:=hv
    simp only at e1 e2 e3 e4
    subst e2 e3 e4
    exact ⟨by simp only;omega,dz_⟩
theorem lg_ (enc:aa_→Bs) (j:aa_) (k i:Nat):cX_ enc j (k+1) (i+1)=44::(cV_ enc j (i+1)++cX_ enc j k (i+2)):=by
 rw [cX_,if_neg (by omega)];rfl
theorem kC_ (enc:aa_→Bs) (j:aa_) (k i:Nat) {c:UInt8} (h:¬ dR_ c) (r:Bs):Stop (cX_ enc j k (i+1)++c::r):=by
 cases k with
 |zero=>exact h6_ h
 |succ k=>rw [lg_];exact h6_ (by unfold dR_;decide)
theorem lV_ {kind:Int} {c:UInt8} (h:c.toNat=93∨c.toNat=125):¬ dR_ c:=by unfold dR_;omega
theorem kR_ {d:Nat} (hd:d≤1000) {j:aa_} (h:bD_ (d+1) j≤400) (hk:j.kind=4∨j.kind=5)
  (ih:∀ x,bD_ d x≤400→∀ r,Stop r→(FEnc d x++r).length≤1000000000000→Ev (fun n _=>aI_ n ⟨FEnc d x++r,false⟩ (d:Int)) (x,⟨r,false⟩))
  (c:UInt8) (hc:c.toNat=93∨c.toNat=125) (r:Bs) (hl:(c5_ (FEnc d) j j.list.length++c::r).length≤1000000000000) :
  Ev (fun n _=>af_ n ⟨c5_ (FEnc d) j j.list.length++c::r,false⟩ j.kind [c] ((d+1:Nat):Int)) (aa_.mk j.kind 0 [] j.list j.names,⟨r,false⟩):=by
 have hW:W (((d+1:Nat):Int) - 1)=(d:Int):=by rw [W_id (by omega) (by omega)];omega
 have hll:=dt_ h
 have hnl:=d2_ h
 have hT:ds_ ⟨c::r,false⟩ [c]=(true,⟨r,false⟩):=ec_ [c] r
 have hWa:iS_ ⟨c::r,false⟩ [c]=⟨r,false⟩:=hU_ [c] r
 have ho:=(c0_ h).1
 have ho2:=dK_ (dy_ h)
 rw [iU_] at hl ⊢
 refine aV_ ?_
 cases hm:j.list.length with
 |zero=>
  have e1:j.list=[]:=List.eq_nil_of_length_eq_zero hm
  have e2:j.names=[]:=by
   rcases hk with hk|hk
   · exact ho2.ns0 (by omega)
   · exact List.eq_nil_of_length_eq_zero (by rw [(ho.obj hk).1,hm])
  simp only [af_,dM_,cX_,List.nil_append,hT,cond_true,al_,e1,e2]
 |succ m=>
  obtain ⟨a,p0,ep,hp1,hp2,hp3⟩:=jH_ h (i:=0) (by omega)
  have e0:cX_ (FEnc d) j (m+1) 0=cV_ (FEnc d) j 0++cX_ (FEnc d) j m 1:=by rw [cX_,if_pos rfl];rfl
  have hac:a≠c:=fun e=>by subst e;omega
  have e3:cV_ (FEnc d) j 0++cX_ (FEnc d) j m 1++c::r=a::(p0++cX_ (FEnc d) j m 1++c::r):=by rw [ep];rfl
  have e4:ds_ ⟨cV_ (FEnc d) j 0++cX_ (FEnc d) j m 1++c::r,false⟩ [c]=(false,⟨cV_ (FEnc d) j 0++cX_ (FEnc d) j m 1++c::r,false⟩):=by rw [e3];exact cB_ hac [] _ false
  simp only [af_,dM_,e0,e4,cond_false]
  rw [hm,e0] at hl
  have key:∀ (K:Nat→af_.K7_1) (F:aa_ × aQ_),Ev (fun n _=>K n [c] (c::r) false 0 0 [] j.kind 0 [] j.list j.names) F →
    ∀ k i,i+1+k=j.list.length→(cV_ (FEnc d) j i++cX_ (FEnc d) j k (i+1)++c::r).length≤1000000000000 →
    Ev (fun n N=>af_.loop7 n (aI_ n) (K n) N j.kind [c] ((d+1:Nat):Int) true (cV_ (FEnc d) j i++cX_ (FEnc d) j k (i+1)++c::r) false 0 0 [] j.kind 0 [] (j.list.take i) (j.names.take i)) F:=by
   intro K F hK k
   induction k with
   |zero=>
    intro i hi hlen
    have hp:=dQ_ h (i:=i) (by omega)
    have hx:=ih _ hp.size (c::r) (h6_ (lV_ (kind:=0) hc))
    have hcm:ds_ ⟨c::r,false⟩ [44]=(false,⟨c::r,false⟩):=cB_ (by intro e;subst e;revert hc;decide) [] _ false
    have hlast:∀ F,Ev (fun n _=>K n [c] (c::r) false 0 0 [] j.kind 0 [] j.list j.names) F→Ev (fun n N=>af_.loop7 n (aI_ n) (K n) N j.kind [c] ((d+1:Nat):Int) false (c::r) false 0 0 [] j.kind 0 [] j.list j.names) F:=fun F hF=>bo_ (by
     simp only [af_.turn7,af_.step7,cond_false];exact hF)
    have el:j.list.take i++[j.list.getD i aa_.dflt]=j.list:=by rw [←cJ_ aa_.dflt (by omega)];exact List.take_of_length_le (by omega)
    refine bo_ ?_
    simp only [cX_,List.append_nil]
    simp only [cX_,List.append_nil] at hlen
    rcases hk with hk|hk
    · have h5:(j.kind == 5)=false:=by rw [hk];rfl
      have en:j.names=[]:=ho2.ns0 (by omega)
      unfold cV_ at hlen ⊢
      rw [h5,cond_false] at hlen ⊢
      simp only [af_.turn7,af_.step7,by_,hW,h5,Bool.not_false,cond_true,cond_false,ae_ (hx hlen),ce_,dM_,hcm,el,en,List.take_nil]
      refine ⟨by simp;omega,?_⟩
      have:=hlast F hK
      rw [en] at this
      exact this
    · have h5:(j.kind == 5)=true:=by rw [hk];rfl
      obtain ⟨o1,o2⟩:=ho.obj hk
      have en:j.names.take i++[j.names.getD i []]=j.names:=by rw [←cJ_ [] (by omega)];exact List.take_of_length_le (by omega)
      unfold cV_ at hlen ⊢
      rw [h5,cond_true] at hlen ⊢
      simp only [List.append_assoc] at hlen ⊢
      have hq:=hj_ hlen
      simp only [List.length_append] at hlen
      have hx:=hx (by simp only [List.length_append];simp at hlen ⊢;omega)
      simp only [af_.turn7,af_.step7,by_,hW,h5,Bool.not_false,cond_true,cond_false,ae_ hq,me_,hU_,ae_ hx,ce_,dM_,hcm,el,en]
      exact ⟨by simp;omega,by simp;omega,hlast F hK⟩
   |succ k ihk=>
    intro i hi hlen
    have hp:=dQ_ h (i:=i) (by omega)
    have hx:=ih _ hp.size (cX_ (FEnc d) j (k+1) (i+1)++c::r) (kC_ _ _ _ _ (lV_ (kind:=0) hc) r)
    have e5:cX_ (FEnc d) j (k+1) (i+1)++c::r=[44]++(cV_ (FEnc d) j (i+1)++cX_ (FEnc d) j k (i+2)++c::r):=by rw [lg_];simp
    have hcm:ds_ ⟨cX_ (FEnc d) j (k+1) (i+1)++c::r,false⟩ [44]=(true,⟨cV_ (FEnc d) j (i+1)++cX_ (FEnc d) j k (i+2)++c::r,false⟩):=by rw [e5];exact ec_ _ _
    have hlen2:(cV_ (FEnc d) j (i+1)++cX_ (FEnc d) j k (i+2)++c::r).length≤1000000000000:=by
     have:=congrArg List.length e5
     simp only [List.length_append,List.length_cons,List.length_nil] at this hlen ⊢
     omega
    have hnext:=ihk (i+1) (by omega) hlen2
    rw [cJ_ aa_.dflt (show i<j.list.length by omega)] at hnext
    refine bo_ ?_
    rw [List.append_assoc] at hlen ⊢
    generalize cX_ (FEnc d) j (k+1) (i+1)++c::r=T at hx hcm hlen ⊢
    rcases hk with hk|hk
    · have h5:(j.kind == 5)=false:=by rw [hk];rfl
      have en:j.names=[]:=ho2.ns0 (by omega)
      have ef:cV_ (FEnc d) j i=FEnc d (j.list.getD i aa_.dflt):=by unfold cV_;rw [h5];rfl
      rw [ef] at hlen ⊢
      rw [en,List.take_nil] at hnext
      simp only [af_.turn7,af_.step7,by_,hW,h5,Bool.not_false,cond_true,cond_false,ae_ (hx hlen),ce_,dM_,hcm,en,List.take_nil]
      exact ⟨by simp;omega,hnext⟩
    · have h5:(j.kind == 5)=true:=by rw [hk];rfl
      obtain ⟨o1,o2⟩:=ho.obj hk
      rw [cJ_ [] (show i<j.names.length by omega)] at hnext
      have ef:cV_ (FEnc d) j i=cN_ (j.names.getD i [])++([58]++FEnc d (j.list.getD i aa_.dflt)):=by unfold cV_;rw [h5];rfl
      rw [ef] at hlen ⊢
      simp only [List.append_assoc] at hlen ⊢
      have hq:=hj_ hlen
      have hx:=hx (by simp only [List.length_append] at hlen ⊢;simp at hlen ⊢;omega)
      simp only [af_.turn7,af_.step7,by_,hW,h5,Bool.not_false,cond_true,cond_false,ae_ hq,me_,hU_,ae_ hx,ce_,dM_,hcm]
      exact ⟨by simp;omega,by simp;omega,hnext⟩
  have:=key (fun n=>fun xy8 xy9 xy10 xy11 xy12 xy13 xy14 xy15 xy16 xy17 xy18=>((bi_ n (aQ_.mk xy9 xy10) xy8).bind fun xr19=>(some ((aa_.mk xy14 xy15 xy16 xy17 xy18),xr19)))) (aa_.mk j.kind 0 [] j.list j.names,⟨r,false⟩) (by simp only [me_,hWa,al_]) m 0 (by omega) hl
  exact cF_ (f:=fun n N=>af_.loop7 n (aI_ n) (fun xy8 xy9 xy10 xy11 xy12 xy13 xy14 xy15 xy16 xy17 xy18=>((bi_ n (aQ_.mk xy9 xy10) xy8).bind fun xr19=>(some ((aa_.mk xy14 xy15 xy16 xy17 xy18),xr19)))) N j.kind [c] ((d+1:Nat):Int) true (cV_ (FEnc d) j 0++cX_ (FEnc d) j m 1++c::r) false 0 0 [] j.kind 0 [] [] []) this
theorem j9_ {d:Nat} {j:aa_} (h:bD_ (d+1) j≤400) (hk:j.kind=4∨j.kind=5):aa_.mk j.kind 0 [] j.list j.names=j:=by
 have ho2:=dK_ (dy_ h)
 have e1:=ho2.n0 (by omega) (by omega)
 have e2:=ho2.s0 (by omega)
 obtain ⟨k,n,s,l,ns⟩:=j
 simp only at e1 e2 ⊢
 subst e1 e2;rfl
theorem kw_:∀ (d:Nat),d≤1000→∀ j,bD_ d j≤400→∀ r,Stop r→(FEnc d j++r).length≤1000000000000→Ev (fun n _=>aI_ n ⟨FEnc d j++r,false⟩ (d:Int)) (j,⟨r,false⟩)
 |0,_,j,h,r,_,_=>by simp only [bD_] at h;omega
 |d+1,hd,j,h,r,hs,hl=>by
  have ih:=kw_ d (by omega)
  have ho:=(c0_ h).1
  have ho2:=dK_ (dy_ h)
  have hd1:decide (((d+1:Nat):Int)<1)=false:=decide_eq_false (by omega)
  refine aV_ ?_
  simp only [aI_,by_,hd1,cond_false,dM_,ae_ e4_]
  rcases ho.kind with hk|hk|hk|hk|hk|hk
  · have e:FEnc (d+1) j=[110,117,108,108]:=by simp only [FEnc,hk,Int.reduceBEq,cond_true]
    have ej:j=aa_.mk 0 0 [] [] []:=by
     have e1:=ho2.n0 (by omega) (by omega)
     have e2:=ho2.s0 (by omega)
     have e3:=ho.list (by omega) (by omega)
     have e4:=ho2.ns0 (by omega)
     obtain ⟨k,n,s,l,ns⟩:=j
     simp only at e1 e2 e3 e4 hk
     subst e1 e2 e3 e4 hk;rfl
    rw [e]
    simp only [ec_,cond_true,al_]
    rw [ej]
  · have hb:=ho.bool hk
    have e2:=ho2.s0 (by omega)
    have e3:=ho.list (by omega) (by omega)
    have e4:=ho2.ns0 (by omega)
    obtain ⟨k,n,s,l,ns⟩:=j
    simp only at e2 e3 e4 hk hb
    subst e2 e3 e4 hk
    have:n=0∨n=1:=by omega
    rcases this with rfl|rfl
    · have e:FEnc (d+1) (aa_.mk 1 0 [] [] [])++r=102::([97,108,115,101]++r):=rfl
      have e5:ds_ ⟨102::([97,108,115,101]++r),false⟩ [102,97,108,115,101]=(true,⟨r,false⟩):=ec_ [102,97,108,115,101] r
      rw [e]
      simp only [dM_,ae_ e4_,cB_ (show (102:UInt8)≠110 by decide),e5,cond_false,cond_true,al_]
    · have e:FEnc (d+1) (aa_.mk 1 1 [] [] [])++r=116::([114,117,101]++r):=rfl
      have e5:ds_ ⟨116::([114,117,101]++r),false⟩ [116,114,117,101]=(true,⟨r,false⟩):=ec_ [116,114,117,101] r
      rw [e]
      simp only [dM_,ae_ e4_,cB_ (show (116:UInt8)≠110 by decide),cB_ (show (116:UInt8)≠102 by decide),e5,cond_false,cond_true,al_]
  · have hn:=ho.num hk
    have e:FEnc (d+1) j=Lib.itoa j.n_:=by simp only [FEnc,hk,Int.reduceBEq,cond_true,cond_false]
    rw [e] at hl ⊢
    have hN:=no_ hn.1 hn.2 hs hl
    have ej:aa_.mk 2 j.n_ [] [] []=j:=by
     have e2:=ho2.s0 (by omega)
     have e3:=ho.list (by omega) (by omega)
     have e4:=ho2.ns0 (by omega)
     obtain ⟨k,n,s,l,ns⟩:=j
     simp only at e2 e3 e4 hk
     subst e2 e3 e4 hk;rfl
    rw [ej] at hN
    obtain ⟨c,t,ec,hc⟩:=fx_ j.n_
    rw [ec] at hN ⊢
    have ne:∀ x:UInt8,(x.toNat<45∨x.toNat=46∨57<x.toNat)→c≠x:=by
     rintro x hx rfl
     rcases hc with rfl|hc
     · revert hx;decide
     · unfold dR_ at hc;omega
    rw [List.cons_append] at hN ⊢
    simp only [dM_,ae_ e4_,cB_ (ne 110 (by decide)),cB_ (ne 102 (by decide)),cB_ (ne 116 (by decide)),cB_ (ne 91 (by decide)),cB_ (ne 123 (by decide)),kQ_ (ne 34 (by decide)),cond_false,ae_ hN,al_]
  · have ht:=ho2.text hk
    have e:FEnc (d+1) j=cN_ j.s:=by simp only [FEnc,hk,Int.reduceBEq,cond_true,cond_false]
    rw [e] at hl ⊢
    have hq:=hj_ hl
    have ej:aa_.mk 3 0 j.s [] []=j:=by
     have e2:=ho2.n0 (by omega) (by omega)
     have e3:=ho.list (by omega) (by omega)
     have e4:=ho2.ns0 (by omega)
     obtain ⟨k,n,s,l,ns⟩:=j
     simp only at e2 e3 e4 hk
     subst e2 e3 e4 hk;rfl
    have ec:cN_ j.s++r=34::(j.s.flatMap d0_++[34]++r):=by simp [cN_]
    rw [ec] at hq ⊢
    have hpx:pfx [34] (34::(j.s.flatMap d0_++[34]++r))=true:=gp_ [34] _
    simp only [dM_,ae_ e4_,cB_ (show (34:UInt8)≠110 by decide),cB_ (show (34:UInt8)≠102 by decide),cB_ (show (34:UInt8)≠116 by decide),hpx,cond_false,cond_true,ae_ hq,al_,ej]
  · have e:FEnc (d+1) j=[91]++c5_ (FEnc d) j j.list.length++[93]:=by simp only [FEnc,hk,Int.reduceBEq,cond_true,cond_false]
    have e1:FEnc (d+1) j++r=91::(c5_ (FEnc d) j j.list.length++93::r):=by rw [e];simp
    rw [e1] at hl ⊢
    have hP:=kR_ (by omega) h (.inl hk) ih 93 (.inl rfl) r (by simp only [List.length_cons] at hl;omega)
    rw [j9_ h (.inl hk),hk] at hP
    have e5:ds_ ⟨91::(c5_ (FEnc d) j j.list.length++93::r),false⟩ [91]=(true,⟨c5_ (FEnc d) j j.list.length++93::r,false⟩):=ec_ [91] _
    simp only [dM_,ae_ e4_,cB_ (show (91:UInt8)≠110 by decide),cB_ (show (91:UInt8)≠102 by decide),cB_ (show (91:UInt8)≠116 by decide),kQ_ (show (91:UInt8)≠34 by decide),e5,cond_false,cond_true,ae_ hP,al_]
  · have e:FEnc (d+1) j=[123]++c5_ (FEnc d) j j.list.length++[125]:=by simp only [FEnc,hk,Int.reduceBEq,cond_true,cond_false]
    have e1:FEnc (d+1) j++r=123::(c5_ (FEnc d) j j.list.length++125::r):=by rw [e];simp
    rw [e1] at hl ⊢
    have hP:=kR_ (by omega) h (.inr hk) ih 125 (.inr rfl) r (by simp only [List.length_cons] at hl;omega)
    rw [j9_ h (.inr hk),hk] at hP
    have e5:ds_ ⟨123::(c5_ (FEnc d) j j.list.length++125::r),false⟩ [123]=(true,⟨c5_ (FEnc d) j j.list.length++125::r,false⟩):=ec_ [123] _
    simp only [dM_,ae_ e4_,cB_ (show (123:UInt8)≠110 by decide),cB_ (show (123:UInt8)≠102 by decide),cB_ (show (123:UInt8)≠116 by decide),cB_ (show (123:UInt8)≠91 by decide),kQ_ (show (123:UInt8)≠34 by decide),e5,cond_false,cond_true,ae_ hP,al_]
end Go.Pi
end
section
namespace Go.Pi
abbrev g3_:Nat:=4194304
structure At (s:Bs) (p:Nat) (x:Bs):Prop where
 le:p≤s.length
 eq:s.drop p=x
theorem At.next {s a b:Bs} {p:Nat} (h:At s p (a++b)):At s (p+a.length) b:=by
 have h1:=congrArg List.length h.eq
 simp only [List.length_drop,List.length_append] at h1
 have h2:=h.le
 exact ⟨by omega,by rw [←List.drop_drop,h.eq,List.drop_left]⟩
theorem At.next1 {s t:Bs} {c:UInt8} {p:Nat} (h:At s p (c::t)):At s (p+1) t:=At.next (a:=[c]) h
theorem At.lt {s t:Bs} {c:UInt8} {p:Nat} (h:At s p (c::t)):p<s.length∧s.getD p 0=c:=by
 have h1:=congrArg List.length h.eq
 simp only [List.length_drop,List.length_cons] at h1
 have hp:p<s.length:=by omega
 refine ⟨hp,?_⟩
 have:=dA_ 0 hp
 rw [h.eq] at this
 exact (List.cons.inj this).1.symm
theorem At.end_ {s:Bs} {p:Nat} (h:At s p []):p=s.length:=by
 have h1:=congrArg List.length h.eq
 simp only [List.length_drop,List.length_nil] at h1
 have:=h.le;omega
def fQ_ (s:Bs) (p:Nat):Int:=cond (decide (p<s.length)) ((s.getD p 0).toNat:Int) 0
theorem dj_ {s:Bs} {p:Nat} {ok:Bool} {left:Int}:Ev (fun n _=>bM_ n ⟨s,(p:Int),ok,left⟩) (fQ_ s p,⟨s,(p:Int),ok,left⟩):=by
 refine aV_ ?_
 simp only [bM_,aH_,bQ_,al_,Int.toNat_natCast,fQ_]
 by_cases h:p<s.length
 · rw [decide_eq_true h]
   exact ⟨fun hc=>by have:=of_decide_eq_true hc;omega,fun _=>⟨by omega,rfl⟩⟩
 · rw [decide_eq_false h]
   exact ⟨fun _=>rfl,fun hc=>by have:=of_decide_eq_false hc;omega⟩
theorem dk_ {s t:Bs} {c:UInt8} {p:Nat} (h:At s p (c::t)):fQ_ s p=(c.toNat:Int):=by
 obtain ⟨h1,h2⟩:=h.lt
 unfold fQ_;rw [decide_eq_true h1,h2];rfl
theorem peek_end {s:Bs} {p:Nat} (h:At s p []):fQ_ s p=0:=by
 unfold fQ_;rw [decide_eq_false (by have:=h.end_;omega)];rfl
theorem jW_ {s:Bs} {p:Nat} (h:fQ_ s p≠0):p<s.length:=by
 unfold fQ_ at h
 by_cases hp:p<s.length
 · exact hp
 · rw [decide_eq_false hp] at h;exact absurd rfl h
def FTk (s:Bs) (p:Nat) (ok:Bool) (left:Int) (w:Bs):a8_:=cond (pfx w (s.drop p)) ⟨s,((p+w.length:Nat):Int),ok,left⟩ ⟨s,(p:Int),false,left⟩
theorem gB_ {s w:Bs} {p:Nat} {ok:Bool} {left:Int} (hs:s.length≤g3_) (hw:w.length≤100) (hp:p≤s.length):Ev (fun n _=>br_ n ⟨s,(p:Int),ok,left⟩ w) (FTk s p ok left w):=by
 refine aV_ ?_
 simp only [g3_] at hs
 have e1:W ((s.length:Int) - (p:Int))=(s.length:Int) - p:=W_id (by omega) (by omega)
 have e2:W ((p:Int)+(w.length:Int))=((p+w.length:Nat):Int):=by rw [W_id (by omega) (by omega)];omega
 simp only [br_,e1,e2,aH_,dr_,al_,Int.toNat_natCast,FTk]
 have e3:pfx w (s.drop p)=(((s.take (p+w.length)).drop p) == w):=by
  rw [hW_,List.drop_zero,List.drop_take,show p+w.length - p=w.length by omega]
 refine ⟨fun h => ?_,fun h => ?_⟩
 · have h:=of_decide_eq_true h
   cases e:pfx w (s.drop p) with
   |false=>rfl
   |true=>have:=go_ e;simp only [List.length_drop] at this;omega
 · have h:=of_decide_eq_false h
   refine ⟨by omega,?_⟩
   rw [e3]
   cases ((s.take (p+w.length)).drop p == w)<;>simp
theorem ky_ {s w t:Bs} {p:Nat} {ok:Bool} {left:Int} (h:At s p (w++t)):FTk s p ok left w=⟨s,((p+w.length:Nat):Int),ok,left⟩:=by
 unfold FTk;rw [h.eq,gp_];rfl
theorem hd_ {s w:Bs} {p:Nat} {ok:Bool} {left:Int} (hp:p≤s.length):∃ p' ok',FTk s p ok left w=⟨s,((p':Nat):Int),ok',left⟩∧p≤p'∧p'≤s.length∧(ok'=true→ok=true):=by
 unfold FTk
 cases e:pfx w (s.drop p) with
 |false=>exact ⟨p,false,rfl,by omega,hp,fun h=>(by cases h)⟩
 |true=>have:=go_ e;simp only [List.length_drop] at this;exact ⟨p+w.length,ok,rfl,by omega,by omega,id⟩
theorem hB_ {s:Bs} {p:Nat} {ok:Bool} {left:Int} (hs:s.length≤g3_) (hp:p≤s.length) :
  Ans (fun n _=>az_ n ⟨s,(p:Int),ok,left⟩) fun x=>∃ p' ok',x.2=⟨s,((p':Nat):Int),ok',left⟩∧p'≤s.length∧x.1.length≤g3_∧(ok'=true→ok=true):=by
 refine cY_ ?_
 simp only [az_,bP_ (gB_ (w:=[34]) hs (by simp) hp)]
 obtain ⟨p0,ok0,e0,_,hp0,hk0⟩:=hd_ (w:=[34]) (ok:=ok) (left:=left) hp
 rw [e0]
 have hs':=hs
 simp only [g3_] at hs
 have key:∀ (K:Nat→az_.K4) (Q:Bs × a8_→Prop),(∀ (q:Nat) b o,q≤s.length→o.length≤g3_→(b=true→ok0=true)→Ans (fun n _=>K n s (q:Int) b left o) Q)→Ans (fun n _=>az_.loop4 n (K n) n s (p0:Int) ok0 left []) Q:=by
  intro K Q hK
  refine eA_ (σ:=Nat × Bool × List Int) (fun n N st=>az_.loop4 n (K n) N s (st.1:Int) st.2.1 left st.2.2) (fun st=>s.length - st.1) (fun st=>st.1≤s.length∧st.2.2.length≤st.1∧(st.2.1=true→ok0=true)) _ (fun st hI ih => ?_) (p0,ok0,[]) ⟨hp0,Nat.zero_le _,id⟩
  obtain ⟨q,b,o⟩:=st
  simp only at hI ih ⊢
  have hend:=hK q b o hI.1 (by simp only [g3_];omega) hI.2.2
  have hW:W ((q:Int)+1)=((q+1:Nat):Int):=by rw [W_id (by omega) (by omega)];omega
  have hW2:W (((q+1:Nat):Int)+1)=((q+1+1:Nat):Int):=by rw [W_id (by omega) (by omega)];omega
  simp only [az_.turn4,az_.step4,cv_,bP_ dj_,hW,hW2,hv_,eq_,Int.toNat_natCast]
  refine ⟨fun hb=>⟨fun _=>⟨fun h92 => ?_,fun _=>⟨fun hc=>hK q false o hI.1 (by simp only [g3_];omega) (fun h=>(by cases h)),fun hc => ?_⟩⟩,fun _=>hend⟩,fun _=>hend⟩
  · have hlt:q<s.length:=jW_ (fun e=>by rw [e] at h92;revert h92;decide)
    refine ⟨fun hc=>hK (q+1) false o (by omega) (by simp only [g3_];omega) (fun h=>(by cases h)),fun hc => ?_⟩
    have hc:=of_decide_eq_false hc
    exact ⟨by omega,by simp;omega,ih (q+1+1,b,_) ⟨by simp only;omega,by simp;omega,hI.2.2⟩ (by simp only;omega)⟩
  · have hc:=of_decide_eq_false hc
    exact ⟨by omega,by simp;omega,ih (q+1,b,_) ⟨by simp only;omega,by simp;omega,hI.2.2⟩ (by simp only;omega)⟩
 refine key _ _ fun q b o hq ho hb => ?_
 simp only [bP_ (gB_ (w:=[34]) hs' (by simp) hq),cp_]
 obtain ⟨p1,ok1,e1,h2,h3,h4⟩:=hd_ (w:=[34]) (ok:=b) (left:=left) hq
 exact ⟨p1,ok1,e1,h3,by simpa using ho,fun h=>hk0 (hb (h4 h))⟩
theorem hA_ {s t r:Bs} {p:Nat} {left:Int} (hs:s.length≤g3_) (h:At s p (cN_ t++r)) :
  Ev (fun n _=>az_ n ⟨s,(p:Int),true,left⟩) (t,⟨s,((p+(cN_ t).length:Nat):Int),true,left⟩):=by
 have e:cN_ t++r=[34]++(t.flatMap d0_++34::r):=by simp [cN_]
 have eq:(cN_ t).length=1+(t.flatMap d0_).length+1:=by simp [cN_];omega
 rw [e] at h
 have h1:At s (p+1) (t.flatMap d0_++34::r):=h.next
 refine aV_ ?_
 simp only [az_,ae_ (gB_ (w:=[34]) hs (by simp) h.le),ky_ h]
 have hs':=hs
 simp only [g3_] at hs
 have key:∀ (K:Nat→az_.K4) (F:Bs × a8_),Ev (fun n _=>K n s ((p+1+(t.flatMap d0_).length:Nat):Int) true left (bi t)) F →
   ∀ (u v:Bs) (q:Nat),v++u=t→q=p+1+(v.flatMap d0_).length→At s q (u.flatMap d0_++34::r)→Ev (fun n N=>az_.loop4 n (K n) N s (q:Int) true left (bi v)) F:=by
  intro K F hK u
  induction u with
  |nil=>
   intro v q hv hq ha
   rw [List.append_nil] at hv
   subst hv hq
   refine bo_ ?_
   have ha:At s (p+1+(v.flatMap d0_).length) (34::r):=ha
   simp only [az_.turn4,az_.step4,cond_true,ae_ dj_,dk_ ha]
   exact hK
  |cons c u ih=>
   intro v q hv hq ha
   have hnext:=ih (v++[c]) (q+(d0_ c).length) (by rw [←hv];simp) (by rw [hq];simp;omega) (by
    rw [List.flatMap_cons,List.append_assoc] at ha;exact ha.next)
   rw [←kl_] at hnext
   have hvl:v.length≤(v.flatMap d0_).length:=by
    clear hv hq hnext
    induction v with
    |nil=>exact Nat.le_refl _
    |cons c v ih=>rw [List.flatMap_cons,List.length_append,List.length_cons];have:1≤(d0_ c).length:=by unfold d0_;split<;>simp
                  omega
   have hbl:=hL_ v
   rw [List.flatMap_cons,List.append_assoc] at ha
   generalize bi v=o at hnext hbl ⊢
   refine bo_ ?_
   by_cases hc:c=34∨c=92
   · have e1:d0_ c=[92,c]:=if_pos hc
     rw [e1] at ha hnext
     have ha:At s q (92::c::(u.flatMap d0_++34::r)):=ha
     have hl:=ha.next1.lt
     have hW:W ((q:Int)+1)=((q+1:Nat):Int):=by rw [W_id (by omega) (by omega)];omega
     have hW2:W (((q+1:Nat):Int)+1)=((q+1+1:Nat):Int):=by rw [W_id (by omega) (by omega)];omega
     have hge:decide (((q+1:Nat):Int)≥(s.length:Int))=false:=decide_eq_false (by omega)
     have hp1:(((92:UInt8).toNat:Int) != 34)=true:=rfl
     have hp2:(((92:UInt8).toNat:Int) == 92)=true:=rfl
     simp only [az_.turn4,az_.step4,cond_true,cond_false,ae_ dj_,dk_ ha,hp1,hp2,hW,hW2,hge,bQ_,ce_,Int.toNat_natCast,hl.2]
     exact ⟨by omega,by simp;omega,hnext⟩
   · have e1:d0_ c=[c]:=if_neg hc
     rw [e1] at ha hnext
     have ha:At s q (c::(u.flatMap d0_++34::r)):=ha
     have hl:=ha.lt
     have hW:W ((q:Int)+1)=((q+1:Nat):Int):=by rw [W_id (by omega) (by omega)];omega
     have hge:decide ((q:Int)≥(s.length:Int))=false:=decide_eq_false (by omega)
     have hp1:((c.toNat:Int) != 34)=true:=by
      show (!((c.toNat:Int) == 34))=true
      rw [byte34,decide_eq_false fun e=>hc (.inl e)];rfl
     have hp2:((c.toNat:Int) == 92)=false:=by rw [byte92,decide_eq_false fun e=>hc (.inr e)]
     simp only [az_.turn4,az_.step4,cond_true,cond_false,ae_ dj_,dk_ ha,hp1,hp2,hW,hge,bQ_,ce_,Int.toNat_natCast,hl.2]
     exact ⟨by omega,by simp;omega,hnext⟩
 have h2:At s (p+1+(t.flatMap d0_).length) (34::r):=h1.next
 have:=key (fun n=>fun xy4 xy5 xy6 xy7 xy8=>((br_ n (a8_.mk xy4 xy5 xy6 xy7) [34]).bind fun xr9=>(some ((eT_ xy8),xr9)))) (t,⟨s,((p+(cN_ t).length:Nat):Int),true,left⟩) (by
  simp only [ae_ (gB_ (w:=[34]) hs' (by simp) h2.le),ky_ (w:=[34]) h2,al_,hc_]
  show (t,a8_.mk s ((p+1+(t.flatMap d0_).length+1:Nat):Int) true left)=_
  rw [show p+1+(t.flatMap d0_).length+1=p+(cN_ t).length by omega]) t [] (p+1) rfl rfl h1
 exact cF_ (f:=fun n N=>az_.loop4 n (fun xy4 xy5 xy6 xy7 xy8=>((br_ n (a8_.mk xy4 xy5 xy6 xy7) [34]).bind fun xr9=>(some ((eT_ xy8),xr9)))) N s ((p+1:Nat):Int) true left []) this
theorem hD_ {s:Bs} {p:Nat} {ok:Bool} {left:Int} (hs:s.length≤g3_) (hp:p≤s.length) :
  Ans (fun n _=>ay_ n ⟨s,(p:Int),ok,left⟩) fun x=>∃ p' ok',x.2=⟨s,((p':Nat):Int),ok',left⟩∧p'≤s.length∧(ok'=true→ok=true) ∧ -9223372036854775808≤x.1∧x.1≤9223372036854775807:=by
 have hWr:∀ x:Int,-9223372036854775808≤W x∧W x≤9223372036854775807:=by
  intro x
  show -9223372036854775808≤IntKind.i64.wrap x∧IntKind.i64.wrap x≤9223372036854775807
  rw [IntKind.wrap_i64];omega
 simp only [g3_] at hs
 have key:∀ (K:Nat→ay_.K7) (Q:Int × a8_→Prop) (t3:Bool) (t4:Int) (p0:Nat),p0≤s.length→(∀ (q:Nat) (x:Int),q≤s.length → -9223372036854775808≤x→x≤9223372036854775807→Ans (fun n _=>K n t3 t4 x s (q:Int) ok left) Q)→Ans (fun n _=>ay_.loop7 n (K n) n t3 t4 0 s (p0:Int) ok left) Q:=by
  intro K Q t3 t4 p0 hp0 hK
  refine eA_ (σ:=Nat × Int) (fun n N st=>ay_.loop7 n (K n) N t3 t4 st.2 s (st.1:Int) ok left) (fun st=>s.length - st.1) (fun st=>st.1≤s.length ∧ -9223372036854775808≤st.2∧st.2≤9223372036854775807) _ (fun st hI ih => ?_) (p0,0) ⟨hp0,by simp,by simp⟩
  obtain ⟨q,x⟩:=st
  simp only at hI ih ⊢
  have hend:=hK q x hI.1 hI.2.1 hI.2.2
  have hW:W ((q:Int)+1)=((q+1:Nat):Int):=by rw [W_id (by omega) (by omega)];omega
  simp only [ay_.turn7,ay_.step7,cv_,bP_ dj_,hW]
  refine ⟨fun h48=>⟨fun _=>⟨fun _ => ?_,fun _=>hend⟩,fun _=>hend⟩,fun _=>hend⟩
  have h48:=of_decide_eq_true h48
  have hlt:q<s.length:=jW_ (fun e=>by omega)
  exact ih (q+1,_) ⟨by simp only;omega,hWr _⟩ (by simp only;omega)
 refine cY_ ?_
 simp only [ay_,bP_ dj_,cv_]
 refine ⟨fun h45 => ?_,fun _ => ?_⟩
 · have hlt:p<s.length:=jW_ (fun e=>by rw [e] at h45;revert h45;decide)
   have hW:W ((p:Int)+1)=((p+1:Nat):Int):=by rw [W_id (by omega) (by omega)];omega
   rw [hW]
   refine key _ _ _ _ (p+1) (by omega) fun q x hq hx0 hx1 => ?_
   simp only [cv_,cp_]
   exact ⟨fun _=>⟨fun _=>⟨q,false,rfl,hq,fun h=>(by cases h),hWr _⟩,fun _=>⟨q,false,rfl,hq,fun h=>(by cases h),hx0,hx1⟩⟩,fun _=>⟨fun _=>⟨q,ok,rfl,hq,id,hWr _⟩,fun _=>⟨q,ok,rfl,hq,id,hx0,hx1⟩⟩⟩
 · refine key _ _ _ _ p hp fun q x hq hx0 hx1 => ?_
   simp only [cv_,cp_]
   exact ⟨fun _=>⟨fun _=>⟨q,false,rfl,hq,fun h=>(by cases h),hWr _⟩,fun _=>⟨q,false,rfl,hq,fun h=>(by cases h),hx0,hx1⟩⟩,fun _=>⟨fun _=>⟨q,ok,rfl,hq,id,hWr _⟩,fun _=>⟨q,ok,rfl,hq,id,hx0,hx1⟩⟩⟩
theorem hC_ {s r:Bs} {p:Nat} {left:Int} {n:Int} (hs:s.length≤g3_) (h0 : -1000000000≤n) (h1:n≤1000000000) (hst:Stop r) (h:At s p (Lib.itoa n++r)) :
  Ev (fun m _=>ay_ m ⟨s,(p:Int),true,left⟩) (n,⟨s,((p+(Lib.itoa n).length:Nat):Int),true,left⟩):=by
 simp only [g3_] at hs
 have key:∀ (K:Nat→ay_.K7) (F:Int × a8_) (t3:Bool) (f:Nat) (D:Bs),(∀ c ∈ D,dR_ c)→∀ (q x:Nat),f≤q→q+D.length≤f+10→ha_ x D≤1000000000→At s q (D++r) →
   Ev (fun n _=>K n t3 (f:Int) (ha_ x D:Int) s ((q+D.length:Nat):Int) true left) F→Ev (fun n N=>ay_.loop7 n (K n) N t3 (f:Int) (x:Int) s (q:Int) true left) F:=by
  intro K F t3 f D
  induction D with
  |nil=>
   intro _ q x hf hl hv ha hK
   refine bo_ ?_
   have hK:Ev (fun n _=>K n t3 (f:Int) (x:Int) s (q:Int) true left) F:=hK
   have ha:At s q r:=ha
   simp only [ay_.turn7,ay_.step7,ae_ dj_,aH_]
   have hnd:¬ (48≤fQ_ s q∧fQ_ s q≤57):=by
    cases r with
    |nil=>rw [peek_end ha];omega
    |cons c r=>rw [dk_ ha];have:=hst c r rfl;unfold dR_ at this;omega
   exact ⟨fun a=>⟨fun b=>absurd ⟨of_decide_eq_true a,of_decide_eq_true b⟩ hnd,fun _=>hK⟩,fun _=>hK⟩
  |cons c D ih=>
   intro hd q x hf hl hv ha hK
   have hc:=hd c (List.mem_cons_self ..)
   unfold dR_ at hc
   rw [gA_] at hv hK
   have hle:=val_le (10*x+(c.toNat - 48)) D
   have ha:At s q (c::(D++r)):=ha
   have hlt:=ha.lt
   simp only [List.length_cons] at hl
   have hn:=ih (fun c hc=>hd c (List.mem_cons_of_mem _ hc)) (q+1) (10*x+(c.toNat - 48)) (by omega) (by omega) hv ha.next1 (by
    rw [show q+1+D.length=q+(c::D).length by simp;omega];exact hK)
   have hW:W ((q:Int)+1)=((q+1:Nat):Int):=by rw [W_id (by omega) (by omega)];omega
   have hW2:W ((q:Int) - (f:Int))=(q:Int) - f:=W_id (by omega) (by omega)
   have hW3:W (10*(x:Int))=((10*x:Nat):Int):=by rw [W_id (by omega) (by omega)];omega
   have hW4:W (((10*x:Nat):Int)+(c.toNat:Int))=((10*x+c.toNat:Nat):Int):=by rw [W_id (by omega) (by omega)];omega
   have hW5:W (((10*x+c.toNat:Nat):Int) - 48)=((10*x+(c.toNat - 48):Nat):Int):=by rw [W_id (by omega) (by omega)];omega
   refine bo_ ?_
   simp only [ay_.turn7,ay_.step7,ae_ dj_,dk_ ha,m9_,hW,hW2,hW3,hW4,hW5,aH_]
   exact ⟨fun _=>⟨fun _=>⟨fun _=>hn,fun hx=>by have:=of_decide_eq_false hx;omega⟩,fun hx=>by have:=of_decide_eq_false hx;omega⟩,fun hx=>by have:=of_decide_eq_false hx;omega⟩
 refine aV_ ?_
 by_cases hn:n<0
 · have e:Lib.itoa n=45::Lib.decDigits n.natAbs:=by unfold Lib.itoa;rw [if_pos hn]
   rw [e] at h ⊢
   have hdp:=iG_ n.natAbs
   have hdl:=lX_ 9 n.natAbs (by omega)
   have hdd:=fK_ n.natAbs
   have hdv:=jK_ n.natAbs
   generalize Lib.decDigits n.natAbs=D at h hdp hdl hdd hdv ⊢
   have h:At s p (45::(D++r)):=h
   have hlt:=h.lt
   have hW:W ((p:Int)+1)=((p+1:Nat):Int):=by rw [W_id (by omega) (by omega)];omega
   have hW0:W (0 - ((n.natAbs:Nat):Int))=n:=by rw [W_id (by omega) (by omega)];omega
   have h45:(((45:UInt8).toNat:Int) == 45)=true:=rfl
   simp only [ay_,ae_ dj_,dk_ h,h45,cond_true,hW]
   have hne:(((p+1+D.length:Nat):Int) == ((p+1:Nat):Int))=false:=beq_eq_false_iff_ne.2 (by omega)
   have:=key (fun n=>fun xy5 xy6 xy7 xy8 xy9 xy10 xy11=>(cond (xy9 == xy6) (cond xy5 (some ((W (0 - xy7)),(a8_.mk xy8 xy9 false xy11))) (some (xy7,(a8_.mk xy8 xy9 false xy11)))) (cond xy5 (some ((W (0 - xy7)),(a8_.mk xy8 xy9 xy10 xy11))) (some (xy7,(a8_.mk xy8 xy9 xy10 xy11)))))) (n,⟨s,((p+(45::D).length:Nat):Int),true,left⟩) true (p+1) D hdd (p+1) 0 (Nat.le_refl _) (by omega) (by omega) h.next1 (by
    simp only [hne,cond_false,cond_true,hdv,hW0,al_,List.length_cons];congr 3;omega)
   exact cF_ (f:=fun n N=>ay_.loop7 n (fun xy5 xy6 xy7 xy8 xy9 xy10 xy11=>(cond (xy9 == xy6) (cond xy5 (some ((W (0 - xy7)),(a8_.mk xy8 xy9 false xy11))) (some (xy7,(a8_.mk xy8 xy9 false xy11)))) (cond xy5 (some ((W (0 - xy7)),(a8_.mk xy8 xy9 xy10 xy11))) (some (xy7,(a8_.mk xy8 xy9 xy10 xy11)))))) N true ((p+1:Nat):Int) 0 s ((p+1:Nat):Int) true left) this
 · have e:Lib.itoa n=Lib.decDigits n.toNat:=by unfold Lib.itoa;rw [if_neg hn]
   rw [e] at h ⊢
   have hdp:=iG_ n.toNat
   have hdl:=lX_ 9 n.toNat (by omega)
   have hdd:=fK_ n.toNat
   have hdv:=jK_ n.toNat
   generalize Lib.decDigits n.toNat=D at h hdp hdl hdd hdv ⊢
   have h45:(fQ_ s p == 45)=false:=by
    cases D with
    |nil=>simp at hdp
    |cons c D=>
     have h:At s p (c::(D++r)):=h
     have hc:=hdd c (List.mem_cons_self ..)
     unfold dR_ at hc
     rw [dk_ h];exact beq_eq_false_iff_ne.2 (by omega)
   have hN:((n.toNat:Nat):Int)=n:=by omega
   simp only [ay_,ae_ dj_,h45,cond_false]
   have hne:(((p+D.length:Nat):Int) == (p:Int))=false:=beq_eq_false_iff_ne.2 (by omega)
   have:=key (fun n=>fun xy12 xy13 xy14 xy15 xy16 xy17 xy18=>(cond (xy16 == xy13) (cond xy12 (some ((W (0 - xy14)),(a8_.mk xy15 xy16 false xy18))) (some (xy14,(a8_.mk xy15 xy16 false xy18)))) (cond xy12 (some ((W (0 - xy14)),(a8_.mk xy15 xy16 xy17 xy18))) (some (xy14,(a8_.mk xy15 xy16 xy17 xy18)))))) (n,⟨s,((p+D.length:Nat):Int),true,left⟩) false p D hdd p 0 (Nat.le_refl _) (by omega) (by omega) h (by
    simp only [hne,cond_false,hdv,hN,al_])
   exact cF_ (f:=fun n N=>ay_.loop7 n (fun xy12 xy13 xy14 xy15 xy16 xy17 xy18=>(cond (xy16 == xy13) (cond xy12 (some ((W (0 - xy14)),(a8_.mk xy15 xy16 false xy18))) (some (xy14,(a8_.mk xy15 xy16 false xy18)))) (cond xy12 (some ((W (0 - xy14)),(a8_.mk xy15 xy16 xy17 xy18))) (some (xy14,(a8_.mk xy15 xy16 xy17 xy18)))))) N false (p:Int) 0 s (p:Int) true left) this
end Go.Pi
end
section
namespace Go.Pi
def mb_ (s:Bs) (left:Int) (d:Nat) (x:aa_ × a8_):Prop :=
 ∃ (p':Nat) (ok':Bool) (left':Int),x.2=⟨s,(p':Int),ok',left'⟩∧p'≤s.length ∧ -1≤left'∧left'<left∧(ok'=true→0≤left')∧fg_ d x.1
theorem many_any {s:Bs} (hs:s.length≤g3_) {d:Nat} (hd:d≤1000) (ih:∀ (p:Nat) (ok:Bool) (left:Int),p≤s.length→0≤left→left≤400→Ans (fun n _=>bg_ n ⟨s,(p:Int),ok,left⟩ (d:Int)) (mb_ s left d))
  (p:Nat) (left:Int) (hp:p<s.length) (h0:0≤left) (h1:left≤400):Ans (fun n _=>aP_ n ⟨s,(p:Int),true,left⟩ ((d+1:Nat):Int)) (mb_ s (left+1) (d+1)):=by
 have hW:W (((d+1:Nat):Int) - 1)=(d:Int):=by rw [W_id (by omega) (by omega)];omega
 have hs':=hs
 simp only [g3_] at hs
 have hWp:W ((p:Int)+1)=((p+1:Nat):Int):=by rw [W_id (by omega) (by omega)];omega
 have key:∀ (K:Nat→aP_.K8_1) (Q:aa_ × a8_→Prop) (kind:Int) (e:UInt8),(∀ (q:Nat) b (l:Int) js ns,q≤s.length → -1≤l→l≤left→(b=true→0≤l)→js.length≤402→(∀ y ∈ js,fg_ d y)→ns.length≤402→(∀ y ∈ ns,y.length≤g3_)→Ans (fun n _=>K n [e] s (q:Int) b l 0 0 [] kind 0 [] js ns) Q) →
   Ans (fun n _=>aP_.loop8 n (bg_ n) (K n) n ((d+1:Nat):Int) [e] s ((p+1:Nat):Int) true left 0 0 [] kind 0 [] [] []) Q:=by
  intro K Q kind e hK
  refine eA_ (σ:=Nat × Bool × Int × List aa_ × List Bs) (fun n N st=>aP_.loop8 n (bg_ n) (K n) N ((d+1:Nat):Int) [e] s (st.1:Int) st.2.1 st.2.2.1 0 0 [] kind 0 [] st.2.2.2.1 st.2.2.2.2)
   (fun st=>(st.2.2.1+1).toNat) (fun st=>st.1≤s.length ∧ -1≤st.2.2.1∧st.2.2.1+st.2.2.2.1.length≤left∧(st.2.1=true→0≤st.2.2.1)∧(∀ y ∈ st.2.2.2.1,fg_ d y)∧st.2.2.2.2.length≤st.2.2.2.1.length∧(∀ y ∈ st.2.2.2.2,y.length≤g3_)) _ (fun st hI ihl => ?_) (p+1,true,left,[],[]) ⟨hp,by simp only;omega,by simp,fun _=>h0,fun y h=>(by cases h),Nat.le_refl _,fun y h=>(by cases h)⟩
  obtain ⟨q,b,l,js,ns⟩:=st
  simp only at hI ihl ⊢
  obtain ⟨i1,i2,i3,i4,i5,i6,i7⟩:=hI
  have hend:=hK q b l js ns i1 i2 (by omega) i4 (by omega) i5 (by omega) i7
  simp only [aP_.turn8,aP_.step8,by_,hW,cv_,bP_ dj_,hv_,List.length_cons,List.length_nil]
  refine ⟨fun hb=>⟨by omega,fun _ => ?_,fun _=>hend⟩,fun _=>hend⟩
  subst hb
  have l0:=i4 rfl
  have step:∀ (q:Nat) (b:Bool) (ns':List Bs),q≤s.length→ns'.length≤js.length+1→(∀ y ∈ ns',y.length≤g3_) →
    Ans (fun n N=>(bg_ n ⟨s,(q:Int),b,l⟩ (d:Int)).bind fun xr6=>co_ (js.length+(0+1)) 80 (aP_.loop8 n (bg_ n) (K n) N ((d+1:Nat):Int) [e] xr6.2.s xr6.2.at_ xr6.2.ok xr6.2.left 0 0 [] kind 0 [] (js++[xr6.1]) ns')) Q:=by
   intro q b ns' hq hn hnb
   refine cP_ (ih q b l hq l0 (by omega)) fun v hv => ?_
   obtain ⟨j,c⟩:=v
   obtain ⟨p',ok',left',e1,e2,e3,e4,e5,e6⟩:=hv
   simp only at e1 e6
   subst e1
   simp only [eq_]
   refine ⟨by omega,ihl (p',ok',left',js++[j],ns') ⟨e2,e3,by simp;omega,e5,?_,by simpa using hn,hnb⟩ (by simp only;omega)⟩
   intro y hy
   rcases List.mem_append.1 hy with hy|hy
   · exact i5 y hy
   · obtain rfl:=List.mem_singleton.1 hy;exact e6
  have named:∀ (q:Nat) (b:Bool),q≤s.length →
    Ans (fun n N=>(az_ n ⟨s,(q:Int),b,l⟩).bind fun xr4=>co_ (ns.length+(0+1)) 16 ((br_ n xr4.2 [58]).bind fun xr5=>(bg_ n xr5 (d:Int)).bind fun xr6=>co_ (js.length+(0+1)) 80 (aP_.loop8 n (bg_ n) (K n) N ((d+1:Nat):Int) [e] xr6.2.s xr6.2.at_ xr6.2.ok xr6.2.left 0 0 [] kind 0 [] (js++[xr6.1]) (ns++[xr4.1])))) Q:=by
   intro q b hq
   refine cP_ (hB_ (ok:=b) (left:=l) hs' hq) fun v hv => ?_
   obtain ⟨t,c⟩:=v
   obtain ⟨p',ok',e1,e2,e3,e4⟩:=hv
   simp only at e1 e3
   subst e1
   obtain ⟨p2,ok2,g1,g2,g3,g4⟩:=hd_ (w:=[58]) (ok:=ok') (left:=l) e2
   simp only [eq_,bP_ (gB_ (w:=[58]) hs' (by simp) e2),g1]
   refine ⟨by omega,step p2 ok2 (ns++[t]) g3 (by simp;omega) fun y hy => ?_⟩
   rcases List.mem_append.1 hy with hy|hy
   · exact i7 y hy
   · obtain rfl:=List.mem_singleton.1 hy;exact e3
  refine ⟨fun _ => ?_,fun _=>⟨fun _=>named q true i1,fun _=>step q true ns i1 (by omega) i7⟩⟩
  obtain ⟨p2,ok2,g1,g2,g3,g4⟩:=hd_ (w:=[44]) (ok:=true) (left:=l) i1
  simp only [bP_ (gB_ (w:=[44]) hs' (by simp) i1),g1,cv_]
  exact ⟨fun _=>named p2 ok2 g3,fun _=>step p2 ok2 ns g3 (by omega) i7⟩
 have fin:∀ (e:UInt8) (kind:Int) (q:Nat) (b:Bool) (l:Int) (js:List aa_) (ns:List Bs),q≤s.length → -1≤l→l≤left→(b=true→0≤l)→js.length≤402→(∀ y ∈ js,fg_ d y)→ns.length≤402→(∀ y ∈ ns,y.length≤g3_) →
   Ans (fun n (_:Nat)=>(br_ n (a8_.mk s (q:Int) b l) [e]).bind fun xr25=>some ((aa_.mk kind 0 [] js ns),xr25)) (mb_ s (left+1) (d+1)):=by
  intro e kind q b l js ns a1 a2 a3 a4 a5 a6 a7 a8
  obtain ⟨p2,ok2,g1,g2,g3,g4⟩:=hd_ (w:=[e]) (ok:=b) (left:=l) a1
  simp only [bP_ (gB_ (w:=[e]) hs' (by simp) a1),g1,cp_]
  refine ⟨p2,ok2,l,rfl,g3,a2,by omega,fun h=>a4 (g4 h),⟨Nat.zero_le _,?_,fun y hy => ?_⟩,?_,a6⟩
  · show ns.length≤cz_;simp only [cz_];omega
  · have:=a8 y hy;simp only [g3_] at this;simp only [cz_];omega
  · show js.length≤cz_;simp only [cz_];omega
 refine cY_ ?_
 simp only [aP_,bP_ dj_,cv_,hWp]
 exact ⟨fun _=>key _ _ 5 125 fun q b l js ns a1 a2 a3 a4 a5 a6 a7 a8=>fin 125 5 q b l js ns a1 a2 a3 a4 a5 a6 a7 a8,fun _=>key _ _ 4 93 fun q b l js ns a1 a2 a3 a4 a5 a6 a7 a8=>fin 93 4 q b l js ns a1 a2 a3 a4 a5 a6 a7 a8⟩
theorem iv_ {s:Bs} (hs:s.length≤g3_):∀ (d:Nat),d≤1000→∀ (p:Nat) (ok:Bool) (left:Int),p≤s.length→0≤left→left≤400→Ans (fun n _=>bg_ n ⟨s,(p:Int),ok,left⟩ (d:Int)) (mb_ s left d)
 |0,_,p,ok,left,hp,h0,h1=>by
  have hl:W (left - 1)=left - 1:=W_id (by omega) (by omega)
  refine cY_ ?_
  simp only [bg_,cv_,cp_,hl]
  exact ⟨fun _=>⟨p,false,_,rfl,hp,by omega,by omega,fun h=>(by cases h),trivial⟩,fun h=>by simp at h⟩
 |d+1,hd,p,ok,left,hp,h0,h1=>by
  have ihm:=many_any hs (d:=d) (by omega) (iv_ hs d (by omega))
  have hl:W (left - 1)=left - 1:=W_id (by omega) (by omega)
  refine cY_ ?_
  simp only [bg_,by_,cv_,cp_,hl,bP_ dj_]
  refine ⟨fun h=>by simp at h;omega,fun _=>⟨fun _=>⟨p,false,_,rfl,hp,by omega,by omega,fun h=>(by cases h),dz_⟩,fun hc => ?_⟩⟩
  have hc:=of_decide_eq_false hc
  refine ⟨fun _=>⟨p,ok,_,rfl,hp,by omega,by omega,fun h=>by omega,dz_⟩,fun hok => ?_⟩
  have hok:ok=true:=by simpa using hok
  subst hok
  have lit:∀ (w:Bs) (k n:Int),w.length≤100→Ans (fun m (_:Nat)=>(br_ m ⟨s,(p:Int),true,left - 1⟩ w).bind fun xr=>some (aa_.mk k n [] [] [],xr)) (mb_ s left (d+1)):=by
   intro w k n hw
   obtain ⟨p2,ok2,g1,g2,g3,g4⟩:=hd_ (w:=w) (ok:=true) (left:=left - 1) hp
   simp only [bP_ (gB_ (w:=w) hs hw hp),g1,cp_]
   exact ⟨p2,ok2,_,rfl,g3,by omega,by omega,fun _=>by omega,dz_⟩
  have num:Ans (fun m (_:Nat)=>(ay_ m ⟨s,(p:Int),true,left - 1⟩).bind fun xr=>some (aa_.mk 2 xr.1 [] [] [],xr.2)) (mb_ s left (d+1)):=by
   refine cP_ (hD_ (ok:=true) (left:=left - 1) hs hp) fun v hv => ?_
   obtain ⟨x,c⟩:=v
   obtain ⟨p',ok',e1,e2,e3,_⟩:=hv
   simp only at e1
   subst e1
   simp only [cp_]
   exact ⟨p',ok',_,rfl,e2,by omega,by omega,fun _=>by omega,dz_⟩
  have many:(fQ_ s p == 91)=true∨(fQ_ s p == 123)=true→Ans (fun n (_:Nat)=>(aP_ n ⟨s,(p:Int),true,left - 1⟩ ((d+1:Nat):Int)).bind fun xr8=>some (xr8.1,xr8.2)) (mb_ s left (d+1)):=by
   intro hpk
   have hlt:p<s.length:=jW_ (fun e=>by rw [e] at hpk;revert hpk;decide)
   refine cP_ (ihm p (left - 1) hlt (by omega) (by omega)) fun v hv => ?_
   simp only [cp_]
   obtain ⟨p',ok',left',e1,e2,e3,e4,e5,e6⟩:=hv
   exact ⟨p',ok',left',e1,e2,e3,by omega,e5,e6⟩
  refine ⟨fun _=>lit _ 0 0 (by simp),fun _=>⟨fun _=>lit _ 1 1 (by simp),fun _=>⟨fun _=>lit _ 1 0 (by simp),fun _=>⟨fun _ => ?_,fun _=>⟨fun h=>⟨fun _=>many (.inl h),fun _=>num⟩,fun _=>⟨fun h=>many (.inr h),fun _=>num⟩⟩⟩⟩⟩⟩
  refine cP_ (hB_ (ok:=true) (left:=left - 1) hs hp) fun v hv => ?_
  obtain ⟨t,c⟩:=v
  obtain ⟨p',ok',e1,e2,e3,e4⟩:=hv
  simp only at e1 e3
  subst e1
  simp only [cp_]
  exact ⟨p',ok',_,rfl,e2,by omega,by omega,fun _=>by omega,kX_ (by simp only [g3_] at e3;simp only [cz_];omega)⟩
end Go.Pi
end
section
namespace Go.Pi
theorem mC_ {s:Bs} (hs:s.length≤g3_) {d:Nat} (hd:d≤1000) {j:aa_} (h:bD_ (d+1) j≤400) (hk:j.kind=4∨j.kind=5)
  (ih:∀ x,bD_ d x≤400→∀ (p:Nat) (r:Bs) (left:Int),Stop r→(bD_ d x:Int)≤left→left≤400→At s p (FEnc d x++r)→Ev (fun n _=>bg_ n ⟨s,(p:Int),true,left⟩ (d:Int)) (x,⟨s,((p+(FEnc d x).length:Nat):Int),true,left - bD_ d x⟩))
  (o c:UInt8) (hoc:(j.kind=4→o=91∧c=93)∧(j.kind=5→o=123∧c=125)) (r:Bs) (p:Nat) (left:Int) (hl:(dD_ (bD_ d) j.list:Int)≤left) (hl2:left≤400) (ha:At s p (o::(c5_ (FEnc d) j j.list.length++c::r))) :
  Ev (fun n _=>aP_ n ⟨s,(p:Int),true,left⟩ ((d+1:Nat):Int)) (aa_.mk j.kind 0 [] j.list j.names,⟨s,((p+1+(c5_ (FEnc d) j j.list.length).length+1:Nat):Int),true,left - dD_ (bD_ d) j.list⟩):=by
 have hW:W (((d+1:Nat):Int) - 1)=(d:Int):=by rw [W_id (by omega) (by omega)];omega
 have hs':=hs
 simp only [g3_] at hs
 have hll:=dt_ h
 have hnl:=d2_ h
 have ho:=(c0_ h).1
 have ho2:=dK_ (dy_ h)
 have hlt:=ha.lt
 have hWp:W ((p:Int)+1)=((p+1:Nat):Int):=by rw [W_id (by omega) (by omega)];omega
 have hc:c.toNat=93∨c.toNat=125:=by
  rcases hk with hk|hk
  · rw [(hoc.1 hk).2];exact .inl rfl
  · rw [(hoc.2 hk).2];exact .inr rfl
 have hcd:¬ dR_ c:=lV_ (kind:=0) hc
 have key:∀ (K:Nat→aP_.K8_1) (F:aa_ × a8_) (k i q:Nat) (left:Int),i+k=j.list.length→(dD_ (bD_ d) (j.list.drop i):Int)≤left→left≤400→At s q (cX_ (FEnc d) j k i++c::r) →
   Ev (fun n _=>K n [c] s ((q+(cX_ (FEnc d) j k i).length:Nat):Int) true (left - dD_ (bD_ d) (j.list.drop i)) 0 0 [] j.kind 0 [] j.list j.names) F →
   Ev (fun n N=>aP_.loop8 n (bg_ n) (K n) N ((d+1:Nat):Int) [c] s (q:Int) true left 0 0 [] j.kind 0 [] (j.list.take i) (j.names.take i)) F:=by
  intro K F k
  induction k with
  |zero=>
   intro i q left hi hl _ ha hK
   have ei:i=j.list.length:=by omega
   subst ei
   have en:j.names.take j.list.length=j.names:=by
    rcases hk with hk|hk
    · rw [ho2.ns0 (by omega)];simp
    · exact List.take_of_length_le (by rw [(ho.obj hk).1];exact Nat.le_refl _)
   have ha:At s q (c::r):=ha
   have hK:Ev (fun n _=>K n [c] s (q:Int) true left 0 0 [] j.kind 0 [] j.list j.names) F:=by
    simpa [cX_,dD_] using hK
   refine bo_ ?_
   have hne:((c.toNat:Int) != (([c]:Bs).getD 0 0).toNat)=false:=by simp
   simp only [aP_.turn8,aP_.step8,List.take_length,en,cond_true,ae_ dj_,dk_ ha,hne,cond_false,bQ_]
   exact ⟨by simp,hK⟩
  |succ k ihk=>
   intro i q left hi hl hl2 ha hK
   have hlti:i<j.list.length:=by omega
   have hp:=dQ_ h (i:=i) (by omega)
   rw [gE_ (bD_ d) aa_.dflt hlti] at hl hK
   have hnext:=ihk (i+1)
   rw [cJ_ aa_.dflt hlti] at hnext
   have hx:=ih _ hp.size
   have hst:Stop (cX_ (FEnc d) j k (i+1)++c::r):=kC_ _ _ _ _ hcd r
   have etl:(j.list.take i).length=i:=by simp;omega
   have fn_:∀ (q':Nat),At s q' (cV_ (FEnc d) j i++(cX_ (FEnc d) j k (i+1)++c::r))→q'+(cV_ (FEnc d) j i).length+(cX_ (FEnc d) j k (i+1)).length=q+(cX_ (FEnc d) j (k+1) i).length →
     Ev (fun n N=>cond (j.kind == 5) ((az_ n ⟨s,(q':Int),true,left⟩).bind fun xr4=>co_ ((j.names.take i).length+[xr4.1].length) 16 ((br_ n xr4.2 [58]).bind fun xr5=>(bg_ n xr5 (d:Int)).bind fun xr6=>co_ ((j.list.take i).length+[xr6.1].length) 80 (aP_.loop8 n (bg_ n) (K n) N ((d+1:Nat):Int) [c] xr6.2.s xr6.2.at_ xr6.2.ok xr6.2.left 0 0 [] j.kind 0 [] (j.list.take i++[xr6.1]) (j.names.take i++[xr4.1]))))
      ((bg_ n ⟨s,(q':Int),true,left⟩ (d:Int)).bind fun xr6=>co_ ((j.list.take i).length+[xr6.1].length) 80 (aP_.loop8 n (bg_ n) (K n) N ((d+1:Nat):Int) [c] xr6.2.s xr6.2.at_ xr6.2.ok xr6.2.left 0 0 [] j.kind 0 [] (j.list.take i++[xr6.1]) (j.names.take i)))) F:=by
    intro q' ha' hq'
    rcases hk with hk|hk
    · have h5:(j.kind == 5)=false:=by rw [hk];rfl
      have en:j.names=[]:=ho2.ns0 (by omega)
      have ef:cV_ (FEnc d) j i=FEnc d (j.list.getD i aa_.dflt):=by unfold cV_;rw [h5];rfl
      rw [ef] at ha' hq'
      have hx:=hx q' _ left hst (by omega) hl2 ha'
      have hn:=hnext (q'+(FEnc d (j.list.getD i aa_.dflt)).length) (left - bD_ d (j.list.getD i aa_.dflt)) (by omega) (by omega) (by omega) ha'.next (by
       rw [hq',show left - (bD_ d (j.list.getD i aa_.dflt):Int) - (dD_ (bD_ d) (j.list.drop (i+1)):Int)=left - ((bD_ d (j.list.getD i aa_.dflt)+dD_ (bD_ d) (j.list.drop (i+1)):Nat):Int) by omega]
       exact hK)
      rw [en,List.take_nil] at hn
      simp only [h5,cond_false,ae_ hx,ce_,en,List.take_nil]
      exact ⟨by simp;omega,hn⟩
    · have h5:(j.kind == 5)=true:=by rw [hk];rfl
      obtain ⟨o1,o2⟩:=ho.obj hk
      have ef:cV_ (FEnc d) j i=cN_ (j.names.getD i [])++([58]++FEnc d (j.list.getD i aa_.dflt)):=by unfold cV_;rw [h5];rfl
      rw [ef] at ha' hq'
      simp only [List.append_assoc] at ha'
      have hq:=hA_ (left:=left) hs' ha'
      have ha2:=ha'.next
      have ha3:=ha2.next
      have hx:=hx _ _ left hst (by omega) hl2 ha3
      rw [cJ_ [] (show i<j.names.length by omega)] at hnext
      have hn:=hnext _ (left - bD_ d (j.list.getD i aa_.dflt)) (by omega) (by omega) (by omega) ha3.next (by
       rw [show q'+(cN_ (j.names.getD i [])).length+([58]:Bs).length+(FEnc d (j.list.getD i aa_.dflt)).length+(cX_ (FEnc d) j k (i+1)).length=q+(cX_ (FEnc d) j (k+1) i).length by rw [←hq'];simp only [List.length_append];omega,
        show left - (bD_ d (j.list.getD i aa_.dflt):Int) - (dD_ (bD_ d) (j.list.drop (i+1)):Int)=left - ((bD_ d (j.list.getD i aa_.dflt)+dD_ (bD_ d) (j.list.drop (i+1)):Nat):Int) by omega]
       exact hK)
      simp only [h5,cond_true,ae_ hq,ae_ (gB_ (w:=[58]) hs' (by simp) ha2.le),ky_ ha2,ae_ hx,ce_]
      exact ⟨by simp;omega,by simp;omega,hn⟩
   refine bo_ ?_
   by_cases h0:i=0
   · have e0:cX_ (FEnc d) j (k+1) i=cV_ (FEnc d) j i++cX_ (FEnc d) j k (i+1):=by rw [cX_,if_pos h0];rfl
     have ha':At s q (cV_ (FEnc d) j i++(cX_ (FEnc d) j k (i+1)++c::r)):=by rw [e0,List.append_assoc] at ha;exact ha
     have hr:=fn_ q ha' (by rw [e0,List.length_append];omega)
     obtain ⟨a,p0,ep,hp1,hp2,hp3⟩:=jH_ h (i:=i) (by omega)
     have hpk:(fQ_ s q != (([c]:Bs).getD 0 0).toNat)=true:=by
      rw [ep] at ha'
      rw [dk_ (t:=p0++(cX_ (FEnc d) j k (i+1)++c::r)) ha']
      show (!((a.toNat:Int) == (c.toNat:Int)))=true
      rw [beq_eq_false_iff_ne.2 (by omega)];rfl
     have hg:decide (((j.list.take i).length:Int) > 0)=false:=decide_eq_false (by omega)
     simp only [aP_.turn8,aP_.step8,by_,hW,cond_true,ae_ dj_,hpk,hg,cond_false,bQ_]
     exact ⟨by simp,hr⟩
   · have e0:cX_ (FEnc d) j (k+1) i=[44]++(cV_ (FEnc d) j i++cX_ (FEnc d) j k (i+1)):=by rw [cX_,if_neg h0]
     have ha':At s q ([44]++(cV_ (FEnc d) j i++(cX_ (FEnc d) j k (i+1)++c::r))):=by rw [e0,List.append_assoc,List.append_assoc] at ha;exact ha
     have hr:=fn_ (q+([44]:Bs).length) ha'.next (by rw [e0];simp only [List.length_append];omega)
     have hpk:(fQ_ s q != (([c]:Bs).getD 0 0).toNat)=true:=by
      rw [dk_ (c:=44) ha']
      show (!(((44:UInt8).toNat:Int) == (c.toNat:Int)))=true
      rw [beq_eq_false_iff_ne.2 (show (((44:UInt8).toNat:Int))≠(c.toNat:Int) by show (44:Int)≠_;omega)];rfl
     have hg:decide (((j.list.take i).length:Int) > 0)=true:=decide_eq_true (by omega)
     simp only [aP_.turn8,aP_.step8,by_,hW,cond_true,ae_ dj_,hpk,hg,ae_ (gB_ (w:=[44]) hs' (by simp) ha'.le),ky_ ha',bQ_]
     exact ⟨by simp,hr⟩
 have ha1:=ha.next1
 rw [iU_] at ha1 ⊢
 have ha2:=ha1.next
 have fin:Ev (fun n (_:Nat)=>(br_ n (a8_.mk s ((p+1+(cX_ (FEnc d) j j.list.length 0).length:Nat):Int) true (left - dD_ (bD_ d) (j.list.drop 0))) [c]).bind fun xr25=>some ((aa_.mk j.kind 0 [] j.list j.names),xr25)) (aa_.mk j.kind 0 [] j.list j.names,⟨s,((p+1+(cX_ (FEnc d) j j.list.length 0).length+1:Nat):Int),true,left - dD_ (bD_ d) j.list⟩):=by
  simp only [ae_ (gB_ (w:=[c]) hs' (by simp) ha2.le),ky_ (w:=[c]) ha2,al_,List.drop_zero];rfl
 refine aV_ ?_
 simp only [aP_,ae_ dj_,dk_ ha,hWp]
 rcases hk with hk|hk
 · obtain ⟨rfl,rfl⟩:=hoc.1 hk
   have h1:(((91:UInt8).toNat:Int) == 123)=false:=rfl
   have:=key (fun n=>fun xy26 xy27 xy28 xy29 xy30 xy31 xy32 xy33 xy34 xy35 xy36 xy37 xy38=>((br_ n (a8_.mk xy27 xy28 xy29 xy30) xy26).bind fun xr39=>(some ((aa_.mk xy34 xy35 xy36 xy37 xy38),xr39)))) _ j.list.length 0 (p+1) left (by omega) (by rw [List.drop_zero];exact hl) hl2 ha1 fin
   rw [hk] at this ⊢
   simp only [h1,cond_false]
   exact cF_ this
 · obtain ⟨rfl,rfl⟩:=hoc.2 hk
   have h1:(((123:UInt8).toNat:Int) == 123)=true:=rfl
   have:=key (fun n=>fun xy12 xy13 xy14 xy15 xy16 xy17 xy18 xy19 xy20 xy21 xy22 xy23 xy24=>((br_ n (a8_.mk xy13 xy14 xy15 xy16) xy12).bind fun xr25=>(some ((aa_.mk xy20 xy21 xy22 xy23 xy24),xr25)))) _ j.list.length 0 (p+1) left (by omega) (by rw [List.drop_zero];exact hl) hl2 ha1 fin
   rw [hk] at this ⊢
   simp only [h1,cond_true]
   exact cF_ this
theorem iu_ {s:Bs} (hs:s.length≤g3_):∀ (d:Nat),d≤1000→∀ x,bD_ d x≤400→∀ (p:Nat) (r:Bs) (left:Int),Stop r→(bD_ d x:Int)≤left→left≤400→At s p (FEnc d x++r)→Ev (fun n _=>bg_ n ⟨s,(p:Int),true,left⟩ (d:Int)) (x,⟨s,((p+(FEnc d x).length:Nat):Int),true,left - bD_ d x⟩)
 |0,_,x,h,p,r,left,_,_,_,_=>by simp only [bD_] at h;omega
 |d+1,hd,j,h,p,r,left,hst,hl,hl2,ha=>by
  have ih:=iu_ hs d (by omega)
  have ho:=(c0_ h).1
  have ho2:=dK_ (dy_ h)
  have hsz:=(c0_ h).2
  have hpos:=lq_ (d+1) j
  have hWl:W (left - 1)=left - 1:=W_id (by omega) (by omega)
  have hz:((((d+1:Nat):Int)) == 0)=false:=beq_eq_false_iff_ne.2 (by omega)
  have hlt:decide (left - 1<0)=false:=decide_eq_false (by omega)
  refine aV_ ?_
  simp only [bg_,by_,hWl,hz,hlt,Bool.not_true,cond_false,ae_ dj_]
  have one:j.list=[]→left - 1=left - (bD_ (d+1) j:Int):=by
   intro e;rw [hsz,e];simp [dD_]
  rcases ho.kind with hk|hk|hk|hk|hk|hk
  · have e:FEnc (d+1) j=[110,117,108,108]:=by simp only [FEnc,hk,Int.reduceBEq,cond_true]
    have e3:=ho.list (by omega) (by omega)
    rw [←one e3]
    have ej:j=aa_.mk 0 0 [] [] []:=by
     have e1:=ho2.n0 (by omega) (by omega)
     have e2:=ho2.s0 (by omega)
     have e4:=ho2.ns0 (by omega)
     obtain ⟨k,n,s,l,ns⟩:=j
     simp only at e1 e2 e3 e4 hk
     subst e1 e2 e3 e4 hk;rfl
    rw [e] at ha ⊢
    have hpk:=dk_ (c:=110) (t:=[117,108,108]++r) ha
    have c1:(((110:UInt8).toNat:Int) == 110)=true:=rfl
    simp only [hpk,c1,cond_true,ae_ (gB_ (w:=[110,117,108,108]) hs (by simp) ha.le),ky_ ha,al_]
    rw [ej]
  · have hb:=ho.bool hk
    have e2:=ho2.s0 (by omega)
    have e3:=ho.list (by omega) (by omega)
    have e4:=ho2.ns0 (by omega)
    rw [←one e3]
    obtain ⟨k,n,ss,l,ns⟩:=j
    simp only at e2 e3 e4 hk hb
    subst e2 e3 e4 hk
    have:n=0∨n=1:=by omega
    rcases this with rfl|rfl
    · have e:FEnc (d+1) (aa_.mk 1 0 [] [] [])=[102,97,108,115,101]:=rfl
      rw [e] at ha ⊢
      have hpk:=dk_ (c:=102) (t:=[97,108,115,101]++r) ha
      have c1:(((102:UInt8).toNat:Int) == 110)=false:=rfl
      have c2:(((102:UInt8).toNat:Int) == 116)=false:=rfl
      have c3:(((102:UInt8).toNat:Int) == 102)=true:=rfl
      simp only [hpk,c1,c2,c3,cond_true,cond_false,ae_ (gB_ (w:=[102,97,108,115,101]) hs (by simp) ha.le),ky_ ha,al_]
    · have e:FEnc (d+1) (aa_.mk 1 1 [] [] [])=[116,114,117,101]:=rfl
      rw [e] at ha ⊢
      have hpk:=dk_ (c:=116) (t:=[114,117,101]++r) ha
      have c1:(((116:UInt8).toNat:Int) == 110)=false:=rfl
      have c2:(((116:UInt8).toNat:Int) == 116)=true:=rfl
      simp only [hpk,c1,c2,cond_true,cond_false,ae_ (gB_ (w:=[116,114,117,101]) hs (by simp) ha.le),ky_ ha,al_]
  · have hn:=ho.num hk
    have e:FEnc (d+1) j=Lib.itoa j.n_:=by simp only [FEnc,hk,Int.reduceBEq,cond_true,cond_false]
    have e3:=ho.list (by omega) (by omega)
    rw [←one e3]
    rw [e] at ha ⊢
    have hN:=hC_ (left:=left - 1) hs hn.1 hn.2 hst ha
    have ej:aa_.mk 2 j.n_ [] [] []=j:=by
     have e2:=ho2.s0 (by omega)
     have e4:=ho2.ns0 (by omega)
     obtain ⟨k,n,s,l,ns⟩:=j
     simp only at e2 e3 e4 hk
     subst e2 e3 e4 hk;rfl
    obtain ⟨c,t,ec,hc⟩:=fx_ j.n_
    have hpk:fQ_ s p=(c.toNat:Int):=by
     rw [ec] at ha
     exact dk_ (t:=t++r) ha
    have ne:∀ x:Int,(x<45∨x=46∨57<x)→((c.toNat:Int) == x)=false:=by
     intro x hx
     refine beq_eq_false_iff_ne.2 ?_
     rcases hc with rfl|hc
     · show (45:Int)≠x;omega
     · unfold dR_ at hc;omega
    simp only [hpk,ne 110 (by decide),ne 116 (by decide),ne 102 (by decide),ne 34 (by decide),ne 91 (by decide),ne 123 (by decide),cond_false,ae_ hN,al_,ej]
  · have ht:=ho2.text hk
    have e:FEnc (d+1) j=cN_ j.s:=by simp only [FEnc,hk,Int.reduceBEq,cond_true,cond_false]
    have e3:=ho.list (by omega) (by omega)
    rw [←one e3]
    rw [e] at ha ⊢
    have hq:=hA_ (left:=left - 1) hs ha
    have ej:aa_.mk 3 0 j.s [] []=j:=by
     have e2:=ho2.n0 (by omega) (by omega)
     have e4:=ho2.ns0 (by omega)
     obtain ⟨k,n,s,l,ns⟩:=j
     simp only at e2 e3 e4 hk
     subst e2 e3 e4 hk;rfl
    have hpk:fQ_ s p=((34:UInt8).toNat:Int):=dk_ (c:=34) (t:=j.s.flatMap d0_++[34]++r) (by
     have:cN_ j.s++r=34::(j.s.flatMap d0_++[34]++r):=by simp [cN_]
     rw [←this];exact ha)
    have c1:(((34:UInt8).toNat:Int) == 110)=false:=rfl
    have c2:(((34:UInt8).toNat:Int) == 116)=false:=rfl
    have c3:(((34:UInt8).toNat:Int) == 102)=false:=rfl
    have c4:(((34:UInt8).toNat:Int) == 34)=true:=rfl
    simp only [hpk,c1,c2,c3,c4,cond_true,cond_false,ae_ hq,al_,ej]
  · have e:FEnc (d+1) j=[91]++c5_ (FEnc d) j j.list.length++[93]:=by simp only [FEnc,hk,Int.reduceBEq,cond_true,cond_false]
    have e1:FEnc (d+1) j++r=91::(c5_ (FEnc d) j j.list.length++93::r):=by rw [e];simp
    have e2:p+(FEnc (d+1) j).length=p+1+(c5_ (FEnc d) j j.list.length).length+1:=by rw [e];simp;omega
    rw [e1] at ha
    rw [e2]
    have hP:=mC_ hs (by omega) h (.inl hk) ih 91 93 ⟨fun _=>⟨rfl,rfl⟩,fun h=>by omega⟩ r p (left - 1) (by omega) (by omega) ha
    rw [j9_ h (.inl hk),show left - 1 - (dD_ (bD_ d) j.list:Int)=left - (bD_ (d+1) j:Int) by rw [hsz];omega] at hP
    have hpk:=dk_ ha
    have c1:(((91:UInt8).toNat:Int) == 110)=false:=rfl
    have c2:(((91:UInt8).toNat:Int) == 116)=false:=rfl
    have c3:(((91:UInt8).toNat:Int) == 102)=false:=rfl
    have c4:(((91:UInt8).toNat:Int) == 34)=false:=rfl
    have c5:(((91:UInt8).toNat:Int) == 91)=true:=rfl
    simp only [hpk,c1,c2,c3,c4,c5,cond_true,cond_false,ae_ hP,al_]
  · have e:FEnc (d+1) j=[123]++c5_ (FEnc d) j j.list.length++[125]:=by simp only [FEnc,hk,Int.reduceBEq,cond_true,cond_false]
    have e1:FEnc (d+1) j++r=123::(c5_ (FEnc d) j j.list.length++125::r):=by rw [e];simp
    have e2:p+(FEnc (d+1) j).length=p+1+(c5_ (FEnc d) j j.list.length).length+1:=by rw [e];simp;omega
    rw [e1] at ha
    rw [e2]
    have hP:=mC_ hs (by omega) h (.inr hk) ih 123 125 ⟨fun h=>by omega,fun _=>⟨rfl,rfl⟩⟩ r p (left - 1) (by omega) (by omega) ha
    rw [j9_ h (.inr hk),show left - 1 - (dD_ (bD_ d) j.list:Int)=left - (bD_ (d+1) j:Int) by rw [hsz];omega] at hP
    have hpk:=dk_ ha
    have c1:(((123:UInt8).toNat:Int) == 110)=false:=rfl
    have c2:(((123:UInt8).toNat:Int) == 116)=false:=rfl
    have c3:(((123:UInt8).toNat:Int) == 102)=false:=rfl
    have c4:(((123:UInt8).toNat:Int) == 34)=false:=rfl
    have c5:(((123:UInt8).toNat:Int) == 91)=false:=rfl
    have c6:(((123:UInt8).toNat:Int) == 123)=true:=rfl
    simp only [hpk,c1,c2,c3,c4,c5,c6,cond_true,cond_false,ae_ hP,al_]
end Go.Pi
end
section
namespace Go.Pi
theorem iV_ {a b:List Bs} (ha:a.length≤cz_):Ev (fun n _=>am_ n a b) (gx_ a b):=by
 refine aV_ ?_
 simp only [am_,ne_len,aH_,al_]
 unfold gx_
 by_cases hl:a.length=b.length
 · rw [decide_eq_true hl]
   refine ⟨fun h=>(by cases h),fun _ => ?_⟩
   refine h0_ (gh_ (fun n N i=>am_.loop6 n (some true) N a b (a.length:Int) (i:Int)) (fun i=>a.getD i [] == b.getD i []) (len:=a.length) (v:=true) (fun i w hi ih => ?_) ?_) (by rw [Bool.and_true,Bool.true_and])
   · simp only [am_.turn6,am_.step6,Int.toNat_natCast,W_up hi ha,aH_,bQ_,al_,dN_ ih,cS_ hi,cG_ hi,cG_ (hl ▸ hi)]
     cases (a.getD i [] == b.getD i [])<;>simp
   · simp only [am_.turn6,am_.step6,cQ_,cond_false,al_]
 · rw [decide_eq_false hl]
   exact ⟨fun _=>rfl,fun h=>(by cases h)⟩
theorem gT_:∀ (d:Nat) (a b:aa_),nM_ d a→fg_ d a→Ev (fun n _=>ck_ n a b) (eb_ d a b)
 |0,a,b,h,_=>h.elim
 |d+1,a,b,h,hl=>by
  refine aV_ ?_
  have hE:Ev (fun n _=>ab_ n a.list b.list) (decide (a.list.length=b.list.length)&&l7_ (fun i=>eb_ d (a.list.getD i aa_.dflt) (b.list.getD i aa_.dflt)) a.list.length):=by
   refine aV_ ?_
   simp only [ab_,ne_len,aH_,al_]
   by_cases hq:a.list.length=b.list.length
   · rw [decide_eq_true hq]
     refine ⟨fun h=>(by cases h),fun _ => ?_⟩
     refine h0_ (gh_ (fun n N i=>ab_.loop6 n (ck_ n) (some true) N b.list a.list (a.list.length:Int) (i:Int)) (fun i=>eb_ d (a.list.getD i aa_.dflt) (b.list.getD i aa_.dflt)) (len:=a.list.length) (v:=true) (fun i w hi ih => ?_) ?_) (by rw [Bool.and_true,Bool.true_and])
     · have hx:=gT_ d (a.list.getD i aa_.dflt) (b.list.getD i aa_.dflt) (h _ (cC_ _ hi)) (hl.2.2 _ (cC_ _ hi))
       simp only [ab_.turn6,ab_.step6,by_,Int.toNat_natCast,W_up hi hl.2.1,aH_,bQ_,ae_ hx,al_,dN_ ih,cS_ hi,cG_ hi,cG_ (hq ▸ hi)]
       cases eb_ d (a.list.getD i aa_.dflt) (b.list.getD i aa_.dflt)<;>simp
     · simp only [ab_.turn6,ab_.step6,cQ_,cond_false,al_]
   · rw [decide_eq_false hq]
     exact ⟨fun _=>rfl,fun h=>(by cases h)⟩
  simp only [ck_,aH_,ae_ (iV_ (b:=b.names) hl.1.2.1),ae_ hE,al_,eb_]
  cases (a.kind == b.kind)<;>cases (a.n_ == b.n_)<;>cases (a.s == b.s)<;>cases gx_ a.names b.names<;>simp
end Go.Pi
end
section
namespace Go.Pi
def eQ_ (a b:aa_):Bool:=cO_ a&&(cO_ b&&eb_ 6 a b)
theorem fh_ {a b:aa_} (ha:fg_ 6 a) (hb:fg_ 6 b):Ev (fun n _=>bY_ n a b) (eQ_ a b):=by
 refine aV_ ?_
 simp only [bY_,by_,ae_ (dh_ ha),ae_ (dh_ hb),aH_,al_,eQ_]
 cases h1:cO_ a with
 |false=>simp
 |true=>
  have hd:nM_ 6 a:=f5_ 6 a (of_decide_eq_true h1)
  simp only [ae_ (gT_ 6 a b hd ha),al_]
  cases cO_ b<;>simp
theorem ff_ {a b:aa_} (ha:fg_ 6 a) (hb:fg_ 6 b):Ev (fun n _=>bX_ n a b) (eQ_ a b):=by
 refine aV_ ?_
 simp only [bX_,by_,ae_ (de_ ha),ae_ (de_ hb),aH_,al_,eQ_]
 cases h1:cO_ a with
 |false=>simp
 |true=>
  have hd:nM_ 6 a:=f5_ 6 a (of_decide_eq_true h1)
  simp only [ae_ (eD_ 6 a b hd ha),al_]
  cases cO_ b<;>simp
end Go.Pi
end
section
namespace Go.Pi
theorem fT_ {d:Nat} {j:aa_} (h:bD_ (d+1) j≤400) {x:aa_} (hx:x ∈ j.list):bD_ d x≤400:=by
 have:=(c0_ h).2
 have:=he_ (bD_ d) hx
 omega
theorem cL_:∀ (d:Nat) (j:aa_),bD_ d j≤400→fg_ d j
 |0,_,_=>trivial
 |d+1,j,h=>by
  have ho:=(c0_ h).1
  have ho2:=dK_ (dy_ h)
  have hll:=dt_ h
  have hnl:=d2_ h
  refine ⟨⟨?_,by simp only [cz_];omega,fun x hx => ?_⟩,by simp only [cz_];omega,fun x hx=>cL_ d x (fT_ h hx)⟩
  · by_cases hk:j.kind=3
    · have:=fP_ (ho2.text hk);simp only [cz_];omega
    · rw [ho2.s0 hk];exact Nat.zero_le _
  · by_cases hk:j.kind=5
    · obtain ⟨i,hi,e⟩:=List.getElem_of_mem hx
      have:=f7_ (ho.obj hk).2 hi
      rw [List.getD_eq_getElem?_getD,List.getElem?_eq_getElem hi,Option.getD_some,e] at this
      simp only [cz_];omega
    · rw [ho2.ns0 hk] at hx;cases hx
theorem i9_ {α:Type} {f g:α→Nat}:∀ {l:List α},(∀ x ∈ l,f x=g x)→dD_ f l=dD_ g l
 |[],_=>rfl
 |x::l,h=>by
  simp only [dD_]
  rw [h x (List.mem_cons_self ..),i9_ fun y hy=>h y (List.mem_cons_of_mem _ hy)]
theorem h3_:∀ (d:Nat) (j:aa_),bD_ d j≤400→bD_ (d+1) j=bD_ d j
 |0,j,h=>by simp only [bD_] at h;omega
 |d+1,j,h=>by
  have hs:=(c0_ h).2
  have ho:=dy_ h
  have e:dD_ (bD_ (d+1)) j.list=dD_ (bD_ d) j.list:=i9_ fun x hx=>h3_ d x (fT_ h hx)
  rw [bD_,ho,cond_true,e,←hs];omega
theorem dg_:bD_ 6 fl_≤400:=by decide
theorem hI_ {j:aa_} (h:bC_ j≠[]):bD_ 6 j≤400∧bC_ j=FEnc 6 j∧(FEnc 6 j).length≤6000:=by
 unfold bC_ at h ⊢
 cases hj:cO_ j with
 |false=>rw [hj] at h;exact absurd rfl h
 |true=>
  rw [hj] at h
  simp only [cond_true] at h ⊢
  cases hl:decide (((FEnc 6 j).length:Int) > 6000) with
  |true=>rw [hl] at h;exact absurd rfl h
  |false=>have:=of_decide_eq_false hl;exact ⟨of_decide_eq_true hj,rfl,by omega⟩
theorem fE_ {s:Bs} (hs:s.length≤4194304):Ans (fun n _=>b4_ n s) fun x=>bD_ 6 x.1≤400:=by
 refine cY_ ?_
 simp only [b4_,by_,cv_,cp_]
 refine ⟨fun _=>dg_,fun _ => ?_⟩
 by_cases h0:s=[]
 · subst h0
   have hN:Ev (fun n _=>ag_ n ⟨[],false⟩) (aa_.mk 2 0 [] [] [],⟨[],true⟩):=by
    have hA:Ev (fun n _=>bN_ n []) (0,false):=iW_ (s:=[]) (by simp)
    refine aV_ ?_
    simp only [ag_]
    refine cF_ (f:=fun n N=>ag_.loop3 n (fun xy2 xy3 xy4 xy5 xy6 xy7=>(f0_ 0 xy2 xy3.length ((bN_ n ((xy3.take xy2.toNat).drop 0)).bind fun xr8=>(cond (!xr8.2) (f0_ xy2 (xy3.length:Int) xy3.length (some ((aa_.mk 2 xr8.1 [] ([]:List aa_) ([]:List Bs)),(aQ_.mk ((xy3.take (xy3.length:Int).toNat).drop xy2.toNat) true)))) (f0_ xy2 (xy3.length:Int) xy3.length (some ((aa_.mk 2 xr8.1 [] ([]:List aa_) ([]:List Bs)),(aQ_.mk ((xy3.take (xy3.length:Int).toNat).drop xy2.toNat) xy4)))))))) N 0 [] false 0 0 []) (bo_ ?_)
    have e0:(([]:Bs).take (0:Int).toNat).drop 0=[]:=rfl
    have c0:decide ((0:Int)<((([]:Bs).length:Nat):Int))=false:=rfl
    simp only [ag_.turn3,ag_.step3,c0,cond_false,e0,dr_,ae_ hA,Bool.not_false,cond_true,al_]
    exact ⟨⟨by decide,by decide,by decide⟩,⟨by decide,by decide,by decide⟩,rfl⟩
   have hv:Ev (fun n _=>aI_ n ⟨[],false⟩ 6) (aa_.mk 2 0 [] [] [],⟨[],true⟩):=by
    have hd1:decide ((6:Int)<1)=false:=rfl
    refine aV_ ?_
    simp only [aI_,by_,hd1,cond_false,dM_,ae_ e4_,take_nil,pfx_nil,ae_ hN,al_]
   simp only [bP_ hv,cond_true,cp_]
   exact dg_
 · refine cP_ (kx_ 6 (by omega) ⟨s,false⟩ hs) fun v hv => ?_
   simp only [cv_,cp_,bP_ (c4_ hv.2)]
   refine ⟨fun _=>dg_,fun _=>⟨fun _=>dg_,fun h => ?_⟩⟩
   have e:bC_ v.1=s:=by simpa using h
   exact (hI_ (by rw [e];exact h0)).1
theorem fD_ {j:aa_} (h:bC_ j≠[]):Ev (fun n _=>b4_ n (bC_ j)) (j,true):=by
 obtain ⟨h1,h2,h3⟩:=hI_ h
 have hv:=kw_ 6 (by omega) j h1 [] jP_ (by rw [List.append_nil];omega)
 rw [List.append_nil,←h2] at hv
 have hv:Ev (fun n _=>aI_ n ⟨bC_ j,false⟩ 6) (j,⟨[],false⟩):=hv
 have hE:=c4_ (cL_ 6 j h1)
 have hl:decide (((bC_ j).length:Int) > 6000)=false:=by rw [h2];exact decide_eq_false (by omega)
 refine aV_ ?_
 simp only [b4_,by_,hl,cond_false,ae_ hv,ae_ hE,beq_self_eq_true,Bool.not_true,al_]
theorem ie_ {s:Bs} (hs:s.length≤4194304):Ans (fun n _=>b9_ n s) fun x=>bD_ 6 x.1≤400:=by
 refine cY_ ?_
 simp only [b9_,by_,cv_,cp_]
 refine ⟨fun _=>dg_,fun h0=>⟨fun _=>dg_,fun _ => ?_⟩⟩
 refine cP_ (iv_ (s:=s) hs 6 (by omega) 0 true 400 (Nat.zero_le _) (by omega) (by omega)) fun v hv => ?_
 obtain ⟨p',ok',left',e1,e2,e3,e4,e5,e6⟩:=hv
 simp only [cv_,cp_,bP_ (df_ e6)]
 refine ⟨fun _=>dg_,fun _=>⟨fun _=>dg_,fun _=>⟨fun _=>dg_,fun h => ?_⟩⟩⟩
 have e:bC_ v.1=s:=by simpa using h
 exact (hI_ (by rw [e];intro e;rw [e] at h0;cases h0)).1
theorem fs_ {j:aa_} (h:bC_ j≠[]):Ev (fun n _=>b9_ n (bC_ j)) (j,true):=by
 obtain ⟨h1,h2,h3⟩:=hI_ h
 have hsz:(bC_ j).length≤6000:=by rw [h2];exact h3
 have hv:=iu_ (s:=bC_ j) (by simp only [g3_];omega) 6 (by omega) j h1 0 [] 400 jP_ (by omega) (by omega) ⟨Nat.zero_le _,by rw [List.append_nil,←h2];rfl⟩
 have hv:Ev (fun n _=>bg_ n ⟨bC_ j,0,true,400⟩ 6) (j,⟨bC_ j,((0+(FEnc 6 j).length:Nat):Int),true,400 - bD_ 6 j⟩):=hv
 have hE:=df_ (cL_ 6 j h1)
 have hl:decide (((bC_ j).length:Int) > 6000)=false:=decide_eq_false (by omega)
 have hn:(bC_ j == [])=false:=beq_eq_false_iff_ne.2 h
 have ha:(((0+(FEnc 6 j).length:Nat):Int) != ((bC_ j).length:Int))=false:=by rw [h2];simp
 refine aV_ ?_
 simp only [b9_,by_,hl,hn,cond_false,ae_ hv,ha,ae_ hE,beq_self_eq_true,Bool.not_true,al_]
def FIdx (l:List Bs) (x:Bs):Int:=if l.findIdx (fun y=>y == x)<l.length then ((l.findIdx (fun y=>y == x):Nat):Int) else -1
theorem kE_ {j:aa_} {x:Bs} (h:j.names.length≤cz_):Ev (fun n _=>bw_ n j x) (FIdx j.names x):=by
 refine aV_ ?_
 unfold FIdx
 rw [←hG_ ([]:Bs) (fun y=>y == x) j.names]
 simp only [bw_]
 refine ev_fold (fun n N i=>bw_.loop3 n (some (-1)) N x (i:Int) j.kind j.n_ j.s j.list j.names) _ (fun i u hi ih => ?_) ?_
 · simp only [bw_.turn3,bw_.step3,Int.toNat_natCast,W_up hi h,aH_,bQ_,al_,dN_ ih,cS_ hi,cG_ hi]
   cases (j.names.getD i [] == x)<;>simp
 · simp only [bw_.turn3,bw_.step3,cQ_,cond_false,al_]
theorem er_ {l:List Bs} {x:Bs} (h:l.length≤cz_):Ev (fun n _=>ak_ n l x) (FIdx l x):=by
 refine aV_ ?_
 unfold FIdx
 rw [←hG_ ([]:Bs) (fun y=>y == x) l]
 simp only [ak_]
 refine ev_fold (fun n N i=>ak_.loop3 n (some (-1)) N l x (l.length:Int) (i:Int)) _ (fun i u hi ih => ?_) ?_
 · simp only [ak_.turn3,ak_.step3,Int.toNat_natCast,W_up hi h,aH_,bQ_,al_,dN_ ih,cS_ hi,cG_ hi]
   rw [show (x == l.getD i [])=(l.getD i [] == x) from BEq.comm]
   cases (l.getD i [] == x)<;>simp
 · simp only [ak_.turn3,ak_.step3,cQ_,cond_false,al_]
def ea_ (j:aa_) (x:Bs):aa_ × Bool:=if FIdx j.names x<0 then (fl_,false) else (j.list.getD (FIdx j.names x).toNat aa_.dflt,true)
theorem idx_lt {l:List Bs} {x:Bs} (h:¬ FIdx l x<0):0≤FIdx l x∧FIdx l x<(l.length:Int):=by
 unfold FIdx at h ⊢
 split at h
 · rename_i hl;rw [if_pos hl];omega
 · exact absurd (by decide) h
theorem kg_ {j:aa_} (h:bD_ 6 j≤400) {x:Bs} (hx:¬ FIdx j.names x<0):(FIdx j.names x).toNat<j.list.length∧j.kind=5:=by
 have hi:=idx_lt hx
 by_cases hk:j.kind=5
 · have:=((c0_ h).1.obj hk).1;exact ⟨by omega,hk⟩
 · rw [(dK_ (dy_ h)).ns0 hk] at hi;simp at hi;omega
theorem el_ {j:aa_} (h:bD_ 6 j≤400) (x:Bs):bD_ 6 (ea_ j x).1≤400:=by
 unfold ea_
 by_cases hx:FIdx j.names x<0
 · rw [if_pos hx];exact dg_
 · rw [if_neg hx]
   have:=(dQ_ h (kg_ h hx).1).size
   rw [h3_ 5 _ this];exact this
theorem ed_ {j:aa_} (h:bD_ 6 j≤400) {x:Bs}:Ev (fun n _=>cj_ n j x) (ea_ j x):=by
 have hJ:=de_ (cL_ 6 j h)
 have hn:=d2_ h
 have hok:cO_ j=true:=decide_eq_true h
 refine aV_ ?_
 simp only [cj_,by_,ae_ (kE_ (j:=j) (x:=x) (by simp only [cz_];omega)),ae_ hJ,hok,Bool.not_true,cond_false,ea_]
 by_cases hx:FIdx j.names x<0
 · rw [if_pos hx,decide_eq_true hx]
   simp only [cond_true,aH_,al_]
   exact ⟨fun _=>rfl,fun _=>rfl⟩
 · obtain ⟨h1,h2⟩:=kg_ h hx
   have hi:=idx_lt hx
   have hC:=eE_ 5 (j.list.getD (FIdx j.names x).toNat aa_.dflt) (dQ_ h h1).size
   have hk:(j.kind != 5)=false:=by rw [h2];rfl
   rw [if_neg hx,decide_eq_false hx,hk]
   simp only [cond_false,bQ_,ae_ hC,al_]
   exact ⟨by omega,trivial⟩
theorem gU_ {j:aa_} (h:bD_ 6 j≤400) {x:Bs}:Ev (fun n _=>cr_ n j x) (ea_ j x):=by
 have hJ:=dh_ (cL_ 6 j h)
 have hn:=d2_ h
 have hok:cO_ j=true:=decide_eq_true h
 refine aV_ ?_
 simp only [cr_,by_,ae_ (er_ (l:=j.names) (x:=x) (by simp only [cz_];omega)),ae_ hJ,hok,Bool.not_true,cond_false,ea_]
 by_cases hx:FIdx j.names x<0
 · rw [if_pos hx,decide_eq_true hx]
   simp only [cond_true,al_];rfl
 · obtain ⟨h1,h2⟩:=kg_ h hx
   have hi:=idx_lt hx
   have hC:=d7_ 5 (j.list.getD (FIdx j.names x).toNat aa_.dflt) (dQ_ h h1).size
   rw [if_neg hx,decide_eq_false hx]
   simp only [cond_false,bQ_,ae_ hC,al_]
   exact ⟨by omega,trivial⟩
end Go.Pi
end
section
namespace Go.Pi
def fin (w:List Bs):List Bs × Bool:=if w.length > 6 then ([],false) else (w,true)
def wr (out:List Bs) (now:Bs):Bs→List Bs × Bool
 |[]=>fin (out++[now])
 |[c]=>if c=47 then fin (out++[now]++[[]]) else if c=126 then ([],false) else fin (out++[now++[c]])
 |c::e::l=>if c=47 then wr (out++[now]) [] (e::l) else if c=126 then (if e=48 then wr out (now++[126]) l else if e=49 then wr out (now++[47]) l else ([],false)) else wr out (now++[c]) (e::l)
theorem wr_sl (out:List Bs) (now l:Bs):wr out now (47::l)=wr (out++[now]) [] l:=by
 cases l with
 |nil=>rfl
 |cons e l=>rw [wr,if_pos rfl]
theorem wr_c {c:UInt8} (h1:c≠47) (h2:c≠126) (out:List Bs) (now l:Bs):wr out now (c::l)=wr out (now++[c]) l:=by
 cases l with
 |nil=>
  show (if c=47 then fin (out++[now]++[[]]) else if c=126 then ([],false) else fin (out++[now++[c]]))=fin (out++[now++[c]])
  rw [if_neg h1,if_neg h2]
 |cons e l=>rw [wr,if_neg h1,if_neg h2]
theorem wr_t (e:UInt8) (out:List Bs) (now l:Bs):wr out now (126::e::l)=if e=48 then wr out (now++[126]) l else if e=49 then wr out (now++[47]) l else ([],false):=by
 rw [wr,if_neg (by decide),if_pos rfl]
def FWr (s:Bs):List Bs × Bool:=match s with
 |[]=>([],true)
 |c::l=>if c=47 then wr [] [] l else ([],false)
theorem wr_enc:∀ (w:List Bs) (u now:Bs) (out:List Bs),wr out now (u.flatMap et_++FWay w)=fin (out++[now++u]++w)
 |[],[],now,out=>by simp [FWay,wr]
 |s::w,[],now,out=>by
  have e:([]:Bs).flatMap et_++FWay (s::w)=47::(s.flatMap et_++FWay w):=rfl
  rw [e,wr_sl,wr_enc w s [] _];simp
 |w,c::u,now,out=>by
  have ih:=fun x=>wr_enc w u (now++[x]) out
  rw [List.flatMap_cons,List.append_assoc]
  by_cases h1:c=126
  · have e:et_ c=[126,48]:=if_pos h1
    rw [e]
    show wr out now (126::48::(u.flatMap et_++FWay w))=_
    rw [wr_t,if_pos rfl,ih 126,h1];simp
  · by_cases h2:c=47
    · have e:et_ c=[126,49]:=by unfold et_;rw [if_neg h1,if_pos h2]
      rw [e]
      show wr out now (126::49::(u.flatMap et_++FWay w))=_
      rw [wr_t,if_neg (by decide),if_pos rfl,ih 47,h2];simp
    · have e:et_ c=[c]:=by unfold et_;rw [if_neg h1,if_neg h2]
      rw [e]
      show wr out now (c::(u.flatMap et_++FWay w))=_
      rw [wr_c h2 h1,ih c];simp
theorem FWr_enc {w:List Bs} (h:w.length≤6):FWr (FWay w)=(w,true):=by
 cases w with
 |nil=>rfl
 |cons s w=>
  have e:FWay (s::w)=47::(s.flatMap et_++FWay w):=rfl
  rw [e]
  show (if (47:UInt8)=47 then wr [] [] (s.flatMap et_++FWay w) else ([],false))=_
  rw [if_pos rfl,wr_enc]
  unfold fin
  rw [if_neg (by simp at h ⊢;omega)];simp
def WrOk (B:Nat) (x:List Bs × Bool):Prop:=x.1.length≤6∧∀ y ∈ x.1,y.length≤B
theorem fin_ok {B:Nat} {w:List Bs} (h:∀ y ∈ w,y.length≤B):WrOk B (fin w):=by
 unfold fin
 split
 · exact ⟨Nat.zero_le _,fun y h=>(by cases h)⟩
 · exact ⟨by simp only;omega,h⟩
theorem wr_ok {B:Nat}:∀ (n:Nat) (l now:Bs) (out:List Bs),l.length≤n→(∀ y ∈ out,y.length≤B)→now.length+l.length≤B→WrOk B (wr out now l):=by
 have app:∀ {now:Bs} {out:List Bs},(∀ y ∈ out,y.length≤B)→now.length≤B→∀ y ∈ out++[now],y.length≤B:=by
  intro now out h1 h2 y hy
  rcases List.mem_append.1 hy with hy|hy
  · exact h1 y hy
  · obtain rfl:=List.mem_singleton.1 hy;exact h2
 have bad:WrOk B (([]:List Bs),false):=⟨Nat.zero_le _,fun y h=>(by cases h)⟩
 intro n
 induction n with
 |zero=>
  intro l now out hl h1 h2
  have:l=[]:=List.eq_nil_of_length_eq_zero (by omega)
  subst this
  exact fin_ok (app h1 (by simpa using h2))
 |succ n ih=>
  intro l now out hl h1 h2
  cases l with
  |nil=>exact fin_ok (app h1 (by simpa using h2))
  |cons c l=>
   simp only [List.length_cons] at hl h2
   by_cases hc:c=47
   · subst hc
     rw [wr_sl]
     exact ih l [] _ (by omega) (app h1 (by omega)) (by simp;omega)
   · by_cases ht:c=126
     · subst ht
       cases l with
       |nil=>exact bad
       |cons e l=>
        rw [wr_t]
        simp only [List.length_cons] at hl h2
        split
        · exact ih l _ out (by omega) h1 (by simp;omega)
        · split
          · exact ih l _ out (by omega) h1 (by simp;omega)
          · exact bad
     · rw [wr_c hc ht]
       exact ih l _ out (by omega) h1 (by simp;omega)
theorem FWr_ok (s:Bs):WrOk s.length (FWr s):=by
 unfold FWr
 split
 · exact ⟨Nat.zero_le _,fun y h=>(by cases h)⟩
 · rename_i c l
   split
   · exact wr_ok l.length l [] [] (Nat.le_refl _) (fun y h=>(by cases h)) (by simp)
   · exact ⟨Nat.zero_le _,fun y h=>(by cases h)⟩
theorem fr_ {s:Bs} (hs:s.length≤1000000):Ev (fun n _=>aN_ n s) (FWr s):=by
 have key:∀ (K:Nat→aN_.K6),(∀ out now,out.length≤1000000→s≠[]→Ev (fun n _=>K n s [] out (bi now)) (fin (out++[now]))) →
   ∀ (m i:Nat) (out:List Bs) (now:Bs),s.length - i≤m→1≤i→i≤s.length→out.length≤i→now.length≤i →
   Ev (fun n N=>aN_.loop6 n (K n) N s (i:Int) [] out (bi now)) (wr out now (s.drop i)):=by
  intro K hK m
  induction m with
  |zero=>
   intro i out now hm h1 h2 h3 h4
   have:i=s.length:=by omega
   subst this
   rw [List.drop_length]
   refine bo_ ?_
   simp only [aN_.turn6,aN_.step6,cQ_,cond_false]
   exact hK out now (by omega) (fun e=>by rw [e] at h1;simp at h1)
  |succ m ih=>
   intro i out now hm h1 h2 h3 h4
   by_cases hi:i<s.length
   · have hd:=dA_ 0 hi
     have hbl:=hL_ now
     have hW:W ((i:Int)+1)=((i+1:Nat):Int):=by rw [W_id (by omega) (by omega)];omega
     have hW2:W (((i+1:Nat):Int)+1)=((i+2:Nat):Int):=by rw [W_id (by omega) (by omega)];omega
     have hz:((i:Int) == 0)=false:=beq_eq_false_iff_ne.2 (by omega)
     have hg:decide ((i:Int) > 0)=true:=decide_eq_true (by omega)
     refine bo_ ?_
     simp only [aN_.turn6,aN_.step6,cS_ hi,cond_true,bQ_,cG_ hi,true_and,Int.toNat_natCast,hW,hW2,hz,hg,cond_false,byte47,byte126,hc_,ce_]
     rw [hd]
     generalize hc:s.getD i 0=c
     by_cases c47:c=47
     · subst c47
       rw [wr_sl,decide_eq_true rfl]
       simp only [cond_true,ce_]
       exact ⟨by simp;omega,ih (i+1) (out++[now]) [] (by omega) (by omega) (by omega) (by simp;omega) (by simp)⟩
     · rw [decide_eq_false c47]
       simp only [cond_false]
       by_cases c126:c=126
       · subst c126
         rw [decide_eq_true rfl]
         simp only [cond_true]
         by_cases hi2:i+1<s.length
         · have hd2:=dA_ 0 hi2
           have hne:(((i+1:Nat):Int) == (s.length:Int))=false:=beq_eq_false_iff_ne.2 (by omega)
           rw [hd2,wr_t]
           simp only [hne,cond_false,bQ_,cG_ hi2,true_and,Int.toNat_natCast]
           generalize s.getD (i+1) 0=e
           have e48:((e.toNat:Int) == 48)=decide (e=48):=hK_ e 48 48 rfl
           have e49:((e.toNat:Int) == 49)=decide (e=49):=hK_ e 49 49 rfl
           have n1:=ih (i+2) out (now++[126]) (by omega) (by omega) (by omega) (by omega) (by simp;omega)
           have n2:=ih (i+2) out (now++[47]) (by omega) (by omega) (by omega) (by omega) (by simp;omega)
           rw [←kl_] at n1 n2
           simp only [bne,e48,e49]
           by_cases d48:e=48
           · subst d48
             simp only [decide_true,Bool.not_true,cond_false,cond_true,bQ_,cG_ hi,cG_ hi2,true_and,ce_,if_true]
             exact ⟨by simp;omega,n1⟩
           · by_cases d49:e=49
             · subst d49
               simp only [d48,decide_true,decide_false,Bool.not_true,Bool.not_false,cond_false,cond_true,bQ_,cG_ hi,cG_ hi2,true_and,ce_,if_true,if_false]
               exact ⟨by simp;omega,n2⟩
             · simp only [d48,d49,decide_false,Bool.not_false,cond_true,bQ_,cG_ hi,cG_ hi2,true_and,al_,if_false]
         · have hne:(((i+1:Nat):Int) == (s.length:Int))=true:=by simp;omega
           have hde:s.drop (i+1)=[]:=m1_ (by omega)
           rw [hde]
           simp only [hne,cond_true,bQ_,cG_ hi,true_and,al_]
           rfl
       · rw [wr_c c47 c126,decide_eq_false c126]
         have n1:=ih (i+1) out (now++[c]) (by omega) (by omega) (by omega) (by omega) (by simp;omega)
         rw [←kl_] at n1
         simp only [cond_false,bQ_,cG_ hi,true_and,ce_]
         exact ⟨by simp;omega,n1⟩
   · have:i=s.length:=by omega
     subst this
     rw [List.drop_length]
     refine bo_ ?_
     simp only [aN_.turn6,aN_.step6,cQ_,cond_false]
     exact hK out now (by omega) (fun e=>by rw [e] at h1;simp at h1)
 refine aV_ ?_
 simp only [aN_]
 cases s with
 |nil=>
  refine cF_ (f:=fun n N=>aN_.loop6 n (fun xy1 xy2 xy3 xy4=>(cond (!(xy1 == [])) (co_ (xy3.length+([(eT_ xy4)]:List Bs).length) 16 (cond (decide (((xy3++([(eT_ xy4)]:List Bs)).length:Int) > 6)) (some (xy2,false)) (some ((xy3++([(eT_ xy4)]:List Bs)),true)))) (cond (decide ((xy3.length:Int) > 6)) (some (xy2,false)) (some (xy3,true))))) N [] 0 [] [] []) (bo_ ?_)
  exact ⟨0,fun _ _ _ _=>rfl⟩
 |cons c l=>
  have hK:∀ out now,out.length≤1000000→c::l≠[]→Ev (fun n (_:Nat)=>(cond (!(c::l == [])) (co_ (out.length+([(eT_ (bi now))]:List Bs).length) 16 (cond (decide (((out++([(eT_ (bi now))]:List Bs)).length:Int) > 6)) (some (([]:List Bs),false)) (some ((out++([(eT_ (bi now))]:List Bs)),true)))) (cond (decide ((out.length:Int) > 6)) (some ([],false)) (some (out,true))))) (fin (out++[now])):=by
   intro out now h1 _
   have e:(!(c::l == []))=true:=rfl
   rw [e,hc_]
   simp only [cond_true,ce_,aH_,al_]
   unfold fin
   refine ⟨by simp;omega,fun h => ?_,fun h => ?_⟩
   · have h:=of_decide_eq_true h;rw [if_pos (by omega)]
   · have h:=of_decide_eq_false h;rw [if_neg (by omega)]
  refine cF_ (f:=fun n N=>aN_.loop6 n (fun xy1 xy2 xy3 xy4=>(cond (!(xy1 == [])) (co_ (xy3.length+([(eT_ xy4)]:List Bs).length) 16 (cond (decide (((xy3++([(eT_ xy4)]:List Bs)).length:Int) > 6)) (some (xy2,false)) (some ((xy3++([(eT_ xy4)]:List Bs)),true)))) (cond (decide ((xy3.length:Int) > 6)) (some (xy2,false)) (some (xy3,true))))) N (c::l) 0 [] [] []) (bo_ ?_)
  have hk:=key (fun _=>fun xy1 xy2 xy3 xy4=>(cond (!(xy1 == [])) (co_ (xy3.length+([(eT_ xy4)]:List Bs).length) 16 (cond (decide (((xy3++([(eT_ xy4)]:List Bs)).length:Int) > 6)) (some (xy2,false)) (some ((xy3++([(eT_ xy4)]:List Bs)),true)))) (cond (decide ((xy3.length:Int) > 6)) (some (xy2,false)) (some (xy3,true))))) hK l.length 1 [] [] (by simp) (Nat.le_refl _) (by simp) (by simp) (by simp)
  have c0:decide ((0:Int)<(((c::l).length:Nat):Int))=true:=decide_eq_true (by simp)
  have cg:decide ((0:Int) > 0)=false:=rfl
  have cz:((0:Int) == 0)=true:=rfl
  have hW:W ((0:Int)+1)=((1:Nat):Int):=rfl
  have hg0:(c::l).getD (0:Int).toNat 0=c:=rfl
  simp only [aN_.turn6,aN_.step6,c0,cond_true,bQ_,hg0,byte47,cg,cz,cond_false,hW]
  refine ⟨by simp,?_⟩
  unfold FWr
  by_cases c47:c=47
  · rw [decide_eq_true c47]
    simp only [c47,if_true,cond_true]
    rw [c47] at hk
    exact hk
  · rw [decide_eq_false c47]
    simp only [c47,if_false,cond_false,al_]
def FWi (s:Bs):List Bs × Bool:=if s=[] then ([],true) else
 if (((dp_ 47 s).drop 1).map fun p=>eH_ 126 48 [126] (eH_ 126 49 [47] p)).length > 6 then ([],false) else
 if FWay (((dp_ 47 s).drop 1).map fun p=>eH_ 126 48 [126] (eH_ 126 49 [47] p))=s then (((dp_ 47 s).drop 1).map fun p=>eH_ 126 48 [126] (eH_ 126 49 [47] p),true) else ([],false)
theorem gi_ {a b c:UInt8} {s:Bs} (hs:s.length≤1000000) (hne:([a,b] == [c])=false):Ev (fun n _=>strings_ReplaceAll n s [a,b] [c]) (eH_ a b [c] s):=by
 refine aV_ ?_
 have:=l1_ a b s
 simp only [strings_ReplaceAll,ej_,count2,lG_ a b [c] s hne,aH_,al_,cT_]
 refine ⟨fun _=>trivial,fun h => ?_⟩
 have e1:decide (s.length<4294967281)=true:=decide_eq_true (by omega)
 have e2:decide (1≤[a,b].length)=true:=rfl
 have e3:decide (s.length+cnt2 a b s*[c].length≤140737488355328)=true:=decide_eq_true (by simp only [List.length_cons,List.length_nil];omega)
 rw [e1,e2,e3] at h;cases h
theorem Split_ev {s:Bs} {b:UInt8} (hs:s.length≤1000000):Ev (fun n _=>strings_Split n s [b]) (dp_ b s):=by
 refine aV_ ?_
 have e1:decide (s.length<4294967281)=true:=decide_eq_true (by omega)
 have e2:decide (1≤[b].length)=true:=rfl
 simp only [strings_Split,mz_,split_one,e1,e2,Bool.and_self,cond_true,al_]
theorem fB_ {s:Bs} (hs:s.length≤60):Ev (fun n _=>a6_ n s) (FWi s):=by
 refine aV_ ?_
 simp only [a6_,aH_,al_,ae_ (Split_ev (s:=s) (b:=47) (by omega))]
 unfold FWi
 by_cases h0:s=[]
 · rw [if_pos h0,h0]
   exact ⟨fun _=>rfl,fun h=>(by cases h)⟩
 · rw [if_neg h0,beq_eq_false_iff_ne.2 h0]
   refine ⟨fun h=>(by cases h),fun _ => ?_⟩
   obtain ⟨hl,hp⟩:=hh_ 47 s
   obtain ⟨p,ps,e⟩:=hg_ 47 s
   rw [e] at hl hp ⊢
   have e1:(((p::ps).length:Nat):Int).toNat=ps.length+1:=by simp
   have e2:((p::ps).take (ps.length+1)).drop 1=ps:=by
    rw [List.take_of_length_le (by simp)];rfl
   have e3:(ps.length+1 - 1:Nat)=ps.length:=rfl
   have e4:(p::ps).drop 1=ps:=rfl
   simp only [e1,e2,e3,e4,dr_]
   refine ⟨by simp only [List.length_cons] at hl ⊢;omega,?_⟩
   simp only [List.length_cons] at hl
   have hps:∀ q ∈ ps,q.length≤60:=fun q hq=>by have:=hp q (List.mem_cons_of_mem _ hq);omega
   refine ev_map [] ps (fun p=>eH_ 126 48 [126] (eH_ 126 49 [47] p)) (fun n N i (o:List Bs)=>a6_.loop7 n (fun xy4 xy5=>(cond (decide ((xy5.length:Int) > 6)) (some (([]:List Bs),false)) ((a0_ n xy5).bind fun xr6=>(cond (!(xr6 == xy4)) (some (([]:List Bs),false)) (some (xy5,true)))))) N s ps (ps.length:Int) (i:Int) o) _ (fun i o hi ho F hF => ?_) ?_
   · have hq:=hps _ (cC_ [] hi)
     have r1:=gi_ (a:=126) (b:=49) (c:=47) (s:=ps.getD i []) (by omega) rfl
     have r1l:=eX_ 126 49 47 (ps.getD i [])
     have r2:=gi_ (a:=126) (b:=48) (c:=126) (s:=eH_ 126 49 [47] (ps.getD i [])) (by omega) rfl
     have hW:=W_up hi (show ps.length≤cz_ by simp only [cz_];omega)
     simp only [a6_.turn7,a6_.step7,cS_ hi,cond_true,bQ_,cG_ hi,true_and,Int.toNat_natCast,hW,ae_ r1,ae_ r2,ce_]
     exact ⟨by simp;omega,hF⟩
   · generalize hw:ps.map (fun p=>eH_ 126 48 [126] (eH_ 126 49 [47] p))=w
     have hwl:∀ q ∈ w,q.length≤60:=by
      intro q hq
      rw [←hw] at hq
      obtain ⟨x,hx,rfl⟩:=List.mem_map.1 hq
      have:=eX_ 126 49 47 x
      have:=eX_ 126 48 126 (eH_ 126 49 [47] x)
      have:=hps x hx
      omega
     simp only [a6_.turn7,a6_.step7,cQ_,cond_false,aH_,al_]
     refine ⟨fun h => ?_,fun h => ?_⟩
     · have h:=of_decide_eq_true h;rw [if_pos (by omega)]
     · have h:=of_decide_eq_false h
       rw [if_neg (by omega)]
       simp only [ae_ (fA_ (w:=w) (by omega) hwl),aH_,al_]
       by_cases he:FWay w=s
       · rw [he,if_pos rfl];simp
       · rw [if_neg he,beq_eq_false_iff_ne.2 he];simp
theorem FWi_enc {w:List Bs} (h:w.length≤6):FWi (FWay w)=(w,true):=by
 unfold FWi
 cases w with
 |nil=>rfl
 |cons s w=>
  have e:FWay (s::w)≠[]:=by
   show 47::_≠[]
   intro e;cases e
  have e2:((dp_ 47 (FWay (s::w))).drop 1).map (fun p=>eH_ 126 48 [126] (eH_ 126 49 [47] p))=s::w:=by
   rw [kD_]
   show (((s::w).map fun s=>s.flatMap et_).map fun p=>eH_ 126 48 [126] (eH_ 126 49 [47] p))=_
   rw [List.map_map]
   refine (List.map_congr_left fun x _ => ?_).trans (List.map_id _)
   show eH_ 126 48 [126] (eH_ 126 49 [47] (x.flatMap et_))=x
   rw [unesc1,unesc2]
  rw [if_neg e,e2,if_neg (by omega),if_pos rfl]
theorem FWi_ok {s:Bs}:WrOk s.length (FWi s):=by
 unfold FWi
 split
 · exact ⟨Nat.zero_le _,fun y h=>(by cases h)⟩
 · split
   · exact ⟨Nat.zero_le _,fun y h=>(by cases h)⟩
   · rename_i h
     split
     · refine ⟨by simp only;omega,fun y hy => ?_⟩
       obtain ⟨x,hx,rfl⟩:=List.mem_map.1 hy
       have h1:=eX_ 126 49 47 x
       have h2:=eX_ 126 48 126 (eH_ 126 49 [47] x)
       have h3:=(hh_ 47 s).2 x (List.mem_of_mem_drop hx)
       omega
     · exact ⟨Nat.zero_le _,fun y h=>(by cases h)⟩
end Go.Pi
end
section
namespace Go.Pi
theorem jG_:∀ (d:Nat) (j:aa_),eb_ d j j=true
 |0,_=>rfl
 |d+1,j=>by
  simp only [eb_,gx_,beq_self_eq_true,decide_true,Bool.true_and,Bool.and_eq_true]
  exact ⟨f4_.2 fun i _=>by simp,f4_.2 fun i _=>jG_ d _⟩
theorem kK_ {j:aa_} (h:bD_ 6 j≤400):eQ_ j j=true:=by
 unfold eQ_ cO_
 rw [decide_eq_true h,jG_];rfl
theorem jN_ {j:aa_} (h:bD_ 6 j≤400):j.s.length≤60:=by
 have ho2:=dK_ (dy_ h)
 by_cases hk:j.kind=3
 · exact fP_ (ho2.text hk)
 · rw [ho2.s0 hk];exact Nat.zero_le _
theorem j7_ {k:Int} {x:List Bs × Bool} {v:aa_} {s:Bs} (hs:s.length≤60) (hw:WrOk s.length x) (hv:bD_ 6 v≤400):d3_ (TOp.mk k x.1 v) :=
 ⟨⟨by have:=hw.1;show x.1.length≤cz_;simp only [cz_];omega,fun y hy=>by have:=hw.2 y hy;simp only [cz_];omega⟩,cL_ 6 v hv⟩
theorem dE_:d3_ (TOp.mk 0 [] (aa_.mk 0 0 [] [] [])):=⟨⟨Nat.zero_le _,fun y h=>(by cases h)⟩,ek_ 6⟩
abbrev dF_:List Bs:=[[97,100,100],[114,101,109,111,118,101],[114,101,112,108,97,99,101],[116,101,115,116]]
theorem jj_:Ev (fun n _=>bT_ n ()) dF_:=aV_ (by simp only [bT_,al_])
theorem jn_:Ev (fun n _=>bS_ n ()) ([]::dF_):=aV_ (by simp only [bS_,al_])
theorem iA_ {p:aa_} (h:bD_ 6 p≤400):Ans (fun n _=>cb_ n p) fun x=>d3_ x.1:=by
 refine cY_ ?_
 have hs:=jN_ (el_ h d1_)
 have hv:=el_ h e0_
 have hw:=FWi_ok (s:=(ea_ p d1_).1.s)
 have hL:=fun k=>j7_ (k:=k) hs hw hv
 simp only [cb_,by_,bP_ (gU_ h),bP_ (fB_ hs),bP_ jj_,bP_ (er_ (l:=dF_) (by decide)),cv_,cp_]
 refine ⟨fun _=>dE_,fun _=>⟨fun _=>dE_,fun _=>⟨fun _=>dE_,fun _ => ?_⟩⟩⟩
 have hk:=hL (W (1+FIdx dF_ (ea_ p [111,112]).1.s))
 simp only [bP_ (fC_ hk),bP_ (dY_ hk),bP_ (fh_ (gq_ hk) (cL_ 6 p h)),cv_,cp_]
 exact ⟨fun _=>dE_,fun _=>⟨fun _=>dE_,fun _=>hk⟩⟩
structure OpIn (o:TOp):Prop where
 ok:ga_ o=true
 val:cx_ o=dd_ o
 size:bD_ 6 (dd_ o)≤400
theorem op_in {o:TOp} (h:(cx_ o).kind≠0):OpIn o:=by
 unfold cx_ at h
 cases ho:ga_ o with
 |false=>rw [ho] at h;exact absurd rfl h
 |true=>
  rw [ho,cond_true] at h
  unfold iT_ at h
  cases hj:cO_ (dd_ o) with
  |false=>rw [hj] at h;exact absurd rfl h
  |true=>
   refine ⟨ho,?_,of_decide_eq_true hj⟩
   unfold cx_ iT_
   rw [ho,hj];rfl
theorem ks_ {j:aa_} (h:g8_ j=true):j=fl_:=by
 unfold g8_ at h
 simp only [Bool.and_eq_true,beq_iff_eq,decide_eq_true_eq] at h
 obtain ⟨h1,h2,h3,h4,h5⟩:=h
 obtain ⟨k,n,s,l,ns⟩:=j
 simp only at h1 h2 h3 h4 h5
 rw [h1,h2,h3,List.eq_nil_of_length_eq_zero h4,List.eq_nil_of_length_eq_zero h5];rfl
theorem val_of {o:TOp} (h:ga_ o=true) (hk:o.kind=2):o.value=fl_:=by
 unfold ga_ at h
 simp only [Bool.and_eq_true,Bool.or_eq_true] at h
 rcases h.2.2.2.2 with h|h
 · rw [hk] at h;exact absurd h (by decide)
 · exact ks_ h
theorem mV_ {o:TOp}:ea_ (dd_ o) nW_=(ng_ (d9_ o.kind),true):=by
 unfold dd_
 cases (o.kind == 2)<;>rfl
theorem hr_ {o:TOp}:ea_ (dd_ o) d1_=(ng_ (FWay o.way),true):=by
 unfold dd_
 cases (o.kind == 2)<;>rfl
theorem iE_ {o:TOp} (h:ga_ o=true):(ea_ (dd_ o) e0_).1=o.value:=by
 unfold dd_
 cases hk:(o.kind == 2) with
 |false=>rfl
 |true=>rw [val_of h (by simpa using hk)];rfl
theorem kind_back {o:TOp} (h:OpIs o):W (1+FIdx dF_ (d9_ o.kind))=o.kind:=by
 rcases h.kind with e|e|e|e<;>rw [e]<;>decide
theorem lt_ {o:TOp} (h:OpIn o):(FWay o.way).length≤60:=by
 have:=jN_ (el_ h.size d1_)
 rw [hr_] at this
 exact this
theorem iz_ {o:TOp} (h:OpIn o):Ev (fun n _=>cb_ n (dd_ o)) (o,true):=by
 have hi:=lH_ h.ok
 have hL:d3_ o:=j7_ (x:=(o.way,true)) (v:=o.value) (s:=FWay o.way) (lt_ h) ⟨hi.way,fun y hy=>by
  have:y.length≤(y.flatMap et_).length:=by
   clear hy
   induction y with
   |nil=>exact Nat.le_refl _
   |cons c y ih=>rw [List.flatMap_cons,List.length_append,List.length_cons];have:1≤(et_ c).length:=by unfold et_;split<;>(try split)<;>simp
                 omega
  have:∀ w:List Bs,y ∈ w→(y.flatMap et_).length≤(FWay w).length:=by
   intro w
   induction w with
   |nil=>intro h;cases h
   |cons s w ih=>
    intro h
    have e:FWay (s::w)=(47::s.flatMap et_)++FWay w:=rfl
    rw [e,List.length_append,List.length_cons]
    rcases List.mem_cons.1 h with rfl|h
    · omega
    · have:=ih h;omega
  have:=this o.way hy
  simp only at hy;omega⟩ hi.val
 have hop:=mV_ (o:=o)
 have hpa:=hr_ (o:=o)
 have hva:=iE_ h.ok
 have hs:=lt_ h
 have hW:=kind_back hi
 have hw:Ev (fun n _=>a6_ n (FWay o.way)) (o.way,true):=by rw [←FWi_enc hi.way];exact fB_ hs
 have hS:=fh_ (a:=dd_ o) (b:=dd_ o) (cL_ 6 _ h.size) (cL_ 6 _ h.size)
 rw [kK_ h.size] at hS
 have hJ:=dY_ hL
 rw [h.val] at hJ
 have hK:=fC_ hL
 rw [h.ok] at hK
 unfold nW_ at hop
 unfold d1_ at hpa
 refine aV_ ?_
 simp only [cb_,by_,ae_ (gU_ h.size),hop,hpa,hva,ng_,ae_ hw,ae_ jj_,ae_ (er_ (l:=dF_) (by decide)),hW,Bool.not_true,cond_false,gd_,ae_ hK,ae_ hJ,ae_ hS,al_]
def FK (k:Int) (s:Bs):Nat→Nat→Int→Int
 |0,_,t=>t
 |j+1,i,t=>FK k s j (i+1) (cond (k == 3) (cond (s == ([]::dF_).getD i []) (i:Int) t) t)
theorem ip_ {K:Nat→aK_.K7} {F:TOp × Bool} {a0 a1:Int} {a2:Bs} {a3:List aa_} {a4:List Bs} {b1 b2 b3:Int} {b4:Bs} {c2 c3:Int} {c4:Bs} {k d1:Int} {s:Bs} {e0 e1:Int} {e2:Bs} {f3:List aa_} {f4:List Bs} {g3:List aa_} {g4:List Bs} :
  ∀ (j i:Nat) (t:Int),i+j=5→Ev (fun n _=>K n a0 a1 a2 a3 a4 b1 b2 b3 b4 (FK k s j i t) c2 c3 c4 e0 e1 e2 g3 g4) F →
    Ev (fun n N=>aK_.loop7 n (K n) N (i:Int) a0 a1 a2 a3 a4 b1 b2 b3 b4 t c2 c3 c4 k d1 s e0 e1 e2 ([]::dF_) f3 f4 g3 g4) F:=by
 have hlen:(([]:Bs)::dF_).length=5:=rfl
 intro j
 induction j with
 |zero=>
  intro i t hi hK
  obtain rfl:i=5:=by omega
  refine bo_ ?_
  have:decide (((5:Nat):Int)<(((([]:Bs)::dF_).length:Nat):Int))=false:=by rw [hlen];exact decide_eq_false (by omega)
  simp only [aK_.turn7,aK_.step7,this,cond_false]
  exact hK
 |succ j ih=>
  intro i t hi hK
  have hlt:i<(([]:Bs)::dF_).length:=by rw [hlen];omega
  have hW:W ((i:Int)+1)=((i+1:Nat):Int):=by rw [W_id (by omega) (by omega)];omega
  refine bo_ ?_
  simp only [aK_.turn7,aK_.step7,cS_ hlt,cond_true,Int.toNat_natCast,hW,aH_,bQ_,cG_ hlt,true_and]
  unfold FK at hK
  refine ⟨fun h3 => ?_,fun h3 => ?_⟩
  · rw [h3,cond_true] at hK
    exact ⟨fun he=>by rw [he,cond_true] at hK;exact ih (i+1) _ (by omega) hK,fun he=>by rw [he,cond_false] at hK;exact ih (i+1) _ (by omega) hK⟩
  · rw [h3,cond_false] at hK
    exact ih (i+1) _ (by omega) hK
theorem tail_any {p:aa_} (h:bD_ 6 p≤400) {t:Bool} {k:Int} {w:List Bs} {v:aa_} {b1 b2 b3:Int} {b4:Bs} (hk:d3_ (TOp.mk k w v)) :
  Ans (fun n (_:Nat)=>aK_.tail15 n t p.kind p.n_ p.s p.list p.names b1 b2 b3 b4 k w v.kind v.n_ v.s v.list v.names) fun x=>d3_ x.1:=by
 simp only [aK_.tail15,by_,dv_,cv_,cp_,bP_ (dW_ hk),bP_ (ff_ (gq_ hk) (cL_ 6 p h))]
 exact ⟨fun _=>dE_,fun _=>⟨fun _=>dE_,fun _=>⟨fun _=>dE_,fun _=>hk⟩⟩⟩
theorem ic_ {p:aa_} (h:bD_ 6 p≤400):Ans (fun n _=>aK_ n p) fun x=>d3_ x.1:=by
 have hs:=jN_ (el_ h d1_)
 have hv:=el_ h e0_
 have hw:=FWr_ok (ea_ p d1_).1.s
 have hL:=fun k=>j7_ (k:=k) hs hw hv
 refine cY_ ?_
 simp only [aK_,by_,bP_ (ed_ h),bP_ jn_]
 obtain ⟨v,h1,h2⟩:=tail_any h (t:=(FWr (ea_ p d1_).1.s).2) (b1:=0) (b2:=0) (b3:=0) (b4:=[]) (hL (FK (ea_ p nW_).1.kind (ea_ p nW_).1.s 4 1 0))
 refine ⟨v,?_,h2⟩
 refine cF_ (ip_ (K:=fun n=>fun xy4 xy5 xy6 xy7 xy8 xy9 xy10 xy11 xy12 xy13 xy14 xy15 xy16 xy17 xy18 xy19 xy20 xy21=>((aN_ n xy19).bind fun xr22=>((cj_ n (aa_.mk xy4 xy5 xy6 xy7 xy8) [118,97,108,117,101]).bind fun xr23=>(aK_.tail15 n xr22.2 xy4 xy5 xy6 xy7 xy8 xy9 xy10 xy11 xy12 xy13 xr22.1 xr23.1.kind xr23.1.n_ xr23.1.s xr23.1.list xr23.1.names)))) 4 1 0 rfl ?_)
 simp only [dv_,ae_ (fr_ (s:=(ea_ p d1_).1.s) (by omega)),ae_ (ed_ h)]
 exact h1
theorem nx_ {o:TOp} (h:OpIs o):FK 3 (d9_ o.kind) 4 1 0=o.kind:=by
 rcases h.kind with e|e|e|e<;>rw [e]<;>decide
theorem mH_ {o:TOp} (h:OpIn o):d3_ o:=by
 have hi:=lH_ h.ok
 exact ⟨⟨by have:=hi.way;simp only [cz_];omega,fun y hy=>by have:=hi.text y hy;simp only [cz_];omega⟩,cL_ 6 _ hi.val⟩
theorem ib_ {o:TOp} (h:OpIn o):Ev (fun n _=>aK_ n (dd_ o)) (o,true):=by
 have hi:=lH_ h.ok
 have hL:=mH_ h
 have hop:=mV_ (o:=o)
 have hpa:=hr_ (o:=o)
 have hva:=iE_ h.ok
 have hs:=lt_ h
 have hW:=nx_ hi
 have hw:Ev (fun n _=>aN_ n (FWay o.way)) (o.way,true):=by rw [←FWr_enc hi.way];exact fr_ (by omega)
 have hS:=ff_ (a:=dd_ o) (b:=dd_ o) (cL_ 6 _ h.size) (cL_ 6 _ h.size)
 rw [kK_ h.size] at hS
 have hJ:=dW_ hL
 rw [h.val] at hJ
 have hk0:(o.kind == 0)=false:=beq_eq_false_iff_ne.2 (by rcases hi.kind with e|e|e|e<;>omega)
 unfold nW_ at hop
 unfold d1_ at hpa
 refine aV_ ?_
 simp only [aK_,by_,ae_ (ed_ h.size),ae_ jn_,hop,hpa,ng_]
 refine cF_ (ip_ (K:=fun n=>fun xy4 xy5 xy6 xy7 xy8 xy9 xy10 xy11 xy12 xy13 xy14 xy15 xy16 xy17 xy18 xy19 xy20 xy21=>((aN_ n xy19).bind fun xr22=>((cj_ n (aa_.mk xy4 xy5 xy6 xy7 xy8) [118,97,108,117,101]).bind fun xr23=>(aK_.tail15 n xr22.2 xy4 xy5 xy6 xy7 xy8 xy9 xy10 xy11 xy12 xy13 xr22.1 xr23.1.kind xr23.1.n_ xr23.1.s xr23.1.list xr23.1.names)))) 4 1 0 rfl ?_)
 simp only [dv_,hW,ae_ hw,ae_ (ed_ h.size),hva,aK_.tail15,by_,Bool.not_true,hk0,cond_false,gd_,ae_ hJ,ae_ hS,al_]
end Go.Pi
end
section
namespace Go.Pi
def aO_.size (s:aO_):Nat:=szB s.wait
def aO_.len (s:aO_):Prop:=lenB s.wait
mutual
def aa_.size:aa_→Nat
 |⟨_,_,s,l,ns⟩=>s.length+((l.length+aa_.sizes l)+dc_ szB ns)
def aa_.sizes:List aa_→Nat
 |[]=>0
 |x::l=>aa_.size x+aa_.sizes l
end
mutual
def aa_.len:aa_→Prop
 |⟨_,_,s,l,ns⟩=>s.length≤cz_∧(l.length≤cz_∧aa_.lens l)∧lenL lenB ns
def aa_.lens:List aa_→Prop
 |[]=>True
 |x::l=>aa_.len x∧aa_.lens l
end
theorem aa_.sizes_eq:∀ l:List aa_,aa_.sizes l=dD_ aa_.size l
 |[]=>by simp only [aa_.sizes,dD_]
 |x::l=>by simp only [aa_.sizes,dD_,aa_.sizes_eq l]
theorem aa_.lens_iff:∀ l:List aa_,aa_.lens l↔∀ x ∈ l,aa_.len x
 |[]=>by simp [aa_.lens]
 |x::l=>by simp [aa_.lens,aa_.lens_iff l]
theorem aa_.size_eq (j:aa_):aa_.size j=j.s.length+(dc_ aa_.size j.list+dc_ szB j.names):=by
 cases j;simp only [aa_.size,aa_.sizes_eq,dc_]
theorem aa_.len_iff (j:aa_):aa_.len j↔j.s.length≤cz_∧lenL aa_.len j.list∧lenL lenB j.names:=by
 cases j;simp only [aa_.len,aa_.lens_iff,lenL]
theorem aa_.re_eq (j:aa_):aa_.re j=j:=by cases j;rfl
theorem aa_.dec {x:aa_} {a:List aa_} (h:x ∈ a):SizeOf.sizeOf x.list<SizeOf.sizeOf a:=by
 have h1:=List.sizeOf_lt_of_mem h
 have h2:SizeOf.sizeOf x.list<SizeOf.sizeOf x:=by cases x;simp;omega
 omega
def TOp.size (s:TOp):Nat:=(dc_ szB) s.way+aa_.size s.value
def TOp.len (s:TOp):Prop:=(lenL lenB) s.way∧aa_.len s.value
theorem TOp.eta (x:TOp):TOp.mk x.kind x.way x.value=x:=rfl
def aj_.size (s:aj_):Nat:=aa_.size s.doc+(dc_ TOp.size) s.ops
def aj_.len (s:aj_):Prop:=aa_.len s.doc∧(lenL TOp.len) s.ops
theorem aj_.eta (x:aj_):aj_.mk x.kind x.version x.base x.doc x.ops=x:=rfl
def a8_.size (s:a8_):Nat:=szB s.s
def a8_.len (s:a8_):Prop:=lenB s.s
def aQ_.size (s:aQ_):Nat:=szB s.text
def aQ_.len (s:aQ_):Prop:=lenB s.text
theorem ly_ {a:aO_} {l:Int} (ha:aO_.len a) (h0:0≤l) (h1:l≤1048576):Ev (fun n _=>b1_ n a l) (ja_ l (aO_.size a)):=by
 refine aV_ ?_
 have e:aO_.size a=a.wait.length+(0):=by simp only [aO_.size,szB];omega
 rw [e];clear e
 have h0_0:=h0;have h0_1:=h1
 exact ev_szL h0_0 h0_1 (ha) fun r1 h1_0 h1_1=>ev_szE h1_0
theorem lw_ {a:aO_} (ha:aO_.size a≤cap):Ev (fun n _=>bL_ n a) a:=by
 refine aV_ ?_
 simp only [bL_,al_]
theorem lT_ {a:aO_} (ha:aO_.size a≤cz_):Ev (fun n _=>bO_ n a a) true:=by
 refine aV_ ?_
 simp only [bO_,bne_self_eq_false,beq_self_eq_true,Bool.not_true,cond_false,al_]
theorem jB_ {a:List aa_} (ha:dc_ aa_.size a≤cz_) (ih:∀ x ∈ a,Ev (fun n _=>bG_ n x x) true):Ev (fun n _=>a4_ n a a) true:=by
 refine aV_ ?_
 have hl:=db_ aa_.size a
 simp only [a4_,aH_,bne_self_eq_false]
 refine ⟨fun h=>(by cases h),fun _ => ?_⟩
 refine mX_ (fun n N i=>a4_.loop6 n (bG_ n) (some true) N a a (i:Int)) (fun _=>true) a.length fun i hi k => ?_
 show Ev (fun n N=>a4_.step6 n (bG_ n) (some true) (a4_.loop6 n (bG_ n) (some true) N) a a (i:Int)) true
 by_cases h:i<a.length
 · simp only [a4_.step6,aa_.re_eq,Int.toNat_natCast,aH_,bQ_,ae_ (ih _ (cC_ aa_.dflt h)),bne_self_eq_false,beq_self_eq_true,Bool.not_true,W_up h (show a.length≤cz_ by omega)]
   exact ⟨fun _=>⟨⟨by omega,by omega⟩,⟨by omega,by omega⟩,fun h=>(by cases h),fun _=>k h⟩,fun h'=>absurd h (by simpa using h')⟩
 · simp only [a4_.step6,aH_,al_]
   exact ⟨fun h'=>absurd (of_decide_eq_true h') (by omega),fun _=>trivial⟩
theorem hH_ {a:List Bs} (ha:(dc_ szB) a≤cz_):Ev (fun n _=>aJ_ n a a) true:=by
 refine aV_ ?_
 have hl:=db_ szB a
 simp only [aJ_,aH_,bne_self_eq_false]
 refine ⟨fun h=>(by cases h),fun _ => ?_⟩
 refine mX_ (fun n N i=>aJ_.loop6 n (some true) N a a (i:Int)) (fun _=>true) a.length fun i hi k => ?_
 show Ev (fun n N=>aJ_.step6 n (some true) (aJ_.loop6 n (some true) N) a a (i:Int)) true
 by_cases h:i<a.length
 · simp only [aJ_.step6,Int.toNat_natCast,aH_,bQ_,bne_self_eq_false,beq_self_eq_true,Bool.not_true,W_up h (show a.length≤cz_ by omega)]
   exact ⟨fun _=>⟨⟨by omega,by omega⟩,⟨by omega,by omega⟩,fun h=>(by cases h),fun _=>k h⟩,fun h'=>absurd h (by simpa using h')⟩
 · simp only [aJ_.step6,aH_,al_]
   exact ⟨fun h'=>absurd (of_decide_eq_true h') (by omega),fun _=>trivial⟩
theorem hs_ (a:aa_) (ha:aa_.size a≤cz_):Ev (fun n _=>bG_ n a a) true:=by
 have hq:=aa_.size_eq a
 refine aV_ ?_
 have h1:=jB_ (a:=a.list) (by omega) fun x hx=>hs_ x (by have:=hV_ aa_.size hx;omega)
 have h2:=hH_ (a:=a.names) (by omega)
 simp only [bG_,ae_ h1,ae_ h2,bne_self_eq_false,beq_self_eq_true,Bool.not_true,cond_false,al_]
termination_by SizeOf.sizeOf a
decreasing_by
 have:=List.sizeOf_lt_of_mem hx
 cases a
 simp at this ⊢
 omega
theorem lf_ {a:aa_} (ha:aa_.size a≤cz_):Ev (fun n _=>bG_ n a a) true:=hs_ a ha
theorem eqJsonS_ev {a:List aa_} (ha:dc_ aa_.size a≤cz_):Ev (fun n _=>a4_ n a a) true:=jB_ ha fun x hx=>hs_ x (by have:=hV_ aa_.size hx;omega)
theorem eqOp_ev {a:TOp} (ha:TOp.size a≤cz_):Ev (fun n _=>cE_ n a a) true:=by
 refine aV_ ?_
 simp only [TOp.size] at ha
 have h0:=hH_ (a:=a.way) (by omega)
 have h1:=lf_ (a:=a.value) (by omega)
 simp only [cE_,aa_.re_eq,TOp.eta,ae_ h0,ae_ h1,bne_self_eq_false,beq_self_eq_true,Bool.not_true,cond_false,al_]
theorem eqOpS_ev {a:List TOp} (ha:(dc_ TOp.size) a≤cz_):Ev (fun n _=>bn_ n a a) true:=by
 refine aV_ ?_
 have hl:=db_ TOp.size a
 simp only [bn_,aH_,bne_self_eq_false]
 refine ⟨fun h=>(by cases h),fun _ => ?_⟩
 refine mX_ (fun n N i=>bn_.loop6 n (some true) N a a (i:Int)) (fun _=>true) a.length fun i hi k => ?_
 show Ev (fun n N=>bn_.step6 n (some true) (bn_.loop6 n (some true) N) a a (i:Int)) true
 by_cases h:i<a.length
 · simp only [bn_.step6,Int.toNat_natCast,aH_,bQ_,aa_.re_eq,TOp.eta,ae_ (eqOp_ev (a:=a.getD i TOp.dflt) (by have:=hV_ TOp.size (cC_ TOp.dflt h);omega)),bne_self_eq_false,beq_self_eq_true,Bool.not_true,W_up h (show a.length≤cz_ by omega)]
   exact ⟨fun _=>⟨⟨by omega,by omega⟩,⟨by omega,by omega⟩,fun h=>(by cases h),fun _=>k h⟩,fun h'=>absurd h (by simpa using h')⟩
 · simp only [bn_.step6,aH_,al_]
   exact ⟨fun h'=>absurd (of_decide_eq_true h') (by omega),fun _=>trivial⟩
theorem nK_ {a:aj_} (ha:aj_.size a≤cz_):Ev (fun n _=>b6_ n a a) true:=by
 refine aV_ ?_
 simp only [aj_.size] at ha
 have h0:=lf_ (a:=a.doc) (by omega)
 have h1:=eqOpS_ev (a:=a.ops) (by omega)
 simp only [b6_,aa_.re_eq,aj_.eta,ae_ h0,ae_ h1,bne_self_eq_false,beq_self_eq_true,Bool.not_true,cond_false,al_]
theorem lU_ {a:List aj_} (ha:(dc_ aj_.size) a≤cz_):Ev (fun n _=>aU_ n a a) true:=by
 refine aV_ ?_
 have hl:=db_ aj_.size a
 simp only [aU_,aH_,bne_self_eq_false]
 refine ⟨fun h=>(by cases h),fun _ => ?_⟩
 refine mX_ (fun n N i=>aU_.loop6 n (some true) N a a (i:Int)) (fun _=>true) a.length fun i hi k => ?_
 show Ev (fun n N=>aU_.step6 n (some true) (aU_.loop6 n (some true) N) a a (i:Int)) true
 by_cases h:i<a.length
 · simp only [aU_.step6,Int.toNat_natCast,aH_,bQ_,aa_.re_eq,aj_.eta,ae_ (nK_ (a:=a.getD i aj_.dflt) (by have:=hV_ aj_.size (cC_ aj_.dflt h);omega)),bne_self_eq_false,beq_self_eq_true,Bool.not_true,W_up h (show a.length≤cz_ by omega)]
   exact ⟨fun _=>⟨⟨by omega,by omega⟩,⟨by omega,by omega⟩,fun h=>(by cases h),fun _=>k h⟩,fun h'=>absurd h (by simpa using h')⟩
 · simp only [aU_.step6,aH_,al_]
   exact ⟨fun h'=>absurd (of_decide_eq_true h') (by omega),fun _=>trivial⟩
theorem e1_ (n:Nat) (k0:Bs→Option Bs) (N:Nat) (k:Int) (out:Bs):aF_.loop6 n k0 (N+1) k out=aF_.step6 n k0 (aF_.loop6 n k0 N) k out:=rfl
theorem e2_ (k:Int) (hk:k≤cz_):∃ t,Ev (fun n _=>aF_ n k) t:=by
 by_cases h0:k≤0
 · exact ⟨[109,48],aV_ (by simp only [aF_,aH_,al_];exact ⟨fun _=>trivial,fun h=>absurd h0 (of_decide_eq_false h)⟩)⟩
 have key:∀ (j:Nat) (k:Int) (out:Bs),k<10 ^ j→k≤cz_→out.length+j≤100→∃ t,Ev (fun n N=>aF_.loop6 n (fun xy2=>(cond (decide ([109].length+xy2.length≤9223372036854775807)) (some (([109]:Bs)++xy2)) none)) N k out) t:=by
  intro j
  induction j with
  |zero=>
   intro k out hj hk ho
   refine ⟨[109]++out,bo_ ?_⟩
   simp only [e1_,aF_.step6,aH_,al_,cT_]
   exact ⟨fun h=>absurd (of_decide_eq_true h) (by simp at hj;omega),fun _=>⟨fun _=>trivial,fun h=>absurd (of_decide_eq_false h) (by simp;omega)⟩⟩
  |succ j ih=>
   intro k out hj hk ho
   by_cases hp:k > 0
   · have e1:Int.tdiv k 10=k / 10:=Int.tdiv_eq_ediv_of_nonneg (by omega)
     have e2:W (Int.tdiv k 10)=k / 10:=by rw [e1];exact W_id (by omega) (by simp only [cz_] at hk;omega)
     obtain ⟨t,ht⟩:=ih (k / 10) ((eT_ ([(IntKind.u8.wrap ((W (48+(Int.tmod k 10)))))]:List Int))++out) (by rw [Int.pow_succ] at hj;omega) (by simp only [cz_] at hk ⊢;omega) (by simp [eT_];omega)
     refine ⟨t,bo_ ?_⟩
     simp only [e1_,aF_.step6,aH_,cT_,e2]
     exact ⟨fun _=>⟨fun _=>ht,fun h=>absurd (of_decide_eq_false h) (by simp [eT_];omega)⟩,fun h=>absurd hp (of_decide_eq_false h)⟩
   · refine ⟨[109]++out,bo_ ?_⟩
     simp only [e1_,aF_.step6,aH_,al_,cT_]
     exact ⟨fun h=>absurd (of_decide_eq_true h) hp,fun _=>⟨fun _=>trivial,fun h=>absurd (of_decide_eq_false h) (by simp;omega)⟩⟩
 obtain ⟨t,ht⟩:=key 19 k [] (by simp only [cz_] at hk;omega) hk (by simp)
 refine ⟨t,aV_ ?_⟩
 simp only [aF_,aH_]
 exact ⟨fun h=>absurd (of_decide_eq_true h) h0,fun _=>cF_ (f:=fun n N=>aF_.loop6 n _ N k []) ht⟩
theorem dX_ {a:List Bs} {k:Int} (ha:a.length≤cz_) (hk:0≤k) (hb:k+32*((dc_ szB) a:Nat)≤cz_) :
  ∃ k' a',k≤k'∧k'≤k+32*((dc_ szB) a:Nat)∧a'.length=a.length∧Ev (fun n _=>aq_ n a k) (k',a')∧Ev (fun n _=>ar_ n a' k) k':=by
 refine (ir_ [] szB (fun n N k i a=>aq_.loop3 n (fun xy3 xy4=>(some (xy3,xy4))) N k (i:Int) a) (fun n N a k i=>ar_.loop3 n (fun xy2=>(some xy2)) N a k (i:Int)) (fun i a k hi ha hk hb => ?_) (fun a k => ?_) (fun a k => ?_) a k ha hk hb).elim fun k' ⟨a',h1,h2,h3,h4,h5⟩=>⟨k',a',h1,h2,h3,aV_ h4,aV_ h5⟩
 · generalize hx:a.getD i []=x at *
   simp only [szB] at hb ⊢
   obtain ⟨t0,ht0⟩:=e2_ (k) (by omega)
   refine ⟨k+1,t0,by omega,by omega,fun F hF => ?_,fun b F hi' hb' hxb hF => ?_⟩
   · show Ev (fun n N=>aq_.step3 n (fun xy3 xy4=>(some (xy3,xy4))) (aq_.loop3 n (fun xy3 xy4=>(some (xy3,xy4))) N) k (i:Int) a) F
     simp only [aq_.step3,Int.toNat_natCast,aH_,bQ_,List.length_set,List.set_set,hZ_ [] hi,hx,ae_ ht0,c7_ (k:=k) (by omega) (by omega),W_up hi ha,decide_eq_true_eq,decide_eq_false_iff_not,Nat.beq_refl]
     refine ⟨fun _ => ?_,fun h=>absurd hi (by simpa using h)⟩
     repeat' (first|exact hF|apply And.intro|intro _|omega)
     all_goals (first|exact hF|(simp_all;done)|omega)
   · show Ev (fun n N=>ar_.step3 n (fun xy2=>(some xy2)) (ar_.loop3 n (fun xy2=>(some xy2)) N) b k (i:Int)) F
     simp only [ar_.step3,Int.toNat_natCast,aH_,bQ_,hxb,bne_self_eq_false,beq_self_eq_true,Bool.not_true,cond_false,ae_ ht0,c7_ (k:=k) (by omega) (by omega),W_up hi' hb',decide_eq_true_eq,decide_eq_false_iff_not]
     refine ⟨fun _ => ?_,fun h=>absurd hi' (by simpa using h)⟩
     repeat' (first|exact hF|apply And.intro|intro _|omega)
     all_goals (first|exact hF|(simp_all;done)|omega)
 · show Ev (fun n N=>aq_.step3 n (fun xy3 xy4=>(some (xy3,xy4))) (aq_.loop3 n (fun xy3 xy4=>(some (xy3,xy4))) N) k (a.length:Int) a) _
   simp only [aq_.step3,aH_,al_]
   exact ⟨fun h=>absurd (of_decide_eq_true h) (by omega),fun _=>trivial⟩
 · show Ev (fun n N=>ar_.step3 n (fun xy2=>(some xy2)) (ar_.loop3 n (fun xy2=>(some xy2)) N) a k (a.length:Int)) _
   simp only [ar_.step3,aH_,al_]
   exact ⟨fun h=>absurd (of_decide_eq_true h) (by omega),fun _=>trivial⟩
theorem gQ_ (a:List aa_) (k:Int) (ha:a.length≤cz_) (hk:0≤k) (hb:k+32*((dc_ aa_.size) a:Nat)≤cz_) :
  ∃ k' a',k≤k'∧k'≤k+32*((dc_ aa_.size) a:Nat)∧a'.length=a.length∧Ev (fun n _=>av_ n a k) (k',a')∧Ev (fun n _=>aw_ n a' k) k':=by
 have hq:∀ i,i<a.length→a.getD i aa_.dflt ∈ a:=fun i hi=>cC_ aa_.dflt hi
 obtain ⟨a0,ha0⟩:∃ a0,a0=a:=⟨_,rfl⟩
 refine (jl_ (fun x=>x ∈ a0) aa_.dflt aa_.size (fun n N k i a=>av_.loop3 n (av_ n) (fun xy9 xy10=>(some (xy9,xy10))) N k (i:Int) a) (fun n N a k i=>aw_.loop3 n (aw_ n) (fun xy4=>(some xy4)) N a k (i:Int)) (fun i a k hi hxm ha hk hb => ?_) (fun a k => ?_) (fun a k => ?_) a k (by rw [ha0];exact hq) ha hk hb).elim fun k' ⟨a',h1,h2,h3,h4,h5⟩=>⟨k',a',h1,h2,h3,aV_ h4,aV_ h5⟩
 · clear hq
   generalize hx:a.getD i aa_.dflt=x at *
   rw [ha0] at hxm
   have hdec:=aa_.dec hxm
   simp only [aa_.size_eq] at hb ⊢
   obtain ⟨t2,ht2⟩:=e2_ ((k+1)+1) (by omega)
   obtain ⟨k3,y3,u3,v3,l3,e3,g3⟩:=gQ_ x.list (((k+1)+1)+1) (by have:=db_ aa_.size (x.list);omega) (by omega) (by omega)
   obtain ⟨k4,y4,u4,v4,l4,e4,g4⟩:=dX_ (a:=x.names) (k:=k3) (by have:=db_ szB (x.names);omega) (by omega) (by omega)
   refine ⟨k4,(aa_.mk k (k+1) t2 y3 y4),by omega,by omega,fun F hF => ?_,fun b F hi' hb' hxb hF => ?_⟩
   · show Ev (fun n N=>av_.step3 n (av_ n) (fun xy9 xy10=>(some (xy9,xy10))) (av_.loop3 n (av_ n) (fun xy9 xy10=>(some (xy9,xy10))) N) k (i:Int) a) F
     simp only [av_.step3,Int.toNat_natCast,aH_,bQ_,List.length_set,List.set_set,hZ_ aa_.dflt hi,hx,ae_ ht2,ae_ e3,ae_ e4,aa_.re_eq,c7_ (k:=k) (by omega) (by omega),c7_ (k:=k+1) (by omega) (by omega),c7_ (k:=(k+1)+1) (by omega) (by omega),l3,l4,W_up hi ha,decide_eq_true_eq,decide_eq_false_iff_not,Nat.beq_refl]
     refine ⟨fun _ => ?_,fun h=>absurd hi (by simpa using h)⟩
     repeat' (first|exact hF|apply And.intro|intro _|omega)
     all_goals (first|exact hF|(simp_all;done)|omega)
   · show Ev (fun n N=>aw_.step3 n (aw_ n) (fun xy4=>(some xy4)) (aw_.loop3 n (aw_ n) (fun xy4=>(some xy4)) N) b k (i:Int)) F
     simp only [aw_.step3,Int.toNat_natCast,aH_,bQ_,hxb,bne_self_eq_false,beq_self_eq_true,Bool.not_true,cond_false,ae_ g3,ae_ g4,ae_ ht2,aa_.re_eq,c7_ (k:=k) (by omega) (by omega),c7_ (k:=k+1) (by omega) (by omega),c7_ (k:=(k+1)+1) (by omega) (by omega),l3,l4,W_up hi' hb',decide_eq_true_eq,decide_eq_false_iff_not]
     refine ⟨fun _ => ?_,fun h=>absurd hi' (by simpa using h)⟩
     repeat' (first|exact hF|apply And.intro|intro _|omega)
     all_goals (first|exact hF|(simp_all;done)|omega)
 · show Ev (fun n N=>av_.step3 n (av_ n) (fun xy9 xy10=>(some (xy9,xy10))) (av_.loop3 n (av_ n) (fun xy9 xy10=>(some (xy9,xy10))) N) k (a.length:Int) a) _
   simp only [av_.step3,aH_,al_]
   exact ⟨fun h=>absurd (of_decide_eq_true h) (by omega),fun _=>trivial⟩
 · show Ev (fun n N=>aw_.step3 n (aw_ n) (fun xy4=>(some xy4)) (aw_.loop3 n (aw_ n) (fun xy4=>(some xy4)) N) a k (a.length:Int)) _
   simp only [aw_.step3,aH_,al_]
   exact ⟨fun h=>absurd (of_decide_eq_true h) (by omega),fun _=>trivial⟩
termination_by SizeOf.sizeOf a
decreasing_by assumption
theorem hz_ {a:List aa_} {k:Int} (ha:a.length≤cz_) (hk:0≤k) (hb:k+32*(dc_ aa_.size a:Nat)≤cz_) :
  ∃ k' a',k≤k'∧k'≤k+32*(dc_ aa_.size a:Nat)∧a'.length=a.length∧Ev (fun n _=>av_ n a k) (k',a')∧Ev (fun n _=>aw_ n a' k) k':=gQ_ a k ha hk hb
theorem ns_ {a:List TOp} {k:Int} (ha:a.length≤cz_) (hk:0≤k) (hb:k+32*((dc_ TOp.size) a:Nat)≤cz_) :
  ∃ k' a',k≤k'∧k'≤k+32*((dc_ TOp.size) a:Nat)∧a'.length=a.length∧Ev (fun n _=>a2_ n a k) (k',a')∧Ev (fun n _=>a3_ n a' k) k':=by
 refine (ir_ TOp.dflt TOp.size (fun n N k i a=>a2_.loop3 n (fun xy12 xy13=>(some (xy12,xy13))) N k (i:Int) a) (fun n N a k i=>a3_.loop3 n (fun xy5=>(some xy5)) N a k (i:Int)) (fun i a k hi ha hk hb => ?_) (fun a k => ?_) (fun a k => ?_) a k ha hk hb).elim fun k' ⟨a',h1,h2,h3,h4,h5⟩=>⟨k',a',h1,h2,h3,aV_ h4,aV_ h5⟩
 · generalize hx:a.getD i TOp.dflt=x at *
   simp only [TOp.size,aa_.size_eq] at hb ⊢
   obtain ⟨k1,y1,u1,v1,l1,e1,g1⟩:=dX_ (a:=x.way) (k:=k+1) (by have:=db_ szB (x.way);omega) (by omega) (by omega)
   obtain ⟨t4,ht4⟩:=e2_ ((k1+1)+1) (by omega)
   obtain ⟨k5,y5,u5,v5,l5,e5,g5⟩:=hz_ (a:=x.value.list) (k:=((k1+1)+1)+1) (by have:=db_ aa_.size (x.value.list);omega) (by omega) (by omega)
   obtain ⟨k6,y6,u6,v6,l6,e6,g6⟩:=dX_ (a:=x.value.names) (k:=k5) (by have:=db_ szB (x.value.names);omega) (by omega) (by omega)
   refine ⟨k6,(TOp.mk k y1 (aa_.mk k1 (k1+1) t4 y5 y6)),by omega,by omega,fun F hF => ?_,fun b F hi' hb' hxb hF => ?_⟩
   · show Ev (fun n N=>a2_.step3 n (fun xy12 xy13=>(some (xy12,xy13))) (a2_.loop3 n (fun xy12 xy13=>(some (xy12,xy13))) N) k (i:Int) a) F
     simp only [a2_.step3,Int.toNat_natCast,aH_,bQ_,List.length_set,List.set_set,hZ_ TOp.dflt hi,hx,ae_ e1,ae_ ht4,ae_ e5,ae_ e6,aa_.re_eq,TOp.eta,c7_ (k:=k) (by omega) (by omega),l1,c7_ (k:=k1) (by omega) (by omega),c7_ (k:=k1+1) (by omega) (by omega),c7_ (k:=(k1+1)+1) (by omega) (by omega),l5,l6,W_up hi ha,decide_eq_true_eq,decide_eq_false_iff_not,Nat.beq_refl]
     refine ⟨fun _ => ?_,fun h=>absurd hi (by simpa using h)⟩
     repeat' (first|exact hF|apply And.intro|intro _|omega)
     all_goals (first|exact hF|(simp_all;done)|omega)
   · show Ev (fun n N=>a3_.step3 n (fun xy5=>(some xy5)) (a3_.loop3 n (fun xy5=>(some xy5)) N) b k (i:Int)) F
     simp only [a3_.step3,Int.toNat_natCast,aH_,bQ_,hxb,bne_self_eq_false,beq_self_eq_true,Bool.not_true,cond_false,ae_ g1,ae_ g5,ae_ g6,ae_ ht4,aa_.re_eq,TOp.eta,c7_ (k:=k) (by omega) (by omega),l1,c7_ (k:=k1) (by omega) (by omega),c7_ (k:=k1+1) (by omega) (by omega),c7_ (k:=(k1+1)+1) (by omega) (by omega),l5,l6,W_up hi' hb',decide_eq_true_eq,decide_eq_false_iff_not]
     refine ⟨fun _ => ?_,fun h=>absurd hi' (by simpa using h)⟩
     repeat' (first|exact hF|apply And.intro|intro _|omega)
     all_goals (first|exact hF|(simp_all;done)|omega)
 · show Ev (fun n N=>a2_.step3 n (fun xy12 xy13=>(some (xy12,xy13))) (a2_.loop3 n (fun xy12 xy13=>(some (xy12,xy13))) N) k (a.length:Int) a) _
   simp only [a2_.step3,aH_,al_]
   exact ⟨fun h=>absurd (of_decide_eq_true h) (by omega),fun _=>trivial⟩
 · show Ev (fun n N=>a3_.step3 n (fun xy5=>(some xy5)) (a3_.loop3 n (fun xy5=>(some xy5)) N) a k (a.length:Int)) _
   simp only [a3_.step3,aH_,al_]
   exact ⟨fun h=>absurd (of_decide_eq_true h) (by omega),fun _=>trivial⟩
theorem j4_ {a:List aj_} {k:Int} (ha:a.length≤cz_) (hk:0≤k) (hb:k+32*((dc_ aj_.size) a:Nat)≤cz_) :
  ∃ k' a',k≤k'∧k'≤k+32*((dc_ aj_.size) a:Nat)∧a'.length=a.length∧Ev (fun n _=>aD_ n a k) (k',a')∧Ev (fun n _=>aB_ n a' k) k':=by
 refine (ir_ aj_.dflt aj_.size (fun n N k i a=>aD_.loop3 n (fun xy14 xy15=>(some (xy14,xy15))) N k (i:Int) a) (fun n N a k i=>aB_.loop3 n (fun xy7=>(some xy7)) N a k (i:Int)) (fun i a k hi ha hk hb => ?_) (fun a k => ?_) (fun a k => ?_) a k ha hk hb).elim fun k' ⟨a',h1,h2,h3,h4,h5⟩=>⟨k',a',h1,h2,h3,aV_ h4,aV_ h5⟩
 · generalize hx:a.getD i aj_.dflt=x at *
   simp only [aj_.size,aa_.size_eq] at hb ⊢
   obtain ⟨t5,ht5⟩:=e2_ (((((k+1)+1)+1)+1)+1) (by omega)
   obtain ⟨k6,y6,u6,v6,l6,e6,g6⟩:=hz_ (a:=x.doc.list) (k:=(((((k+1)+1)+1)+1)+1)+1) (by have:=db_ aa_.size (x.doc.list);omega) (by omega) (by omega)
   obtain ⟨k7,y7,u7,v7,l7,e7,g7⟩:=dX_ (a:=x.doc.names) (k:=k6) (by have:=db_ szB (x.doc.names);omega) (by omega) (by omega)
   obtain ⟨k8,y8,u8,v8,l8,e8,g8⟩:=ns_ (a:=x.ops) (k:=k7) (by have:=db_ TOp.size (x.ops);omega) (by omega) (by omega)
   refine ⟨k8,(aj_.mk k (k+1) ((k+1)+1) (aa_.mk (((k+1)+1)+1) ((((k+1)+1)+1)+1) t5 y6 y7) y8),by omega,by omega,fun F hF => ?_,fun b F hi' hb' hxb hF => ?_⟩
   · show Ev (fun n N=>aD_.step3 n (fun xy14 xy15=>(some (xy14,xy15))) (aD_.loop3 n (fun xy14 xy15=>(some (xy14,xy15))) N) k (i:Int) a) F
     simp only [aD_.step3,Int.toNat_natCast,aH_,bQ_,List.length_set,List.set_set,hZ_ aj_.dflt hi,hx,ae_ ht5,ae_ e6,ae_ e7,ae_ e8,aa_.re_eq,aj_.eta,c7_ (k:=k) (by omega) (by omega),c7_ (k:=k+1) (by omega) (by omega),c7_ (k:=(k+1)+1) (by omega) (by omega),c7_ (k:=((k+1)+1)+1) (by omega) (by omega),c7_ (k:=(((k+1)+1)+1)+1) (by omega) (by omega),c7_ (k:=((((k+1)+1)+1)+1)+1) (by omega) (by omega),l6,l7,l8,W_up hi ha,decide_eq_true_eq,decide_eq_false_iff_not,Nat.beq_refl]
     refine ⟨fun _ => ?_,fun h=>absurd hi (by simpa using h)⟩
     repeat' (first|exact hF|apply And.intro|intro _|omega)
     all_goals (first|exact hF|(simp_all;done)|omega)
   · show Ev (fun n N=>aB_.step3 n (fun xy7=>(some xy7)) (aB_.loop3 n (fun xy7=>(some xy7)) N) b k (i:Int)) F
     simp only [aB_.step3,Int.toNat_natCast,aH_,bQ_,hxb,bne_self_eq_false,beq_self_eq_true,Bool.not_true,cond_false,ae_ g6,ae_ g7,ae_ g8,ae_ ht5,aa_.re_eq,aj_.eta,c7_ (k:=k) (by omega) (by omega),c7_ (k:=k+1) (by omega) (by omega),c7_ (k:=(k+1)+1) (by omega) (by omega),c7_ (k:=((k+1)+1)+1) (by omega) (by omega),c7_ (k:=(((k+1)+1)+1)+1) (by omega) (by omega),c7_ (k:=((((k+1)+1)+1)+1)+1) (by omega) (by omega),l6,l7,l8,W_up hi' hb',decide_eq_true_eq,decide_eq_false_iff_not]
     refine ⟨fun _ => ?_,fun h=>absurd hi' (by simpa using h)⟩
     repeat' (first|exact hF|apply And.intro|intro _|omega)
     all_goals (first|exact hF|(simp_all;done)|omega)
 · show Ev (fun n N=>aD_.step3 n (fun xy14 xy15=>(some (xy14,xy15))) (aD_.loop3 n (fun xy14 xy15=>(some (xy14,xy15))) N) k (a.length:Int) a) _
   simp only [aD_.step3,aH_,al_]
   exact ⟨fun h=>absurd (of_decide_eq_true h) (by omega),fun _=>trivial⟩
 · show Ev (fun n N=>aB_.step3 n (fun xy7=>(some xy7)) (aB_.loop3 n (fun xy7=>(some xy7)) N) a k (a.length:Int)) _
   simp only [aB_.step3,aH_,al_]
   exact ⟨fun h=>absurd (of_decide_eq_true h) (by omega),fun _=>trivial⟩
end Go.Pi
end
section
namespace Go.Pi
def d4_ (l:List TOp):Nat:=l.findIdx fun o=>(cx_ o).kind == 0
def c9_ (l:List TOp):aa_:=aa_.mk 4 0 [] (l.map cx_) []
def f6_ (l:List TOp):Int:=cond (decide (d4_ l<l.length)) (-1) (cond (bC_ (c9_ l) == []) (-1) ((bC_ (c9_ l)).length:Int))
theorem jE_ {l:List TOp} {i:Nat} (hi:i<d4_ l):((cx_ (l.getD i TOp.dflt)).kind == 0)=false:=by
 have hl:d4_ l≤l.length:=List.findIdx_le_length
 rw [List.getD_eq_getElem?_getD,List.getElem?_eq_getElem (by omega),Option.getD_some]
 have:=List.not_of_lt_findIdx (xs:=l) (p:=fun o=>(cx_ o).kind == 0) (i:=i) hi
 simpa using this
theorem bad_at {l:List TOp} (h:d4_ l<l.length):((cx_ (l.getD (d4_ l) TOp.dflt)).kind == 0)=true:=by
 rw [List.getD_eq_getElem?_getD,List.getElem?_eq_getElem h,Option.getD_some]
 exact List.findIdx_getElem (xs:=l) (p:=fun o=>(cx_ o).kind == 0) (w:=h)
theorem mB_ {α β:Type} (f:α→β) (d:α) {a:List α} {i:Nat} (h:i<a.length):(a.take (i+1)).map f=(a.take i).map f++[f (a.getD i d)]:=by
 rw [cJ_ d h,List.map_append];rfl
def jm_ (l:List TOp):Prop:=l.length≤4000000∧∀ o ∈ l,d3_ o
theorem hY_ {l:List TOp} (h:jm_ l):fg_ 6 (c9_ l):=by
 refine ⟨⟨Nat.zero_le _,Nat.zero_le _,fun x hx=>(by cases hx)⟩,by have:=h.1;simp [c9_,cz_];omega,fun x hx => ?_⟩
 obtain ⟨o,ho,e⟩:=List.mem_map.1 hx
 rw [←e];exact lK_ 5 _ (gq_ (h.2 o ho))
theorem fz_ {l:List TOp} (h:jm_ l):Ev (fun n _=>aX_ n l) (cond (decide (d4_ l<l.length)) (fl_,false) (c9_ l,true)):=by
 refine aV_ ?_
 have hl:=h.1
 have ht:l.length≤cz_:=by simp only [cz_];omega
 have hb:d4_ l≤l.length:=List.findIdx_le_length
 simp only [aX_]
 have:=ex_ (fun i=>(l.take i).map cx_) (d4_ l) (fun n N i (o:List aa_)=>aX_.loop4 n (fun xy2 xy3 xy4 xy5 xy6 xy7 xy8=>(some ((aa_.mk xy5 xy6 xy7 xy8 ([]:List Bs)),true))) N l (l.length:Int) (i:Int) 0 0 [] 4 0 [] o) (cond (decide (d4_ l<l.length)) (fl_,false) (c9_ l,true)) (fun i hi F hF => ?_) ?_
 · exact this
 · have hi2:i<l.length:=by omega
   have hx:=dY_ (h.2 _ (cC_ TOp.dflt hi2))
   rw [mB_ cx_ TOp.dflt hi2] at hF
   have hol:((l.take i).map cx_).length≤i:=by simp;omega
   generalize (l.take i).map cx_=o at hF hol ⊢
   simp only [aX_.turn4,aX_.step4,by_,gd_,Int.toNat_natCast,W_up hi2 ht,cS_ hi2,cG_ hi2,jE_ hi,cond_true,cond_false,bQ_,ce_,ae_ hx]
   exact ⟨trivial,by simp;omega,hF⟩
 · by_cases hp:d4_ l<l.length
   · have hx:=dY_ (h.2 _ (cC_ TOp.dflt hp))
     simp only [aX_.turn4,aX_.step4,by_,gd_,Int.toNat_natCast,cS_ hp,cG_ hp,bad_at hp,cond_true,bQ_,ae_ hx,al_]
     rw [decide_eq_true hp]
     exact ⟨trivial,rfl⟩
   · have e:d4_ l=l.length:=by omega
     rw [decide_eq_false hp,cond_false]
     unfold c9_
     rw [e,List.take_length]
     simp only [aX_.turn4,aX_.step4,cQ_,cond_false,al_]
theorem hp_ {l:List TOp} (h:jm_ l):Ev (fun n _=>bJ_ n l) (f6_ l):=by
 refine aV_ ?_
 simp only [bJ_,by_,ae_ (fz_ h)]
 unfold f6_
 cases hp:decide (d4_ l<l.length) with
 |true=>
  simp only [cond_true,ae_ (c4_ (ek_ 6)),aH_,al_]
  simp
 |false=>
  simp only [cond_false,ae_ (c4_ (hY_ h)),aH_,al_]
  generalize bC_ (c9_ l)=s
  cases (s == [])<;>simp
end Go.Pi
end
section
namespace Go.Pi
theorem hP_ {j:aa_}:Ev (fun n _=>ah_ n j (aa_.mk 0 0 [] [] [])) (g8_ j):=by
 refine aV_ ?_
 simp only [ah_,aH_,al_,g8_]
 by_cases h1:j.list=[]
 · by_cases h2:j.names=[]
   · have hL:Ev (fun n _=>ah_.loop6 n (ah_ n) (fun xy2 xy3 xy4 xy5 xy6 xy7 xy8 xy9 xy10 xy11=>(ah_.loop14 n (ah_ n) (some true) n 0 xy2 xy3 xy4 xy5 xy6 xy7 xy8 xy9 xy10 xy11)) n 0 j.kind j.n_ j.s [] [] 0 0 [] [] []) true :=
      cF_ (f:=fun n N=>ah_.loop6 n (ah_ n) (fun xy2 xy3 xy4 xy5 xy6 xy7 xy8 xy9 xy10 xy11=>(ah_.loop14 n (ah_ n) (some true) n 0 xy2 xy3 xy4 xy5 xy6 xy7 xy8 xy9 xy10 xy11)) N 0 j.kind j.n_ j.s [] [] 0 0 [] [] []) (bo_ (cF_ (f:=fun n N=>ah_.loop14 n (ah_ n) (some true) N 0 j.kind j.n_ j.s [] [] 0 0 [] [] []) (bo_ ⟨0,fun _ _ _ _=>rfl⟩)))
     rw [h1,h2]
     simp only [dN_ hL,bne]
     cases (j.kind == 0)<;>cases (j.n_ == 0)<;>cases (j.s == [])<;>simp
   · simp only [bne]
     rw [h1]
     have e:((j.names.length:Int) == (([]:List Bs).length:Int))=false:=by
      simp only [List.length_nil]
      rw [beq_eq_false_iff_ne];intro e;exact h2 (List.eq_nil_of_length_eq_zero (by omega))
     have e2:decide (j.names.length=0)=false:=decide_eq_false fun e=>h2 (List.eq_nil_of_length_eq_zero e)
     rw [e,e2]
     cases (j.kind == 0)<;>cases (j.n_ == 0)<;>cases (j.s == [])<;>simp
 · simp only [bne]
   have e:((j.list.length:Int) == (([]:List aa_).length:Int))=false:=by
    simp only [List.length_nil]
    rw [beq_eq_false_iff_ne];intro e;exact h1 (List.eq_nil_of_length_eq_zero (by omega))
   have e2:decide (j.list.length=0)=false:=decide_eq_false fun e=>h1 (List.eq_nil_of_length_eq_zero e)
   rw [e,e2]
   cases (j.kind == 0)<;>cases (j.n_ == 0)<;>cases (j.s == [])<;>simp
theorem gc_ {l:List TOp} (h:jm_ l):Ev (fun n _=>bc_ n l) (cond (decide (d4_ l<l.length)) (aa_.mk 4 0 [] ((l.take (d4_ l)).map cx_) [],false) (c9_ l,decide ((l.length:Int)≤40) && !(bC_ (c9_ l) == []))):=by
 refine aV_ ?_
 have hl:=h.1
 have ht:l.length≤cz_:=by simp only [cz_];omega
 have hb:d4_ l≤l.length:=List.findIdx_le_length
 simp only [bc_]
 have:=ex_ (fun i=>(l.take i).map cx_) (d4_ l) (fun n N i (o:List aa_)=>bc_.loop4 n (fun xy2 xy3 xy4 xy5 xy6 xy7 xy8 xy9=>(cond (decide ((xy2.length:Int)≤40)) ((b0_ n (aa_.mk xy6 xy7 xy8 xy9 [])).bind fun xr10=>(some ((aa_.mk xy6 xy7 xy8 xy9 ([]:List Bs)),(!(xr10 == []))))) (some ((aa_.mk xy6 xy7 xy8 xy9 ([]:List Bs)),false)))) N l (i:Int) 0 0 [] 4 0 [] o) (cond (decide (d4_ l<l.length)) (aa_.mk 4 0 [] ((l.take (d4_ l)).map cx_) [],false) (c9_ l,decide ((l.length:Int)≤40) && !(bC_ (c9_ l) == []))) (fun i hi F hF => ?_) ?_
 · exact this
 · have hi2:i<l.length:=by omega
   have hx:=dW_ (h.2 _ (cC_ TOp.dflt hi2))
   rw [mB_ cx_ TOp.dflt hi2] at hF
   have hol:((l.take i).map cx_).length≤i:=by simp;omega
   generalize (l.take i).map cx_=o at hF hol ⊢
   simp only [bc_.turn4,bc_.step4,by_,gd_,Int.toNat_natCast,W_up hi2 ht,cS_ hi2,cG_ hi2,jE_ hi,cond_true,cond_false,bQ_,ce_,ae_ hx]
   exact ⟨trivial,by simp;omega,hF⟩
 · by_cases hp:d4_ l<l.length
   · have hx:=dW_ (h.2 _ (cC_ TOp.dflt hp))
     simp only [bc_.turn4,bc_.step4,by_,gd_,Int.toNat_natCast,cS_ hp,cG_ hp,bad_at hp,cond_true,bQ_,ae_ hx,al_]
     rw [decide_eq_true hp]
     exact ⟨trivial,rfl⟩
   · have e:d4_ l=l.length:=by omega
     have hE:=df_ (hY_ h)
     rw [decide_eq_false hp,cond_false]
     unfold c9_ at hE ⊢
     rw [e,List.take_length]
     simp only [bc_.turn4,bc_.step4,cQ_,cond_false,aH_,ae_ hE,al_]
     cases decide ((l.length:Int)≤40)<;>simp
def lr_ (l:List TOp):Bool:=(!decide (d4_ l<l.length))&&(decide ((l.length:Int)≤40) && !(bC_ (c9_ l) == []))
def cA_ (e:aj_):Bool:=inn e.version 0 100000&&cond (e.kind == 1) ((e.base == 0)&&(decide (e.ops.length=0) && !(bC_ e.doc == []))) (cond (e.kind == 2) (lr_ e.ops&&(inn e.base 0 (W (e.version - 1))&&g8_ e.doc)) false)
def lL_ (e:aj_):Prop:=fg_ 6 e.doc∧jm_ e.ops
theorem jz_ (e:aj_):aj_.mk e.kind e.version e.base e.doc e.ops=e:=rfl
theorem size_ok (l:List TOp):decide (f6_ l≥0)=((!decide (d4_ l<l.length)) && !(bC_ (c9_ l) == [])):=by
 unfold f6_
 cases decide (d4_ l<l.length) with
 |true=>rfl
 |false=>
  cases hs:(bC_ (c9_ l) == []) with
  |true=>rfl
  |false=>simp only [cond_false,Bool.not_false,Bool.and_true];exact decide_eq_true (by omega)
theorem id_ {e:aj_} (h:lL_ e):Ev (fun n _=>b5_ n e) (cA_ e):=by
 refine aV_ ?_
 simp only [b5_,by_,l1In_b,aH_,ae_ (df_ h.1),ae_ (gc_ h.2),ae_ hP_,al_,j5_,cA_,lr_]
 generalize inn e.version 0 100000=a1
 generalize (e.kind == 1)=a2
 generalize (e.kind == 2)=a3
 generalize (e.base == 0)=a4
 generalize decide (e.ops.length=0)=a5
 generalize decide (d4_ e.ops<e.ops.length)=a6
 generalize decide ((e.ops.length:Int)≤40)=a7
 generalize (bC_ (c9_ e.ops) == [])=a8
 generalize (bC_ e.doc == [])=a9
 generalize inn e.base 0 (W (e.version - 1))=b1
 generalize g8_ e.doc=b2
 cases a1<;>cases a2<;>cases a3<;>cases a4<;>simp only [cond_true,cond_false,Bool.not_true,Bool.not_false,Bool.false_and,Bool.true_and,reduceCtorEq,false_implies,true_implies,true_and,and_true,implies_true]
 all_goals (cases a5<;>cases a6<;>cases a7<;>cases a8<;>cases a9<;>cases b1<;>cases b2<;>simp)
theorem ho_ {n:Int}:Ev (fun m _=>bF_ m n) (inn n 0 100000):=aV_ (by simp only [bF_,ev_,al_])
theorem iB_ {e:aj_} (h:lL_ e):Ev (fun n _=>b7_ n e) (cA_ e):=by
 refine aV_ ?_
 simp only [b7_,by_,ev_,aH_,ae_ ho_,ae_ (c4_ h.1),ae_ gg_,ae_ (hp_ h.2),al_,j5_,size_ok,cA_,lr_]
 generalize inn e.version 0 100000=a1
 generalize (e.kind == 1)=a2
 generalize (e.kind == 2)=a3
 generalize (e.base == 0)=a4
 generalize decide (e.ops.length=0)=a5
 generalize decide (d4_ e.ops<e.ops.length)=a6
 generalize decide ((e.ops.length:Int)≤40)=a7
 generalize (bC_ (c9_ e.ops) == [])=a8
 generalize (bC_ e.doc == [])=a9
 generalize inn e.base 0 (W (e.version - 1))=b1
 generalize g8_ e.doc=b2
 cases a1<;>cases a2<;>cases a3<;>cases a4<;>simp only [cond_true,cond_false,Bool.not_true,Bool.not_false,Bool.false_and,Bool.true_and,reduceCtorEq,false_implies,true_implies,true_and,and_true,implies_true]
 all_goals (cases a5<;>cases a6<;>cases a7<;>cases a8<;>cases a9<;>cases b1<;>cases b2<;>simp)
end Go.Pi
end
section
namespace Go.Pi
theorem eJ_ {x:Int} (h0 : -9223372036854775808≤x) (h1:x≤9223372036854775807):Ev (fun n _=>ch_ n x) (Lib.itoa x):=by
 refine aV_ ?_
 have:=Itoa_ev h0 h1
 simp only [ch_,ae_ this,al_]
end Go.Pi
end
section
namespace Go.Pi
def i5_ (v:Int):Bs:=([105,100,58,32]++Lib.itoa v)++[10]
def dJ_ (v:Int) (d:Bs):Bs:=((([101,118,101,110,116,58,32,115,110,97,112,10]++i5_ v)++[100,97,116,97,58,32])++d)++[10,10]
def dw_ (v b:Int) (d:Bs):Bs:=((((([101,118,101,110,116,58,32,112,97,116,99,104,10]++i5_ v)++[98,97,115,101,58,32])++Lib.itoa b)++[10,100,97,116,97,58,32])++d)++[10,10]
def cy_ (e:aj_):Bs:=cond (cA_ e) (cond (e.kind == 1) (dJ_ e.version (bC_ e.doc)) (dw_ e.version e.base (bC_ (c9_ e.ops)))) []
theorem dU_ (j:aa_):(bC_ j).length≤6000:=by
 unfold bC_
 cases cO_ j with
 |false=>exact Nat.zero_le _
 |true=>
  simp only [cond_true]
  cases h:decide (((FEnc 6 j).length:Int) > 6000) with
  |true=>exact Nat.zero_le _
  |false=>have:=of_decide_eq_false h;simp only [cond_false];omega
structure EvIs (e:aj_):Prop where
 ver:0≤e.version∧e.version≤100000
 base:(e.kind == 1)=false→0≤e.base∧e.base≤100000
 ops:(e.kind == 1)=false→decide (d4_ e.ops<e.ops.length)=false
theorem ev_is {e:aj_} (h:cA_ e=true):EvIs e:=by
 unfold cA_ at h
 rw [Bool.and_eq_true] at h
 have hv:=fU_ h.1
 refine ⟨by omega,fun hk => ?_,fun hk => ?_⟩
 all_goals (
  have h2:=h.2
  rw [hk,cond_false] at h2
  cases hk2:(e.kind == 2) with
  |false=>rw [hk2] at h2;cases h2
  |true=>
   rw [hk2,cond_true,Bool.and_eq_true,Bool.and_eq_true] at h2
   have hb:=fU_ h2.2.1
   rw [W_id (by omega) (by omega)] at hb
   unfold lr_ at h2
   rw [Bool.and_eq_true] at h2
   first|(have:=h2.1.1;simpa using this)|omega)
theorem eL_ {e:aj_} (h:lL_ e):Ev (fun n _=>bH_ n e) (cy_ e):=by
 refine aV_ ?_
 simp only [bH_,by_,jz_,ae_ (id_ h),aH_,al_,cy_]
 cases ho:cA_ e with
 |false=>exact ⟨fun _=>rfl,fun h=>(by cases h)⟩
 |true=>
  refine ⟨fun h=>(by cases h),fun _ => ?_⟩
  have hi:=ev_is ho
  have hd:=hi.ver
  have hdl:=Lib.itoa_length_le e.version (by omega) (by omega)
  cases hk:(e.kind == 1) with
  |true=>
   have hE:=df_ h.1
   have hEl:=dU_ e.doc
   simp only [ae_ (c1_ (x:=e.version) (by omega) (by omega)),cond_true,aH_,cT_,ae_ hE,al_,dJ_,i5_]
   generalize Lib.itoa e.version=a at hdl ⊢
   generalize bC_ e.doc=b at hEl ⊢
   repeat' (first|apply And.intro|intro _)
   all_goals (first|trivial|rfl|(rename_i hc;have hc:=of_decide_eq_false hc;simp only [List.length_append,List.length_cons,List.length_nil] at hc;omega))
  |false=>
   have hb:=hi.base hk
   have hbl:=Lib.itoa_length_le e.base (by omega) (by omega)
   have hO:=gc_ h.2
   rw [hi.ops hk,cond_false] at hO
   have hE:=df_ (hY_ h.2)
   have hEl:=dU_ (c9_ e.ops)
   simp only [ae_ (c1_ (x:=e.version) (by omega) (by omega)),ae_ (c1_ (x:=e.base) (by omega) (by omega)),ae_ hO,cond_true,cond_false,aH_,cT_,ae_ hE,al_,dw_,i5_]
   generalize Lib.itoa e.version=a at hdl ⊢
   generalize Lib.itoa e.base=c at hbl ⊢
   generalize bC_ (c9_ e.ops)=b at hEl ⊢
   repeat' (first|apply And.intro|intro _)
   all_goals (first|trivial|rfl|(rename_i hc;have hc:=of_decide_eq_false hc;simp only [List.length_append,List.length_cons,List.length_nil] at hc;omega))
theorem eN_ {e:aj_} (h:lL_ e):Ev (fun n _=>bK_ n e) (cy_ e):=by
 refine aV_ ?_
 simp only [bK_,by_,jz_,ae_ (iB_ h),aH_,al_,cy_]
 cases ho:cA_ e with
 |false=>exact ⟨fun _=>rfl,fun h=>(by cases h)⟩
 |true=>
  refine ⟨fun h=>(by cases h),fun _ => ?_⟩
  have hi:=ev_is ho
  have hd:=hi.ver
  have hdl:=Lib.itoa_length_le e.version (by omega) (by omega)
  cases hk:(e.kind == 1) with
  |true=>
   have hE:=c4_ h.1
   have hEl:=dU_ e.doc
   simp only [ae_ (eJ_ (x:=e.version) (by omega) (by omega)),cond_true,aH_,cT_,ae_ hE,al_,dJ_,i5_]
   generalize Lib.itoa e.version=a at hdl ⊢
   generalize bC_ e.doc=b at hEl ⊢
   repeat' (first|apply And.intro|intro _)
   all_goals (first|trivial|rfl|(rename_i hc;have hc:=of_decide_eq_false hc;simp only [List.length_append,List.length_cons,List.length_nil] at hc;omega))
  |false=>
   have hb:=hi.base hk
   have hbl:=Lib.itoa_length_le e.base (by omega) (by omega)
   have hO:=fz_ h.2
   rw [hi.ops hk,cond_false] at hO
   have hE:=c4_ (hY_ h.2)
   have hEl:=dU_ (c9_ e.ops)
   simp only [ae_ (eJ_ (x:=e.version) (by omega) (by omega)),ae_ (eJ_ (x:=e.base) (by omega) (by omega)),ae_ hO,cond_true,cond_false,aH_,cT_,ae_ hE,al_,dw_,i5_]
   generalize Lib.itoa e.version=a at hdl ⊢
   generalize Lib.itoa e.base=c at hbl ⊢
   generalize bC_ (c9_ e.ops)=b at hEl ⊢
   repeat' (first|apply And.intro|intro _)
   all_goals (first|trivial|rfl|(rename_i hc;have hc:=of_decide_eq_false hc;simp only [List.length_append,List.length_cons,List.length_nil] at hc;omega))
end Go.Pi
end
section
namespace Go.Pi
theorem mw_ {l:List TOp} {o:TOp} (h:∀ x ∈ l,d3_ x) (ho:d3_ o):∀ x ∈ l++[o],d3_ x:=by
 intro x hx
 rcases List.mem_append.1 hx with hx|hx
 · exact h x hx
 · obtain rfl:=List.mem_singleton.1 hx;exact ho
theorem i1_ {j:aa_} (h:bD_ 6 j≤400):Ans (fun n _=>bh_ n j) fun x=>jm_ x.1:=by
 have hll:=dt_ h
 refine cY_ ?_
 simp only [bh_]
 refine eA_ (σ:=Nat × List TOp) (fun n N st=>bh_.loop4 n (fun xy2 xy3 xy4 xy5 xy6 xy7=>(some (xy7,(xy2 == 4)))) N j.list (j.list.length:Int) (st.1:Int) j.kind j.n_ j.s j.list j.names st.2) (fun st=>j.list.length - st.1) (fun st=>st.1≤j.list.length∧st.2.length≤st.1∧∀ o ∈ st.2,d3_ o) _ (fun st hI ih => ?_) (0,[]) ⟨Nat.zero_le _,Nat.zero_le _,fun y h=>(by cases h)⟩
 obtain ⟨i,ops⟩:=st
 simp only at hI ih ⊢
 obtain ⟨h1,h2,h3⟩:=hI
 simp only [bh_.turn4,bh_.step4,by_,Int.toNat_natCast]
 by_cases hi:i<j.list.length
 · have hx:bD_ 6 (j.list.getD i aa_.dflt)≤400:=by
    have:=fT_ h (cC_ aa_.dflt hi)
    rw [h3_ 5 _ this];exact this
   simp only [cS_ hi,cond_true,hv_,cG_ hi,true_and,W_up hi (show j.list.length≤cz_ by simp only [cz_];omega)]
   refine cP_ (iA_ hx) fun v hv => ?_
   simp only [cv_,cp_,eq_]
   exact ⟨fun _=>⟨Nat.zero_le _,fun y h=>(by cases h)⟩,fun _=>⟨by simp;omega,ih (i+1,_) ⟨hi,by simp;omega,mw_ h3 hv⟩ (by simp only;omega)⟩⟩
 · have e:i=j.list.length:=by omega
   subst e
   simp only [cQ_,cond_false,cp_]
   exact ⟨by show ops.length≤4000000;omega,h3⟩
theorem ops_right {l:List TOp} (h:bD_ 6 (c9_ l)≤400):l.length≤400:=by
 have:=dt_ h
 simpa [c9_] using this
theorem i0_ {l:List TOp} (h:∀ o ∈ l,OpIn o) (hl:l.length≤400):Ev (fun n _=>bh_ n (c9_ l)) (l,true):=by
 refine aV_ ?_
 simp only [bh_,c9_]
 have:=ex_ (fun i=>l.take i) l.length (fun n N i (o:List TOp)=>bh_.loop4 n (fun xy2 xy3 xy4 xy5 xy6 xy7=>(some (xy7,(xy2 == 4)))) N (l.map cx_) ((l.map cx_).length:Int) (i:Int) 4 0 [] (l.map cx_) [] o) (l,true) (fun i hi F hF => ?_) ?_
 · exact this
 · have ho:=h _ (cC_ TOp.dflt hi)
   have hi2:i<(l.map cx_).length:=by simpa using hi
   have e:(l.map cx_).getD i aa_.dflt=dd_ (l.getD i TOp.dflt):=by
    rw [←ho.val,List.getD_eq_getElem?_getD,List.getElem?_map,List.getD_eq_getElem?_getD,List.getElem?_eq_getElem hi];rfl
   rw [cJ_ TOp.dflt hi] at hF
   simp only [bh_.turn4,bh_.step4,by_,Int.toNat_natCast,cS_ hi2,cond_true,bQ_,cG_ hi2,true_and,e,ae_ (iz_ ho),Bool.not_true,cond_false,ce_,W_up hi (show l.length≤cz_ by simp only [cz_];omega)]
   exact ⟨by simp;omega,hF⟩
 · have e:decide ((l.length:Int)<((l.map cx_).length:Int))=false:=by simp
   simp only [List.take_length,bh_.turn4,bh_.step4,e,cond_false,al_]
   rfl
def FCut (s:Bs):Bs × Bs:=if Lib.indexByte s 10<0 then (s,[]) else (s.take (Lib.indexByte s 10).toNat,s.drop ((Lib.indexByte s 10).toNat+1))
theorem idx_le:∀ (s:Bs),Lib.indexByte s 10<(s.length:Int)∨s=[]
 |[]=>.inr rfl
 |b::l=>by
  left
  unfold Lib.indexByte
  split
  · simp only [List.length_cons];omega
  · split
    · simp only [List.length_cons];omega
    · rcases idx_le l with h|h
      · simp only [List.length_cons];omega
      · subst h;rename_i h1 h2;exact absurd (by rfl) h2
theorem Cut_ev {s:Bs} (hs:s.length≤4194304):Ev (fun n _=>(cn_ n s [10])) ((FCut s).1,(FCut s).2,decide (0≤Lib.indexByte s 10)):=by
 have hge:=Lib.indexByte_ge s 10
 have hX:Ev (fun n _=>a7_ n s [10]) (Lib.indexByte s 10):=aV_ (by simp only [a7_,mA_,al_])
 have hC:Ev (fun n _=>aY_ n s [10]) ((FCut s).1,(FCut s).2,decide (0≤Lib.indexByte s 10)):=by
  refine aV_ ?_
  simp only [aY_,ae_ hX,aH_,dr_,al_]
  unfold FCut
  refine ⟨fun h => ?_,fun h => ?_⟩
  · have h:=of_decide_eq_true h
    have hlt:Lib.indexByte s 10<(s.length:Int):=by
     rcases idx_le s with h|h
     · exact h
     · subst h;rename_i h0;exact absurd h0 (by decide)
    have hW:W (Lib.indexByte s 10+(([10]:Bs).length:Int))=Lib.indexByte s 10+1:=W_id (by show _≤Lib.indexByte s 10+1;omega) (by show Lib.indexByte s 10+1<_;omega)
    rw [hW,if_neg (by omega),decide_eq_true (show 0≤Lib.indexByte s 10 by omega)]
    have e1:(Lib.indexByte s 10+1).toNat=(Lib.indexByte s 10).toNat+1:=by omega
    rw [e1]
    simp only [Int.toNat_natCast,List.take_length,List.drop_zero]
    exact ⟨by omega,by omega,trivial⟩
  · have h:=of_decide_eq_false h
    rw [if_pos (by omega),decide_eq_false (show ¬ 0≤Lib.indexByte s 10 by omega)]
 exact aV_ (by simp only [cn_,ae_ hC,al_])
theorem m4_ (s:Bs):(FCut s).1.length≤s.length∧(FCut s).2.length≤s.length:=by
 unfold FCut
 split
 · exact ⟨Nat.le_refl _,Nat.zero_le _⟩
 · simp;omega
theorem idx_app:∀ {a:Bs} (b:Bs),(∀ c ∈ a,c≠10)→Lib.indexByte (a++10::b) 10=(a.length:Int)
 |[],b,_=>rfl
 |c::a,b,h=>by
  have hc:=h c (List.mem_cons_self ..)
  have ih:=idx_app b fun x hx=>h x (List.mem_cons_of_mem _ hx)
  have e:(c == 10)=false:=beq_eq_false_iff_ne.2 hc
  rw [List.cons_append,Lib.indexByte,e,ih,if_neg (by simp),if_neg (by simp<;>omega),List.length_cons];omega
theorem cut_app {a:Bs} (b:Bs) (h:∀ c ∈ a,c≠10):FCut (a++10::b)=(a,b):=by
 unfold FCut
 rw [idx_app b h,if_neg (by omega),Int.toNat_natCast,List.take_left]
 have:(a++10::b).drop (a.length+1)=b:=by rw [←List.drop_drop,List.drop_left];rfl
 rw [this]
def g9_ (p s:Bs):Bs:=cond (pfx p s) (s.drop p.length) s
theorem trim_le (p s:Bs):(g9_ p s).length≤s.length:=by
 unfold g9_;cases pfx p s<;>simp
theorem mh_ (p s:Bs):g9_ p (p++s)=s:=by unfold g9_;rw [gp_,List.drop_left];rfl
theorem fY_ {s p:Bs} (hs:s.length≤4194304):Ev (fun n _=>b8_ n s p) (g9_ p (FCut s).1,(FCut s).2):=by
 refine aV_ ?_
 simp only [b8_,ae_ (Cut_ev hs),ae_ fb_,al_,g9_]
theorem fI_ {p a b:Bs} (hp:∀ c ∈ p,c≠10) (ha:∀ c ∈ a,c≠10) (hs:(p++(a++10::b)).length≤4194304):Ev (fun n _=>b8_ n (p++(a++10::b)) p) (a,b):=by
 have e:p++(a++10::b)=(p++a)++10::b:=by simp
 have h:=fY_ (p:=p) hs
 rw [e] at h ⊢
 rw [cut_app b (fun c hc=>by rcases List.mem_append.1 hc with h|h;exact hp c h;exact ha c h),mh_] at h
 exact h
abbrev tSnap:Bs:=[101,118,101,110,116,58,32,115,110,97,112,10]
abbrev gD_:Bs:=[101,118,101,110,116,58,32,112,97,116,99,104,10]
abbrev tId:Bs:=[105,100,58,32]
abbrev hO_:Bs:=[98,97,115,101,58,32]
abbrev dO_:Bs:=[100,97,116,97,58,32]
theorem if_ (v:Int) (d:Bs):dJ_ v d=tSnap++(tId++(Lib.itoa v++10::(dO_++(d++10::[10])))):=by
 simp [dJ_,i5_]
theorem hk_ (v b:Int) (d:Bs):dw_ v b d=gD_++(tId++(Lib.itoa v++10::(hO_++(Lib.itoa b++10::(dO_++(d++10::[10])))))):=by
 simp [dw_,i5_]
theorem hR_ {s:Bs} (hs:s.length≤4194304):Ans (fun n _=>bU_ n s) fun e=>lL_ e:=by
 have hA:∀ {t:Bs},t.length≤4194304→Ev (fun n _=>bN_ n t) (endOf t (Lib.atoiAll t)):=fun h=>iW_ (by omega)
 have fl:∀ (p t:Bs),(g9_ p (FCut t).1).length≤t.length:=fun p t=>Nat.le_trans (trim_le _ _) (m4_ t).1
 refine cY_ ?_
 simp only [bU_,by_,bP_ eB_]
 cases hp:pfx [101,118,101,110,116,58,32,115,110,97,112,10] s with
 |true=>
  simp only [cond_true]
  have h1:(s.drop tSnap.length).length≤s.length:=by simp
  generalize s.drop tSnap.length=t at h1 ⊢
  have h2:=(m4_ t).2
  have h3:=fl [100,97,116,97,58,32] (FCut t).2
  have h4:=fl [105,100,58,32] t
  simp only [bP_ (fY_ (s:=t) (p:=[105,100,58,32]) (by omega)),bP_ (fY_ (s:=(FCut t).2) (p:=[100,97,116,97,58,32]) (by omega)),bP_ (hA (t:=g9_ [105,100,58,32] (FCut t).1) (by omega))]
  refine cP_ (fE_ (s:=g9_ [100,97,116,97,58,32] (FCut (FCut t).2).1) (by omega)) fun v hv => ?_
  simp only [cp_]
  exact ⟨cL_ 6 _ hv,Nat.zero_le _,fun o h=>(by cases h)⟩
 |false=>
  simp only [cond_false,bP_ fb_]
  have h1:=trim_le gD_ s
  show Ans (fun n N=>(b8_ n (g9_ gD_ s) [105,100,58,32]).bind _) _
  generalize g9_ gD_ s=t at h1 ⊢
  have h2:=(m4_ t).2
  have h3:=(m4_ (FCut t).2).2
  have h4:=fl [105,100,58,32] t
  have h5:=fl [98,97,115,101,58,32] (FCut t).2
  have h6:=fl [100,97,116,97,58,32] (FCut (FCut t).2).2
  simp only [bP_ (fY_ (s:=t) (p:=[105,100,58,32]) (by omega)),bP_ (fY_ (s:=(FCut t).2) (p:=[98,97,115,101,58,32]) (by omega)),bP_ (fY_ (s:=(FCut (FCut t).2).2) (p:=[100,97,116,97,58,32]) (by omega)),bP_ (hA (t:=g9_ [105,100,58,32] (FCut t).1) (by omega)),bP_ (hA (t:=g9_ [98,97,115,101,58,32] (FCut (FCut t).2).1) (by omega))]
  refine cP_ (fE_ (s:=g9_ [100,97,116,97,58,32] (FCut (FCut (FCut t).2).2).1) (by omega)) fun v hv => ?_
  refine cP_ (i1_ hv) fun w hw => ?_
  simp only [cp_]
  exact ⟨ek_ 6,hw⟩
structure SnapIs (e:aj_):Prop where
 ver:0≤e.version∧e.version≤100000
 base:e.base=0
 ops:e.ops=[]
 doc:bC_ e.doc≠[]
structure PatchIs (e:aj_):Prop where
 ver:0≤e.version∧e.version≤100000
 base:0≤e.base∧e.base≤100000
 doc:e.doc=fl_
 ops:∀ o ∈ e.ops,OpIn o
 enc:bC_ (c9_ e.ops)≠[]
 len:e.ops.length≤400
theorem fZ_ {e:aj_} (h:cA_ e=true):(e.kind=1∧SnapIs e)∨(e.kind=2∧PatchIs e):=by
 have hi:=ev_is h
 unfold cA_ at h
 rw [Bool.and_eq_true] at h
 have h2:=h.2
 cases hk:(e.kind == 1) with
 |true=>
  rw [hk,cond_true] at h2
  simp only [Bool.and_eq_true,Bool.not_eq_true',beq_iff_eq,decide_eq_true_eq,beq_eq_false_iff_ne] at h2
  exact .inl ⟨by simpa using hk,hi.ver,h2.1,List.eq_nil_of_length_eq_zero h2.2.1,h2.2.2⟩
 |false=>
  rw [hk,cond_false] at h2
  cases hk2:(e.kind == 2) with
  |false=>rw [hk2] at h2;cases h2
  |true=>
   rw [hk2,cond_true] at h2
   unfold lr_ at h2
   simp only [Bool.and_eq_true,Bool.not_eq_true',decide_eq_true_eq,decide_eq_false_iff_not,beq_eq_false_iff_ne] at h2
   obtain ⟨⟨b1,b2,b3⟩,b4,b5⟩:=h2
   have henc:=hI_ b3
   refine .inr ⟨by simpa using hk2,hi.ver,hi.base hk,ks_ b5,fun o ho=>op_in ?_,b3,ops_right henc.1⟩
   intro hz
   have:e.ops.findIdx (fun o=>(cx_ o).kind == 0)<e.ops.length:=List.findIdx_lt_length_of_exists ⟨o,ho,by rw [hz];rfl⟩
   exact b1 this
theorem e5_ {e:aj_} (h:cA_ e=true) (hk:e.kind=1):cy_ e=dJ_ e.version (bC_ e.doc):=by
 unfold cy_;rw [h,hk];rfl
theorem ey_ {e:aj_} (h:cA_ e=true) (hk:e.kind=2):cy_ e=dw_ e.version e.base (bC_ (c9_ e.ops)):=by
 unfold cy_;rw [h,hk];rfl
theorem ki_ {j:aa_} (h:bC_ j≠[]):∀ c ∈ bC_ j,c≠10:=by
 obtain ⟨h1,h2,_⟩:=hI_ h
 rw [h2];exact enc_nl 6 j h1
theorem jA_ {e:aj_} (h:cA_ e=true):(cy_ e).length≤10000:=by
 rcases fZ_ h with ⟨hk,hs⟩|⟨hk,hs⟩
 · rw [e5_ h hk,if_]
   have:=dU_ e.doc
   have:=Lib.itoa_length_le e.version (by have:=hs.ver;omega) (by have:=hs.ver;omega)
   simp only [List.length_append,List.length_cons,List.length_nil];omega
 · rw [ey_ h hk,hk_]
   have:=dU_ (c9_ e.ops)
   have:=Lib.itoa_length_le e.version (by have:=hs.ver;omega) (by have:=hs.ver;omega)
   have:=Lib.itoa_length_le e.base (by have:=hs.base;omega) (by have:=hs.base;omega)
   simp only [List.length_append,List.length_cons,List.length_nil];omega
theorem le_ {e:aj_} (h:cA_ e=true):cy_ e≠[]:=by
 rcases fZ_ h with ⟨hk,hs⟩|⟨hk,hs⟩
 · rw [e5_ h hk,if_];intro e;cases e
 · rw [ey_ h hk,hk_];intro e;cases e
theorem km_ {n:Int} (h0:0≤n) (h1:n≤100000):Ev (fun m _=>bN_ m (Lib.itoa n)) (n,true):=by
 have hl:=Lib.itoa_length_le n (by omega) (by omega)
 have:=iW_ (s:=Lib.itoa n) (by omega)
 rw [lk_ (by omega) (by omega)] at this
 exact this
theorem hQ_ {e:aj_} (h:cA_ e=true):Ev (fun n _=>bU_ n (cy_ e)) e:=by
 have hlen:=jA_ h
 refine aV_ ?_
 rcases fZ_ h with ⟨hk,hs⟩|⟨hk,hs⟩
 · rw [e5_ h hk,if_] at hlen ⊢
   simp only [List.length_append] at hlen
   have hv:=hs.ver
   have f1:=fI_ (p:=tId) (a:=Lib.itoa e.version) (b:=dO_++(bC_ e.doc++10::[10])) (by decide) (gr_ _) (by simp only [List.length_append];omega)
   have f2:=fI_ (p:=dO_) (a:=bC_ e.doc) (b:=[10]) (by decide) (ki_ hs.doc) (by simp only [List.length_append,List.length_cons] at hlen ⊢;omega)
   simp only [bU_,by_,ae_ eB_,gp_,cond_true,List.drop_left,ae_ f1,ae_ f2,ae_ (km_ hv.1 hv.2),ae_ (fD_ hs.doc),al_]
   obtain ⟨k,v,b,d,o⟩:=e
   have e1:=hs.base
   have e2:=hs.ops
   simp only at e1 e2 hk
   rw [e1,e2,hk]
 · rw [ey_ h hk,hk_] at hlen ⊢
   simp only [List.length_append] at hlen
   have hv:=hs.ver
   have hb:=hs.base
   have f1:=fI_ (p:=tId) (a:=Lib.itoa e.version) (b:=hO_++(Lib.itoa e.base++10::(dO_++(bC_ (c9_ e.ops)++10::[10])))) (by decide) (gr_ _) (by simp only [List.length_append];omega)
   have f2:=fI_ (p:=hO_) (a:=Lib.itoa e.base) (b:=dO_++(bC_ (c9_ e.ops)++10::[10])) (by decide) (gr_ _) (by simp only [List.length_append,List.length_cons] at hlen ⊢;omega)
   have f3:=fI_ (p:=dO_) (a:=bC_ (c9_ e.ops)) (b:=[10]) (by decide) (ki_ hs.enc) (by simp only [List.length_append,List.length_cons] at hlen ⊢;omega)
   have hp:∀ t,pfx [101,118,101,110,116,58,32,115,110,97,112,10] (gD_++t)=false:=fun t=>rfl
   have ht:∀ t,cond (pfx [101,118,101,110,116,58,32,112,97,116,99,104,10] (gD_++t)) ((gD_++t).drop ([101,118,101,110,116,58,32,112,97,116,99,104,10]:Bs).length) (gD_++t)=t:=fun t=>mh_ gD_ t
   simp only [bU_,by_,ae_ eB_,hp,cond_false,ae_ fb_,ht,ae_ f1,ae_ f2,ae_ f3,ae_ (km_ hv.1 hv.2),ae_ (km_ hb.1 hb.2),ae_ (fD_ hs.enc),ae_ (i0_ hs.ops hs.len),al_]
   obtain ⟨k,v,b,d,o⟩:=e
   have e1:=hs.doc
   simp only at e1 hk
   rw [e1,hk];rfl
abbrev zeroE:aj_:=aj_.mk 0 0 0 (aa_.mk 0 0 [] [] []) []
def nd_ (s:Bs) (x:aj_ × Bool):Prop:=x=(zeroE,false)∨(x.2=true∧cA_ x.1=true∧cy_ x.1=s)
theorem text_ok {e:aj_} (h:cy_ e≠[]):cA_ e=true:=by
 unfold cy_ at h
 cases ho:cA_ e with
 |true=>rfl
 |false=>rw [ho] at h;exact absurd rfl h
theorem gW_ {s:Bs} (hs:s.length≤4194304):Ans (fun n _=>bA_ n s) (nd_ s):=by
 refine cY_ ?_
 simp only [bA_,by_,jz_]
 refine cP_ (hR_ hs) fun e he => ?_
 simp only [bP_ (eN_ he),cv_,cp_]
 refine ⟨fun _=>.inl rfl,fun h1=>⟨fun _=>.inl rfl,fun h2=>.inr ⟨rfl,text_ok ?_,by simpa using h2⟩⟩⟩
 exact fun e=>by rw [e] at h1;cases h1
theorem mJ_ {e:aj_} (h:cA_ e=true):lL_ e:=by
 rcases fZ_ h with ⟨hk,hs⟩|⟨hk,hs⟩
 · refine ⟨cL_ 6 _ (hI_ hs.doc).1,?_⟩
   rw [hs.ops];exact ⟨Nat.zero_le _,fun o h=>(by cases h)⟩
 · refine ⟨?_,by have:=hs.len;omega,fun o ho=>mH_ (hs.ops o ho)⟩
   rw [hs.doc];exact ek_ 6
theorem gV_ {e:aj_} (h:cA_ e=true):Ev (fun n _=>bA_ n (cy_ e)) (e,true):=by
 have hne:(cy_ e == [])=false:=beq_eq_false_iff_ne.2 (le_ h)
 refine aV_ ?_
 simp only [bA_,by_,jz_,ae_ (hQ_ h),ae_ (eN_ (mJ_ h)),hne,beq_self_eq_true,Bool.not_true,cond_false,al_]
end Go.Pi
end
section
namespace Go.Pi
def dx_ (cur:Bs):Bs→List Bs
 |[]=>[]
 |c::l=>if c=10 then cur::dx_ [] l else dx_ (cur++[c]) l
theorem dH_ (cur b:Bs):∀ (a:Bs),(∀ c ∈ a,c≠10)→dx_ cur (a++10::b)=(cur++a)::dx_ [] b:=by
 intro a
 induction a generalizing cur with
 |nil=>intro _;rw [List.nil_append,dx_,if_pos rfl,List.append_nil]
 |cons c a ih=>
  intro h
  rw [List.cons_append,dx_,if_neg (h c (List.mem_cons_self ..)),ih _ fun x hx=>h x (List.mem_cons_of_mem _ hx)]
  simp
theorem it_:∀ (s cur:Bs) (B:Nat),cur.length+s.length≤B→(dx_ cur s).length≤s.length∧∀ y ∈ dx_ cur s,y.length≤B
 |[],_,_,_=>⟨Nat.le_refl _,fun y h=>(by cases h)⟩
 |c::l,cur,B,h=>by
  unfold dx_
  simp only [List.length_cons] at h
  split
  · obtain ⟨h1,h2⟩:=it_ l [] B (by simp;omega)
    refine ⟨by simp;omega,fun y hy => ?_⟩
    rcases List.mem_cons.1 hy with rfl|hy
    · omega
    · exact h2 y hy
  · obtain ⟨h1,h2⟩:=it_ l (cur++[c]) B (by simp;omega)
    exact ⟨by simp;omega,h2⟩
theorem fe_ {s:Bs} (hs:s.length≤4194304):Ev (fun n _=>aT_ n s) (dx_ [] s):=by
 refine aV_ ?_
 simp only [aT_]
 have key:∀ (m i f:Nat) (out:List Bs),i+m=s.length→f≤i→out.length≤i→Ev (fun n N=>aT_.loop5 n (fun xy1=>(some xy1)) N s (f:Int) (i:Int) out) (out++dx_ ((s.take i).drop f) (s.drop i)):=by
  intro m
  induction m with
  |zero=>
   intro i f out hi _ _
   have:i=s.length:=by omega
   subst this
   refine bo_ ?_
   simp only [aT_.turn5,aT_.step5,cQ_,cond_false,List.drop_length,dx_,List.append_nil,al_]
  |succ m ih=>
   intro i f out hi hf ho
   have hlt:i<s.length:=by omega
   have hW:=W_up hlt (show s.length≤cz_ by simp only [cz_];omega)
   have hd:=dA_ 0 hlt
   refine bo_ ?_
   simp only [aT_.turn5,aT_.step5,cS_ hlt,cond_true,bQ_,cG_ hlt,true_and,Int.toNat_natCast,hW,aH_,dr_,ce_]
   have e10:((s.getD i 0).toNat:Int)=10↔s.getD i 0=10:=by
    have:=hK_ (s.getD i 0) 10 10 rfl
    constructor
    · intro h;rw [show (((s.getD i 0).toNat:Nat):Int)=((10:Nat):Int) from h] at this;simpa using this
    · intro h;rw [h];rfl
   rw [hd]
   refine ⟨fun h => ?_,fun h => ?_⟩
   · have h:s.getD i 0=10:=e10.1 (by simpa using h)
     have hn:=ih (i+1) (i+1) (out++[(s.take i).drop f]) (by omega) (Nat.le_refl _) (by simp;omega)
     rw [m1_ (show (s.take (i+1)).length≤i+1 by simp;omega)] at hn
     rw [dx_,if_pos h]
     rw [List.append_assoc] at hn
     exact ⟨by omega,by simp;omega,hn⟩
   · have h:¬ s.getD i 0=10:=fun e=>by rw [e10.2 e] at h;cases h
     have hn:=ih (i+1) f out (by omega) (by omega) (by omega)
     rw [cJ_ 0 hlt,List.drop_append_of_le_length (by simp;omega)] at hn
     rw [dx_,if_neg h]
     exact hn
 have:=key s.length 0 0 [] (by omega) (Nat.le_refl _) (Nat.le_refl _)
 rw [List.nil_append] at this
 exact cF_ (f:=fun n N=>aT_.loop5 n (fun xy1=>(some xy1)) N s 0 0 []) this
def dl_ (l h:Bs):Bs:=cond (pfx h l) (l.drop h.length) []
theorem eP_ {l h:Bs}:Ev (fun n _=>bv_ n l h) (dl_ l h):=by
 refine aV_ ?_
 simp only [bv_,aH_,dr_,al_,Int.toNat_natCast,List.take_length,dl_,hW_]
 refine ⟨fun hc => ?_,fun hc => ?_⟩
 · have hc:=of_decide_eq_true hc
   cases e:((l.take h.length).drop 0 == h) with
   |false=>rfl
   |true=>rw [←hW_] at e;have:=go_ e;omega
 · have hc:=of_decide_eq_false hc
   refine ⟨by omega,?_⟩
   cases ((l.take h.length).drop 0 == h) with
   |false=>exact ⟨fun _=>rfl,fun h=>(by cases h)⟩
   |true=>exact ⟨fun h=>(by cases h),fun _=>⟨by omega,rfl⟩⟩
theorem iL_ (l h:Bs):(dl_ l h).length≤l.length:=by
 unfold dl_;cases pfx h l<;>simp
theorem f3_ (h l:Bs):dl_ (h++l) h=l:=by unfold dl_;rw [gp_,List.drop_left];rfl
theorem jp_ {s:Bs} (hs:s.length≤4194304):Ans (fun n _=>b3_ n s) fun _=>True:=by
 refine cY_ ?_
 simp only [b3_]
 refine cP_ (hD_ (s:=s) (p:=0) (ok:=true) (left:=0) hs (Nat.zero_le _)) fun v hv => ?_
 obtain ⟨p',ok',e1,e2,e3,e4,e5⟩:=hv
 simp only [cv_,cp_,bP_ (c1_ (x:=v.1) e4 e5),implies_true,and_self]
theorem jo_ {n:Int} (h0:0≤n) (h1:n≤100000):Ev (fun m _=>b3_ m (Lib.itoa n)) (n,true):=by
 have hl:=Lib.itoa_length_le n (by omega) (by omega)
 have hN:=hC_ (s:=Lib.itoa n) (p:=0) (left:=0) (r:=[]) (n:=n) (by simp only [g3_];omega) (by omega) (by omega) jP_ ⟨Nat.zero_le _,by simp⟩
 have hN:Ev (fun m _=>ay_ m ⟨Lib.itoa n,0,true,0⟩) (n,⟨Lib.itoa n,((0+(Lib.itoa n).length:Nat):Int),true,0⟩):=hN
 refine aV_ ?_
 simp only [b3_,ae_ hN,cond_true,ae_ (c1_ (x:=n) (by omega) (by omega)),beq_self_eq_true,al_]
end Go.Pi
end
