/- FnEvents: a drawn event is read from its text as it was; a text that is read is that of the event. No condition. Text 6 of 7. -/
import Derived.Test.YtmgcfhlcdhlafaaGreatDoorEvE
import Derived.Lib.AtoiAllCases
set_option linter.unusedVariables false
set_option maxRecDepth 100000
set_option linter.unusedSimpArgs false
section
namespace Go.Pi
def fu_ (c:UInt8):Prop:=48≤c.toNat∧c.toNat≤57
theorem jU_ {d:Nat} (h:d<10):(UInt8.ofNat (48+d)).toNat=48+d:=by
 rw [UInt8.toNat_ofNat'];omega
theorem hv_:∀ (u:Nat),∀ c ∈ Lib.decDigits u,fu_ c:=by
 intro u
 induction u using Nat.strongRecOn with
 |ind u ih=>
  intro c hc
  rw [Lib.decDigits] at hc
  by_cases h:u<10
  · rw [dif_pos h] at hc
    obtain rfl:=List.mem_singleton.1 hc
    unfold fu_;rw [jU_ h];omega
  · rw [dif_neg h] at hc
    rcases List.mem_append.1 hc with hc|hc
    · exact ih (u / 10) (by omega) c hc
    · obtain rfl:=List.mem_singleton.1 hc
      unfold fu_;rw [jU_ (by omega)];omega
theorem mA_ (u:Nat):1≤(Lib.decDigits u).length:=by
 rw [Lib.decDigits]
 by_cases h:u<10
 · rw [dif_pos h];simp
 · rw [dif_neg h];simp
theorem oR_:∀ (k u:Nat),u<10 ^ (k+1)→(Lib.decDigits u).length≤k+1
 |0,u,h=>by rw [Lib.decDigits,dif_pos (by simpa using h)];simp
 |k+1,u,h=>by
  rw [Lib.decDigits]
  by_cases h1:u<10
  · rw [dif_pos h1];simp
  · rw [dif_neg h1,List.length_append]
    have:=oR_ k (u / 10) (by rw [Nat.pow_succ] at h;omega)
    simp;omega
def jq_ (x:Nat) (l:Bs):Nat:=l.foldl (fun x c=>10*x+(c.toNat - 48)) x
theorem val_nil (x:Nat):jq_ x []=x:=rfl
theorem iu_ (x:Nat) (c:UInt8) (l:Bs):jq_ x (c::l)=jq_ (10*x+(c.toNat - 48)) l:=by unfold jq_;rw [List.foldl_cons]
theorem val_app (x:Nat) (a b:Bs):jq_ x (a++b)=jq_ (jq_ x a) b:=List.foldl_append
theorem lz_:∀ (u:Nat),jq_ 0 (Lib.decDigits u)=u:=by
 intro u
 induction u using Nat.strongRecOn with
 |ind u ih=>
  rw [Lib.decDigits]
  by_cases h:u<10
  · rw [dif_pos h,iu_,val_nil,jU_ h];omega
  · rw [dif_neg h,val_app,ih (u / 10) (by omega)]
    have e:=jU_ (d:=u % 10) (by omega)
    rw [iu_,val_nil,e]
    omega
theorem val_le:∀ (x:Nat) (l:Bs),x≤jq_ x l
 |_,[]=>Nat.le_refl _
 |x,c::l=>by rw [iu_];exact Nat.le_trans (by omega) (val_le _ l)
theorem pu_val:∀ (x:Nat) (l:Bs),(∀ c ∈ l,fu_ c)→jq_ x l≤1000000000000000000→Lib.parseUint10 x l = .ok (jq_ x l)
 |_,[],_,_=>rfl
 |x,c::l,h,hv=>by
  have hc:=h c (List.mem_cons_self ..)
  have h1:=val_le (10*x+(c.toNat - 48)) l
  rw [iu_] at hv ⊢
  unfold fu_ at hc
  rw [Lib.parseUint10,if_pos hc,if_neg (by omega),if_neg (by omega),show x*10+(c.toNat - 48)=10*x+(c.toNat - 48) by omega]
  exact pu_val _ l (fun c hc=>h c (List.mem_cons_of_mem _ hc)) hv
theorem jY_ {n:Int} (h0 : -1000000000≤n) (h1:n≤1000000000):Lib.atoiAll (Lib.itoa n) = .ok n:=by
 unfold Lib.itoa
 have key:∀ u:Nat,u≤1000000000→Lib.parseMag (Lib.decDigits u) = .ok u:=by
  intro u hu
  have:=mA_ u
  unfold Lib.parseMag
  rw [if_neg (fun e=>by rw [e] at this;simp at this),pu_val 0 _ (hv_ u) (by rw [lz_];omega),lz_]
 by_cases hn:n<0
 · rw [if_pos hn,Lib.atoiAll_minus,key n.natAbs (by omega)]
   show (if 9223372036854775808<n.natAbs then Lib.NumEnd.range else .ok (-(n.natAbs:Int)))=_
   rw [if_neg (by omega),show (-(n.natAbs:Int))=n by omega]
 · rw [if_neg hn]
   have e:=key n.toNat (by omega)
   have hp:=mA_ n.toNat
   have hd:=hv_ n.toNat
   generalize Lib.decDigits n.toNat=l at e hp hd ⊢
   cases l with
   |nil=>simp at hp
   |cons c r=>
    have hc:=hd c (List.mem_cons_self ..)
    unfold fu_ at hc
    rw [Lib.atoiAll_plain c r (by omega) (by omega),e]
    show (if 9223372036854775808≤n.toNat then Lib.NumEnd.range else .ok (n.toNat:Int))=_
    rw [if_neg (by omega),show (n.toNat:Int)=n by omega]
def dJ_ (enc:aa_→Bs) (j:aa_):Nat→Nat→Bs
 |0,_=>[]
 |k+1,i=>(if i=0 then [] else [44])++(dD_ enc j i++dJ_ enc j k (i+1))
theorem nX_ (enc:aa_→Bs) (j:aa_):∀ k i,ef_ enc j i++dJ_ enc j k i=ef_ enc j (i+k)
 |0,i=>by rw [dJ_,List.append_nil];rfl
 |k+1,i=>by
  rw [dJ_,show i+(k+1)=i+1+k by omega,←nX_ enc j k (i+1)]
  by_cases h:i=0
  · subst h;rw [nW_,is_,if_pos rfl];simp
  · rw [if_neg h,hd_ enc j (by omega)];simp
theorem mQ_ (enc:aa_→Bs) (j:aa_) (m:Nat):ef_ enc j m=dJ_ enc j m 0:=by
 have:=nX_ enc j m 0
 rw [nW_,List.nil_append,Nat.zero_add] at this
 exact this.symm
def Stop (r:Bs):Prop:=∀ c t,r=c::t→¬ fu_ c
theorem n2_:Stop []:=fun c t h=>(by cases h)
theorem lC_ {c:UInt8} {t:Bs} (h:¬ fu_ c):Stop (c::t):=fun d u e=>by cases e;exact h
theorem g7_ (n:Int):∃ c t,Lib.itoa n=c::t∧(c=45∨fu_ c):=by
 unfold Lib.itoa
 by_cases h:n<0
 · rw [if_pos h];exact ⟨45,_,rfl,.inl rfl⟩
 · rw [if_neg h]
   have hp:=mA_ n.toNat
   have hd:=hv_ n.toNat
   generalize Lib.decDigits n.toNat=l at hp hd ⊢
   cases l with
   |nil=>simp at hp
   |cons c r=>exact ⟨c,r,rfl,.inr (hd c (List.mem_cons_self ..))⟩
theorem enc_head {d:Nat} {j:aa_} (h:bE_ d j≤400):∃ c t,FEnc d j=c::t∧c.toNat≠93∧c.toNat≠125∧c.toNat≠44:=by
 cases d with
 |zero=>simp only [bE_] at h;omega
 |succ d=>
  have ho:=(dY_ h).1
  rcases ho.kind with hk|hk|hk|hk|hk|hk
  · exact ⟨110,[117,108,108],by simp only [FEnc,hk,Int.reduceBEq,cond_true],by decide⟩
  · cases hb:(j.n_ == 1) with
    |true=>exact ⟨116,[114,117,101],by simp only [FEnc,hk,hb,Int.reduceBEq,cond_true,cond_false],by decide⟩
    |false=>exact ⟨102,[97,108,115,101],by simp only [FEnc,hk,hb,Int.reduceBEq,cond_true,cond_false],by decide⟩
  · obtain ⟨c,t,e,hc⟩:=g7_ j.n_
    refine ⟨c,t,by simp only [FEnc,hk,Int.reduceBEq,cond_true,cond_false,e],?_⟩
    rcases hc with rfl|hc
    · decide
    · unfold fu_ at hc;omega
  · exact ⟨34,j.s.flatMap fN_++[34],by simp only [FEnc,hk,Int.reduceBEq,cond_true,cond_false,dn_];rfl,by decide⟩
  · exact ⟨91,ef_ (FEnc d) j j.list.length++[93],by simp only [FEnc,hk,Int.reduceBEq,cond_true,cond_false];rfl,by decide⟩
  · exact ⟨123,ef_ (FEnc d) j j.list.length++[125],by simp only [FEnc,hk,Int.reduceBEq,cond_true,cond_false];rfl,by decide⟩
theorem nV_ {d:Nat} {j:aa_} (h:bE_ (d+1) j≤400) {i:Nat} (hi:i<j.list.length):∃ c t,dD_ (FEnc d) j i=c::t∧c.toNat≠93∧c.toNat≠125∧c.toNat≠44:=by
 unfold dD_
 cases (j.kind == 5) with
 |true=>exact ⟨34,(j.names.getD i []).flatMap fN_++[34]++([58]++FEnc d (j.list.getD i aa_.dflt)),by simp only [cond_true,dn_];rfl,by decide⟩
 |false=>exact enc_head (fB_ h hi).size
theorem qesc_nl {s:Bs} (h:∀ c ∈ s,c≠10):∀ c ∈ dn_ s,c≠10:=by
 intro c hc
 unfold dn_ at hc
 simp only [List.cons_append,List.mem_cons,List.mem_append,List.mem_flatMap,List.not_mem_nil,or_false] at hc
 rcases hc with rfl|⟨b,hb,hc⟩|rfl
 · decide
 · have:=h b hb
   unfold fN_ at hc
   split at hc
   · simp only [List.mem_cons,List.not_mem_nil,or_false] at hc
     rcases hc with rfl|rfl
     · decide
     · exact this
   · obtain rfl:=List.mem_singleton.1 hc;exact this
 · decide
theorem text_nl {s:Bs} (h:jk_ s=true):∀ c ∈ s,c≠10:=by
 intro c hc e
 subst e
 unfold jk_ at h
 rw [Bool.and_eq_true] at h
 obtain ⟨i,hi,e⟩:=List.getElem_of_mem hc
 have:=e8_.1 h.1 i hi
 rw [List.getD_eq_getElem?_getD,List.getElem?_eq_getElem hi,Option.getD_some,e] at this
 revert this;decide
theorem jc_ (n:Int):∀ c ∈ Lib.itoa n,c≠10:=by
 intro c hc e
 subst e
 unfold Lib.itoa at hc
 have key:∀ u,(10:UInt8) ∈ Lib.decDigits u→False:=fun u h=>by have:=hv_ u 10 h;unfold fu_ at this;revert this;decide
 split at hc
 · rcases List.mem_cons.1 hc with h|h
   · revert h;decide
   · exact key _ h
 · exact key _ hc
structure Own2 (j:aa_):Prop where
 text:j.kind=3→jk_ j.s=true
 n0:j.kind≠1→j.kind≠2→j.n_=0
 s0:j.kind≠3→j.s=[]
 ns0:j.kind≠5→j.names=[]
theorem fq_ {j:aa_} (h:FOwn j=true):Own2 j:=by
 unfold FOwn FOwnK at h
 simp only [Bool.and_eq_true,Bool.or_eq_true] at h
 obtain ⟨h1,h2,h3,h4,h5⟩:=h
 refine ⟨fun hk => ?_,fun k1 k2 => ?_,fun k3 => ?_,fun k5 => ?_⟩
 · simpa only [hk,Int.reduceBEq,cond_true,cond_false] using h5
 · rcases h3 with h|h|h
   · simpa using h
   · exact absurd (by simpa using h) k1
   · exact absurd (by simpa using h) k2
 · rcases h4 with h|h
   · simpa using h
   · exact absurd (by simpa using h) k3
 · rcases h2 with h|h
   · exact List.eq_nil_of_length_eq_zero (of_decide_eq_true h)
   · exact absurd (by simpa using h) k5
theorem e1_ {d:Nat} {j:aa_} (h:bE_ (d+1) j≤400):FOwn j=true:=by
 simp only [bE_] at h
 cases ho:FOwn j with
 |false=>rw [ho,cond_false] at h;omega
 |true=>rfl
theorem enc_nl:∀ (d:Nat) (j:aa_),bE_ d j≤400→∀ c ∈ FEnc d j,c≠10
 |0,j,h=>by simp only [bE_] at h;omega
 |d+1,j,h=>by
  have ho:=(dY_ h).1
  have ho2:=fq_ (e1_ h)
  have hJ:∀ k i,i+k≤j.list.length→∀ c ∈ dJ_ (FEnc d) j k i,c≠10:=by
   intro k
   induction k with
   |zero=>intro i _ c hc;cases hc
   |succ k ih=>
    intro i hi c hc
    have hp:=fB_ h (i:=i) (by omega)
    simp only [dJ_,List.mem_append] at hc
    rcases hc with hc|hc|hc
    · split at hc
      · cases hc
      · obtain rfl:=List.mem_singleton.1 hc;decide
    · have he:=enc_nl d _ hp.size
      unfold dD_ at hc
      cases hk:(j.kind == 5) with
      |false=>rw [hk,cond_false] at hc;exact he c hc
      |true=>
       obtain ⟨e1,e2⟩:=ho.obj (by simpa using hk)
       have hn:=e8_.1 e2 i (by omega)
       rw [Bool.and_eq_true] at hn
       rw [hk,cond_true] at hc
       simp only [List.mem_append] at hc
       rcases hc with hc|hc|hc
       · exact qesc_nl (text_nl hn.1) c hc
       · obtain rfl:=List.mem_singleton.1 hc;decide
       · exact he c hc
    · exact ih (i+1) (by omega) c hc
  have hA:=hJ j.list.length 0 (by omega)
  rw [←mQ_] at hA
  intro c hc
  rcases ho.kind with hk|hk|hk|hk|hk|hk
  · simp only [FEnc,hk,Int.reduceBEq,cond_true] at hc
    intro e;subst e;revert hc;decide
  · simp only [FEnc,hk,Int.reduceBEq,cond_true,cond_false] at hc
    intro e;subst e;revert hc;cases (j.n_ == 1)<;>decide
  · simp only [FEnc,hk,Int.reduceBEq,cond_true,cond_false] at hc
    exact jc_ _ c hc
  · simp only [FEnc,hk,Int.reduceBEq,cond_true,cond_false] at hc
    exact qesc_nl (text_nl (ho2.text hk)) c hc
  all_goals (
   simp only [FEnc,hk,Int.reduceBEq,cond_true,cond_false,List.mem_append,List.mem_singleton] at hc
   rcases hc with (rfl|hc)|rfl
   · decide
   · exact hA c hc
   · decide)
end Go.Pi
end
section
namespace Go.Pi
def eH_ (b:UInt8):Bs→List Bs
 |[]=>[[]]
 |c::l=>if c=b then []::eH_ b l else match eH_ b l with
  |[]=>[[c]]
  |p::ps=>(c::p)::ps
theorem kf_ (b:UInt8):∀ l,∃ p ps,eH_ b l=p::ps
 |[]=>⟨[],[],rfl⟩
 |c::l=>by
  obtain ⟨p,ps,e⟩:=kf_ b l
  unfold eH_
  by_cases h:c=b
  · rw [if_pos h];exact ⟨_,_,rfl⟩
  · rw [if_neg h,e];exact ⟨_,_,rfl⟩
theorem ke_ (b:UInt8):∀ (s:Bs) (k:Nat),s.count b≤k→Lib.splitK [b] 0 k s=eH_ b s
 |[],0,_=>rfl
 |[],k+1,_=>by
  rw [Lib.splitK]
  have:Lib.index [] [b] = -1:=rfl
  rw [this,if_pos (by decide)];rfl
 |c::l,k,h=>by
  unfold eH_
  by_cases e:c=b
  · subst e
    rw [List.count_cons_self] at h
    obtain ⟨k,rfl⟩:∃ m,k=m+1:=⟨k - 1,by omega⟩
    rw [Lib.splitK,ge_,if_pos rfl,if_neg (by decide),if_pos rfl]
    show []::Lib.splitK [c] 0 k l=_
    rw [ke_ c l k (by omega)]
  · rw [List.count_cons_of_ne e] at h
    have ih:=ke_ b l k h
    rw [if_neg e,←ih]
    cases k with
    |zero=>rfl
    |succ k=>
     have hx:Lib.index (c::l) [b]=if Lib.index l [b] = -1 then -1 else Lib.index l [b]+1:=by rw [ge_,if_neg (show ¬ b=c from fun h=>e h.symm)]
     rw [Lib.splitK,Lib.splitK,hx]
     by_cases h2:Lib.index l [b] = -1
     · rw [if_pos h2,if_pos (by decide),h2,if_pos (by decide)]
     · have:=Lib.index_ge l [b]
       obtain ⟨i,hi⟩:∃ i:Nat,Lib.index l [b]=i:=⟨(Lib.index l [b]).toNat,by omega⟩
       rw [if_neg h2,if_neg (by rw [hi];simp<;>omega),if_neg (by rw [hi];simp<;>omega),hi,show ((i:Int)+1).toNat=i+1 by omega,show ((i:Int)).toNat=i by omega]
       rfl
theorem split_one (b:UInt8) (s:Bs):Lib.split s [b]=eH_ b s:=by
 unfold Lib.split
 rw [mB_]
 exact ke_ b s _ (Nat.le_refl _)
theorem kg_ (b:UInt8):∀ (s:Bs),(eH_ b s).length≤s.length+1∧∀ p ∈ eH_ b s,p.length≤s.length
 |[]=>⟨Nat.le_refl _,fun p hp=>by obtain rfl:=List.mem_singleton.1 hp;exact Nat.le_refl _⟩
 |c::l=>by
  obtain ⟨h1,h2⟩:=kg_ b l
  obtain ⟨p,ps,e⟩:=kf_ b l
  unfold eH_
  by_cases h:c=b
  · rw [if_pos h]
    refine ⟨by simp;omega,fun q hq => ?_⟩
    rcases List.mem_cons.1 hq with rfl|hq
    · simp
    · have:=h2 q hq;simp;omega
  · rw [if_neg h,e]
    rw [e] at h1 h2
    refine ⟨by simp at h1 ⊢;omega,fun q hq => ?_⟩
    rcases List.mem_cons.1 hq with rfl|hq
    · have:=h2 p (List.mem_cons_self ..);simp;omega
    · have:=h2 q (List.mem_cons_of_mem _ hq);simp;omega
theorem kh_ (b:UInt8) (r:Bs):∀ (a:Bs),(∀ c ∈ a,c≠b)→eH_ b (a++b::r)=a::eH_ b r
 |[],_=>by rw [List.nil_append,eH_,if_pos rfl]
 |c::a,h=>by
  rw [List.cons_append,eH_,if_neg (h c (List.mem_cons_self ..)),kh_ b r a fun x hx=>h x (List.mem_cons_of_mem _ hx)]
theorem ni_ (b:UInt8):∀ (a:Bs),(∀ c ∈ a,c≠b)→eH_ b a=[a]
 |[],_=>rfl
 |c::a,h=>by rw [eH_,if_neg (h c (List.mem_cons_self ..)),ni_ b a fun x hx=>h x (List.mem_cons_of_mem _ hx)]
theorem wesc_sl (s:Bs):∀ c ∈ s.flatMap gz_,c≠47:=by
 intro c hc
 obtain ⟨b,_,hc⟩:=List.mem_flatMap.1 hc
 unfold gz_ at hc
 split at hc
 · intro e;subst e;revert hc;decide
 · split at hc
   · intro e;subst e;revert hc;decide
   · obtain rfl:=List.mem_singleton.1 hc;assumption
theorem pj_:∀ (w:List Bs),eH_ 47 (FWay w)=[]::w.map fun s=>s.flatMap gz_
 |[]=>rfl
 |s::w=>by
  have e:FWay (s::w)=[]++47::(s.flatMap gz_++FWay w):=rfl
  rw [e,kh_ 47 _ [] (fun c h=>by cases h)]
  congr 1
  cases w with
  |nil=>
   have:FWay ([]:List Bs)=[]:=rfl
   rw [this,List.append_nil,ni_ 47 _ (wesc_sl s)];rfl
  |cons t w=>
   have ih:=pj_ (t::w)
   have e2:FWay (t::w)=47::(t.flatMap gz_++FWay w):=rfl
   rw [e2,eH_,if_pos rfl] at ih
   rw [e2,kh_ 47 _ _ (wesc_sl s),List.map_cons,List.cons.inj ih |>.2]
def gW_ (a b:UInt8) (new:Bs):Bs→Bs
 |[]=>[]
 |[x]=>[x]
 |x::y::l=>if x=a∧y=b then new++gW_ a b new l else x::gW_ a b new (y::l)
theorem nB_ (a b x:UInt8) (l:Bs):Lib.index (x::l) [a,b]=if x=a∧l.head?=some b then 0 else if Lib.index l [a,b] = -1 then -1 else Lib.index l [a,b]+1:=by
 rw [Lib.index]
 have:List.isPrefixOf [a,b] (x::l)=decide (x=a∧l.head?=some b):=by
  refine Bool.eq_iff_iff.2 ?_
  cases l with
  |nil=>simp [List.isPrefixOf]
  |cons y l=>
   simp only [List.isPrefixOf,List.head?_cons,Option.some.injEq,decide_eq_true_eq,Bool.and_true,Bool.and_eq_true,beq_iff_eq]
   exact ⟨fun ⟨h1,h2⟩=>⟨h1.symm,h2.symm⟩,fun ⟨h1,h2⟩=>⟨h1.symm,h2.symm⟩⟩
 rw [this]
 by_cases h:x=a∧l.head?=some b
 · rw [decide_eq_true h,if_pos rfl,if_pos h]
 · rw [decide_eq_false h,if_neg (by simp),if_neg h]
   by_cases h2:Lib.index l [a,b] = -1
   · rw [h2,if_pos rfl,if_pos (by decide)]
   · rw [if_neg h2,if_neg (by simpa using h2)]
def cnt2 (a b:UInt8):Bs→Nat
 |[]=>0
 |[_]=>0
 |x::y::l=>if x=a∧y=b then 1+cnt2 a b l else cnt2 a b (y::l)
theorem q8_ (a b:UInt8):∀ l:Bs,cnt2 a b l≤l.length
 |[]=>Nat.le_refl _
 |[_]=>by simp [cnt2]
 |x::y::l=>by
  unfold cnt2
  have h1:=q8_ a b l
  have h2:=q8_ a b (y::l)
  split
  · simp;omega
  · simp at h2 ⊢;omega
theorem kB_ (a b:UInt8):∀ (s:Bs) (f:Nat),s.length<f→Lib.countFrom [a,b] f s=cnt2 a b s
 |[],f+1,_=>by
  rw [Lib.countFrom]
  have:Lib.index [] [a,b] = -1:=rfl
  rw [this,if_pos (by decide)];rfl
 |[x],f+1,_=>by
  rw [Lib.countFrom]
  have:Lib.index [x] [a,b] = -1:=by
   rw [nB_,if_neg (by simp)];rfl
  rw [this,if_pos (by decide)];rfl
 |x::y::l,f+1,h=>by
  have hl:l.length+1<f:=by simpa using h
  unfold cnt2
  by_cases e:x=a∧y=b
  · have hx:Lib.index (x::y::l) [a,b]=0:=by rw [nB_,if_pos (show x=a∧(y::l).head?=some b by simpa using e)]
    rw [if_pos e,Lib.countFrom,hx,if_neg (by decide)]
    show 1+Lib.countFrom [a,b] f l=_
    rw [kB_ a b l f (by omega)]
  · have hx:Lib.index (x::y::l) [a,b]=if Lib.index (y::l) [a,b] = -1 then -1 else Lib.index (y::l) [a,b]+1:=by rw [nB_,if_neg (show ¬ (x=a∧(y::l).head?=some b) by simpa using e)]
    rw [if_neg e,←kB_ a b (y::l) (f+1) (by simp;omega),Lib.countFrom,Lib.countFrom,hx]
    by_cases h2:Lib.index (y::l) [a,b] = -1
    · rw [if_pos h2,if_pos (by decide),h2,if_pos (by decide)]
    · have:=Lib.index_ge (y::l) [a,b]
      obtain ⟨i,hi⟩:∃ i:Nat,Lib.index (y::l) [a,b]=i:=⟨(Lib.index (y::l) [a,b]).toNat,by omega⟩
      rw [if_neg h2,if_neg (by rw [hi];simp<;>omega),if_neg (by rw [hi];simp<;>omega),hi,show ((i:Int)+1).toNat=i+1 by omega,show ((i:Int)).toNat=i by omega]
      rfl
theorem count2 (a b:UInt8) (s:Bs):Lib.count s [a,b]=cnt2 a b s:=kB_ a b s _ (Nat.lt_succ_self _)
theorem l1_ (a b:UInt8) (new:Bs):∀ (s:Bs) (k:Nat),cnt2 a b s≤k→Lib.replaceK [a,b] new k s=gW_ a b new s
 |[],0,_=>rfl
 |[],k+1,_=>by
  rw [Lib.replaceK]
  have:Lib.index [] [a,b] = -1:=rfl
  rw [this,if_pos (by decide)];rfl
 |[x],0,_=>rfl
 |[x],k+1,_=>by
  rw [Lib.replaceK]
  have:Lib.index [x] [a,b] = -1:=by rw [nB_,if_neg (by simp)];rfl
  rw [this,if_pos (by decide)];rfl
 |x::y::l,k,h=>by
  unfold cnt2 at h
  unfold gW_
  by_cases e:x=a∧y=b
  · rw [if_pos e] at h ⊢
    obtain ⟨k,rfl⟩:∃ m,k=m+1:=⟨k - 1,by omega⟩
    have hx:Lib.index (x::y::l) [a,b]=0:=by rw [nB_,if_pos (show x=a∧(y::l).head?=some b by simpa using e)]
    rw [Lib.replaceK,hx,if_neg (by decide)]
    show []++new++Lib.replaceK [a,b] new k l=_
    rw [l1_ a b new l k (by omega)];rfl
  · rw [if_neg e] at h ⊢
    have ih:=l1_ a b new (y::l) k h
    rw [←ih]
    cases k with
    |zero=>rfl
    |succ k=>
     have hx:Lib.index (x::y::l) [a,b]=if Lib.index (y::l) [a,b] = -1 then -1 else Lib.index (y::l) [a,b]+1:=by rw [nB_,if_neg (show ¬ (x=a∧(y::l).head?=some b) by simpa using e)]
     rw [Lib.replaceK,Lib.replaceK,hx]
     by_cases h2:Lib.index (y::l) [a,b] = -1
     · rw [if_pos h2,if_pos (by decide),h2,if_pos (by decide)]
     · have:=Lib.index_ge (y::l) [a,b]
       obtain ⟨i,hi⟩:∃ i:Nat,Lib.index (y::l) [a,b]=i:=⟨(Lib.index (y::l) [a,b]).toNat,by omega⟩
       rw [if_neg h2,if_neg (by rw [hi];simp<;>omega),if_neg (by rw [hi];simp<;>omega),hi,show ((i:Int)+1).toNat=i+1 by omega,show ((i:Int)).toNat=i by omega]
       rfl
theorem qI_ (a b:UInt8) (new s:Bs) (hne:([a,b] == new)=false):Lib.replaceAll s [a,b] new=gW_ a b new s:=by
 unfold Lib.replaceAll Lib.replace Lib.replaceNum
 rw [hne,if_neg (by simp),if_pos (.inl (by decide)),count2]
 exact l1_ a b new s _ (Nat.le_refl _)
theorem hm_ (a b c:UInt8):∀ l:Bs,(gW_ a b [c] l).length≤l.length
 |[]=>Nat.le_refl _
 |[_]=>Nat.le_refl _
 |x::y::l=>by
  unfold gW_
  have h1:=hm_ a b c l
  have h2:=hm_ a b c (y::l)
  split
  · simp;omega
  · simp at h2 ⊢;omega
theorem rH_ (a b:UInt8) (new l:Bs):gW_ a b new (a::b::l)=new++gW_ a b new l:=by rw [gW_,if_pos ⟨rfl,rfl⟩]
theorem l2_ {a b x:UInt8} (h:x≠a) (new l:Bs):gW_ a b new (x::l)=x::gW_ a b new l:=by
 cases l with
 |nil=>rfl
 |cons y l=>rw [gW_,if_neg fun e=>h e.1]
theorem sI_ {a b y:UInt8} (h:y≠b) (new l:Bs) (h2:y≠a):gW_ a b new (a::y::l)=a::y::gW_ a b new l:=by
 rw [gW_,if_neg fun e=>h e.2,l2_ h2]
def o9_ (c:UInt8):Bs:=if c=126 then [126,48] else [c]
theorem unesc1:∀ (s:Bs),gW_ 126 49 [47] (s.flatMap gz_)=s.flatMap o9_
 |[]=>rfl
 |c::s=>by
  have ih:=unesc1 s
  rw [List.flatMap_cons,List.flatMap_cons]
  generalize s.flatMap gz_=x at ih ⊢
  generalize s.flatMap o9_=y at ih ⊢
  by_cases h1:c=126
  · have e1:gz_ c=[126,48]:=if_pos h1
    have e2:o9_ c=[126,48]:=if_pos h1
    rw [e1,e2]
    show gW_ 126 49 [47] (126::48::x)=126::48::y
    rw [sI_ (by decide) _ _ (by decide),ih]
  · have e2:o9_ c=[c]:=if_neg h1
    by_cases h2:c=47
    · have e1:gz_ c=[126,49]:=by unfold gz_;rw [if_neg h1,if_pos h2]
      rw [e1,e2]
      show gW_ 126 49 [47] (126::49::x)=c::y
      rw [rH_,ih,h2];rfl
    · have e1:gz_ c=[c]:=by unfold gz_;rw [if_neg h1,if_neg h2]
      rw [e1,e2]
      show gW_ 126 49 [47] (c::x)=c::y
      rw [l2_ h1,ih]
theorem unesc2:∀ (s:Bs),gW_ 126 48 [126] (s.flatMap o9_)=s
 |[]=>rfl
 |c::s=>by
  have ih:=unesc2 s
  rw [List.flatMap_cons]
  generalize s.flatMap o9_=y at ih ⊢
  by_cases h1:c=126
  · have e2:o9_ c=[126,48]:=if_pos h1
    rw [e2]
    show gW_ 126 48 [126] (126::48::y)=_
    rw [rH_,ih,h1];rfl
  · have e2:o9_ c=[c]:=if_neg h1
    rw [e2]
    show gW_ 126 48 [126] (c::y)=_
    rw [l2_ h1,ih]
end Go.Pi
end
section
namespace Go.Pi
theorem hE_:∀ (d:Nat) (j:aa_),bE_ d j≤400→Ev (fun n _=>aO_ n j) (FEnc d j)
 |0,j,h=>by simp only [bE_] at h;omega
 |d+1,j,h=>by
  have ho:=(dY_ h).1
  have hll:=eR_ h
  refine ap_ ?_
  have hloop:(j.kind=4∨j.kind=5)→∀ (K:Nat→Bs→Int→Int→Bs→List aa_→List Bs→Option Bs) (v:Bs),Ev (fun n N=>K n (ef_ (FEnc d) j j.list.length) j.kind j.n_ j.s j.list j.names) v→Ev (fun n _=>aO_.loop17 n (aO_ n) (K n) n [] 0 j.kind j.n_ j.s j.list j.names) v:=by
   intro hk45 K v hK
   refine eE_ (fun i=>ef_ (FEnc d) j i) j.list.length (fun n N i (o:Bs)=>aO_.loop17 n (aO_ n) (K n) N o (i:Int) j.kind j.n_ j.s j.list j.names) v (fun i hi F hF => ?_) ?_
   · have hp:=fB_ h hi
     have hx:=hE_ d (j.list.getD i aa_.dflt) hp.size
     have hjl:=oC_ h i (by omega)
     have he:=hp.enc
     have hW:=W_up hi (show j.list.length≤b6_ by simp only [b6_];omega)
     rcases hk45 with hk|hk
     · have h5:(j.kind == 5)=false:=by rw [hk];rfl
       by_cases h0:i=0
       · have hg:decide ((i:Int) > 0)=false:=decide_eq_false (by omega)
         have e0:ef_ (FEnc d) j i=[]:=by rw [h0];rfl
         have e1:ef_ (FEnc d) j (i+1)=dD_ (FEnc d) j i:=by rw [h0];exact is_ _ _
         rw [e1] at hF
         unfold dD_ at hF
         rw [h5,cond_false] at hF
         simp only [e0,aO_.turn17,aO_.step17,aS_,Int.toNat_natCast,hW,h5,hg,reduceCtorEq,false_implies,true_implies,true_and,and_true,am_,bb_,dA_,cC_ hi,cf_ hi,ab_ hx,List.nil_append]
         generalize FEnc d (j.list.getD i aa_.dflt)=x at hF he ⊢
         repeat' (first|apply And.intro|intro _)
         all_goals (first|contradiction|exact hF|trivial|(rename_i hc;have hc:=of_decide_eq_false hc;simp only [List.length_append,List.length_cons,List.length_nil] at hc;omega))
       · rw [hd_ _ _ (by omega)] at hF
         unfold dD_ at hF
         rw [h5,cond_false] at hF
         have hg:decide ((i:Int) > 0)=true:=decide_eq_true (by omega)
         simp only [aO_.turn17,aO_.step17,aS_,Int.toNat_natCast,hW,h5,hg,am_,bb_,dA_,cC_ hi,cf_ hi,ab_ hx]
         generalize FEnc d (j.list.getD i aa_.dflt)=x at hF he ⊢
         generalize ef_ (FEnc d) j i=o at hF hjl ⊢
         repeat' (first|apply And.intro|intro _)
         all_goals (first|contradiction|exact hF|trivial|(rename_i hc;have hc:=of_decide_eq_false hc;simp only [List.length_append,List.length_cons,List.length_nil] at hc;omega))
     · have h5:(j.kind == 5)=true:=by rw [hk];rfl
       have hn:=hp.name hk
       have hq:=hT_ (s:=j.names.getD i []) (by omega)
       have hql:=gg_ (j.names.getD i [])
       by_cases h0:i=0
       · have hg:decide ((i:Int) > 0)=false:=decide_eq_false (by omega)
         have e0:ef_ (FEnc d) j i=[]:=by rw [h0];rfl
         have e1:ef_ (FEnc d) j (i+1)=dD_ (FEnc d) j i:=by rw [h0];exact is_ _ _
         rw [e1] at hF
         unfold dD_ at hF
         rw [h5,cond_true] at hF
         simp only [e0,aO_.turn17,aO_.step17,aS_,Int.toNat_natCast,hW,h5,hg,reduceCtorEq,false_implies,true_implies,true_and,and_true,am_,bb_,dA_,cC_ hi,cf_ hi,cf_ hn.1,ab_ hx,ab_ hq,List.nil_append]
         generalize FEnc d (j.list.getD i aa_.dflt)=x at hF he ⊢
         generalize dn_ (j.names.getD i [])=y at hF hql ⊢
         rw [←List.append_assoc] at hF
         repeat' (first|apply And.intro|intro _)
         all_goals (first|contradiction|exact hF|trivial|(rename_i hc;have hc:=of_decide_eq_false hc;simp only [List.length_append,List.length_cons,List.length_nil] at hc;omega))
       · rw [hd_ _ _ (by omega)] at hF
         unfold dD_ at hF
         rw [h5,cond_true] at hF
         have hg:decide ((i:Int) > 0)=true:=decide_eq_true (by omega)
         simp only [aO_.turn17,aO_.step17,aS_,Int.toNat_natCast,hW,h5,hg,am_,bb_,dA_,cC_ hi,cf_ hi,cf_ hn.1,ab_ hx,ab_ hq]
         generalize FEnc d (j.list.getD i aa_.dflt)=x at hF he ⊢
         generalize dn_ (j.names.getD i [])=y at hF hql ⊢
         generalize ef_ (FEnc d) j i=o at hF hjl ⊢
         rw [←List.append_assoc,←List.append_assoc] at hF
         repeat' (first|apply And.intro|intro _)
         all_goals (first|contradiction|exact hF|trivial|(rename_i hc;have hc:=of_decide_eq_false hc;simp only [List.length_append,List.length_cons,List.length_nil] at hc;omega))
   · simp only [aO_.turn17,aO_.step17,cn_,cond_false]
     exact hK
  have hjl:=oC_ h j.list.length (Nat.le_refl _)
  simp only [aO_,aS_]
  rcases ho.kind with hk|hk|hk|hk|hk|hk
  · simp only [FEnc,hk,Int.reduceBEq,cond_true,ae_]
  · simp only [FEnc,hk,Int.reduceBEq,cond_true,cond_false,am_,ae_]
    cases (j.n_ == 1)<;>simp
  · have hn:=ho.num hk
    simp only [FEnc,hk,Int.reduceBEq,cond_true,cond_false,ab_ (cO_ (x:=j.n_) (by omega) (by omega)),ae_]
  · have hs:=ho.text hk
    simp only [FEnc,hk,Int.reduceBEq,cond_true,cond_false,ab_ (hT_ (s:=j.s) (by omega)),ae_]
  all_goals (
   have e0:(j.kind == 0)=false:=by rw [hk];rfl
   have e1:(j.kind == 1)=false:=by rw [hk];rfl
   have e2:(j.kind == 2)=false:=by rw [hk];rfl
   have e3:(j.kind == 3)=false:=by rw [hk];rfl
   simp only [FEnc,e0,e1,e2,e3,cond_false]
   refine hloop (by omega) _ _ ?_
   generalize ef_ (FEnc d) j j.list.length=o at hjl ⊢
   simp only [hk,Int.reduceBEq,cond_true,cond_false,am_,ae_,dA_]
   refine ⟨fun _=>⟨fun _=>trivial,fun hc => ?_⟩,fun hc => ?_⟩
   · have hc:=of_decide_eq_false hc
     simp only [List.length_append,List.length_cons,List.length_nil] at hc;omega
   · have hc:=of_decide_eq_false hc
     simp only [List.length_append,List.length_cons,List.length_nil] at hc;omega)
theorem Join_ev {l:List Bs} {sep:Bs} (hl:l.length≤1000000) (hj:(Lib.join l sep).length≤1000000000):Ev (fun n _=>strings_Join n l sep) (Lib.join l sep):=by
 refine ap_ ?_
 simp only [strings_Join,nJoin,am_,ae_,dA_]
 refine ⟨fun _=>trivial,fun h => ?_⟩
 rw [decide_eq_true (by omega),decide_eq_true (by omega)] at h;cases h
theorem h9_:∀ (d:Nat) (j:aa_),bE_ d j≤400→Ev (fun n _=>a8_ n j) (FEnc d j)
 |0,j,h=>by simp only [bE_] at h;omega
 |d+1,j,h=>by
  have ho:=(dY_ h).1
  have hll:=eR_ h
  refine ap_ ?_
  have hloop:∀ (K:Nat→Int→Int→Bs→List aa_→List Bs→List Bs→Option Bs) (v:Bs),Ev (fun n N=>K n j.kind j.n_ j.s j.list j.names ((List.range j.list.length).map (dD_ (FEnc d) j))) v→Ev (fun n _=>a8_.loop4 n (a8_ n) (K n) n j.list (j.list.length:Int) 0 j.kind j.n_ j.s j.list j.names []) v:=by
   intro K v hK
   refine eE_ (fun i=>(List.range i).map (dD_ (FEnc d) j)) j.list.length (fun n N i (o:List Bs)=>a8_.loop4 n (a8_ n) (K n) N j.list (j.list.length:Int) (i:Int) j.kind j.n_ j.s j.list j.names o) v (fun i hi F hF => ?_) ?_
   · have hp:=fB_ h hi
     have hx:=h9_ d (j.list.getD i aa_.dflt) hp.size
     have he:=hp.enc
     have hW:=W_up hi (show j.list.length≤b6_ by simp only [b6_];omega)
     have hol:((List.range i).map (dD_ (FEnc d) j)).length=i:=by simp
     rw [List.range_succ,List.map_append,List.map_cons,List.map_nil] at hF
     unfold dD_ at hF
     cases h5:(j.kind == 5) with
     |false=>
      simp only [h5,cond_false] at hF
      unfold dD_ at hol ⊢
      simp only [h5,cond_false] at hol ⊢
      simp only [a8_.turn4,a8_.step4,aS_,Int.toNat_natCast,hW,h5,cond_false,am_,bb_,dA_,bk_,cC_ hi,cf_ hi,ab_ hx]
      generalize FEnc d (j.list.getD i aa_.dflt)=x at hF he ⊢
      generalize (List.range i).map _=o at hF hol ⊢
      exact ⟨fun _=>⟨trivial,by simp;omega,hF⟩,fun h=>(by cases h)⟩
     |true=>
      have hn:=hp.name (by simpa using h5)
      have hq:=iU_ (s:=j.names.getD i []) (by omega)
      have hql:=gg_ (j.names.getD i [])
      simp only [h5,cond_true] at hF
      unfold dD_ at hol ⊢
      simp only [h5,cond_true] at hol ⊢
      simp only [a8_.turn4,a8_.step4,aS_,Int.toNat_natCast,hW,h5,cond_true,am_,bb_,dA_,bk_,cC_ hi,cf_ hi,cf_ hn.1,ab_ hx,ab_ hq]
      generalize FEnc d (j.list.getD i aa_.dflt)=x at hF he ⊢
      generalize dn_ (j.names.getD i [])=y at hF hql ⊢
      generalize (List.range i).map _=o at hF hol ⊢
      rw [←List.append_assoc] at hF
      repeat' (first|apply And.intro|intro _)
      all_goals (first|contradiction|exact hF|trivial|(rename_i hc;have hc:=of_decide_eq_false hc;simp only [List.length_append,List.length_cons,List.length_nil] at hc;omega)|(simp;omega))
   · simp only [a8_.turn4,a8_.step4,cn_,cond_false]
     exact hK
  have hjl:=oC_ h j.list.length (Nat.le_refl _)
  have hJ:=Join_ev (l:=(List.range j.list.length).map (dD_ (FEnc d) j)) (sep:=[44]) (by simp;omega) (by unfold ef_ at hjl;omega)
  simp only [a8_,aS_]
  refine hloop _ _ ?_
  rcases ho.kind with hk|hk|hk|hk|hk|hk
  · simp only [FEnc,hk,Int.reduceBEq,cond_true,ae_]
  · have hb:=ho.bool hk
    simp only [FEnc,hk,Int.reduceBEq,cond_true,cond_false,bb_,ae_]
    have:j.n_=0∨j.n_=1:=by omega
    rcases this with e|e<;>rw [e]<;>exact ⟨⟨by decide,by decide⟩,rfl⟩
  · have hn:=ho.num hk
    simp only [FEnc,hk,Int.reduceBEq,cond_true,cond_false,ab_ (Itoa_ev (x:=j.n_) (by omega) (by omega)),ae_]
  · have hs:=ho.text hk
    simp only [FEnc,hk,Int.reduceBEq,cond_true,cond_false,ab_ (iU_ (s:=j.s) (by omega)),ae_]
  all_goals (
   simp only [FEnc,hk,Int.reduceBEq,cond_true,cond_false,ab_ hJ]
   unfold ef_ at hjl ⊢
   generalize Lib.join ((List.range j.list.length).map (dD_ (FEnc d) j)) [44]=o at hjl ⊢
   simp only [am_,ae_,dA_]
   refine ⟨fun _=>⟨fun _=>trivial,fun hc => ?_⟩,fun hc => ?_⟩
   · have hc:=of_decide_eq_false hc
     simp only [List.length_append,List.length_cons,List.length_nil] at hc;omega
   · have hc:=of_decide_eq_false hc
     simp only [List.length_append,List.length_cons,List.length_nil] at hc;omega)
def bx_ (j:aa_):Bs:=cond (cG_ j) (cond (decide (((FEnc 6 j).length:Int) > 6000)) [] (FEnc 6 j)) []
theorem dQ_ {j:aa_} (h:ft_ 6 j):Ev (fun n _=>cZ_ n j) (bx_ j):=by
 refine ap_ ?_
 simp only [cZ_,aS_,ab_ (da_ h),am_,ae_,bx_]
 cases hj:cG_ j with
 |false=>simp
 |true=>
  simp only [ab_ (hE_ 6 j (of_decide_eq_true hj)),am_,ae_]
  cases decide (((FEnc 6 j).length:Int) > 6000)<;>simp
theorem ee_ {j:aa_} (h:ft_ 6 j):Ev (fun n _=>dq_ n j) (bx_ j):=by
 refine ap_ ?_
 simp only [dq_,aS_,ab_ (eA_ h),am_,ae_,bx_]
 cases hj:cG_ j with
 |false=>simp
 |true=>
  simp only [ab_ (h9_ 6 j (of_decide_eq_true hj)),am_,ae_]
  cases decide (((FEnc 6 j).length:Int) > 6000)<;>simp
end Go.Pi
end
section
namespace Go.Pi
def te_:Nat→aa_→Prop
 |0,_=>False
 |d+1,j=>∀ x ∈ j.list,te_ d x
theorem hc_:∀ (d:Nat) (j:aa_),bE_ d j≤400→te_ d j
 |0,j,h=>by simp only [bE_] at h;omega
 |d+1,j,h=>fun x hx=>by
  refine hc_ d x ?_
  simp only [bE_] at h
  have:=i1_ (bE_ d) hx
  cases ho:FOwn j with
  |false=>rw [ho] at h;simp only [cond_false] at h;omega
  |true=>rw [ho] at h;simp only [cond_true] at h;omega
def jj_ (a b:List Bs):Bool:=decide (a.length=b.length)&&iL_ (fun i=>a.getD i [] == b.getD i []) a.length
def e5_:Nat→aa_→aa_→Bool
 |0,_,_=>true
 |d+1,a,b=>(a.kind == b.kind)&&((a.n_ == b.n_)&&((a.s == b.s)&&(jj_ a.names b.names&&(decide (a.list.length=b.list.length)&&iL_ (fun i=>e5_ d (a.list.getD i aa_.dflt) (b.list.getD i aa_.dflt)) a.list.length))))
theorem rM_ {n m:Nat}:((n:Int) != (m:Int)) = !decide (n=m):=by
 by_cases h:n=m
 · rw [h,decide_eq_true rfl];simp
 · rw [decide_eq_false h];simp;omega
theorem fI_:∀ (d:Nat) (a b:aa_),te_ d a→ft_ d a→Ev (fun n _=>aq_ n a b) (e5_ d a b)
 |0,a,b,h,_=>h.elim
 |d+1,a,b,h,hl=>by
  refine ap_ ?_
  simp only [aq_,rM_,am_,ae_,e5_,jj_]
  by_cases hq:a.list.length=b.list.length
  · by_cases hq2:a.names.length=b.names.length
    · have hN:Ev (fun n _=>aq_.loop14 n (aq_ n) (some true) n 0 a.kind a.n_ a.s a.list a.names b.kind b.n_ b.s b.list b.names) (iL_ (fun i=>a.names.getD i [] == b.names.getD i []) a.names.length):=by
       refine ga_ (e4_ (fun n N i=>aq_.loop14 n (aq_ n) (some true) N (i:Int) a.kind a.n_ a.s a.list a.names b.kind b.n_ b.s b.list b.names) (fun i=>a.names.getD i [] == b.names.getD i []) (len:=a.names.length) (v:=true) (fun i w hi ih => ?_) ?_) (by rw [Bool.and_true])
       · simp only [aq_.turn14,aq_.step14,Int.toNat_natCast,W_up hi hl.1.2.1,am_,bb_,ae_,dB_ ih,cC_ hi,cf_ hi,cf_ (hq2 ▸ hi)]
         cases (a.names.getD i [] == b.names.getD i [])<;>simp
       · simp only [aq_.turn14,aq_.step14,cn_,cond_false,ae_]
      have hL:Ev (fun n _=>aq_.loop6 n (aq_ n) (fun xy2 xy3 xy4 xy5 xy6 xy7 xy8 xy9 xy10 xy11=>(aq_.loop14 n (aq_ n) (some true) n 0 xy2 xy3 xy4 xy5 xy6 xy7 xy8 xy9 xy10 xy11)) n 0 a.kind a.n_ a.s a.list a.names b.kind b.n_ b.s b.list b.names) (iL_ (fun i=>e5_ d (a.list.getD i aa_.dflt) (b.list.getD i aa_.dflt)) a.list.length&&iL_ (fun i=>a.names.getD i [] == b.names.getD i []) a.names.length):=by
       refine e4_ (fun n N i=>aq_.loop6 n (aq_ n) (fun xy2 xy3 xy4 xy5 xy6 xy7 xy8 xy9 xy10 xy11=>(aq_.loop14 n (aq_ n) (some true) n 0 xy2 xy3 xy4 xy5 xy6 xy7 xy8 xy9 xy10 xy11)) N (i:Int) a.kind a.n_ a.s a.list a.names b.kind b.n_ b.s b.list b.names) _ (fun i w hi ih => ?_) ?_
       · have hx:=fI_ d (a.list.getD i aa_.dflt) (b.list.getD i aa_.dflt) (h _ (bX_ _ hi)) (hl.2.2 _ (bX_ _ hi))
         simp only [aq_.turn6,aq_.step6,aS_,Int.toNat_natCast,W_up hi hl.2.1,am_,bb_,ab_ hx,ae_,dB_ ih,cC_ hi,cf_ hi,cf_ (hq ▸ hi)]
         cases e5_ d (a.list.getD i aa_.dflt) (b.list.getD i aa_.dflt)<;>simp
       · simp only [aq_.turn6,aq_.step6,cn_,cond_false]
         exact hN
      rw [decide_eq_true hq,decide_eq_true hq2]
      simp only [dB_ hL,bne]
      generalize iL_ (fun i=>e5_ d (a.list.getD i aa_.dflt) (b.list.getD i aa_.dflt)) a.list.length=u
      generalize iL_ (fun i=>a.names.getD i [] == b.names.getD i []) a.names.length=w
      cases (a.kind == b.kind)<;>cases (a.n_ == b.n_)<;>cases (a.s == b.s)<;>cases u<;>cases w<;>simp
    · rw [decide_eq_false hq2]
      simp only [bne]
      cases (a.kind == b.kind)<;>cases (a.n_ == b.n_)<;>cases (a.s == b.s)<;>cases decide (a.list.length=b.list.length)<;>simp
  · rw [decide_eq_false hq]
    simp only [bne]
    cases (a.kind == b.kind)<;>cases (a.n_ == b.n_)<;>cases (a.s == b.s)<;>simp
end Go.Pi
end
section
namespace Go.Pi
def gY_ (ns:List Bs) (x:Bs):Nat:=ns.findIdx (fun y => !Op.bytesLess y x)
def gX_ (ns:List Bs) (x:Bs):Nat:=if ns.getD (gY_ ns x) []=x∧gY_ ns x<ns.length then gY_ ns x+1 else gY_ ns x
def l3_ {α:Type} (ns:List Bs) (x:Bs) (l:List α) (y:α):List α:=l.take (gY_ ns x)++[y]++l.drop (gX_ ns x)
theorem iw_ {α:Type} (d:α) {a m:List α} {i q:Nat} (p:Nat) (hi:i<a.length) (h:q≤i):a.take p++m++(a.take (i+1)).drop q=a.take p++m++(a.take i).drop q++[a.getD i d]:=by
 rw [cB_ d hi,List.drop_append_of_le_length (by simp;omega)]
 simp
theorem put_idx {ns:List Bs} {x:Bs} {i:Nat} (hi:i<ns.length) (hle:i≤gY_ ns x):(!Op.bytesLess (ns.getD i []) x)=decide (i=gY_ ns x):=by
 rw [List.getD_eq_getElem?_getD,List.getElem?_eq_getElem hi,Option.getD_some]
 unfold gY_ at hle ⊢
 by_cases h:i=ns.findIdx (fun y => !Op.bytesLess y x)
 · rw [decide_eq_true h]
   have:=List.findIdx_getElem (xs:=ns) (p:=fun y => !Op.bytesLess y x) (w:=by omega)
   simp only [←h] at this
   exact this
 · rw [decide_eq_false h]
   exact List.not_of_lt_findIdx (xs:=ns) (p:=fun y => !Op.bytesLess y x) (i:=i) (by omega)
theorem hi_ {o j:aa_} {x:Bs} (hk:o.names.length≤2000000) (he:o.list.length=o.names.length) (hlt:∀ y,Op.bytesLess y x=true→(y == x)=false) (hne:∀ i,gX_ o.names x≤i→i<o.names.length→(o.names.getD i [] == x)=false) :
  Ev (fun n _=>bL_ n o x j) (aa_.mk 5 0 [] (l3_ o.names x o.list j) (l3_ o.names x o.names x)):=by
 refine ap_ ?_
 have ht:o.names.length≤b6_:=by simp only [b6_];omega
 obtain ⟨p,hp⟩:∃ p,p=gY_ o.names x:=⟨_,rfl⟩
 have hpl:p≤o.names.length:=by rw [hp];exact List.findIdx_le_length
 obtain ⟨q,hq⟩:∃ q,q=gX_ o.names x:=⟨_,rfl⟩
 have hqp:p≤q∧q≤p+1:=by rw [hq,hp];unfold gX_;split<;>omega
 have hT:o.list.take o.names.length=o.list:=List.take_of_length_le (by omega)
 let S:Nat→Bool × List aa_ × List Bs:=fun i=>if i≤p then (false,o.list.take i,o.names.take i) else (true,o.list.take p++[j]++(o.list.take i).drop q,o.names.take p++[x]++(o.names.take i).drop q)
 have hS0:S 0=(false,[],[]):=by simp [S]
 simp only [bL_]
 have:=eE_ S o.names.length (fun n N i (s:Bool × List aa_ × List Bs)=>bL_.loop5 n (fun xy1 xy2 xy3 xy4 xy5 xy6 xy7 xy8 xy9 xy10 xy11 xy12 xy13 xy14 xy15=>(cond (!xy2) (bf_ (xy15.length+([xy1]:List Bs).length) 16 (bf_ (xy14.length+([(aa_.mk xy3 xy4 xy5 xy6 xy7)]:List aa_).length) 80 (some (aa_.mk xy11 xy12 xy13 (xy14++([(aa_.mk xy3 xy4 xy5 xy6 xy7)]:List aa_)) (xy15++([xy1]:List Bs)))))) (some (aa_.mk xy11 xy12 xy13 xy14 xy15)))) N x s.1 (i:Int) o.kind o.n_ o.s o.list o.names j.kind j.n_ j.s j.list j.names 0 0 [] 5 0 [] s.2.1 s.2.2)
  (aa_.mk 5 0 [] (l3_ o.names x o.list j) (l3_ o.names x o.names x)) (fun i hi F hF => ?_) ?_
 · rw [hS0] at this;exact this
 · have hx:=put_idx (ns:=o.names) (x:=x) hi
   rw [←hp] at hx
   have hln:(S i).2.2.length≤o.names.length+1:=by simp only [S];split<;>simp<;>omega
   have hll:(S i).2.1.length≤o.names.length+1:=by simp only [S];split<;>simp<;>omega
   have hil:i<o.list.length:=by omega
   simp only [bL_.turn5,bL_.step5,dE_,aS_,Int.toNat_natCast,W_up hi ht,am_,bb_,bk_,cC_ hi,cf_ hi,cf_ hil]
   by_cases hle:i≤p
   · have s1:S i=(false,o.list.take i,o.names.take i):=by simp only [S,if_pos hle]
     rw [s1] at hln hll ⊢
     by_cases e:i=p
     · have hb:(!Op.bytesLess (o.names.getD i []) x)=true:=by rw [hx hle];exact decide_eq_true e
       subst e
       by_cases hs:o.names.getD i []=x
       · have hqv:q=i+1:=by rw [hq];unfold gX_;rw [←hp,if_pos ⟨hs,hi⟩]
         have s2:S (i+1)=(true,o.list.take i++[j],o.names.take i++[x]):=by
          simp only [S,if_neg (show ¬ i+1≤i by omega)]
          rw [List.drop_eq_nil_of_le (by simp;omega),List.drop_eq_nil_of_le (by simp;omega),List.append_nil,List.append_nil]
         rw [s2] at hF
         have hs':(o.names.getD i [] == x)=true:=by simpa using hs
         simp only [hb,hs',cond_true,cond_false,Bool.not_true,Bool.not_false]
         repeat' (first|apply And.intro|intro _)
         all_goals (first|contradiction|exact hF|trivial|(simp;omega))
       · have hqv:q=i:=by rw [hq];unfold gX_;rw [←hp,if_neg (fun h=>hs h.1)]
         have s2:S (i+1)=(true,o.list.take i++[j]++[o.list.getD i aa_.dflt],o.names.take i++[x]++[o.names.getD i []]):=by
          simp only [S,if_neg (show ¬ i+1≤i by omega),hqv]
          rw [iw_ aa_.dflt i hil (Nat.le_refl _),iw_ [] i hi (Nat.le_refl _),List.drop_eq_nil_of_le (by simp;omega),List.drop_eq_nil_of_le (by simp;omega),List.append_nil,List.append_nil]
         rw [s2] at hF
         have hs':(o.names.getD i [] == x)=false:=by simpa using hs
         simp only [hb,hs',cond_true,cond_false,Bool.not_true,Bool.not_false]
         repeat' (first|apply And.intro|intro _)
         all_goals (first|contradiction|exact hF|trivial|(simp;omega))
     · have hb:(!Op.bytesLess (o.names.getD i []) x)=false:=by rw [hx hle];exact decide_eq_false e
       have hs':(o.names.getD i [] == x)=false:=hlt (o.names.getD i []) (by rw [Bool.not_eq_false'] at hb;exact hb)
       have s2:S (i+1)=(false,o.list.take i++[o.list.getD i aa_.dflt],o.names.take i++[o.names.getD i []]):=by
        simp only [S,if_pos (show i+1≤p by omega),cB_ aa_.dflt hil,cB_ [] hi]
       rw [s2] at hF
       simp only [hb,hs',cond_true,cond_false,Bool.not_true,Bool.not_false]
       repeat' (first|apply And.intro|intro _)
       all_goals (first|contradiction|exact hF|trivial|(simp;omega))
   · have s1:S i=(true,o.list.take p++[j]++(o.list.take i).drop q,o.names.take p++[x]++(o.names.take i).drop q):=by simp only [S,if_neg hle]
     have s2:S (i+1)=(true,o.list.take p++[j]++(o.list.take i).drop q++[o.list.getD i aa_.dflt],o.names.take p++[x]++(o.names.take i).drop q++[o.names.getD i []]):=by
      simp only [S,if_neg (show ¬ i+1≤p by omega)]
      rw [iw_ aa_.dflt p hil (by omega),iw_ [] p hi (by omega)]
     have hs':=hne i (by omega) hi
     rw [s1] at hln hll ⊢
     rw [s2] at hF
     simp only [hs',cond_true,cond_false,Bool.not_true,Bool.not_false]
     repeat' (first|apply And.intro|intro _)
     all_goals (first|contradiction|exact hF|trivial|(simp at hln hll ⊢;omega))
 · simp only [bL_.turn5,bL_.step5,dE_,cn_,cond_false,am_,bk_,ae_]
   unfold l3_
   rw [←hp,←hq]
   by_cases hle:o.names.length≤p
   · have e:p=o.names.length:=by omega
     have hqv:q=p:=by rw [hq];unfold gX_;rw [←hp,if_neg (fun h=>by omega)]
     have s1:S o.names.length=(false,o.list,o.names):=by simp only [S,if_pos hle,List.take_length];rw [List.take_of_length_le (by omega)]
     rw [s1,hqv,e,List.take_of_length_le (l:=o.list) (by omega),List.drop_eq_nil_of_le (show o.list.length≤o.names.length by omega),List.take_length,List.drop_length]
     refine ⟨fun _=>⟨by simp;omega,by simp;omega,by simp⟩,fun h=>(by cases h)⟩
   · have s1:S o.names.length=(true,o.list.take p++[j]++o.list.drop q,o.names.take p++[x]++o.names.drop q):=by simp only [S,if_neg hle,List.take_length];rw [hT]
     rw [s1]
     exact ⟨fun h=>(by cases h),fun _=>rfl⟩
end Go.Pi
end
section
namespace Go.Pi
theorem jg_:∀ (x y:Bs),Op.bytesLess x y=decide (x<y)
 |[],[]=>by simp [Op.bytesLess]
 |_::_,[]=>by simp [Op.bytesLess]
 |[],_::_=>by simp [Op.bytesLess]
 |a::x,b::y=>by
  rw [Op.bytesLess,jg_ x y]
  simp only [List.cons_lt_cons_iff]
  by_cases h1:a<b<;>by_cases h2:a=b<;>by_cases h3:x<y<;>simp [h1,h2,h3]
theorem less_ne {x y:Bs} (h:Op.bytesLess y x=true):(y == x)=false:=by
 rw [jg_] at h
 exact beq_eq_false_iff_ne.2 fun e=>by subst e;exact List.lt_irrefl y (of_decide_eq_true h)
end Go.Pi
end
section
namespace Go.Pi
def g5_:aa_:=aa_.mk 0 0 [] [] []
def eL_ (j:aa_):aa_:=cond (cG_ j) j g5_
theorem orNull_ev {j:aa_} (h:ft_ 6 j):Ev (fun n _=>eb_ n j) (eL_ j):=by
 refine ap_ ?_
 simp only [eb_,aS_,ab_ (eA_ h),am_,ae_,eL_,g5_]
 cases cG_ j<;>simp
end Go.Pi
end
section
namespace Go.Pi
theorem fP_ {d:Nat} {j:aa_} (h:bE_ (d+1) j≤400):j.names.length≤400:=by
 have h1:=eR_ h
 have ho:=(dY_ h).1
 by_cases hk:j.kind=5
 · have:=(ho.obj hk).1;omega
 · have:FOwn j=true:=by
    simp only [bE_] at h
    cases hf:FOwn j with
    |true=>rfl
    |false=>rw [hf,cond_false] at h;omega
   unfold FOwn at this
   simp only [Bool.and_eq_true,Bool.or_eq_true] at this
   rcases this.2.1 with h2|h2
   · have:=of_decide_eq_true h2;omega
   · exact absurd (by simpa using h2) hk
theorem fX_:∀ (d:Nat) (j:aa_),bE_ d j≤400→Ev (fun n _=>a7_ n j) j
 |0,j,h=>by simp only [bE_] at h;omega
 |d+1,j,h=>by
  have hll:=eR_ h
  have hnl:=fP_ h
  refine ap_ ?_
  have hc:Ev (fun n _=>dx_ n j.names) j.names:=ap_ (by simp only [dx_,bk_,ae_,List.nil_append,List.length_nil,and_true];omega)
  simp only [a7_,ab_ hc]
  have:=eE_ (fun i=>j.list.take i) j.list.length (fun n N i (o:List aa_)=>a7_.loop4 n (a7_ n) (fun xy3 xy4 xy5 xy6 xy7 xy8 xy9 xy10=>(some (aa_.mk xy6 xy7 xy8 xy9 xy10))) N j.list (j.list.length:Int) (i:Int) 0 0 [] j.kind j.n_ j.s o j.names) j (fun i hi F hF => ?_) ?_
  · exact this
  · have hp:=fB_ h hi
    have hx:=fX_ d (j.list.getD i aa_.dflt) hp.size
    rw [cB_ aa_.dflt hi] at hF
    simp only [a7_.turn4,a7_.step4,aS_,Int.toNat_natCast,W_up hi (show j.list.length≤b6_ by simp only [b6_];omega),am_,bb_,bk_,cC_ hi,cf_ hi,ab_ hx]
    exact ⟨fun _=>⟨trivial,by simp;omega,hF⟩,fun h=>(by cases h)⟩
  · simp only [a7_.turn4,a7_.step4,cn_,cond_false,List.take_length,ae_,dE_]
theorem ev_:∀ (d:Nat) (j:aa_),bE_ d j≤400→Ev (fun n _=>bc_ n j) j
 |0,j,h=>by simp only [bE_] at h;omega
 |d+1,j,h=>by
  have hll:=eR_ h
  have hnl:=fP_ h
  refine ap_ ?_
  simp only [bc_,bk_,List.nil_append,List.length_nil]
  refine ⟨by omega,?_⟩
  have:=eE_ (fun i=>j.list.take i) j.list.length (fun n N i (o:List aa_)=>bc_.loop4 n (bc_ n) (fun xy2 xy3 xy4 xy5 xy6 xy7 xy8 xy9=>(some (aa_.mk xy5 xy6 xy7 xy8 xy9))) N (i:Int) j.kind j.n_ j.s j.list j.names 0 0 [] j.kind j.n_ j.s o j.names) j (fun i hi F hF => ?_) ?_
  · exact this
  · have hp:=fB_ h hi
    have hx:=ev_ d (j.list.getD i aa_.dflt) hp.size
    rw [cB_ aa_.dflt hi] at hF
    simp only [bc_.turn4,bc_.step4,aS_,Int.toNat_natCast,W_up hi (show j.list.length≤b6_ by simp only [b6_];omega),am_,bb_,bk_,cC_ hi,cf_ hi,ab_ hx]
    exact ⟨fun _=>⟨trivial,by simp;omega,hF⟩,fun h=>(by cases h)⟩
  · simp only [bc_.turn4,bc_.step4,cn_,cond_false,List.take_length,ae_,dE_]
def j2_ (j:aa_):Bool:=(j.kind == 0)&&((j.n_ == 0)&&((j.s == [])&&(decide (j.list.length=0)&&decide (j.names.length=0))))
theorem oq_ {α:Type} (l:List α):((l.length:Int) == 0)=decide (l.length=0):=by
 by_cases h:l.length=0
 · rw [h];rfl
 · rw [decide_eq_false h];simp;intro e;exact h (by rw [e];rfl)
theorem iV_ {j:aa_}:Ev (fun n _=>dW_ n j) (j2_ j):=by
 refine ap_ ?_
 simp only [dW_,am_,ae_,j2_,oq_]
 cases (j.kind == 0)<;>cases (j.n_ == 0)<;>cases (j.s == [])<;>cases decide (j.list.length=0)<;>simp
theorem th_ (d:Nat) (j:aa_):e5_ (d+1) j g5_=j2_ j:=by
 simp only [e5_,g5_,jj_,j2_,List.length_nil]
 by_cases h1:j.names.length=0
 · by_cases h2:j.list.length=0
   · rw [h1,h2];simp [iL_,il_]
   · have h2:j.list≠[]:=fun e=>h2 (by rw [e];rfl)
     simp [h2]
 · have h1:j.names≠[]:=fun e=>h1 (by rw [e];rfl)
   simp [h1]
def sw_ (w:List Bs):Bool:=iL_ (fun i=>jk_ (w.getD i [])) w.length
def iN_ (o:TOp):Bool:=inn o.kind 1 4&&(decide (o.way.length≤6)&&(cG_ o.value&&(sw_ o.way&&((o.kind != 2)||j2_ o.value))))
def fD_ (o:TOp):Prop:=lenNs b6_ o.way∧ft_ 6 o.value
theorem hH_ (o:TOp):TOp.mk o.kind o.way o.value=o:=rfl
theorem gt_le {n:Nat}:decide ((n:Int) > 6) = !decide (n≤6):=by
 by_cases h:n≤6
 · rw [decide_eq_true h,decide_eq_false (by omega)];rfl
 · rw [decide_eq_false h,decide_eq_true (by omega)];rfl
theorem le_le {n:Nat}:decide ((n:Int)≤6)=decide (n≤6):=by
 by_cases h:n≤6
 · rw [decide_eq_true h,decide_eq_true (by omega)]
 · rw [decide_eq_false h,decide_eq_false (by omega)]
theorem pn_ {o:TOp} (h:fD_ o):Ev (fun n _=>cr_ n o) (iN_ o):=by
 refine ap_ ?_
 simp only [cr_,aS_,fQ_,ab_ (da_ h.2),am_,ae_,gt_le,iN_]
 cases hj:cG_ o.value with
 |false=>cases inn o.kind 1 4<;>cases decide (o.way.length≤6)<;>simp
 |true=>
  have hS:=fI_ 6 o.value g5_ (hc_ 6 o.value (of_decide_eq_true hj)) h.2
  rw [th_] at hS
  unfold g5_ at hS
  have hl:Ev (fun n _=>cr_.loop6 n (fun xy4 xy5 xy6 xy7 xy8 xy9 xy10=>(cond (xy4 != 2) (some true) ((aq_ n (aa_.mk xy6 xy7 xy8 xy9 xy10) (aa_.mk 0 0 [] [] [])).bind fun xr11=>(some xr11)))) n 0 o.kind o.way o.value.kind o.value.n_ o.value.s o.value.list o.value.names) (sw_ o.way&&((o.kind != 2)||j2_ o.value)):=by
   refine e4_ (fun n N i=>cr_.loop6 n (fun xy4 xy5 xy6 xy7 xy8 xy9 xy10=>(cond (xy4 != 2) (some true) ((aq_ n (aa_.mk xy6 xy7 xy8 xy9 xy10) (aa_.mk 0 0 [] [] [])).bind fun xr11=>(some xr11)))) N (i:Int) o.kind o.way o.value.kind o.value.n_ o.value.s o.value.list o.value.names) _ (fun i w hi ih => ?_) ?_
   · simp only [cr_.turn6,cr_.step6,Int.toNat_natCast,W_up hi h.1.1,am_,bb_,ab_ (gT_ (jR_ h.1 i)),ae_,dB_ ih,cC_ hi,cf_ hi]
     cases jk_ (o.way.getD i [])<;>simp
   · simp only [cr_.turn6,cr_.step6,cn_,cond_false,dE_,am_,ab_ hS,ae_]
     cases (o.kind != 2)<;>simp
  simp only [dB_ hl]
  cases inn o.kind 1 4<;>cases decide (o.way.length≤6)<;>simp
theorem ie_ {o:TOp} (h:fD_ o):Ev (fun n _=>cs_ n o) (iN_ o):=by
 refine ap_ ?_
 simp only [cs_]
 have e:iN_ o=(sw_ o.way&&(inn o.kind 1 4&&(decide (o.way.length≤6)&&(cG_ o.value&&((o.kind != 2)||j2_ o.value))))):=by
  unfold iN_
  cases inn o.kind 1 4<;>cases decide (o.way.length≤6)<;>cases cG_ o.value<;>cases sw_ o.way<;>simp
 rw [e]
 refine e4_ (fun n N i=>cs_.loop3 n (fun xy2 xy3 xy4 xy5 xy6 xy7 xy8=>((aN_ n xy2 1 4).bind fun xr9=>(cond xr9 (cond (decide ((xy3.length:Int)≤6)) ((c7_ n (aa_.mk xy4 xy5 xy6 xy7 xy8)).bind fun xr10=>(cond xr10 (cond (xy2 != 2) (some true) ((dW_ n (aa_.mk xy4 xy5 xy6 xy7 xy8)).bind fun xr11=>(some xr11))) (some false))) (some false)) (some false)))) N o.way (o.way.length:Int) (i:Int) o.kind o.way o.value.kind o.value.n_ o.value.s o.value.list o.value.names) _ (fun i w hi ih => ?_) ?_
 · simp only [cs_.turn3,cs_.step3,Int.toNat_natCast,W_up hi h.1.1,am_,bb_,ab_ (g0_ (jR_ h.1 i)),ae_,dB_ ih,cC_ hi,cf_ hi]
   cases jk_ (o.way.getD i [])<;>simp
 · simp only [cs_.turn3,cs_.step3,cn_,cond_false,dE_,am_,gB_,le_le,ab_ (eA_ h.2),ab_ iV_,ae_]
   cases inn o.kind 1 4<;>cases decide (o.way.length≤6)<;>cases cG_ o.value<;>cases (o.kind != 2)<;>simp
def f0_ (k:Int):Bs:=cond (k == 1) [97,100,100] (cond (k == 2) [114,101,109,111,118,101] (cond (k == 3) [114,101,112,108,97,99,101] [116,101,115,116]))
def sA_ (s:Bs):aa_:=aa_.mk 3 0 s [] []
abbrev tq_:Bs:=[111,112]
abbrev fO_:Bs:=[112,97,116,104]
abbrev ho_:Bs:=[118,97,108,117,101]
def et_ (o:TOp):aa_:=cond (o.kind == 2) (aa_.mk 5 0 [] [sA_ (f0_ o.kind),sA_ (FWay o.way)] [tq_,fO_]) (aa_.mk 5 0 [] [sA_ (f0_ o.kind),sA_ (FWay o.way),o.value] [tq_,fO_,ho_])
def cF_ (o:TOp):aa_:=cond (iN_ o) (eL_ (et_ o)) g5_
theorem qN_:∀ (d:Nat) (j:aa_),ft_ (d+1) j→ft_ d j
 |0,_,_=>trivial
 |d+1,j,h=>⟨h.1,h.2.1,fun x hx=>qN_ d x (h.2.2 x hx)⟩
theorem lm_ {s:Bs} (h:s.length≤b6_):∀ d,ft_ d (sA_ s)
 |0=>trivial
 |d+1=>⟨⟨h,Nat.zero_le _,fun x hx=>(by cases hx)⟩,Nat.zero_le _,fun x hx=>(by cases hx)⟩
theorem d9_:∀ d,ft_ d g5_
 |0=>trivial
 |d+1=>⟨⟨Nat.zero_le _,Nat.zero_le _,fun x hx=>(by cases hx)⟩,Nat.zero_le _,fun x hx=>(by cases hx)⟩
structure OpIs (o:TOp):Prop where
 kind:o.kind=1∨o.kind=2∨o.kind=3∨o.kind=4
 way:o.way.length≤6
 text:∀ s ∈ o.way,s.length≤60
 val:bE_ 6 o.value≤400
theorem sM_ {o:TOp} (h:iN_ o=true):OpIs o:=by
 unfold iN_ at h
 simp only [Bool.and_eq_true] at h
 obtain ⟨h1,h2,h3,h4,_⟩:=h
 have hk:=gK_ h1
 refine ⟨by omega,of_decide_eq_true h2,fun s hs => ?_,of_decide_eq_true h3⟩
 obtain ⟨i,hi,e⟩:=List.mem_iff_getElem.1 hs
 have:=e8_.1 h4 i hi
 rw [List.getD_eq_getElem?_getD,List.getElem?_eq_getElem hi,Option.getD_some,e] at this
 exact io_ this
theorem name_len (k:Int):(f0_ k).length≤60:=by
 unfold f0_
 cases (k == 1)<;>cases (k == 2)<;>cases (k == 3)<;>simp
theorem kp_ {o:TOp} (h:fD_ o) (ho:OpIs o):ft_ 6 (et_ o):=by
 have hw:=o0_ ho.text
 have hwl:=ho.way
 have hw2:(FWay o.way).length≤b6_:=by simp only [b6_];omega
 have hn:(f0_ o.kind).length≤b6_:=by have:=name_len o.kind;simp only [b6_];omega
 have hv:=qN_ 5 _ h.2
 unfold et_
 cases (o.kind == 2) with
 |true=>
  refine ⟨⟨Nat.zero_le _,by show 2≤b6_;decide,fun x hx => ?_⟩,by show 2≤b6_;decide,fun x hx => ?_⟩
  · simp at hx;rcases hx with e|e<;>(rw [e];decide)
  · simp at hx;rcases hx with e|e
    · rw [e];exact lm_ hn 5
    · rw [e];exact lm_ hw2 5
 |false=>
  refine ⟨⟨Nat.zero_le _,by show 3≤b6_;decide,fun x hx => ?_⟩,by show 3≤b6_;decide,fun x hx => ?_⟩
  · simp at hx;rcases hx with e|e|e<;>(rw [e];decide)
  · simp at hx;rcases hx with e|e|e
    · rw [e];exact lm_ hn 5
    · rw [e];exact lm_ hw2 5
    · rw [e];exact hv
theorem jb_ {o:TOp} (h:fD_ o):ft_ 6 (cF_ o):=by
 unfold cF_
 cases ho:iN_ o with
 |false=>exact d9_ 6
 |true=>
  unfold eL_
  cases cG_ (et_ o) with
  |false=>exact d9_ 6
  |true=>exact kp_ h (sM_ ho)
theorem put_value (a b v:aa_):Ev (fun n _=>bL_ n (aa_.mk 5 0 [] [a,b] [tq_,fO_]) ho_ v) (aa_.mk 5 0 [] [a,b,v] [tq_,fO_,ho_]) :=
 hi_ (o:=aa_.mk 5 0 [] [a,b] [tq_,fO_]) (j:=v) (x:=ho_) (by show 2≤2000000;decide) rfl (fun _=>less_ne) (fun i h1 h2=>by
  have:gX_ [tq_,fO_] ho_=2:=by decide
  have h2:i<2:=h2
  have h1:gX_ [tq_,fO_] ho_≤i:=h1
  omega)
theorem ew_ {o:TOp} (h:fD_ o):Ev (fun n _=>dU_ n o) (cF_ o):=by
 refine ap_ ?_
 have hN:Ev (fun n _=>dj_ n ()) [[],[97,100,100],[114,101,109,111,118,101],[114,101,112,108,97,99,101],[116,101,115,116]]:=ap_ (by simp only [dj_,ae_])
 simp only [dU_,aS_,hH_,ab_ (pn_ h),am_,ae_]
 unfold cF_
 cases ho:iN_ o with
 |false=>exact ⟨fun _=>rfl,fun h=>(by cases h)⟩
 |true=>
  refine ⟨fun h=>(by cases h),fun _ => ?_⟩
  have hi:=sM_ ho
  have hV:=da_ (kp_ h hi)
  have hCp:=ev_ 6 o.value hi.val
  simp only [ab_ hN,bb_,ab_ (lI_ hi.way hi.text)]
  unfold eL_ g5_ et_ sA_ f0_
  unfold et_ sA_ f0_ at hV
  rcases hi.kind with hk|hk|hk|hk
  all_goals (
   simp only [hk,Int.reduceBEq,cond_true,cond_false] at hV
   simp only [hk,Int.reduceBEq,cond_true,cond_false,bne,Bool.not_false,Bool.not_true,Int.reduceToNat,List.getD_cons_succ,List.getD_cons_zero,am_,ab_ hCp,ab_ (put_value _ _ _),ab_ hV,ae_]
   refine ⟨⟨by decide,by decide⟩,?_⟩
   generalize cG_ _=q
   cases q<;>simp)
theorem fL_ {o:TOp} (h:fD_ o):Ev (fun n _=>ed_ n o) (cF_ o):=by
 refine ap_ ?_
 have hN:Ev (fun n _=>dl_ n ()) [[97,100,100],[114,101,109,111,118,101],[114,101,112,108,97,99,101],[116,101,115,116]]:=ap_ (by simp only [dl_,ae_])
 simp only [ed_,aS_,hH_,ab_ (ie_ h),am_,ae_]
 unfold cF_
 cases ho:iN_ o with
 |false=>exact ⟨fun _=>rfl,fun h=>(by cases h)⟩
 |true=>
  refine ⟨fun h=>(by cases h),fun _ => ?_⟩
  have hi:=sM_ ho
  have hV:=orNull_ev (kp_ h hi)
  have hCp:=fX_ 6 o.value hi.val
  simp only [ab_ hN,bb_,ab_ (ib_ hi.way hi.text)]
  simp only [cond_true]
  unfold et_ sA_ f0_
  unfold et_ sA_ f0_ at hV
  have w1:W ((1:Int) - 1)=0:=by rw [W_id (by decide) (by decide)];rfl
  have w2:W ((2:Int) - 1)=1:=by rw [W_id (by decide) (by decide)];rfl
  have w3:W ((3:Int) - 1)=2:=by rw [W_id (by decide) (by decide)];rfl
  have w4:W ((4:Int) - 1)=3:=by rw [W_id (by decide) (by decide)];rfl
  rcases hi.kind with hk|hk|hk|hk
  all_goals (
   simp only [hk,Int.reduceBEq,cond_true,cond_false] at hV
   simp only [hk,w1,w2,w3,w4,Int.reduceBEq,cond_true,cond_false,bne,Bool.not_false,Bool.not_true,Int.reduceToNat,List.getD_cons_succ,List.getD_cons_zero,List.cons_append,List.nil_append,am_,bk_,ab_ hCp,ab_ hV,ae_,true_implies,false_implies,reduceCtorEq,and_true,true_and]
   simp only [List.length_cons,List.length_nil]
   decide)
end Go.Pi
end
section
namespace Go.Pi
def pfx (p s:Bs):Bool:=p.isPrefixOf s
theorem px_ {a c:UInt8} (h:c≠a) (p t:Bs):pfx (a::p) (c::t)=false:=by
 have e:(a == c)=false:=beq_eq_false_iff_ne.2 fun e=>h e.symm
 show (a == c&&List.isPrefixOf p t)=false
 rw [e];rfl
theorem pfx_nil (a:UInt8) (p:Bs):pfx (a::p) []=false:=rfl
theorem i8_ (p t:Bs):pfx p (p++t)=true:=List.isPrefixOf_iff_prefix.2 (List.prefix_append p t)
theorem i7_ {p t:Bs} (h:pfx p t=true):p.length≤t.length:=(List.isPrefixOf_iff_prefix.1 h).length_le
theorem lk_ (p s:Bs):pfx p s=((s.take p.length).drop 0 == p):=by
 rw [List.drop_zero]
 refine Bool.eq_iff_iff.2 ?_
 rw [beq_iff_eq]
 exact ⟨fun h=>(List.prefix_iff_eq_take.1 (List.isPrefixOf_iff_prefix.1 h)).symm,fun h=>List.isPrefixOf_iff_prefix.2 (List.prefix_iff_eq_take.2 h.symm)⟩
section
variable {β:Type} {g:Nat→Nat→Bool→Option β} {v:β}
theorem in_ {s p:Bs}:Ev (fun n _=>bi_ n s p) (pfx p s):=by
 refine ap_ ?_
 simp only [bi_,am_,eD_,ae_,Int.toNat_natCast]
 refine ⟨fun h => ?_,fun h => ?_⟩
 · have h:=of_decide_eq_true h
   exact ⟨⟨by omega,by omega,by omega⟩,(lk_ p s).symm⟩
 · have h:=of_decide_eq_false h
   cases e:pfx p s with
   |false=>rfl
   |true=>have:=i7_ e;omega
theorem gS_ {s p:Bs}:Ev (fun n _=>cP_ n s p) (cond (pfx p s) (s.drop p.length,true) (s,false)):=by
 have:Ev (fun n _=>bR_ n s p) (cond (pfx p s) (s.drop p.length,true) (s,false)):=by
  refine ap_ ?_
  simp only [bR_,ab_ in_,am_,eD_,ae_,Int.toNat_natCast,List.take_length]
  cases e:pfx p s with
  |false=>exact ⟨fun _=>rfl,fun h=>(by cases h)⟩
  |true=>exact ⟨fun h=>(by cases h),fun _=>⟨⟨by omega,by have:=i7_ e;omega,by omega⟩,rfl⟩⟩
 exact ap_ (by simp only [cP_,ab_ this,ae_])
theorem hB_ {s p:Bs}:Ev (fun n _=>cH_ n s p) (cond (pfx p s) (s.drop p.length) s):=by
 have:Ev (fun n _=>bH_ n s p) (cond (pfx p s) (s.drop p.length) s):=by
  refine ap_ ?_
  simp only [bH_,ab_ in_,am_,eD_,ae_,Int.toNat_natCast,List.take_length]
  cases e:pfx p s with
  |false=>exact ⟨fun h=>(by cases h),fun _=>rfl⟩
  |true=>exact ⟨fun _=>⟨⟨by omega,by have:=i7_ e;omega,by omega⟩,rfl⟩,fun h=>(by cases h)⟩
 exact ap_ (by simp only [cH_,ab_ this,ae_])
end
def eK_ (r:aB_) (p:Bs):Bool × aB_:=cond (pfx p r.text) (!r.bad,⟨r.text.drop p.length,r.bad⟩) (false,⟨r.text,r.bad⟩)
def mM_ (r:aB_) (p:Bs):aB_:=cond (pfx p r.text) ⟨r.text.drop p.length,r.bad⟩ ⟨r.text,true⟩
theorem qx_ {r:aB_} {p:Bs}:Ev (fun n _=>bs_ n r p) (eK_ r p):=by
 refine ap_ ?_
 simp only [bs_,ab_ gS_,am_,ae_,eK_]
 cases pfx p r.text<;>simp
theorem want_ev {r:aB_} {p:Bs}:Ev (fun n _=>cl_ n r p) (mM_ r p):=by
 refine ap_ ?_
 simp only [cl_,ab_ qx_,am_,ae_,eK_,mM_]
 cases pfx p r.text<;>cases r.bad<;>simp
theorem hh_ (r:aB_) (p:Bs):(eK_ r p).2.text.length≤r.text.length:=by
 unfold eK_
 cases pfx p r.text<;>simp
theorem sB_ {r:aB_} {p:Bs} (h:(eK_ r p).1=true):(eK_ r p).2.text.length+p.length≤r.text.length:=by
 unfold eK_ at h ⊢
 cases e:pfx p r.text with
 |false=>rw [e] at h;cases h
 |true=>have:=i7_ e;simp;omega
theorem qv_ (r:aB_) (p:Bs):(mM_ r p).text.length≤r.text.length:=by
 unfold mM_
 cases pfx p r.text<;>simp
section
variable {β:Type} {Q:β→Prop} {v:β}
theorem rz_ {r:aB_} {p:Bs} {g:Nat→Nat→Bool × aB_→Option β}:Ans (fun n N=>(bs_ n r p).bind (g n N)) Q↔Ans (fun n N=>g n N (eK_ r p)) Q:=a2_ qx_
theorem want_a {r:aB_} {p:Bs} {g:Nat→Nat→aB_→Option β}:Ans (fun n N=>(cl_ n r p).bind (g n N)) Q↔Ans (fun n N=>g n N (mM_ r p)) Q:=a2_ want_ev
theorem fv_ {r:aB_} {p:Bs} {g:Nat→Nat→Bool × aB_→Option β}:Ev (fun n N=>(bs_ n r p).bind (g n N)) v↔Ev (fun n N=>g n N (eK_ r p)) v:=ab_ qx_
theorem ru_ {r:aB_} {p:Bs} {g:Nat→Nat→aB_→Option β}:Ev (fun n N=>(cl_ n r p).bind (g n N)) v↔Ev (fun n N=>g n N (mM_ r p)) v:=ab_ want_ev
end
theorem hs_ {s p:Bs}:Ev (fun n _=>c0_ n s p) (pfx p s):=ap_ (by simp only [c0_,ab_ in_,ae_])
theorem f3_ (p t:Bs):eK_ ⟨p++t,false⟩ p=(true,⟨t,false⟩):=by
 unfold eK_;rw [i8_,List.drop_left];rfl
theorem cW_ {a c:UInt8} (h:c≠a) (p t:Bs) (b:Bool):eK_ ⟨c::t,b⟩ (a::p)=(false,⟨c::t,b⟩):=by
 unfold eK_;rw [px_ h];rfl
theorem take_nil (a:UInt8) (p:Bs) (b:Bool):eK_ ⟨[],b⟩ (a::p)=(false,⟨[],b⟩):=rfl
theorem lf_ (p t:Bs):mM_ ⟨p++t,false⟩ p=⟨t,false⟩:=by
 unfold mM_;rw [i8_,List.drop_left];rfl
theorem nq_ {r:aB_} (hr:r.text.length≤4194304):Ans (fun n _=>aw_ n r) fun x=>x.2.text.length≤r.text.length∧x.1.length≤r.text.length:=by
 refine b8_ ?_
 simp only [aw_,want_a]
 have hw:=qv_ r [34]
 generalize mM_ r [34]=q at hw ⊢
 refine gQ_ (σ:=Bs × Bool × List Int) (fun n N s=>aw_.loop4 n (fun xy4 xy5=>(some ([],(aB_.mk xy4 xy5)))) N s.1 s.2.1 s.2.2) (fun s=>s.1.length) (fun s=>s.1.length+s.2.2.length≤r.text.length) _ (fun s hI ih => ?_) (q.text,q.bad,[]) (by simp;omega)
 obtain ⟨t,b,o⟩:=s
 simp only at hI ih ⊢
 simp only [aw_.turn4,aw_.step4,rz_,ba_,aM_,fb_,dC_,jZ_,Int.toNat_natCast,List.take_length]
 have h1:=hh_ ⟨t,b⟩ [34]
 have h2:=hh_ (eK_ ⟨t,b⟩ [34]).2 [92]
 simp only at h1
 generalize eK_ ⟨t,b⟩ [34]=x at h1 h2 ⊢
 generalize eK_ x.2 [92]=y at h2 ⊢
 refine ⟨fun _=>⟨fun _=>⟨by omega,by simp;omega⟩,fun _=>⟨fun _=>⟨by omega,by simp⟩,fun hc => ?_⟩⟩,fun _=>⟨by omega,by simp⟩⟩
 have hne:1≤y.2.text.length:=by
  cases he:y.2.text with
  |nil=>rw [he] at hc;cases hc
  |cons _ _=>simp
 refine ⟨by omega,by simp;omega,⟨by omega,by omega,by omega⟩,?_⟩
 exact ih (y.2.text.drop 1,y.2.bad,o++[((y.2.text.getD 0 0).toNat:Int)]) (by simp;omega) (by simp;omega)
theorem oW_ (o:Bs) (c:UInt8):bi o++[((c.toNat:Nat):Int)]=bi (o++[c]):=by simp [bi]
theorem kl_ {s r:Bs} (hl:(dn_ s++r).length≤1000000000000):Ev (fun n _=>aw_ n ⟨dn_ s++r,false⟩) (s,⟨r,false⟩):=by
 have hq:=gg_ s
 have hsl:s.length≤(dn_ s).length:=by
  have:∀ s:Bs,s.length≤(s.flatMap fN_).length:=by
   intro s
   induction s with
   |nil=>exact Nat.le_refl _
   |cons c s ih=>rw [List.flatMap_cons,List.length_append,List.length_cons];have:1≤(fN_ c).length:=by unfold fN_;split<;>simp
                 omega
  have:=this s
  simp only [dn_,List.cons_append,List.length_cons,List.length_append];omega
 simp only [List.length_append] at hl
 have e:dn_ s++r=[34]++(s.flatMap fN_++34::r):=by simp [dn_]
 refine ap_ ?_
 simp only [aw_,ru_,e,lf_]
 have:=eE_ (fun i=>((s.drop i).flatMap fN_++34::r,bi (s.take i))) s.length (fun n N i (q:Bs × List Int)=>aw_.loop4 n (fun xy4 xy5=>(some ([],(aB_.mk xy4 xy5)))) N q.1 false q.2) (s,⟨r,false⟩) (fun i hi F hF => ?_) ?_
 · exact this
 · have hd:=es_ 0 hi
   have ht:=cB_ 0 hi
   rw [ht] at hF
   simp only [hd,List.flatMap_cons,List.append_assoc]
   have hbl:=k0_ (s.take i)
   rw [List.length_take] at hbl
   generalize (s.drop (i+1)).flatMap fN_++34::r=T at hF ⊢
   generalize s.getD i 0=c at hF ⊢
   rw [←oW_] at hF
   generalize bi (s.take i)=o at hF hbl ⊢
   simp only [aw_.turn4,aw_.step4,Bool.not_false,cond_true,fv_]
   by_cases hc:c=34∨c=92
   · have e1:fN_ c=[92,c]:=if_pos hc
     have e2:fN_ c++T=92::c::T:=by rw [e1];rfl
     have e3:eK_ ⟨92::c::T,false⟩ [92]=(true,⟨c::T,false⟩):=f3_ [92] (c::T)
     simp only [e2,fv_,cW_ (show (92:UInt8)≠34 by decide),e3,cond_false,am_,bb_,bk_,eD_,Int.toNat_natCast,List.take_length,List.getD_cons_zero,List.drop_succ_cons,List.drop_zero]
     repeat' (first|exact hF|apply And.intro|intro _)
     all_goals (first|contradiction|omega|(simp;done)|(simp;omega)|trace_state)
   · have e1:fN_ c=[c]:=if_neg hc
     have e2:fN_ c++T=c::T:=by rw [e1];rfl
     simp only [e2,fv_,cW_ (show c≠34 from fun e=>hc (.inl e)),cW_ (show c≠92 from fun e=>hc (.inr e)),cond_false,am_,bb_,bk_,eD_,Int.toNat_natCast,List.take_length,List.getD_cons_zero,List.drop_succ_cons,List.drop_zero]
     repeat' (first|exact hF|apply And.intro|intro _)
     all_goals (first|contradiction|omega|(simp;done)|(simp;omega)|trace_state)
 · have e3:eK_ ⟨34::r,false⟩ [34]=(true,⟨r,false⟩):=f3_ [34] r
   simp only [List.drop_length,List.take_length,List.flatMap_nil,List.nil_append,aw_.turn4,aw_.step4,Bool.not_false,cond_true,fv_,e3,kc_,ae_]
theorem mW_ {s:Bs} (h:s.length≤281474976710656):Ev (fun n _=>cS_ n s) (endOf s (Lib.atoiAll s)) :=
 ap_ (by simp only [cS_,nAtoi,decide_eq_true h,cond_true,ae_])
theorem sO_ {r:aB_} (hr:r.text.length≤4194304):Ans (fun n _=>ao_ n r) fun x=>x.2.text.length≤r.text.length∧x.1.s=[]∧x.1.list=[]∧x.1.names=[]:=by
 refine b8_ ?_
 simp only [ao_]
 obtain ⟨t,b⟩:=r
 simp only at hr ⊢
 have key:∀ (K:Nat→ao_.K3) (Q:aa_ × aB_→Prop),(∀ i,i≤t.length→Ans (fun n _=>K n ((i:Nat):Int) t b 0 0 []) Q)→Ans (fun n _=>ao_.loop3 n (K n) n 0 t b 0 0 []) Q:=by
  intro K Q hK
  refine gQ_ (σ:=Nat) (fun n N i=>ao_.loop3 n (K n) N (i:Int) t b 0 0 []) (fun i=>t.length - i) (fun i=>i≤t.length) _ (fun i hI ih => ?_) 0 (Nat.zero_le _)
  have hend:=hK i hI
  simp only [ao_.turn3,ao_.step3,Int.toNat_natCast]
  by_cases hi:i<t.length
  · have ihn:=ih (i+1) hi (by omega)
    have hW:=W_up hi (show t.length≤b6_ by simp only [b6_];omega)
    simp only [hW,cC_ hi,cond_true,fb_,cf_ hi,true_and,a2_ o8_,ba_]
    exact ⟨fun _=>ihn,fun _=>⟨fun _=>⟨by omega,fun _=>ihn,fun _=>hend⟩,fun _=>hend⟩⟩
  · have e:i=t.length:=by omega
    subst e
    simp only [cn_,cond_false]
    exact hend
 refine key _ _ fun i hi => ?_
 have hA:=mW_ (s:=(t.take i).drop 0) (by simp;omega)
 simp only [Int.toNat_natCast,List.take_length,jZ_,a2_ hA,ba_,aM_]
 exact ⟨by omega,fun _=>⟨by omega,by simp⟩,fun _=>⟨by omega,by simp⟩⟩
theorem itoa_at (n:Int) {i:Nat} (hi:i<(Lib.itoa n).length):fu_ ((Lib.itoa n).getD i 0)∨(i=0∧(Lib.itoa n).getD i 0=45):=by
 unfold Lib.itoa at hi ⊢
 by_cases h:n<0
 · rw [if_pos h] at hi ⊢
   cases i with
   |zero=>exact .inr ⟨rfl,rfl⟩
   |succ i=>
    left
    rw [List.getD_cons_succ]
    exact hv_ n.natAbs _ (bX_ 0 (by simpa using hi))
 · rw [if_neg h] at hi ⊢
   exact .inl (hv_ n.toNat _ (bX_ 0 hi))
theorem p1_ {a b:Bs} {i:Nat} (h:i<a.length):(a++b).getD i 0=a.getD i 0:=by
 rw [List.getD_eq_getElem?_getD,List.getElem?_append_left h,←List.getD_eq_getElem?_getD]
theorem s7_ {a b:Bs} {c:UInt8}:(a++c::b).getD a.length 0=c:=by
 rw [List.getD_eq_getElem?_getD,List.getElem?_append_right (Nat.le_refl _)];simp
theorem inn_dig {c:UInt8} (h:fu_ c):inn (c.toNat:Int) 48 57=true:=by
 unfold fu_ at h
 exact jd_.2 (by omega)
theorem inn_not {c:UInt8} (h:¬ fu_ c):inn (c.toNat:Int) 48 57=false:=by
 cases e:inn (c.toNat:Int) 48 57 with
 |false=>rfl
 |true=>exact absurd (by unfold fu_;have:=gK_ e;omega) h
theorem sN_ {n:Int} {r:Bs} (h0 : -1000000000≤n) (h1:n≤1000000000) (hs:Stop r) (hl:(Lib.itoa n++r).length≤1000000000000):Ev (fun m _=>ao_ m ⟨Lib.itoa n++r,false⟩) (aa_.mk 2 n [] [] [],⟨r,false⟩):=by
 have hA:=mW_ (s:=Lib.itoa n) (by simp only [List.length_append] at hl;omega)
 rw [jY_ h0 h1] at hA
 obtain ⟨c0,t0,e0,_⟩:=g7_ n
 have hp:1≤(Lib.itoa n).length:=by rw [e0];simp
 have hat:=fun i=>itoa_at n (i:=i)
 generalize Lib.itoa n=t at hl hA hp hat ⊢
 simp only [List.length_append] at hl
 refine ap_ ?_
 simp only [ao_]
 have key:∀ (K:Nat→ao_.K3) (F:aa_ × aB_),Ev (fun n _=>K n (t.length:Int) (t++r) false 0 0 []) F→Ev (fun n _=>ao_.loop3 n (K n) n 0 (t++r) false 0 0 []) F:=by
  intro K F hK
  refine eE_ (fun _=>()) t.length (fun n N i (_:Unit)=>ao_.loop3 n (K n) N (i:Int) (t++r) false 0 0 []) F (fun i hi F hF => ?_) ?_
  · have hi2:i<(t++r).length:=by simp;omega
    have hW:=W_up hi2 (by simp only [b6_,List.length_append];omega)
    simp only [ao_.turn3,ao_.step3,Int.toNat_natCast,hW,cC_ hi2,cond_true,bb_,cf_ hi2,true_and,gB_,so_,p1_ hi,am_]
    rcases hat i hi with hd|⟨rfl,hd⟩
    · rw [inn_dig hd]
      exact ⟨fun _=>hF,fun h=>(by cases h)⟩
    · simp only [p1_ hi,hd]
      exact ⟨fun _=>hF,fun _=>⟨fun _=>⟨by omega,fun _=>hF,fun h=>absurd h (by decide)⟩,fun h=>(by cases h)⟩⟩
  · simp only [ao_.turn3,ao_.step3,Int.toNat_natCast]
    cases r with
    |nil=>
     rw [List.append_nil] at hK ⊢
     simp only [cn_,cond_false]
     exact hK
    |cons c r=>
     have hi2:t.length<(t++c::r).length:=by simp
     have hz:(((t.length:Nat):Int) == 0)=false:=beq_eq_false_iff_ne.2 (by omega)
     simp only [cC_ hi2,cond_true,bb_,cf_ hi2,true_and,gB_,so_,s7_,inn_not (hs c r rfl),hz,cond_false]
     exact hK
 refine key _ _ ?_
 have e1:((t++r).take t.length).drop 0=t:=by simp
 simp only [Int.toNat_natCast,e1,List.take_length,List.drop_left,eD_,ab_ hA,endOf,Bool.not_true,cond_false,ae_]
 exact ⟨by simp;omega,by simp;omega,trivial⟩
end Go.Pi
end
section
namespace Go.Pi
def tl_ (L d:Nat) (x:aa_ × aB_):Prop:=x.2.text.length≤L∧ft_ d x.1
theorem e2_ {d:Nat} {k n:Int}:ft_ d (aa_.mk k n [] [] []):=by
 cases d with
 |zero=>trivial
 |succ d=>exact ⟨⟨Nat.zero_le _,Nat.zero_le _,fun x h=>(by cases h)⟩,Nat.zero_le _,fun x h=>(by cases h)⟩
theorem pH_ {d:Nat} {k n:Int} {s:Bs} (h:s.length≤b6_):ft_ d (aa_.mk k n s [] []):=by
 cases d with
 |zero=>trivial
 |succ d=>exact ⟨⟨h,Nat.zero_le _,fun x h=>(by cases h)⟩,Nat.zero_le _,fun x h=>(by cases h)⟩
theorem tl_.mono {L M d:Nat} {x:aa_ × aB_} (h:tl_ L d x) (hl:L≤M):tl_ M d x:=⟨Nat.le_trans h.1 hl,h.2⟩
theorem parts_any {d:Nat} (hd:d≤1000) (ih:∀ r:aB_,r.text.length≤4194304→Ans (fun n _=>aZ_ n r (d:Int)) (tl_ r.text.length d))
  {r:aB_} (hr:r.text.length≤4194304) (kind:Int) (end_:Bs):Ans (fun n _=>an_ n r kind end_ ((d+1:Nat):Int)) (tl_ r.text.length (d+1)):=by
 refine b8_ ?_
 have hW:W (((d+1:Nat):Int) - 1)=(d:Int):=by rw [W_id (by omega) (by omega)];omega
 simp only [an_,rz_,ba_,aM_]
 have ht:=hh_ r end_
 generalize eK_ r end_=x at ht ⊢
 refine ⟨fun _=>⟨ht,e2_⟩,fun _ => ?_⟩
 obtain ⟨x1,t0,b0⟩:=x
 simp only at ht ⊢
 have key:∀ (K:Nat→an_.K7_1) (Q:aa_ × aB_→Prop),(∀ t b l ns,t.length≤t0.length→l.length≤4194305→(∀ y ∈ l,ft_ d y)→ns.length≤l.length→(∀ y ∈ ns,y.length≤4194304)→Ans (fun n _=>K n end_ t b 0 0 [] kind 0 [] l ns) Q) →
   Ans (fun n _=>an_.loop7 n (aZ_ n) (K n) n kind end_ ((d+1:Nat):Int) true t0 b0 0 0 [] kind 0 [] [] []) Q:=by
  intro K Q hK
  refine gQ_ (σ:=Bool × Bs × Bool × List aa_ × List Bs) (fun n N s=>an_.loop7 n (aZ_ n) (K n) N kind end_ ((d+1:Nat):Int) s.1 s.2.1 s.2.2.1 0 0 [] kind 0 [] s.2.2.2.1 s.2.2.2.2)
   (fun s=>s.2.1.length+cond s.1 1 0) (fun s=>s.2.1.length≤t0.length∧s.2.2.2.1.length+s.2.1.length≤t0.length+cond s.1 0 1∧(∀ y ∈ s.2.2.2.1,ft_ d y)∧s.2.2.2.2.length≤s.2.2.2.1.length∧(∀ y ∈ s.2.2.2.2,y.length≤4194304)) _ (fun s hI ihl => ?_) (true,t0,b0,[],[]) (by simp)
  obtain ⟨more,t,b,l,ns⟩:=s
  simp only at hI ihl ⊢
  obtain ⟨h1,h2,h3,h4,h5⟩:=hI
  have hll:l.length≤4194305:=by cases more<;>simp at h2<;>omega
  have hend:=hK t b l ns h1 hll h3 h4 h5
  simp only [an_.turn7,an_.step7,hW,aS_,ba_]
  refine ⟨fun hm=>⟨fun _ => ?_,fun _=>hend⟩,fun _=>hend⟩
  subst hm
  simp only [cond_true,Nat.add_zero] at h2 ihl
  have step:∀ (q:aB_) (ns':List Bs),q.text.length≤t.length→ns'.length≤l.length+1→(∀ y ∈ ns',y.length≤4194304) →
    Ans (fun n N=>(aZ_ n q (d:Int)).bind fun xr4=>bf_ (l.length+[xr4.1].length) 80 ((bs_ n xr4.2 [44]).bind fun xr5=>an_.loop7 n (aZ_ n) (K n) N kind end_ ((d+1:Nat):Int) xr5.1 xr5.2.text xr5.2.bad 0 0 [] kind 0 [] (l++[xr4.1]) ns')) Q:=by
   intro q ns' hq hn hb
   refine av_ (ih q (by omega)) fun v hv => ?_
   simp only [dC_,rz_]
   have g1:=hh_ v.2 [44]
   have g2:=sB_ (r:=v.2) (p:=[44])
   generalize eK_ v.2 [44]=x at g1 g2 ⊢
   obtain ⟨m',t',b'⟩:=x
   simp only [List.length_cons,List.length_nil] at g1 g2 ⊢
   have hv1:=hv.1
   refine ⟨by omega,ihl (m',t',b',l++[v.1],ns') ⟨by simp only;omega,?_,?_,by simpa using hn,hb⟩ ?_⟩
   · cases m' with
     |true=>have:=g2 rfl;simp;omega
     |false=>simp;omega
   · intro y hy
     rcases List.mem_append.1 hy with hy|hy
     · exact h3 y hy
     · obtain rfl:=List.mem_singleton.1 hy;exact hv.2
   · cases m' with
     |true=>have:=g2 rfl;simp;omega
     |false=>simp;omega
  refine ⟨fun _ => ?_,fun _=>step ⟨t,b⟩ ns (Nat.le_refl _) (by omega) h5⟩
  refine av_ (nq_ (r:=⟨t,b⟩) (by simp only;omega)) fun v hv => ?_
  simp only at hv
  simp only [want_a,dC_]
  have hw:=qv_ v.2 [58]
  refine ⟨by simp;omega,step (mM_ v.2 [58]) (ns++[v.1]) (by omega) (by simp;omega) fun y hy => ?_⟩
  rcases List.mem_append.1 hy with hy|hy
  · exact h5 y hy
  · obtain rfl:=List.mem_singleton.1 hy;omega
 refine key _ _ fun t b l ns h1 h2 h3 h4 h5 => ?_
 simp only [want_a,aM_]
 have hw:=qv_ ⟨t,b⟩ end_
 simp only at hw
 exact ⟨by simp only;omega,⟨Nat.zero_le _,by show ns.length≤b6_;simp only [b6_];omega,fun y hy=>by have:=h5 y hy;simp only [b6_];omega⟩,by show l.length≤b6_;simp only [b6_];omega,h3⟩
theorem pc_:∀ (d:Nat),d≤1000→∀ r:aB_,r.text.length≤4194304→Ans (fun n _=>aZ_ n r (d:Int)) (tl_ r.text.length d)
 |0,_,r,hr=>by
  refine b8_ ?_
  simp only [aZ_,ba_,aM_]
  exact ⟨fun _=>⟨Nat.le_refl _,trivial⟩,fun h=>by simp at h⟩
 |d+1,hd,r,hr=>by
  have ih:=fun (r:aB_) hr=>parts_any (d:=d) (by omega) (pc_ d (by omega)) (r:=r) hr
  refine b8_ ?_
  simp only [aZ_,aS_,ba_,aM_,rz_,a2_ hs_]
  refine ⟨fun h=>by have:=of_decide_eq_true h;omega,fun _=>⟨fun _=>⟨Nat.le_refl _,e2_⟩,fun _ => ?_⟩⟩
  have h1:=hh_ r [110,117,108,108]
  generalize eK_ r [110,117,108,108]=x1 at h1 ⊢
  have h2:=hh_ x1.2 [102,97,108,115,101]
  generalize eK_ x1.2 [102,97,108,115,101]=x2 at h2 ⊢
  have h3:=hh_ x2.2 [116,114,117,101]
  generalize eK_ x2.2 [116,114,117,101]=x3 at h3 ⊢
  have h4:=hh_ x3.2 [91]
  generalize eK_ x3.2 [91]=x4 at h4 ⊢
  have h5:=hh_ x4.2 [123]
  generalize eK_ x4.2 [123]=x5 at h5 ⊢
  refine ⟨fun _=>⟨h1,e2_⟩,fun _=>⟨fun _=>⟨by simp only;omega,e2_⟩,fun _=>⟨fun _=>⟨by simp only;omega,e2_⟩,fun _=>⟨fun _ => ?_,fun _=>⟨fun _ => ?_,fun _=>⟨fun _ => ?_,fun _ => ?_⟩⟩⟩⟩⟩⟩
  · refine av_ (nq_ (r:=x3.2) (by omega)) fun v hv => ?_
    simp only [aM_]
    exact ⟨by simp only;omega,pH_ (by simp only [b6_];omega)⟩
  · refine av_ (ih x4.2 (by omega) 4 [93]) fun v hv => ?_
    simp only [aM_]
    exact hv.mono (by omega)
  · refine av_ (ih x5.2 (by omega) 5 [125]) fun v hv => ?_
    simp only [aM_]
    exact hv.mono (by omega)
  · refine av_ (sO_ (r:=x5.2) (by omega)) fun v hv => ?_
    simp only [aM_]
    obtain ⟨⟨k,nn,s,l,ns⟩,q⟩:=v
    obtain ⟨e1,e2,e3,e4⟩:=hv
    simp only at e1 e2 e3 e4
    subst e2 e3 e4
    exact ⟨by simp only;omega,e2_⟩
theorem p8_ (enc:aa_→Bs) (j:aa_) (k i:Nat):dJ_ enc j (k+1) (i+1)=44::(dD_ enc j (i+1)++dJ_ enc j k (i+2)):=by
 rw [dJ_,if_neg (by omega)];rfl
theorem pi_ (enc:aa_→Bs) (j:aa_) (k i:Nat) {c:UInt8} (h:¬ fu_ c) (r:Bs):Stop (dJ_ enc j k (i+1)++c::r):=by
 cases k with
 |zero=>exact lC_ h
 |succ k=>rw [p8_];exact lC_ (by unfold fu_;decide)
theorem q1_ {kind:Int} {c:UInt8} (h:c.toNat=93∨c.toNat=125):¬ fu_ c:=by unfold fu_;omega
theorem py_ {d:Nat} (hd:d≤1000) {j:aa_} (h:bE_ (d+1) j≤400) (hk:j.kind=4∨j.kind=5)
  (ih:∀ x,bE_ d x≤400→∀ r,Stop r→(FEnc d x++r).length≤1000000000000→Ev (fun n _=>aZ_ n ⟨FEnc d x++r,false⟩ (d:Int)) (x,⟨r,false⟩))
  (c:UInt8) (hc:c.toNat=93∨c.toNat=125) (r:Bs) (hl:(ef_ (FEnc d) j j.list.length++c::r).length≤1000000000000) :
  Ev (fun n _=>an_ n ⟨ef_ (FEnc d) j j.list.length++c::r,false⟩ j.kind [c] ((d+1:Nat):Int)) (aa_.mk j.kind 0 [] j.list j.names,⟨r,false⟩):=by
 have hW:W (((d+1:Nat):Int) - 1)=(d:Int):=by rw [W_id (by omega) (by omega)];omega
 have hll:=eR_ h
 have hnl:=fP_ h
 have hT:eK_ ⟨c::r,false⟩ [c]=(true,⟨r,false⟩):=f3_ [c] r
 have hWa:mM_ ⟨c::r,false⟩ [c]=⟨r,false⟩:=lf_ [c] r
 have ho:=(dY_ h).1
 have ho2:=fq_ (e1_ h)
 rw [mQ_] at hl ⊢
 refine ap_ ?_
 cases hm:j.list.length with
 |zero=>
  have e1:j.list=[]:=List.eq_nil_of_length_eq_zero hm
  have e2:j.names=[]:=by
   rcases hk with hk|hk
   · exact ho2.ns0 (by omega)
   · exact List.eq_nil_of_length_eq_zero (by rw [(ho.obj hk).1,hm])
  simp only [an_,fv_,dJ_,List.nil_append,hT,cond_true,ae_,e1,e2]
 |succ m=>
  obtain ⟨a,p0,ep,hp1,hp2,hp3⟩:=nV_ h (i:=0) (by omega)
  have e0:dJ_ (FEnc d) j (m+1) 0=dD_ (FEnc d) j 0++dJ_ (FEnc d) j m 1:=by rw [dJ_,if_pos rfl];rfl
  have hac:a≠c:=fun e=>by subst e;omega
  have e3:dD_ (FEnc d) j 0++dJ_ (FEnc d) j m 1++c::r=a::(p0++dJ_ (FEnc d) j m 1++c::r):=by rw [ep];rfl
  have e4:eK_ ⟨dD_ (FEnc d) j 0++dJ_ (FEnc d) j m 1++c::r,false⟩ [c]=(false,⟨dD_ (FEnc d) j 0++dJ_ (FEnc d) j m 1++c::r,false⟩):=by rw [e3];exact cW_ hac [] _ false
  simp only [an_,fv_,e0,e4,cond_false]
  rw [hm,e0] at hl
  have key:∀ (K:Nat→an_.K7_1) (F:aa_ × aB_),Ev (fun n _=>K n [c] (c::r) false 0 0 [] j.kind 0 [] j.list j.names) F →
    ∀ k i,i+1+k=j.list.length→(dD_ (FEnc d) j i++dJ_ (FEnc d) j k (i+1)++c::r).length≤1000000000000 →
    Ev (fun n N=>an_.loop7 n (aZ_ n) (K n) N j.kind [c] ((d+1:Nat):Int) true (dD_ (FEnc d) j i++dJ_ (FEnc d) j k (i+1)++c::r) false 0 0 [] j.kind 0 [] (j.list.take i) (j.names.take i)) F:=by
   intro K F hK k
   induction k with
   |zero=>
    intro i hi hlen
    have hp:=fB_ h (i:=i) (by omega)
    have hx:=ih _ hp.size (c::r) (lC_ (q1_ (kind:=0) hc))
    have hcm:eK_ ⟨c::r,false⟩ [44]=(false,⟨c::r,false⟩):=cW_ (by intro e;subst e;revert hc;decide) [] _ false
    have hlast:∀ F,Ev (fun n _=>K n [c] (c::r) false 0 0 [] j.kind 0 [] j.list j.names) F→Ev (fun n N=>an_.loop7 n (aZ_ n) (K n) N j.kind [c] ((d+1:Nat):Int) false (c::r) false 0 0 [] j.kind 0 [] j.list j.names) F:=fun F hF=>bF_ (by
     simp only [an_.turn7,an_.step7,cond_false];exact hF)
    have el:j.list.take i++[j.list.getD i aa_.dflt]=j.list:=by rw [←cB_ aa_.dflt (by omega)];exact List.take_of_length_le (by omega)
    refine bF_ ?_
    simp only [dJ_,List.append_nil]
    simp only [dJ_,List.append_nil] at hlen
    rcases hk with hk|hk
    · have h5:(j.kind == 5)=false:=by rw [hk];rfl
      have en:j.names=[]:=ho2.ns0 (by omega)
      unfold dD_ at hlen ⊢
      rw [h5,cond_false] at hlen ⊢
      simp only [an_.turn7,an_.step7,aS_,hW,h5,Bool.not_false,cond_true,cond_false,ab_ (hx hlen),bk_,fv_,hcm,el,en,List.take_nil]
      refine ⟨by simp;omega,?_⟩
      have:=hlast F hK
      rw [en] at this
      exact this
    · have h5:(j.kind == 5)=true:=by rw [hk];rfl
      obtain ⟨o1,o2⟩:=ho.obj hk
      have en:j.names.take i++[j.names.getD i []]=j.names:=by rw [←cB_ [] (by omega)];exact List.take_of_length_le (by omega)
      unfold dD_ at hlen ⊢
      rw [h5,cond_true] at hlen ⊢
      simp only [List.append_assoc] at hlen ⊢
      have hq:=kl_ hlen
      simp only [List.length_append] at hlen
      have hx:=hx (by simp only [List.length_append];simp at hlen ⊢;omega)
      simp only [an_.turn7,an_.step7,aS_,hW,h5,Bool.not_false,cond_true,cond_false,ab_ hq,ru_,lf_,ab_ hx,bk_,fv_,hcm,el,en]
      exact ⟨by simp;omega,by simp;omega,hlast F hK⟩
   |succ k ihk=>
    intro i hi hlen
    have hp:=fB_ h (i:=i) (by omega)
    have hx:=ih _ hp.size (dJ_ (FEnc d) j (k+1) (i+1)++c::r) (pi_ _ _ _ _ (q1_ (kind:=0) hc) r)
    have e5:dJ_ (FEnc d) j (k+1) (i+1)++c::r=[44]++(dD_ (FEnc d) j (i+1)++dJ_ (FEnc d) j k (i+2)++c::r):=by rw [p8_];simp
    have hcm:eK_ ⟨dJ_ (FEnc d) j (k+1) (i+1)++c::r,false⟩ [44]=(true,⟨dD_ (FEnc d) j (i+1)++dJ_ (FEnc d) j k (i+2)++c::r,false⟩):=by rw [e5];exact f3_ _ _
    have hlen2:(dD_ (FEnc d) j (i+1)++dJ_ (FEnc d) j k (i+2)++c::r).length≤1000000000000:=by
     have:=congrArg List.length e5
     simp only [List.length_append,List.length_cons,List.length_nil] at this hlen ⊢
     omega
    have hnext:=ihk (i+1) (by omega) hlen2
    rw [cB_ aa_.dflt (show i<j.list.length by omega)] at hnext
    refine bF_ ?_
    rw [List.append_assoc] at hlen ⊢
    generalize dJ_ (FEnc d) j (k+1) (i+1)++c::r=T at hx hcm hlen ⊢
    rcases hk with hk|hk
    · have h5:(j.kind == 5)=false:=by rw [hk];rfl
      have en:j.names=[]:=ho2.ns0 (by omega)
      have ef:dD_ (FEnc d) j i=FEnc d (j.list.getD i aa_.dflt):=by unfold dD_;rw [h5];rfl
      rw [ef] at hlen ⊢
      rw [en,List.take_nil] at hnext
      simp only [an_.turn7,an_.step7,aS_,hW,h5,Bool.not_false,cond_true,cond_false,ab_ (hx hlen),bk_,fv_,hcm,en,List.take_nil]
      exact ⟨by simp;omega,hnext⟩
    · have h5:(j.kind == 5)=true:=by rw [hk];rfl
      obtain ⟨o1,o2⟩:=ho.obj hk
      rw [cB_ [] (show i<j.names.length by omega)] at hnext
      have ef:dD_ (FEnc d) j i=dn_ (j.names.getD i [])++([58]++FEnc d (j.list.getD i aa_.dflt)):=by unfold dD_;rw [h5];rfl
      rw [ef] at hlen ⊢
      simp only [List.append_assoc] at hlen ⊢
      have hq:=kl_ hlen
      have hx:=hx (by simp only [List.length_append] at hlen ⊢;simp at hlen ⊢;omega)
      simp only [an_.turn7,an_.step7,aS_,hW,h5,Bool.not_false,cond_true,cond_false,ab_ hq,ru_,lf_,ab_ hx,bk_,fv_,hcm]
      exact ⟨by simp;omega,by simp;omega,hnext⟩
  have:=key (fun n=>fun xy8 xy9 xy10 xy11 xy12 xy13 xy14 xy15 xy16 xy17 xy18=>((cl_ n (aB_.mk xy9 xy10) xy8).bind fun xr19=>(some ((aa_.mk xy14 xy15 xy16 xy17 xy18),xr19)))) (aa_.mk j.kind 0 [] j.list j.names,⟨r,false⟩) (by simp only [ru_,hWa,ae_]) m 0 (by omega) hl
  exact dg_ (f:=fun n N=>an_.loop7 n (aZ_ n) (fun xy8 xy9 xy10 xy11 xy12 xy13 xy14 xy15 xy16 xy17 xy18=>((cl_ n (aB_.mk xy9 xy10) xy8).bind fun xr19=>(some ((aa_.mk xy14 xy15 xy16 xy17 xy18),xr19)))) N j.kind [c] ((d+1:Nat):Int) true (dD_ (FEnc d) j 0++dJ_ (FEnc d) j m 1++c::r) false 0 0 [] j.kind 0 [] [] []) this
theorem oA_ {d:Nat} {j:aa_} (h:bE_ (d+1) j≤400) (hk:j.kind=4∨j.kind=5):aa_.mk j.kind 0 [] j.list j.names=j:=by
 have ho2:=fq_ (e1_ h)
 have e1:=ho2.n0 (by omega) (by omega)
 have e2:=ho2.s0 (by omega)
 obtain ⟨k,n,s,l,ns⟩:=j
 simp only at e1 e2 ⊢
 subst e1 e2;rfl
theorem pb_:∀ (d:Nat),d≤1000→∀ j,bE_ d j≤400→∀ r,Stop r→(FEnc d j++r).length≤1000000000000→Ev (fun n _=>aZ_ n ⟨FEnc d j++r,false⟩ (d:Int)) (j,⟨r,false⟩)
 |0,_,j,h,r,_,_=>by simp only [bE_] at h;omega
 |d+1,hd,j,h,r,hs,hl=>by
  have ih:=pb_ d (by omega)
  have ho:=(dY_ h).1
  have ho2:=fq_ (e1_ h)
  have hd1:decide (((d+1:Nat):Int)<1)=false:=decide_eq_false (by omega)
  refine ap_ ?_
  simp only [aZ_,aS_,hd1,cond_false,fv_,ab_ hs_]
  rcases ho.kind with hk|hk|hk|hk|hk|hk
  · have e:FEnc (d+1) j=[110,117,108,108]:=by simp only [FEnc,hk,Int.reduceBEq,cond_true]
    have ej:j=aa_.mk 0 0 [] [] []:=by
     have e1:=ho2.n0 (by omega) (by omega)
     have e2:=ho2.s0 (by omega)
     have e3:=ho.list (by omega) (by omega)
     have e4:=ho2.ns0 (by omega)
     obtain ⟨k,n,s,l,ns⟩:=j
     simp only at e1 e2 e3 e4 hk
     subst e1 e2 e3 e4 hk;rfl
    rw [e]
    simp only [f3_,cond_true,ae_]
    rw [ej]
  · have hb:=ho.bool hk
    have e2:=ho2.s0 (by omega)
    have e3:=ho.list (by omega) (by omega)
    have e4:=ho2.ns0 (by omega)
    obtain ⟨k,n,s,l,ns⟩:=j
    simp only at e2 e3 e4 hk hb
    subst e2 e3 e4 hk
    have:n=0∨n=1:=by omega
    rcases this with rfl|rfl
    · have e:FEnc (d+1) (aa_.mk 1 0 [] [] [])++r=102::([97,108,115,101]++r):=rfl
      have e5:eK_ ⟨102::([97,108,115,101]++r),false⟩ [102,97,108,115,101]=(true,⟨r,false⟩):=f3_ [102,97,108,115,101] r
      rw [e]
      simp only [fv_,ab_ hs_,cW_ (show (102:UInt8)≠110 by decide),e5,cond_false,cond_true,ae_]
    · have e:FEnc (d+1) (aa_.mk 1 1 [] [] [])++r=116::([114,117,101]++r):=rfl
      have e5:eK_ ⟨116::([114,117,101]++r),false⟩ [116,114,117,101]=(true,⟨r,false⟩):=f3_ [116,114,117,101] r
      rw [e]
      simp only [fv_,ab_ hs_,cW_ (show (116:UInt8)≠110 by decide),cW_ (show (116:UInt8)≠102 by decide),e5,cond_false,cond_true,ae_]
  · have hn:=ho.num hk
    have e:FEnc (d+1) j=Lib.itoa j.n_:=by simp only [FEnc,hk,Int.reduceBEq,cond_true,cond_false]
    rw [e] at hl ⊢
    have hN:=sN_ hn.1 hn.2 hs hl
    have ej:aa_.mk 2 j.n_ [] [] []=j:=by
     have e2:=ho2.s0 (by omega)
     have e3:=ho.list (by omega) (by omega)
     have e4:=ho2.ns0 (by omega)
     obtain ⟨k,n,s,l,ns⟩:=j
     simp only at e2 e3 e4 hk
     subst e2 e3 e4 hk;rfl
    rw [ej] at hN
    obtain ⟨c,t,ec,hc⟩:=g7_ j.n_
    rw [ec] at hN ⊢
    have ne:∀ x:UInt8,(x.toNat<45∨x.toNat=46∨57<x.toNat)→c≠x:=by
     rintro x hx rfl
     rcases hc with rfl|hc
     · revert hx;decide
     · unfold fu_ at hc;omega
    rw [List.cons_append] at hN ⊢
    simp only [fv_,ab_ hs_,cW_ (ne 110 (by decide)),cW_ (ne 102 (by decide)),cW_ (ne 116 (by decide)),cW_ (ne 91 (by decide)),cW_ (ne 123 (by decide)),px_ (ne 34 (by decide)),cond_false,ab_ hN,ae_]
  · have ht:=ho2.text hk
    have e:FEnc (d+1) j=dn_ j.s:=by simp only [FEnc,hk,Int.reduceBEq,cond_true,cond_false]
    rw [e] at hl ⊢
    have hq:=kl_ hl
    have ej:aa_.mk 3 0 j.s [] []=j:=by
     have e2:=ho2.n0 (by omega) (by omega)
     have e3:=ho.list (by omega) (by omega)
     have e4:=ho2.ns0 (by omega)
     obtain ⟨k,n,s,l,ns⟩:=j
     simp only at e2 e3 e4 hk
     subst e2 e3 e4 hk;rfl
    have ec:dn_ j.s++r=34::(j.s.flatMap fN_++[34]++r):=by simp [dn_]
    rw [ec] at hq ⊢
    have hpx:pfx [34] (34::(j.s.flatMap fN_++[34]++r))=true:=i8_ [34] _
    simp only [fv_,ab_ hs_,cW_ (show (34:UInt8)≠110 by decide),cW_ (show (34:UInt8)≠102 by decide),cW_ (show (34:UInt8)≠116 by decide),hpx,cond_false,cond_true,ab_ hq,ae_,ej]
  · have e:FEnc (d+1) j=[91]++ef_ (FEnc d) j j.list.length++[93]:=by simp only [FEnc,hk,Int.reduceBEq,cond_true,cond_false]
    have e1:FEnc (d+1) j++r=91::(ef_ (FEnc d) j j.list.length++93::r):=by rw [e];simp
    rw [e1] at hl ⊢
    have hP:=py_ (by omega) h (.inl hk) ih 93 (.inl rfl) r (by simp only [List.length_cons] at hl;omega)
    rw [oA_ h (.inl hk),hk] at hP
    have e5:eK_ ⟨91::(ef_ (FEnc d) j j.list.length++93::r),false⟩ [91]=(true,⟨ef_ (FEnc d) j j.list.length++93::r,false⟩):=f3_ [91] _
    simp only [fv_,ab_ hs_,cW_ (show (91:UInt8)≠110 by decide),cW_ (show (91:UInt8)≠102 by decide),cW_ (show (91:UInt8)≠116 by decide),px_ (show (91:UInt8)≠34 by decide),e5,cond_false,cond_true,ab_ hP,ae_]
  · have e:FEnc (d+1) j=[123]++ef_ (FEnc d) j j.list.length++[125]:=by simp only [FEnc,hk,Int.reduceBEq,cond_true,cond_false]
    have e1:FEnc (d+1) j++r=123::(ef_ (FEnc d) j j.list.length++125::r):=by rw [e];simp
    rw [e1] at hl ⊢
    have hP:=py_ (by omega) h (.inr hk) ih 125 (.inr rfl) r (by simp only [List.length_cons] at hl;omega)
    rw [oA_ h (.inr hk),hk] at hP
    have e5:eK_ ⟨123::(ef_ (FEnc d) j j.list.length++125::r),false⟩ [123]=(true,⟨ef_ (FEnc d) j j.list.length++125::r,false⟩):=f3_ [123] _
    simp only [fv_,ab_ hs_,cW_ (show (123:UInt8)≠110 by decide),cW_ (show (123:UInt8)≠102 by decide),cW_ (show (123:UInt8)≠116 by decide),cW_ (show (123:UInt8)≠91 by decide),px_ (show (123:UInt8)≠34 by decide),e5,cond_false,cond_true,ab_ hP,ae_]
end Go.Pi
end
section
namespace Go.Pi
abbrev jV_:Nat:=4194304
structure At (s:Bs) (p:Nat) (x:Bs):Prop where
 le:p≤s.length
 eq:s.drop p=x
theorem At.next {s a b:Bs} {p:Nat} (h:At s p (a++b)):At s (p+a.length) b:=by
 have h1:=congrArg List.length h.eq
 simp only [List.length_drop,List.length_append] at h1
 have h2:=h.le
 exact ⟨by omega,by rw [←List.drop_drop,h.eq,List.drop_left]⟩
theorem At.next1 {s t:Bs} {c:UInt8} {p:Nat} (h:At s p (c::t)):At s (p+1) t:=At.next (a:=[c]) h
theorem At.lt {s t:Bs} {c:UInt8} {p:Nat} (h:At s p (c::t)):p<s.length∧s.getD p 0=c:=by
 have h1:=congrArg List.length h.eq
 simp only [List.length_drop,List.length_cons] at h1
 have hp:p<s.length:=by omega
 refine ⟨hp,?_⟩
 have:=es_ 0 hp
 rw [h.eq] at this
 exact (List.cons.inj this).1.symm
theorem At.end_ {s:Bs} {p:Nat} (h:At s p []):p=s.length:=by
 have h1:=congrArg List.length h.eq
 simp only [List.length_drop,List.length_nil] at h1
 have:=h.le;omega
def ir_ (s:Bs) (p:Nat):Int:=cond (decide (p<s.length)) ((s.getD p 0).toNat:Int) 0
theorem eB_ {s:Bs} {p:Nat} {ok:Bool} {left:Int}:Ev (fun n _=>cX_ n ⟨s,(p:Int),ok,left⟩) (ir_ s p,⟨s,(p:Int),ok,left⟩):=by
 refine ap_ ?_
 simp only [cX_,am_,bb_,ae_,Int.toNat_natCast,ir_]
 by_cases h:p<s.length
 · rw [decide_eq_true h]
   exact ⟨fun hc=>by have:=of_decide_eq_true hc;omega,fun _=>⟨by omega,rfl⟩⟩
 · rw [decide_eq_false h]
   exact ⟨fun _=>rfl,fun hc=>by have:=of_decide_eq_false hc;omega⟩
theorem eC_ {s t:Bs} {c:UInt8} {p:Nat} (h:At s p (c::t)):ir_ s p=(c.toNat:Int):=by
 obtain ⟨h1,h2⟩:=h.lt
 unfold ir_;rw [decide_eq_true h1,h2];rfl
theorem peek_end {s:Bs} {p:Nat} (h:At s p []):ir_ s p=0:=by
 unfold ir_;rw [decide_eq_false (by have:=h.end_;omega)];rfl
theorem og_ {s:Bs} {p:Nat} (h:ir_ s p≠0):p<s.length:=by
 unfold ir_ at h
 by_cases hp:p<s.length
 · exact hp
 · rw [decide_eq_false hp] at h;exact absurd rfl h
def FTk (s:Bs) (p:Nat) (ok:Bool) (left:Int) (w:Bs):a4_:=cond (pfx w (s.drop p)) ⟨s,((p+w.length:Nat):Int),ok,left⟩ ⟨s,(p:Int),false,left⟩
theorem jr_ {s w:Bs} {p:Nat} {ok:Bool} {left:Int} (hs:s.length≤jV_) (hw:w.length≤100) (hp:p≤s.length):Ev (fun n _=>ca_ n ⟨s,(p:Int),ok,left⟩ w) (FTk s p ok left w):=by
 refine ap_ ?_
 simp only [jV_] at hs
 have e1:W ((s.length:Int) - (p:Int))=(s.length:Int) - p:=W_id (by omega) (by omega)
 have e2:W ((p:Int)+(w.length:Int))=((p+w.length:Nat):Int):=by rw [W_id (by omega) (by omega)];omega
 simp only [ca_,e1,e2,am_,eD_,ae_,Int.toNat_natCast,FTk]
 have e3:pfx w (s.drop p)=(((s.take (p+w.length)).drop p) == w):=by
  rw [lk_,List.drop_zero,List.drop_take,show p+w.length - p=w.length by omega]
 refine ⟨fun h => ?_,fun h => ?_⟩
 · have h:=of_decide_eq_true h
   cases e:pfx w (s.drop p) with
   |false=>rfl
   |true=>have:=i7_ e;simp only [List.length_drop] at this;omega
 · have h:=of_decide_eq_false h
   refine ⟨by omega,?_⟩
   rw [e3]
   cases ((s.take (p+w.length)).drop p == w)<;>simp
theorem pd_ {s w t:Bs} {p:Nat} {ok:Bool} {left:Int} (h:At s p (w++t)):FTk s p ok left w=⟨s,((p+w.length:Nat):Int),ok,left⟩:=by
 unfold FTk;rw [h.eq,i8_];rfl
theorem kd_ {s w:Bs} {p:Nat} {ok:Bool} {left:Int} (hp:p≤s.length):∃ p' ok',FTk s p ok left w=⟨s,((p':Nat):Int),ok',left⟩∧p≤p'∧p'≤s.length∧(ok'=true→ok=true):=by
 unfold FTk
 cases e:pfx w (s.drop p) with
 |false=>exact ⟨p,false,rfl,by omega,hp,fun h=>(by cases h)⟩
 |true=>have:=i7_ e;simp only [List.length_drop] at this;exact ⟨p+w.length,ok,rfl,by omega,by omega,id⟩
theorem kT_ {s:Bs} {p:Nat} {ok:Bool} {left:Int} (hs:s.length≤jV_) (hp:p≤s.length) :
  Ans (fun n _=>aG_ n ⟨s,(p:Int),ok,left⟩) fun x=>∃ p' ok',x.2=⟨s,((p':Nat):Int),ok',left⟩∧p'≤s.length∧x.1.length≤jV_∧(ok'=true→ok=true):=by
 refine b8_ ?_
 simp only [aG_,a2_ (jr_ (w:=[34]) hs (by simp) hp)]
 obtain ⟨p0,ok0,e0,_,hp0,hk0⟩:=kd_ (w:=[34]) (ok:=ok) (left:=left) hp
 rw [e0]
 have hs':=hs
 simp only [jV_] at hs
 have key:∀ (K:Nat→aG_.K4) (Q:Bs × a4_→Prop),(∀ (q:Nat) b o,q≤s.length→o.length≤jV_→(b=true→ok0=true)→Ans (fun n _=>K n s (q:Int) b left o) Q)→Ans (fun n _=>aG_.loop4 n (K n) n s (p0:Int) ok0 left []) Q:=by
  intro K Q hK
  refine gQ_ (σ:=Nat × Bool × List Int) (fun n N st=>aG_.loop4 n (K n) N s (st.1:Int) st.2.1 left st.2.2) (fun st=>s.length - st.1) (fun st=>st.1≤s.length∧st.2.2.length≤st.1∧(st.2.1=true→ok0=true)) _ (fun st hI ih => ?_) (p0,ok0,[]) ⟨hp0,Nat.zero_le _,id⟩
  obtain ⟨q,b,o⟩:=st
  simp only at hI ih ⊢
  have hend:=hK q b o hI.1 (by simp only [jV_];omega) hI.2.2
  have hW:W ((q:Int)+1)=((q+1:Nat):Int):=by rw [W_id (by omega) (by omega)];omega
  have hW2:W (((q+1:Nat):Int)+1)=((q+1+1:Nat):Int):=by rw [W_id (by omega) (by omega)];omega
  simp only [aG_.turn4,aG_.step4,ba_,a2_ eB_,hW,hW2,fb_,dC_,Int.toNat_natCast]
  refine ⟨fun hb=>⟨fun _=>⟨fun h92 => ?_,fun _=>⟨fun hc=>hK q false o hI.1 (by simp only [jV_];omega) (fun h=>(by cases h)),fun hc => ?_⟩⟩,fun _=>hend⟩,fun _=>hend⟩
  · have hlt:q<s.length:=og_ (fun e=>by rw [e] at h92;revert h92;decide)
    refine ⟨fun hc=>hK (q+1) false o (by omega) (by simp only [jV_];omega) (fun h=>(by cases h)),fun hc => ?_⟩
    have hc:=of_decide_eq_false hc
    exact ⟨by omega,by simp;omega,ih (q+1+1,b,_) ⟨by simp only;omega,by simp;omega,hI.2.2⟩ (by simp only;omega)⟩
  · have hc:=of_decide_eq_false hc
    exact ⟨by omega,by simp;omega,ih (q+1,b,_) ⟨by simp only;omega,by simp;omega,hI.2.2⟩ (by simp only;omega)⟩
 refine key _ _ fun q b o hq ho hb => ?_
 simp only [a2_ (jr_ (w:=[34]) hs' (by simp) hq),aM_]
 obtain ⟨p1,ok1,e1,h2,h3,h4⟩:=kd_ (w:=[34]) (ok:=b) (left:=left) hq
 exact ⟨p1,ok1,e1,h3,by simpa using ho,fun h=>hk0 (hb (h4 h))⟩
theorem kS_ {s t r:Bs} {p:Nat} {left:Int} (hs:s.length≤jV_) (h:At s p (dn_ t++r)) :
  Ev (fun n _=>aG_ n ⟨s,(p:Int),true,left⟩) (t,⟨s,((p+(dn_ t).length:Nat):Int),true,left⟩):=by
 have e:dn_ t++r=[34]++(t.flatMap fN_++34::r):=by simp [dn_]
 have eq:(dn_ t).length=1+(t.flatMap fN_).length+1:=by simp [dn_];omega
 rw [e] at h
 have h1:At s (p+1) (t.flatMap fN_++34::r):=h.next
 refine ap_ ?_
 simp only [aG_,ab_ (jr_ (w:=[34]) hs (by simp) h.le),pd_ h]
 have hs':=hs
 simp only [jV_] at hs
 have key:∀ (K:Nat→aG_.K4) (F:Bs × a4_),Ev (fun n _=>K n s ((p+1+(t.flatMap fN_).length:Nat):Int) true left (bi t)) F →
   ∀ (u v:Bs) (q:Nat),v++u=t→q=p+1+(v.flatMap fN_).length→At s q (u.flatMap fN_++34::r)→Ev (fun n N=>aG_.loop4 n (K n) N s (q:Int) true left (bi v)) F:=by
  intro K F hK u
  induction u with
  |nil=>
   intro v q hv hq ha
   rw [List.append_nil] at hv
   subst hv hq
   refine bF_ ?_
   have ha:At s (p+1+(v.flatMap fN_).length) (34::r):=ha
   simp only [aG_.turn4,aG_.step4,cond_true,ab_ eB_,eC_ ha]
   exact hK
  |cons c u ih=>
   intro v q hv hq ha
   have hnext:=ih (v++[c]) (q+(fN_ c).length) (by rw [←hv];simp) (by rw [hq];simp;omega) (by
    rw [List.flatMap_cons,List.append_assoc] at ha;exact ha.next)
   rw [←oW_] at hnext
   have hvl:v.length≤(v.flatMap fN_).length:=by
    clear hv hq hnext
    induction v with
    |nil=>exact Nat.le_refl _
    |cons c v ih=>rw [List.flatMap_cons,List.length_append,List.length_cons];have:1≤(fN_ c).length:=by unfold fN_;split<;>simp
                  omega
   have hbl:=k0_ v
   rw [List.flatMap_cons,List.append_assoc] at ha
   generalize bi v=o at hnext hbl ⊢
   refine bF_ ?_
   by_cases hc:c=34∨c=92
   · have e1:fN_ c=[92,c]:=if_pos hc
     rw [e1] at ha hnext
     have ha:At s q (92::c::(u.flatMap fN_++34::r)):=ha
     have hl:=ha.next1.lt
     have hW:W ((q:Int)+1)=((q+1:Nat):Int):=by rw [W_id (by omega) (by omega)];omega
     have hW2:W (((q+1:Nat):Int)+1)=((q+1+1:Nat):Int):=by rw [W_id (by omega) (by omega)];omega
     have hge:decide (((q+1:Nat):Int)≥(s.length:Int))=false:=decide_eq_false (by omega)
     have hp1:(((92:UInt8).toNat:Int) != 34)=true:=rfl
     have hp2:(((92:UInt8).toNat:Int) == 92)=true:=rfl
     simp only [aG_.turn4,aG_.step4,cond_true,cond_false,ab_ eB_,eC_ ha,hp1,hp2,hW,hW2,hge,bb_,bk_,Int.toNat_natCast,hl.2]
     exact ⟨by omega,by simp;omega,hnext⟩
   · have e1:fN_ c=[c]:=if_neg hc
     rw [e1] at ha hnext
     have ha:At s q (c::(u.flatMap fN_++34::r)):=ha
     have hl:=ha.lt
     have hW:W ((q:Int)+1)=((q+1:Nat):Int):=by rw [W_id (by omega) (by omega)];omega
     have hge:decide ((q:Int)≥(s.length:Int))=false:=decide_eq_false (by omega)
     have hp1:((c.toNat:Int) != 34)=true:=by
      show (!((c.toNat:Int) == 34))=true
      rw [byte34,decide_eq_false fun e=>hc (.inl e)];rfl
     have hp2:((c.toNat:Int) == 92)=false:=by rw [byte92,decide_eq_false fun e=>hc (.inr e)]
     simp only [aG_.turn4,aG_.step4,cond_true,cond_false,ab_ eB_,eC_ ha,hp1,hp2,hW,hge,bb_,bk_,Int.toNat_natCast,hl.2]
     exact ⟨by omega,by simp;omega,hnext⟩
 have h2:At s (p+1+(t.flatMap fN_).length) (34::r):=h1.next
 have:=key (fun n=>fun xy4 xy5 xy6 xy7 xy8=>((ca_ n (a4_.mk xy4 xy5 xy6 xy7) [34]).bind fun xr9=>(some ((iv_ xy8),xr9)))) (t,⟨s,((p+(dn_ t).length:Nat):Int),true,left⟩) (by
  simp only [ab_ (jr_ (w:=[34]) hs' (by simp) h2.le),pd_ (w:=[34]) h2,ae_,kc_]
  show (t,a4_.mk s ((p+1+(t.flatMap fN_).length+1:Nat):Int) true left)=_
  rw [show p+1+(t.flatMap fN_).length+1=p+(dn_ t).length by omega]) t [] (p+1) rfl rfl h1
 exact dg_ (f:=fun n N=>aG_.loop4 n (fun xy4 xy5 xy6 xy7 xy8=>((ca_ n (a4_.mk xy4 xy5 xy6 xy7) [34]).bind fun xr9=>(some ((iv_ xy8),xr9)))) N s ((p+1:Nat):Int) true left []) this
theorem kV_ {s:Bs} {p:Nat} {ok:Bool} {left:Int} (hs:s.length≤jV_) (hp:p≤s.length) :
  Ans (fun n _=>aD_ n ⟨s,(p:Int),ok,left⟩) fun x=>∃ p' ok',x.2=⟨s,((p':Nat):Int),ok',left⟩∧p'≤s.length∧(ok'=true→ok=true) ∧ -9223372036854775808≤x.1∧x.1≤9223372036854775807:=by
 have hWr:∀ x:Int,-9223372036854775808≤W x∧W x≤9223372036854775807:=by
  intro x
  show -9223372036854775808≤IntKind.i64.wrap x∧IntKind.i64.wrap x≤9223372036854775807
  rw [IntKind.wrap_i64];omega
 simp only [jV_] at hs
 have key:∀ (K:Nat→aD_.K7) (Q:Int × a4_→Prop) (t3:Bool) (t4:Int) (p0:Nat),p0≤s.length→(∀ (q:Nat) (x:Int),q≤s.length → -9223372036854775808≤x→x≤9223372036854775807→Ans (fun n _=>K n t3 t4 x s (q:Int) ok left) Q)→Ans (fun n _=>aD_.loop7 n (K n) n t3 t4 0 s (p0:Int) ok left) Q:=by
  intro K Q t3 t4 p0 hp0 hK
  refine gQ_ (σ:=Nat × Int) (fun n N st=>aD_.loop7 n (K n) N t3 t4 st.2 s (st.1:Int) ok left) (fun st=>s.length - st.1) (fun st=>st.1≤s.length ∧ -9223372036854775808≤st.2∧st.2≤9223372036854775807) _ (fun st hI ih => ?_) (p0,0) ⟨hp0,by simp,by simp⟩
  obtain ⟨q,x⟩:=st
  simp only at hI ih ⊢
  have hend:=hK q x hI.1 hI.2.1 hI.2.2
  have hW:W ((q:Int)+1)=((q+1:Nat):Int):=by rw [W_id (by omega) (by omega)];omega
  simp only [aD_.turn7,aD_.step7,ba_,a2_ eB_,hW]
  refine ⟨fun h48=>⟨fun _=>⟨fun _ => ?_,fun _=>hend⟩,fun _=>hend⟩,fun _=>hend⟩
  have h48:=of_decide_eq_true h48
  have hlt:q<s.length:=og_ (fun e=>by omega)
  exact ih (q+1,_) ⟨by simp only;omega,hWr _⟩ (by simp only;omega)
 refine b8_ ?_
 simp only [aD_,a2_ eB_,ba_]
 refine ⟨fun h45 => ?_,fun _ => ?_⟩
 · have hlt:p<s.length:=og_ (fun e=>by rw [e] at h45;revert h45;decide)
   have hW:W ((p:Int)+1)=((p+1:Nat):Int):=by rw [W_id (by omega) (by omega)];omega
   rw [hW]
   refine key _ _ _ _ (p+1) (by omega) fun q x hq hx0 hx1 => ?_
   simp only [ba_,aM_]
   exact ⟨fun _=>⟨fun _=>⟨q,false,rfl,hq,fun h=>(by cases h),hWr _⟩,fun _=>⟨q,false,rfl,hq,fun h=>(by cases h),hx0,hx1⟩⟩,fun _=>⟨fun _=>⟨q,ok,rfl,hq,id,hWr _⟩,fun _=>⟨q,ok,rfl,hq,id,hx0,hx1⟩⟩⟩
 · refine key _ _ _ _ p hp fun q x hq hx0 hx1 => ?_
   simp only [ba_,aM_]
   exact ⟨fun _=>⟨fun _=>⟨q,false,rfl,hq,fun h=>(by cases h),hWr _⟩,fun _=>⟨q,false,rfl,hq,fun h=>(by cases h),hx0,hx1⟩⟩,fun _=>⟨fun _=>⟨q,ok,rfl,hq,id,hWr _⟩,fun _=>⟨q,ok,rfl,hq,id,hx0,hx1⟩⟩⟩
theorem kU_ {s r:Bs} {p:Nat} {left:Int} {n:Int} (hs:s.length≤jV_) (h0 : -1000000000≤n) (h1:n≤1000000000) (hst:Stop r) (h:At s p (Lib.itoa n++r)) :
  Ev (fun m _=>aD_ m ⟨s,(p:Int),true,left⟩) (n,⟨s,((p+(Lib.itoa n).length:Nat):Int),true,left⟩):=by
 simp only [jV_] at hs
 have key:∀ (K:Nat→aD_.K7) (F:Int × a4_) (t3:Bool) (f:Nat) (D:Bs),(∀ c ∈ D,fu_ c)→∀ (q x:Nat),f≤q→q+D.length≤f+10→jq_ x D≤1000000000→At s q (D++r) →
   Ev (fun n _=>K n t3 (f:Int) (jq_ x D:Int) s ((q+D.length:Nat):Int) true left) F→Ev (fun n N=>aD_.loop7 n (K n) N t3 (f:Int) (x:Int) s (q:Int) true left) F:=by
  intro K F t3 f D
  induction D with
  |nil=>
   intro _ q x hf hl hv ha hK
   refine bF_ ?_
   have hK:Ev (fun n _=>K n t3 (f:Int) (x:Int) s (q:Int) true left) F:=hK
   have ha:At s q r:=ha
   simp only [aD_.turn7,aD_.step7,ab_ eB_,am_]
   have hnd:¬ (48≤ir_ s q∧ir_ s q≤57):=by
    cases r with
    |nil=>rw [peek_end ha];omega
    |cons c r=>rw [eC_ ha];have:=hst c r rfl;unfold fu_ at this;omega
   exact ⟨fun a=>⟨fun b=>absurd ⟨of_decide_eq_true a,of_decide_eq_true b⟩ hnd,fun _=>hK⟩,fun _=>hK⟩
  |cons c D ih=>
   intro hd q x hf hl hv ha hK
   have hc:=hd c (List.mem_cons_self ..)
   unfold fu_ at hc
   rw [iu_] at hv hK
   have hle:=val_le (10*x+(c.toNat - 48)) D
   have ha:At s q (c::(D++r)):=ha
   have hlt:=ha.lt
   simp only [List.length_cons] at hl
   have hn:=ih (fun c hc=>hd c (List.mem_cons_of_mem _ hc)) (q+1) (10*x+(c.toNat - 48)) (by omega) (by omega) hv ha.next1 (by
    rw [show q+1+D.length=q+(c::D).length by simp;omega];exact hK)
   have hW:W ((q:Int)+1)=((q+1:Nat):Int):=by rw [W_id (by omega) (by omega)];omega
   have hW2:W ((q:Int) - (f:Int))=(q:Int) - f:=W_id (by omega) (by omega)
   have hW3:W (10*(x:Int))=((10*x:Nat):Int):=by rw [W_id (by omega) (by omega)];omega
   have hW4:W (((10*x:Nat):Int)+(c.toNat:Int))=((10*x+c.toNat:Nat):Int):=by rw [W_id (by omega) (by omega)];omega
   have hW5:W (((10*x+c.toNat:Nat):Int) - 48)=((10*x+(c.toNat - 48):Nat):Int):=by rw [W_id (by omega) (by omega)];omega
   refine bF_ ?_
   simp only [aD_.turn7,aD_.step7,ab_ eB_,eC_ ha,so_,hW,hW2,hW3,hW4,hW5,am_]
   exact ⟨fun _=>⟨fun _=>⟨fun _=>hn,fun hx=>by have:=of_decide_eq_false hx;omega⟩,fun hx=>by have:=of_decide_eq_false hx;omega⟩,fun hx=>by have:=of_decide_eq_false hx;omega⟩
 refine ap_ ?_
 by_cases hn:n<0
 · have e:Lib.itoa n=45::Lib.decDigits n.natAbs:=by unfold Lib.itoa;rw [if_pos hn]
   rw [e] at h ⊢
   have hdp:=mA_ n.natAbs
   have hdl:=oR_ 9 n.natAbs (by omega)
   have hdd:=hv_ n.natAbs
   have hdv:=lz_ n.natAbs
   generalize Lib.decDigits n.natAbs=D at h hdp hdl hdd hdv ⊢
   have h:At s p (45::(D++r)):=h
   have hlt:=h.lt
   have hW:W ((p:Int)+1)=((p+1:Nat):Int):=by rw [W_id (by omega) (by omega)];omega
   have hW0:W (0 - ((n.natAbs:Nat):Int))=n:=by rw [W_id (by omega) (by omega)];omega
   have h45:(((45:UInt8).toNat:Int) == 45)=true:=rfl
   simp only [aD_,ab_ eB_,eC_ h,h45,cond_true,hW]
   have hne:(((p+1+D.length:Nat):Int) == ((p+1:Nat):Int))=false:=beq_eq_false_iff_ne.2 (by omega)
   have:=key (fun n=>fun xy5 xy6 xy7 xy8 xy9 xy10 xy11=>(cond (xy9 == xy6) (cond xy5 (some ((W (0 - xy7)),(a4_.mk xy8 xy9 false xy11))) (some (xy7,(a4_.mk xy8 xy9 false xy11)))) (cond xy5 (some ((W (0 - xy7)),(a4_.mk xy8 xy9 xy10 xy11))) (some (xy7,(a4_.mk xy8 xy9 xy10 xy11)))))) (n,⟨s,((p+(45::D).length:Nat):Int),true,left⟩) true (p+1) D hdd (p+1) 0 (Nat.le_refl _) (by omega) (by omega) h.next1 (by
    simp only [hne,cond_false,cond_true,hdv,hW0,ae_,List.length_cons];congr 3;omega)
   exact dg_ (f:=fun n N=>aD_.loop7 n (fun xy5 xy6 xy7 xy8 xy9 xy10 xy11=>(cond (xy9 == xy6) (cond xy5 (some ((W (0 - xy7)),(a4_.mk xy8 xy9 false xy11))) (some (xy7,(a4_.mk xy8 xy9 false xy11)))) (cond xy5 (some ((W (0 - xy7)),(a4_.mk xy8 xy9 xy10 xy11))) (some (xy7,(a4_.mk xy8 xy9 xy10 xy11)))))) N true ((p+1:Nat):Int) 0 s ((p+1:Nat):Int) true left) this
 · have e:Lib.itoa n=Lib.decDigits n.toNat:=by unfold Lib.itoa;rw [if_neg hn]
   rw [e] at h ⊢
   have hdp:=mA_ n.toNat
   have hdl:=oR_ 9 n.toNat (by omega)
   have hdd:=hv_ n.toNat
   have hdv:=lz_ n.toNat
   generalize Lib.decDigits n.toNat=D at h hdp hdl hdd hdv ⊢
   have h45:(ir_ s p == 45)=false:=by
    cases D with
    |nil=>simp at hdp
    |cons c D=>
     have h:At s p (c::(D++r)):=h
     have hc:=hdd c (List.mem_cons_self ..)
     unfold fu_ at hc
     rw [eC_ h];exact beq_eq_false_iff_ne.2 (by omega)
   have hN:((n.toNat:Nat):Int)=n:=by omega
   simp only [aD_,ab_ eB_,h45,cond_false]
   have hne:(((p+D.length:Nat):Int) == (p:Int))=false:=beq_eq_false_iff_ne.2 (by omega)
   have:=key (fun n=>fun xy12 xy13 xy14 xy15 xy16 xy17 xy18=>(cond (xy16 == xy13) (cond xy12 (some ((W (0 - xy14)),(a4_.mk xy15 xy16 false xy18))) (some (xy14,(a4_.mk xy15 xy16 false xy18)))) (cond xy12 (some ((W (0 - xy14)),(a4_.mk xy15 xy16 xy17 xy18))) (some (xy14,(a4_.mk xy15 xy16 xy17 xy18)))))) (n,⟨s,((p+D.length:Nat):Int),true,left⟩) false p D hdd p 0 (Nat.le_refl _) (by omega) (by omega) h (by
    simp only [hne,cond_false,hdv,hN,ae_])
   exact dg_ (f:=fun n N=>aD_.loop7 n (fun xy12 xy13 xy14 xy15 xy16 xy17 xy18=>(cond (xy16 == xy13) (cond xy12 (some ((W (0 - xy14)),(a4_.mk xy15 xy16 false xy18))) (some (xy14,(a4_.mk xy15 xy16 false xy18)))) (cond xy12 (some ((W (0 - xy14)),(a4_.mk xy15 xy16 xy17 xy18))) (some (xy14,(a4_.mk xy15 xy16 xy17 xy18)))))) N false (p:Int) 0 s (p:Int) true left) this
end Go.Pi
end
section
namespace Go.Pi
def rr_ (s:Bs) (left:Int) (d:Nat) (x:aa_ × a4_):Prop :=
 ∃ (p':Nat) (ok':Bool) (left':Int),x.2=⟨s,(p':Int),ok',left'⟩∧p'≤s.length ∧ -1≤left'∧left'<left∧(ok'=true→0≤left')∧ft_ d x.1
theorem many_any {s:Bs} (hs:s.length≤jV_) {d:Nat} (hd:d≤1000) (ih:∀ (p:Nat) (ok:Bool) (left:Int),p≤s.length→0≤left→left≤400→Ans (fun n _=>bP_ n ⟨s,(p:Int),ok,left⟩ (d:Int)) (rr_ s left d))
  (p:Nat) (left:Int) (hp:p<s.length) (h0:0≤left) (h1:left≤400):Ans (fun n _=>aW_ n ⟨s,(p:Int),true,left⟩ ((d+1:Nat):Int)) (rr_ s (left+1) (d+1)):=by
 have hW:W (((d+1:Nat):Int) - 1)=(d:Int):=by rw [W_id (by omega) (by omega)];omega
 have hs':=hs
 simp only [jV_] at hs
 have hWp:W ((p:Int)+1)=((p+1:Nat):Int):=by rw [W_id (by omega) (by omega)];omega
 have key:∀ (K:Nat→aW_.K8_1) (Q:aa_ × a4_→Prop) (kind:Int) (e:UInt8),(∀ (q:Nat) b (l:Int) js ns,q≤s.length → -1≤l→l≤left→(b=true→0≤l)→js.length≤402→(∀ y ∈ js,ft_ d y)→ns.length≤402→(∀ y ∈ ns,y.length≤jV_)→Ans (fun n _=>K n [e] s (q:Int) b l 0 0 [] kind 0 [] js ns) Q) →
   Ans (fun n _=>aW_.loop8 n (bP_ n) (K n) n ((d+1:Nat):Int) [e] s ((p+1:Nat):Int) true left 0 0 [] kind 0 [] [] []) Q:=by
  intro K Q kind e hK
  refine gQ_ (σ:=Nat × Bool × Int × List aa_ × List Bs) (fun n N st=>aW_.loop8 n (bP_ n) (K n) N ((d+1:Nat):Int) [e] s (st.1:Int) st.2.1 st.2.2.1 0 0 [] kind 0 [] st.2.2.2.1 st.2.2.2.2)
   (fun st=>(st.2.2.1+1).toNat) (fun st=>st.1≤s.length ∧ -1≤st.2.2.1∧st.2.2.1+st.2.2.2.1.length≤left∧(st.2.1=true→0≤st.2.2.1)∧(∀ y ∈ st.2.2.2.1,ft_ d y)∧st.2.2.2.2.length≤st.2.2.2.1.length∧(∀ y ∈ st.2.2.2.2,y.length≤jV_)) _ (fun st hI ihl => ?_) (p+1,true,left,[],[]) ⟨hp,by simp only;omega,by simp,fun _=>h0,fun y h=>(by cases h),Nat.le_refl _,fun y h=>(by cases h)⟩
  obtain ⟨q,b,l,js,ns⟩:=st
  simp only at hI ihl ⊢
  obtain ⟨i1,i2,i3,i4,i5,i6,i7⟩:=hI
  have hend:=hK q b l js ns i1 i2 (by omega) i4 (by omega) i5 (by omega) i7
  simp only [aW_.turn8,aW_.step8,aS_,hW,ba_,a2_ eB_,fb_,List.length_cons,List.length_nil]
  refine ⟨fun hb=>⟨by omega,fun _ => ?_,fun _=>hend⟩,fun _=>hend⟩
  subst hb
  have l0:=i4 rfl
  have step:∀ (q:Nat) (b:Bool) (ns':List Bs),q≤s.length→ns'.length≤js.length+1→(∀ y ∈ ns',y.length≤jV_) →
    Ans (fun n N=>(bP_ n ⟨s,(q:Int),b,l⟩ (d:Int)).bind fun xr6=>bf_ (js.length+(0+1)) 80 (aW_.loop8 n (bP_ n) (K n) N ((d+1:Nat):Int) [e] xr6.2.s xr6.2.at_ xr6.2.ok xr6.2.left 0 0 [] kind 0 [] (js++[xr6.1]) ns')) Q:=by
   intro q b ns' hq hn hnb
   refine av_ (ih q b l hq l0 (by omega)) fun v hv => ?_
   obtain ⟨j,c⟩:=v
   obtain ⟨p',ok',left',e1,e2,e3,e4,e5,e6⟩:=hv
   simp only at e1 e6
   subst e1
   simp only [dC_]
   refine ⟨by omega,ihl (p',ok',left',js++[j],ns') ⟨e2,e3,by simp;omega,e5,?_,by simpa using hn,hnb⟩ (by simp only;omega)⟩
   intro y hy
   rcases List.mem_append.1 hy with hy|hy
   · exact i5 y hy
   · obtain rfl:=List.mem_singleton.1 hy;exact e6
  have named:∀ (q:Nat) (b:Bool),q≤s.length →
    Ans (fun n N=>(aG_ n ⟨s,(q:Int),b,l⟩).bind fun xr4=>bf_ (ns.length+(0+1)) 16 ((ca_ n xr4.2 [58]).bind fun xr5=>(bP_ n xr5 (d:Int)).bind fun xr6=>bf_ (js.length+(0+1)) 80 (aW_.loop8 n (bP_ n) (K n) N ((d+1:Nat):Int) [e] xr6.2.s xr6.2.at_ xr6.2.ok xr6.2.left 0 0 [] kind 0 [] (js++[xr6.1]) (ns++[xr4.1])))) Q:=by
   intro q b hq
   refine av_ (kT_ (ok:=b) (left:=l) hs' hq) fun v hv => ?_
   obtain ⟨t,c⟩:=v
   obtain ⟨p',ok',e1,e2,e3,e4⟩:=hv
   simp only at e1 e3
   subst e1
   obtain ⟨p2,ok2,g1,g2,g3,g4⟩:=kd_ (w:=[58]) (ok:=ok') (left:=l) e2
   simp only [dC_,a2_ (jr_ (w:=[58]) hs' (by simp) e2),g1]
   refine ⟨by omega,step p2 ok2 (ns++[t]) g3 (by simp;omega) fun y hy => ?_⟩
   rcases List.mem_append.1 hy with hy|hy
   · exact i7 y hy
   · obtain rfl:=List.mem_singleton.1 hy;exact e3
  refine ⟨fun _ => ?_,fun _=>⟨fun _=>named q true i1,fun _=>step q true ns i1 (by omega) i7⟩⟩
  obtain ⟨p2,ok2,g1,g2,g3,g4⟩:=kd_ (w:=[44]) (ok:=true) (left:=l) i1
  simp only [a2_ (jr_ (w:=[44]) hs' (by simp) i1),g1,ba_]
  exact ⟨fun _=>named p2 ok2 g3,fun _=>step p2 ok2 ns g3 (by omega) i7⟩
 have fin:∀ (e:UInt8) (kind:Int) (q:Nat) (b:Bool) (l:Int) (js:List aa_) (ns:List Bs),q≤s.length → -1≤l→l≤left→(b=true→0≤l)→js.length≤402→(∀ y ∈ js,ft_ d y)→ns.length≤402→(∀ y ∈ ns,y.length≤jV_) →
   Ans (fun n (_:Nat)=>(ca_ n (a4_.mk s (q:Int) b l) [e]).bind fun xr25=>some ((aa_.mk kind 0 [] js ns),xr25)) (rr_ s (left+1) (d+1)):=by
  intro e kind q b l js ns a1 a2 a3 a4 a5 a6 a7 a8
  obtain ⟨p2,ok2,g1,g2,g3,g4⟩:=kd_ (w:=[e]) (ok:=b) (left:=l) a1
  simp only [a2_ (jr_ (w:=[e]) hs' (by simp) a1),g1,aM_]
  refine ⟨p2,ok2,l,rfl,g3,a2,by omega,fun h=>a4 (g4 h),⟨Nat.zero_le _,?_,fun y hy => ?_⟩,?_,a6⟩
  · show ns.length≤b6_;simp only [b6_];omega
  · have:=a8 y hy;simp only [jV_] at this;simp only [b6_];omega
  · show js.length≤b6_;simp only [b6_];omega
 refine b8_ ?_
 simp only [aW_,a2_ eB_,ba_,hWp]
 exact ⟨fun _=>key _ _ 5 125 fun q b l js ns a1 a2 a3 a4 a5 a6 a7 a8=>fin 125 5 q b l js ns a1 a2 a3 a4 a5 a6 a7 a8,fun _=>key _ _ 4 93 fun q b l js ns a1 a2 a3 a4 a5 a6 a7 a8=>fin 93 4 q b l js ns a1 a2 a3 a4 a5 a6 a7 a8⟩
theorem mh_ {s:Bs} (hs:s.length≤jV_):∀ (d:Nat),d≤1000→∀ (p:Nat) (ok:Bool) (left:Int),p≤s.length→0≤left→left≤400→Ans (fun n _=>bP_ n ⟨s,(p:Int),ok,left⟩ (d:Int)) (rr_ s left d)
 |0,_,p,ok,left,hp,h0,h1=>by
  have hl:W (left - 1)=left - 1:=W_id (by omega) (by omega)
  refine b8_ ?_
  simp only [bP_,ba_,aM_,hl]
  exact ⟨fun _=>⟨p,false,_,rfl,hp,by omega,by omega,fun h=>(by cases h),trivial⟩,fun h=>by simp at h⟩
 |d+1,hd,p,ok,left,hp,h0,h1=>by
  have ihm:=many_any hs (d:=d) (by omega) (mh_ hs d (by omega))
  have hl:W (left - 1)=left - 1:=W_id (by omega) (by omega)
  refine b8_ ?_
  simp only [bP_,aS_,ba_,aM_,hl,a2_ eB_]
  refine ⟨fun h=>by simp at h;omega,fun _=>⟨fun _=>⟨p,false,_,rfl,hp,by omega,by omega,fun h=>(by cases h),e2_⟩,fun hc => ?_⟩⟩
  have hc:=of_decide_eq_false hc
  refine ⟨fun _=>⟨p,ok,_,rfl,hp,by omega,by omega,fun h=>by omega,e2_⟩,fun hok => ?_⟩
  have hok:ok=true:=by simpa using hok
  subst hok
  have lit:∀ (w:Bs) (k n:Int),w.length≤100→Ans (fun m (_:Nat)=>(ca_ m ⟨s,(p:Int),true,left - 1⟩ w).bind fun xr=>some (aa_.mk k n [] [] [],xr)) (rr_ s left (d+1)):=by
   intro w k n hw
   obtain ⟨p2,ok2,g1,g2,g3,g4⟩:=kd_ (w:=w) (ok:=true) (left:=left - 1) hp
   simp only [a2_ (jr_ (w:=w) hs hw hp),g1,aM_]
   exact ⟨p2,ok2,_,rfl,g3,by omega,by omega,fun _=>by omega,e2_⟩
  have num:Ans (fun m (_:Nat)=>(aD_ m ⟨s,(p:Int),true,left - 1⟩).bind fun xr=>some (aa_.mk 2 xr.1 [] [] [],xr.2)) (rr_ s left (d+1)):=by
   refine av_ (kV_ (ok:=true) (left:=left - 1) hs hp) fun v hv => ?_
   obtain ⟨x,c⟩:=v
   obtain ⟨p',ok',e1,e2,e3,_⟩:=hv
   simp only at e1
   subst e1
   simp only [aM_]
   exact ⟨p',ok',_,rfl,e2,by omega,by omega,fun _=>by omega,e2_⟩
  have many:(ir_ s p == 91)=true∨(ir_ s p == 123)=true→Ans (fun n (_:Nat)=>(aW_ n ⟨s,(p:Int),true,left - 1⟩ ((d+1:Nat):Int)).bind fun xr8=>some (xr8.1,xr8.2)) (rr_ s left (d+1)):=by
   intro hpk
   have hlt:p<s.length:=og_ (fun e=>by rw [e] at hpk;revert hpk;decide)
   refine av_ (ihm p (left - 1) hlt (by omega) (by omega)) fun v hv => ?_
   simp only [aM_]
   obtain ⟨p',ok',left',e1,e2,e3,e4,e5,e6⟩:=hv
   exact ⟨p',ok',left',e1,e2,e3,by omega,e5,e6⟩
  refine ⟨fun _=>lit _ 0 0 (by simp),fun _=>⟨fun _=>lit _ 1 1 (by simp),fun _=>⟨fun _=>lit _ 1 0 (by simp),fun _=>⟨fun _ => ?_,fun _=>⟨fun h=>⟨fun _=>many (.inl h),fun _=>num⟩,fun _=>⟨fun h=>many (.inr h),fun _=>num⟩⟩⟩⟩⟩⟩
  refine av_ (kT_ (ok:=true) (left:=left - 1) hs hp) fun v hv => ?_
  obtain ⟨t,c⟩:=v
  obtain ⟨p',ok',e1,e2,e3,e4⟩:=hv
  simp only at e1 e3
  subst e1
  simp only [aM_]
  exact ⟨p',ok',_,rfl,e2,by omega,by omega,fun _=>by omega,pH_ (by simp only [jV_] at e3;simp only [b6_];omega)⟩
end Go.Pi
end
section
namespace Go.Pi
theorem rQ_ {s:Bs} (hs:s.length≤jV_) {d:Nat} (hd:d≤1000) {j:aa_} (h:bE_ (d+1) j≤400) (hk:j.kind=4∨j.kind=5)
  (ih:∀ x,bE_ d x≤400→∀ (p:Nat) (r:Bs) (left:Int),Stop r→(bE_ d x:Int)≤left→left≤400→At s p (FEnc d x++r)→Ev (fun n _=>bP_ n ⟨s,(p:Int),true,left⟩ (d:Int)) (x,⟨s,((p+(FEnc d x).length:Nat):Int),true,left - bE_ d x⟩))
  (o c:UInt8) (hoc:(j.kind=4→o=91∧c=93)∧(j.kind=5→o=123∧c=125)) (r:Bs) (p:Nat) (left:Int) (hl:(er_ (bE_ d) j.list:Int)≤left) (hl2:left≤400) (ha:At s p (o::(ef_ (FEnc d) j j.list.length++c::r))) :
  Ev (fun n _=>aW_ n ⟨s,(p:Int),true,left⟩ ((d+1:Nat):Int)) (aa_.mk j.kind 0 [] j.list j.names,⟨s,((p+1+(ef_ (FEnc d) j j.list.length).length+1:Nat):Int),true,left - er_ (bE_ d) j.list⟩):=by
 have hW:W (((d+1:Nat):Int) - 1)=(d:Int):=by rw [W_id (by omega) (by omega)];omega
 have hs':=hs
 simp only [jV_] at hs
 have hll:=eR_ h
 have hnl:=fP_ h
 have ho:=(dY_ h).1
 have ho2:=fq_ (e1_ h)
 have hlt:=ha.lt
 have hWp:W ((p:Int)+1)=((p+1:Nat):Int):=by rw [W_id (by omega) (by omega)];omega
 have hc:c.toNat=93∨c.toNat=125:=by
  rcases hk with hk|hk
  · rw [(hoc.1 hk).2];exact .inl rfl
  · rw [(hoc.2 hk).2];exact .inr rfl
 have hcd:¬ fu_ c:=q1_ (kind:=0) hc
 have key:∀ (K:Nat→aW_.K8_1) (F:aa_ × a4_) (k i q:Nat) (left:Int),i+k=j.list.length→(er_ (bE_ d) (j.list.drop i):Int)≤left→left≤400→At s q (dJ_ (FEnc d) j k i++c::r) →
   Ev (fun n _=>K n [c] s ((q+(dJ_ (FEnc d) j k i).length:Nat):Int) true (left - er_ (bE_ d) (j.list.drop i)) 0 0 [] j.kind 0 [] j.list j.names) F →
   Ev (fun n N=>aW_.loop8 n (bP_ n) (K n) N ((d+1:Nat):Int) [c] s (q:Int) true left 0 0 [] j.kind 0 [] (j.list.take i) (j.names.take i)) F:=by
  intro K F k
  induction k with
  |zero=>
   intro i q left hi hl _ ha hK
   have ei:i=j.list.length:=by omega
   subst ei
   have en:j.names.take j.list.length=j.names:=by
    rcases hk with hk|hk
    · rw [ho2.ns0 (by omega)];simp
    · exact List.take_of_length_le (by rw [(ho.obj hk).1];exact Nat.le_refl _)
   have ha:At s q (c::r):=ha
   have hK:Ev (fun n _=>K n [c] s (q:Int) true left 0 0 [] j.kind 0 [] j.list j.names) F:=by
    simpa [dJ_,er_] using hK
   refine bF_ ?_
   have hne:((c.toNat:Int) != (([c]:Bs).getD 0 0).toNat)=false:=by simp
   simp only [aW_.turn8,aW_.step8,List.take_length,en,cond_true,ab_ eB_,eC_ ha,hne,cond_false,bb_]
   exact ⟨by simp,hK⟩
  |succ k ihk=>
   intro i q left hi hl hl2 ha hK
   have hlti:i<j.list.length:=by omega
   have hp:=fB_ h (i:=i) (by omega)
   rw [lB_ (bE_ d) aa_.dflt hlti] at hl hK
   have hnext:=ihk (i+1)
   rw [cB_ aa_.dflt hlti] at hnext
   have hx:=ih _ hp.size
   have hst:Stop (dJ_ (FEnc d) j k (i+1)++c::r):=pi_ _ _ _ _ hcd r
   have etl:(j.list.take i).length=i:=by simp;omega
   have iK_:∀ (q':Nat),At s q' (dD_ (FEnc d) j i++(dJ_ (FEnc d) j k (i+1)++c::r))→q'+(dD_ (FEnc d) j i).length+(dJ_ (FEnc d) j k (i+1)).length=q+(dJ_ (FEnc d) j (k+1) i).length →
     Ev (fun n N=>cond (j.kind == 5) ((aG_ n ⟨s,(q':Int),true,left⟩).bind fun xr4=>bf_ ((j.names.take i).length+[xr4.1].length) 16 ((ca_ n xr4.2 [58]).bind fun xr5=>(bP_ n xr5 (d:Int)).bind fun xr6=>bf_ ((j.list.take i).length+[xr6.1].length) 80 (aW_.loop8 n (bP_ n) (K n) N ((d+1:Nat):Int) [c] xr6.2.s xr6.2.at_ xr6.2.ok xr6.2.left 0 0 [] j.kind 0 [] (j.list.take i++[xr6.1]) (j.names.take i++[xr4.1]))))
      ((bP_ n ⟨s,(q':Int),true,left⟩ (d:Int)).bind fun xr6=>bf_ ((j.list.take i).length+[xr6.1].length) 80 (aW_.loop8 n (bP_ n) (K n) N ((d+1:Nat):Int) [c] xr6.2.s xr6.2.at_ xr6.2.ok xr6.2.left 0 0 [] j.kind 0 [] (j.list.take i++[xr6.1]) (j.names.take i)))) F:=by
    intro q' ha' hq'
    rcases hk with hk|hk
    · have h5:(j.kind == 5)=false:=by rw [hk];rfl
      have en:j.names=[]:=ho2.ns0 (by omega)
      have ef:dD_ (FEnc d) j i=FEnc d (j.list.getD i aa_.dflt):=by unfold dD_;rw [h5];rfl
      rw [ef] at ha' hq'
      have hx:=hx q' _ left hst (by omega) hl2 ha'
      have hn:=hnext (q'+(FEnc d (j.list.getD i aa_.dflt)).length) (left - bE_ d (j.list.getD i aa_.dflt)) (by omega) (by omega) (by omega) ha'.next (by
       rw [hq',show left - (bE_ d (j.list.getD i aa_.dflt):Int) - (er_ (bE_ d) (j.list.drop (i+1)):Int)=left - ((bE_ d (j.list.getD i aa_.dflt)+er_ (bE_ d) (j.list.drop (i+1)):Nat):Int) by omega]
       exact hK)
      rw [en,List.take_nil] at hn
      simp only [h5,cond_false,ab_ hx,bk_,en,List.take_nil]
      exact ⟨by simp;omega,hn⟩
    · have h5:(j.kind == 5)=true:=by rw [hk];rfl
      obtain ⟨o1,o2⟩:=ho.obj hk
      have ef:dD_ (FEnc d) j i=dn_ (j.names.getD i [])++([58]++FEnc d (j.list.getD i aa_.dflt)):=by unfold dD_;rw [h5];rfl
      rw [ef] at ha' hq'
      simp only [List.append_assoc] at ha'
      have hq:=kS_ (left:=left) hs' ha'
      have ha2:=ha'.next
      have ha3:=ha2.next
      have hx:=hx _ _ left hst (by omega) hl2 ha3
      rw [cB_ [] (show i<j.names.length by omega)] at hnext
      have hn:=hnext _ (left - bE_ d (j.list.getD i aa_.dflt)) (by omega) (by omega) (by omega) ha3.next (by
       rw [show q'+(dn_ (j.names.getD i [])).length+([58]:Bs).length+(FEnc d (j.list.getD i aa_.dflt)).length+(dJ_ (FEnc d) j k (i+1)).length=q+(dJ_ (FEnc d) j (k+1) i).length by rw [←hq'];simp only [List.length_append];omega,
        show left - (bE_ d (j.list.getD i aa_.dflt):Int) - (er_ (bE_ d) (j.list.drop (i+1)):Int)=left - ((bE_ d (j.list.getD i aa_.dflt)+er_ (bE_ d) (j.list.drop (i+1)):Nat):Int) by omega]
       exact hK)
      simp only [h5,cond_true,ab_ hq,ab_ (jr_ (w:=[58]) hs' (by simp) ha2.le),pd_ ha2,ab_ hx,bk_]
      exact ⟨by simp;omega,by simp;omega,hn⟩
   refine bF_ ?_
   by_cases h0:i=0
   · have e0:dJ_ (FEnc d) j (k+1) i=dD_ (FEnc d) j i++dJ_ (FEnc d) j k (i+1):=by rw [dJ_,if_pos h0];rfl
     have ha':At s q (dD_ (FEnc d) j i++(dJ_ (FEnc d) j k (i+1)++c::r)):=by rw [e0,List.append_assoc] at ha;exact ha
     have hr:=iK_ q ha' (by rw [e0,List.length_append];omega)
     obtain ⟨a,p0,ep,hp1,hp2,hp3⟩:=nV_ h (i:=i) (by omega)
     have hpk:(ir_ s q != (([c]:Bs).getD 0 0).toNat)=true:=by
      rw [ep] at ha'
      rw [eC_ (t:=p0++(dJ_ (FEnc d) j k (i+1)++c::r)) ha']
      show (!((a.toNat:Int) == (c.toNat:Int)))=true
      rw [beq_eq_false_iff_ne.2 (by omega)];rfl
     have hg:decide (((j.list.take i).length:Int) > 0)=false:=decide_eq_false (by omega)
     simp only [aW_.turn8,aW_.step8,aS_,hW,cond_true,ab_ eB_,hpk,hg,cond_false,bb_]
     exact ⟨by simp,hr⟩
   · have e0:dJ_ (FEnc d) j (k+1) i=[44]++(dD_ (FEnc d) j i++dJ_ (FEnc d) j k (i+1)):=by rw [dJ_,if_neg h0]
     have ha':At s q ([44]++(dD_ (FEnc d) j i++(dJ_ (FEnc d) j k (i+1)++c::r))):=by rw [e0,List.append_assoc,List.append_assoc] at ha;exact ha
     have hr:=iK_ (q+([44]:Bs).length) ha'.next (by rw [e0];simp only [List.length_append];omega)
     have hpk:(ir_ s q != (([c]:Bs).getD 0 0).toNat)=true:=by
      rw [eC_ (c:=44) ha']
      show (!(((44:UInt8).toNat:Int) == (c.toNat:Int)))=true
      rw [beq_eq_false_iff_ne.2 (show (((44:UInt8).toNat:Int))≠(c.toNat:Int) by show (44:Int)≠_;omega)];rfl
     have hg:decide (((j.list.take i).length:Int) > 0)=true:=decide_eq_true (by omega)
     simp only [aW_.turn8,aW_.step8,aS_,hW,cond_true,ab_ eB_,hpk,hg,ab_ (jr_ (w:=[44]) hs' (by simp) ha'.le),pd_ ha',bb_]
     exact ⟨by simp,hr⟩
 have ha1:=ha.next1
 rw [mQ_] at ha1 ⊢
 have ha2:=ha1.next
 have fin:Ev (fun n (_:Nat)=>(ca_ n (a4_.mk s ((p+1+(dJ_ (FEnc d) j j.list.length 0).length:Nat):Int) true (left - er_ (bE_ d) (j.list.drop 0))) [c]).bind fun xr25=>some ((aa_.mk j.kind 0 [] j.list j.names),xr25)) (aa_.mk j.kind 0 [] j.list j.names,⟨s,((p+1+(dJ_ (FEnc d) j j.list.length 0).length+1:Nat):Int),true,left - er_ (bE_ d) j.list⟩):=by
  simp only [ab_ (jr_ (w:=[c]) hs' (by simp) ha2.le),pd_ (w:=[c]) ha2,ae_,List.drop_zero];rfl
 refine ap_ ?_
 simp only [aW_,ab_ eB_,eC_ ha,hWp]
 rcases hk with hk|hk
 · obtain ⟨rfl,rfl⟩:=hoc.1 hk
   have h1:(((91:UInt8).toNat:Int) == 123)=false:=rfl
   have:=key (fun n=>fun xy26 xy27 xy28 xy29 xy30 xy31 xy32 xy33 xy34 xy35 xy36 xy37 xy38=>((ca_ n (a4_.mk xy27 xy28 xy29 xy30) xy26).bind fun xr39=>(some ((aa_.mk xy34 xy35 xy36 xy37 xy38),xr39)))) _ j.list.length 0 (p+1) left (by omega) (by rw [List.drop_zero];exact hl) hl2 ha1 fin
   rw [hk] at this ⊢
   simp only [h1,cond_false]
   exact dg_ this
 · obtain ⟨rfl,rfl⟩:=hoc.2 hk
   have h1:(((123:UInt8).toNat:Int) == 123)=true:=rfl
   have:=key (fun n=>fun xy12 xy13 xy14 xy15 xy16 xy17 xy18 xy19 xy20 xy21 xy22 xy23 xy24=>((ca_ n (a4_.mk xy13 xy14 xy15 xy16) xy12).bind fun xr25=>(some ((aa_.mk xy20 xy21 xy22 xy23 xy24),xr25)))) _ j.list.length 0 (p+1) left (by omega) (by rw [List.drop_zero];exact hl) hl2 ha1 fin
   rw [hk] at this ⊢
   simp only [h1,cond_true]
   exact dg_ this
theorem mg_ {s:Bs} (hs:s.length≤jV_):∀ (d:Nat),d≤1000→∀ x,bE_ d x≤400→∀ (p:Nat) (r:Bs) (left:Int),Stop r→(bE_ d x:Int)≤left→left≤400→At s p (FEnc d x++r)→Ev (fun n _=>bP_ n ⟨s,(p:Int),true,left⟩ (d:Int)) (x,⟨s,((p+(FEnc d x).length:Nat):Int),true,left - bE_ d x⟩)
 |0,_,x,h,p,r,left,_,_,_,_=>by simp only [bE_] at h;omega
 |d+1,hd,j,h,p,r,left,hst,hl,hl2,ha=>by
  have ih:=mg_ hs d (by omega)
  have ho:=(dY_ h).1
  have ho2:=fq_ (e1_ h)
  have hsz:=(dY_ h).2
  have hpos:=qn_ (d+1) j
  have hWl:W (left - 1)=left - 1:=W_id (by omega) (by omega)
  have hz:((((d+1:Nat):Int)) == 0)=false:=beq_eq_false_iff_ne.2 (by omega)
  have hlt:decide (left - 1<0)=false:=decide_eq_false (by omega)
  refine ap_ ?_
  simp only [bP_,aS_,hWl,hz,hlt,Bool.not_true,cond_false,ab_ eB_]
  have one:j.list=[]→left - 1=left - (bE_ (d+1) j:Int):=by
   intro e;rw [hsz,e];simp [er_]
  rcases ho.kind with hk|hk|hk|hk|hk|hk
  · have e:FEnc (d+1) j=[110,117,108,108]:=by simp only [FEnc,hk,Int.reduceBEq,cond_true]
    have e3:=ho.list (by omega) (by omega)
    rw [←one e3]
    have ej:j=aa_.mk 0 0 [] [] []:=by
     have e1:=ho2.n0 (by omega) (by omega)
     have e2:=ho2.s0 (by omega)
     have e4:=ho2.ns0 (by omega)
     obtain ⟨k,n,s,l,ns⟩:=j
     simp only at e1 e2 e3 e4 hk
     subst e1 e2 e3 e4 hk;rfl
    rw [e] at ha ⊢
    have hpk:=eC_ (c:=110) (t:=[117,108,108]++r) ha
    have c1:(((110:UInt8).toNat:Int) == 110)=true:=rfl
    simp only [hpk,c1,cond_true,ab_ (jr_ (w:=[110,117,108,108]) hs (by simp) ha.le),pd_ ha,ae_]
    rw [ej]
  · have hb:=ho.bool hk
    have e2:=ho2.s0 (by omega)
    have e3:=ho.list (by omega) (by omega)
    have e4:=ho2.ns0 (by omega)
    rw [←one e3]
    obtain ⟨k,n,ss,l,ns⟩:=j
    simp only at e2 e3 e4 hk hb
    subst e2 e3 e4 hk
    have:n=0∨n=1:=by omega
    rcases this with rfl|rfl
    · have e:FEnc (d+1) (aa_.mk 1 0 [] [] [])=[102,97,108,115,101]:=rfl
      rw [e] at ha ⊢
      have hpk:=eC_ (c:=102) (t:=[97,108,115,101]++r) ha
      have c1:(((102:UInt8).toNat:Int) == 110)=false:=rfl
      have c2:(((102:UInt8).toNat:Int) == 116)=false:=rfl
      have c3:(((102:UInt8).toNat:Int) == 102)=true:=rfl
      simp only [hpk,c1,c2,c3,cond_true,cond_false,ab_ (jr_ (w:=[102,97,108,115,101]) hs (by simp) ha.le),pd_ ha,ae_]
    · have e:FEnc (d+1) (aa_.mk 1 1 [] [] [])=[116,114,117,101]:=rfl
      rw [e] at ha ⊢
      have hpk:=eC_ (c:=116) (t:=[114,117,101]++r) ha
      have c1:(((116:UInt8).toNat:Int) == 110)=false:=rfl
      have c2:(((116:UInt8).toNat:Int) == 116)=true:=rfl
      simp only [hpk,c1,c2,cond_true,cond_false,ab_ (jr_ (w:=[116,114,117,101]) hs (by simp) ha.le),pd_ ha,ae_]
  · have hn:=ho.num hk
    have e:FEnc (d+1) j=Lib.itoa j.n_:=by simp only [FEnc,hk,Int.reduceBEq,cond_true,cond_false]
    have e3:=ho.list (by omega) (by omega)
    rw [←one e3]
    rw [e] at ha ⊢
    have hN:=kU_ (left:=left - 1) hs hn.1 hn.2 hst ha
    have ej:aa_.mk 2 j.n_ [] [] []=j:=by
     have e2:=ho2.s0 (by omega)
     have e4:=ho2.ns0 (by omega)
     obtain ⟨k,n,s,l,ns⟩:=j
     simp only at e2 e3 e4 hk
     subst e2 e3 e4 hk;rfl
    obtain ⟨c,t,ec,hc⟩:=g7_ j.n_
    have hpk:ir_ s p=(c.toNat:Int):=by
     rw [ec] at ha
     exact eC_ (t:=t++r) ha
    have ne:∀ x:Int,(x<45∨x=46∨57<x)→((c.toNat:Int) == x)=false:=by
     intro x hx
     refine beq_eq_false_iff_ne.2 ?_
     rcases hc with rfl|hc
     · show (45:Int)≠x;omega
     · unfold fu_ at hc;omega
    simp only [hpk,ne 110 (by decide),ne 116 (by decide),ne 102 (by decide),ne 34 (by decide),ne 91 (by decide),ne 123 (by decide),cond_false,ab_ hN,ae_,ej]
  · have ht:=ho2.text hk
    have e:FEnc (d+1) j=dn_ j.s:=by simp only [FEnc,hk,Int.reduceBEq,cond_true,cond_false]
    have e3:=ho.list (by omega) (by omega)
    rw [←one e3]
    rw [e] at ha ⊢
    have hq:=kS_ (left:=left - 1) hs ha
    have ej:aa_.mk 3 0 j.s [] []=j:=by
     have e2:=ho2.n0 (by omega) (by omega)
     have e4:=ho2.ns0 (by omega)
     obtain ⟨k,n,s,l,ns⟩:=j
     simp only at e2 e3 e4 hk
     subst e2 e3 e4 hk;rfl
    have hpk:ir_ s p=((34:UInt8).toNat:Int):=eC_ (c:=34) (t:=j.s.flatMap fN_++[34]++r) (by
     have:dn_ j.s++r=34::(j.s.flatMap fN_++[34]++r):=by simp [dn_]
     rw [←this];exact ha)
    have c1:(((34:UInt8).toNat:Int) == 110)=false:=rfl
    have c2:(((34:UInt8).toNat:Int) == 116)=false:=rfl
    have c3:(((34:UInt8).toNat:Int) == 102)=false:=rfl
    have c4:(((34:UInt8).toNat:Int) == 34)=true:=rfl
    simp only [hpk,c1,c2,c3,c4,cond_true,cond_false,ab_ hq,ae_,ej]
  · have e:FEnc (d+1) j=[91]++ef_ (FEnc d) j j.list.length++[93]:=by simp only [FEnc,hk,Int.reduceBEq,cond_true,cond_false]
    have e1:FEnc (d+1) j++r=91::(ef_ (FEnc d) j j.list.length++93::r):=by rw [e];simp
    have e2:p+(FEnc (d+1) j).length=p+1+(ef_ (FEnc d) j j.list.length).length+1:=by rw [e];simp;omega
    rw [e1] at ha
    rw [e2]
    have hP:=rQ_ hs (by omega) h (.inl hk) ih 91 93 ⟨fun _=>⟨rfl,rfl⟩,fun h=>by omega⟩ r p (left - 1) (by omega) (by omega) ha
    rw [oA_ h (.inl hk),show left - 1 - (er_ (bE_ d) j.list:Int)=left - (bE_ (d+1) j:Int) by rw [hsz];omega] at hP
    have hpk:=eC_ ha
    have c1:(((91:UInt8).toNat:Int) == 110)=false:=rfl
    have c2:(((91:UInt8).toNat:Int) == 116)=false:=rfl
    have c3:(((91:UInt8).toNat:Int) == 102)=false:=rfl
    have c4:(((91:UInt8).toNat:Int) == 34)=false:=rfl
    have c5:(((91:UInt8).toNat:Int) == 91)=true:=rfl
    simp only [hpk,c1,c2,c3,c4,c5,cond_true,cond_false,ab_ hP,ae_]
  · have e:FEnc (d+1) j=[123]++ef_ (FEnc d) j j.list.length++[125]:=by simp only [FEnc,hk,Int.reduceBEq,cond_true,cond_false]
    have e1:FEnc (d+1) j++r=123::(ef_ (FEnc d) j j.list.length++125::r):=by rw [e];simp
    have e2:p+(FEnc (d+1) j).length=p+1+(ef_ (FEnc d) j j.list.length).length+1:=by rw [e];simp;omega
    rw [e1] at ha
    rw [e2]
    have hP:=rQ_ hs (by omega) h (.inr hk) ih 123 125 ⟨fun h=>by omega,fun _=>⟨rfl,rfl⟩⟩ r p (left - 1) (by omega) (by omega) ha
    rw [oA_ h (.inr hk),show left - 1 - (er_ (bE_ d) j.list:Int)=left - (bE_ (d+1) j:Int) by rw [hsz];omega] at hP
    have hpk:=eC_ ha
    have c1:(((123:UInt8).toNat:Int) == 110)=false:=rfl
    have c2:(((123:UInt8).toNat:Int) == 116)=false:=rfl
    have c3:(((123:UInt8).toNat:Int) == 102)=false:=rfl
    have c4:(((123:UInt8).toNat:Int) == 34)=false:=rfl
    have c5:(((123:UInt8).toNat:Int) == 91)=false:=rfl
    have c6:(((123:UInt8).toNat:Int) == 123)=true:=rfl
    simp only [hpk,c1,c2,c3,c4,c5,c6,cond_true,cond_false,ab_ hP,ae_]
end Go.Pi
end
section
namespace Go.Pi
theorem mV_ {a b:List Bs} (ha:a.length≤b6_):Ev (fun n _=>aI_ n a b) (jj_ a b):=by
 refine ap_ ?_
 simp only [aI_,rM_,am_,ae_]
 unfold jj_
 by_cases hl:a.length=b.length
 · rw [decide_eq_true hl]
   refine ⟨fun h=>(by cases h),fun _ => ?_⟩
   refine ga_ (e4_ (fun n N i=>aI_.loop6 n (some true) N a b (a.length:Int) (i:Int)) (fun i=>a.getD i [] == b.getD i []) (len:=a.length) (v:=true) (fun i w hi ih => ?_) ?_) (by rw [Bool.and_true,Bool.true_and])
   · simp only [aI_.turn6,aI_.step6,Int.toNat_natCast,W_up hi ha,am_,bb_,ae_,dB_ ih,cC_ hi,cf_ hi,cf_ (hl ▸ hi)]
     cases (a.getD i [] == b.getD i [])<;>simp
   · simp only [aI_.turn6,aI_.step6,cn_,cond_false,ae_]
 · rw [decide_eq_false hl]
   exact ⟨fun _=>rfl,fun h=>(by cases h)⟩
theorem jN_:∀ (d:Nat) (a b:aa_),te_ d a→ft_ d a→Ev (fun n _=>d2_ n a b) (e5_ d a b)
 |0,a,b,h,_=>h.elim
 |d+1,a,b,h,hl=>by
  refine ap_ ?_
  have hE:Ev (fun n _=>aj_ n a.list b.list) (decide (a.list.length=b.list.length)&&iL_ (fun i=>e5_ d (a.list.getD i aa_.dflt) (b.list.getD i aa_.dflt)) a.list.length):=by
   refine ap_ ?_
   simp only [aj_,rM_,am_,ae_]
   by_cases hq:a.list.length=b.list.length
   · rw [decide_eq_true hq]
     refine ⟨fun h=>(by cases h),fun _ => ?_⟩
     refine ga_ (e4_ (fun n N i=>aj_.loop6 n (d2_ n) (some true) N b.list a.list (a.list.length:Int) (i:Int)) (fun i=>e5_ d (a.list.getD i aa_.dflt) (b.list.getD i aa_.dflt)) (len:=a.list.length) (v:=true) (fun i w hi ih => ?_) ?_) (by rw [Bool.and_true,Bool.true_and])
     · have hx:=jN_ d (a.list.getD i aa_.dflt) (b.list.getD i aa_.dflt) (h _ (bX_ _ hi)) (hl.2.2 _ (bX_ _ hi))
       simp only [aj_.turn6,aj_.step6,aS_,Int.toNat_natCast,W_up hi hl.2.1,am_,bb_,ab_ hx,ae_,dB_ ih,cC_ hi,cf_ hi,cf_ (hq ▸ hi)]
       cases e5_ d (a.list.getD i aa_.dflt) (b.list.getD i aa_.dflt)<;>simp
     · simp only [aj_.turn6,aj_.step6,cn_,cond_false,ae_]
   · rw [decide_eq_false hq]
     exact ⟨fun _=>rfl,fun h=>(by cases h)⟩
  simp only [d2_,am_,ab_ (mV_ (b:=b.names) hl.1.2.1),ab_ hE,ae_,e5_]
  cases (a.kind == b.kind)<;>cases (a.n_ == b.n_)<;>cases (a.s == b.s)<;>cases jj_ a.names b.names<;>simp
end Go.Pi
end
section
namespace Go.Pi
def gw_ (a b:aa_):Bool:=cG_ a&&(cG_ b&&e5_ 6 a b)
theorem hJ_ {a b:aa_} (ha:ft_ 6 a) (hb:ft_ 6 b):Ev (fun n _=>dN_ n a b) (gw_ a b):=by
 refine ap_ ?_
 simp only [dN_,aS_,ab_ (eA_ ha),ab_ (eA_ hb),am_,ae_,gw_]
 cases h1:cG_ a with
 |false=>simp
 |true=>
  have hd:te_ 6 a:=hc_ 6 a (of_decide_eq_true h1)
  simp only [ab_ (jN_ 6 a b hd ha),ae_]
  cases cG_ b<;>simp
theorem fW_ {a b:aa_} (ha:ft_ 6 a) (hb:ft_ 6 b):Ev (fun n _=>dw_ n a b) (gw_ a b):=by
 refine ap_ ?_
 simp only [dw_,aS_,ab_ (da_ ha),ab_ (da_ hb),am_,ae_,gw_]
 cases h1:cG_ a with
 |false=>simp
 |true=>
  have hd:te_ 6 a:=hc_ 6 a (of_decide_eq_true h1)
  simp only [ab_ (fI_ 6 a b hd ha),ae_]
  cases cG_ b<;>simp
end Go.Pi
end
section
namespace Go.Pi
theorem iy_ {d:Nat} {j:aa_} (h:bE_ (d+1) j≤400) {x:aa_} (hx:x ∈ j.list):bE_ d x≤400:=by
 have:=(dY_ h).2
 have:=i1_ (bE_ d) hx
 omega
theorem dh_:∀ (d:Nat) (j:aa_),bE_ d j≤400→ft_ d j
 |0,_,_=>trivial
 |d+1,j,h=>by
  have ho:=(dY_ h).1
  have ho2:=fq_ (e1_ h)
  have hll:=eR_ h
  have hnl:=fP_ h
  refine ⟨⟨?_,by simp only [b6_];omega,fun x hx => ?_⟩,by simp only [b6_];omega,fun x hx=>dh_ d x (iy_ h hx)⟩
  · by_cases hk:j.kind=3
    · have:=io_ (ho2.text hk);simp only [b6_];omega
    · rw [ho2.s0 hk];exact Nat.zero_le _
  · by_cases hk:j.kind=5
    · obtain ⟨i,hi,e⟩:=List.getElem_of_mem hx
      have:=iJ_ (ho.obj hk).2 hi
      rw [List.getD_eq_getElem?_getD,List.getElem?_eq_getElem hi,Option.getD_some,e] at this
      simp only [b6_];omega
    · rw [ho2.ns0 hk] at hx;cases hx
theorem nh_ {α:Type} {f g:α→Nat}:∀ {l:List α},(∀ x ∈ l,f x=g x)→er_ f l=er_ g l
 |[],_=>rfl
 |x::l,h=>by
  simp only [er_]
  rw [h x (List.mem_cons_self ..),nh_ fun y hy=>h y (List.mem_cons_of_mem _ hy)]
theorem lr_:∀ (d:Nat) (j:aa_),bE_ d j≤400→bE_ (d+1) j=bE_ d j
 |0,j,h=>by simp only [bE_] at h;omega
 |d+1,j,h=>by
  have hs:=(dY_ h).2
  have ho:=e1_ h
  have e:er_ (bE_ (d+1)) j.list=er_ (bE_ d) j.list:=nh_ fun x hx=>lr_ d x (iy_ h hx)
  rw [bE_,ho,cond_true,e,←hs];omega
theorem ez_:bE_ 6 g5_≤400:=by decide
theorem my_ {j:aa_} (h:bx_ j≠[]):bE_ 6 j≤400∧bx_ j=FEnc 6 j∧(FEnc 6 j).length≤6000:=by
 unfold bx_ at h ⊢
 cases hj:cG_ j with
 |false=>rw [hj] at h;exact absurd rfl h
 |true=>
  rw [hj] at h
  simp only [cond_true] at h ⊢
  cases hl:decide (((FEnc 6 j).length:Int) > 6000) with
  |true=>rw [hl] at h;exact absurd rfl h
  |false=>have:=of_decide_eq_false hl;exact ⟨of_decide_eq_true hj,rfl,by omega⟩
theorem ig_ {s:Bs} (hs:s.length≤4194304):Ans (fun n _=>dI_ n s) fun x=>bE_ 6 x.1≤400:=by
 refine b8_ ?_
 simp only [dI_,aS_,ba_,aM_]
 refine ⟨fun _=>ez_,fun _ => ?_⟩
 by_cases h0:s=[]
 · subst h0
   have hN:Ev (fun n _=>ao_ n ⟨[],false⟩) (aa_.mk 2 0 [] [] [],⟨[],true⟩):=by
    have hA:Ev (fun n _=>cS_ n []) (0,false):=mW_ (s:=[]) (by simp)
    refine ap_ ?_
    simp only [ao_]
    refine dg_ (f:=fun n N=>ao_.loop3 n (fun xy2 xy3 xy4 xy5 xy6 xy7=>(gO_ 0 xy2 xy3.length ((cS_ n ((xy3.take xy2.toNat).drop 0)).bind fun xr8=>(cond (!xr8.2) (gO_ xy2 (xy3.length:Int) xy3.length (some ((aa_.mk 2 xr8.1 [] ([]:List aa_) ([]:List Bs)),(aB_.mk ((xy3.take (xy3.length:Int).toNat).drop xy2.toNat) true)))) (gO_ xy2 (xy3.length:Int) xy3.length (some ((aa_.mk 2 xr8.1 [] ([]:List aa_) ([]:List Bs)),(aB_.mk ((xy3.take (xy3.length:Int).toNat).drop xy2.toNat) xy4)))))))) N 0 [] false 0 0 []) (bF_ ?_)
    have e0:(([]:Bs).take (0:Int).toNat).drop 0=[]:=rfl
    have c0:decide ((0:Int)<((([]:Bs).length:Nat):Int))=false:=rfl
    simp only [ao_.turn3,ao_.step3,c0,cond_false,e0,eD_,ab_ hA,Bool.not_false,cond_true,ae_]
    exact ⟨⟨by decide,by decide,by decide⟩,⟨by decide,by decide,by decide⟩,rfl⟩
   have hv:Ev (fun n _=>aZ_ n ⟨[],false⟩ 6) (aa_.mk 2 0 [] [] [],⟨[],true⟩):=by
    have hd1:decide ((6:Int)<1)=false:=rfl
    refine ap_ ?_
    simp only [aZ_,aS_,hd1,cond_false,fv_,ab_ hs_,take_nil,pfx_nil,ab_ hN,ae_]
   simp only [a2_ hv,cond_true,aM_]
   exact ez_
 · refine av_ (pc_ 6 (by omega) ⟨s,false⟩ hs) fun v hv => ?_
   simp only [ba_,aM_,a2_ (ee_ hv.2)]
   refine ⟨fun _=>ez_,fun _=>⟨fun _=>ez_,fun h => ?_⟩⟩
   have e:bx_ v.1=s:=by simpa using h
   exact (my_ (by rw [e];exact h0)).1
theorem if_ {j:aa_} (h:bx_ j≠[]):Ev (fun n _=>dI_ n (bx_ j)) (j,true):=by
 obtain ⟨h1,h2,h3⟩:=my_ h
 have hv:=pb_ 6 (by omega) j h1 [] n2_ (by rw [List.append_nil];omega)
 rw [List.append_nil,←h2] at hv
 have hv:Ev (fun n _=>aZ_ n ⟨bx_ j,false⟩ 6) (j,⟨[],false⟩):=hv
 have hE:=ee_ (dh_ 6 j h1)
 have hl:decide (((bx_ j).length:Int) > 6000)=false:=by rw [h2];exact decide_eq_false (by omega)
 refine ap_ ?_
 simp only [dI_,aS_,hl,cond_false,ab_ hv,ab_ hE,beq_self_eq_true,Bool.not_true,ae_]
theorem lR_ {s:Bs} (hs:s.length≤4194304):Ans (fun n _=>dV_ n s) fun x=>bE_ 6 x.1≤400:=by
 refine b8_ ?_
 simp only [dV_,aS_,ba_,aM_]
 refine ⟨fun _=>ez_,fun h0=>⟨fun _=>ez_,fun _ => ?_⟩⟩
 refine av_ (mh_ (s:=s) hs 6 (by omega) 0 true 400 (Nat.zero_le _) (by omega) (by omega)) fun v hv => ?_
 obtain ⟨p',ok',left',e1,e2,e3,e4,e5,e6⟩:=hv
 simp only [ba_,aM_,a2_ (dQ_ e6)]
 refine ⟨fun _=>ez_,fun _=>⟨fun _=>ez_,fun _=>⟨fun _=>ez_,fun h => ?_⟩⟩⟩
 have e:bx_ v.1=s:=by simpa using h
 exact (my_ (by rw [e];intro e;rw [e] at h0;cases h0)).1
theorem h0_ {j:aa_} (h:bx_ j≠[]):Ev (fun n _=>dV_ n (bx_ j)) (j,true):=by
 obtain ⟨h1,h2,h3⟩:=my_ h
 have hsz:(bx_ j).length≤6000:=by rw [h2];exact h3
 have hv:=mg_ (s:=bx_ j) (by simp only [jV_];omega) 6 (by omega) j h1 0 [] 400 n2_ (by omega) (by omega) ⟨Nat.zero_le _,by rw [List.append_nil,←h2];rfl⟩
 have hv:Ev (fun n _=>bP_ n ⟨bx_ j,0,true,400⟩ 6) (j,⟨bx_ j,((0+(FEnc 6 j).length:Nat):Int),true,400 - bE_ 6 j⟩):=hv
 have hE:=dQ_ (dh_ 6 j h1)
 have hl:decide (((bx_ j).length:Int) > 6000)=false:=decide_eq_false (by omega)
 have hn:(bx_ j == [])=false:=beq_eq_false_iff_ne.2 h
 have ha:(((0+(FEnc 6 j).length:Nat):Int) != ((bx_ j).length:Int))=false:=by rw [h2];simp
 refine ap_ ?_
 simp only [dV_,aS_,hl,hn,cond_false,ab_ hv,ha,ab_ hE,beq_self_eq_true,Bool.not_true,ae_]
def FIdx (l:List Bs) (x:Bs):Int:=if l.findIdx (fun y=>y == x)<l.length then ((l.findIdx (fun y=>y == x):Nat):Int) else -1
theorem hV_ {j:aa_} {x:Bs} (h:j.names.length≤b6_):Ev (fun n _=>cx_ n j x) (FIdx j.names x):=by
 refine ap_ ?_
 unfold FIdx
 rw [←gL_ ([]:Bs) (fun y=>y == x) j.names]
 simp only [cx_]
 refine mu_ (fun n N i=>cx_.loop3 n (some (-1)) N x (i:Int) j.kind j.n_ j.s j.list j.names) _ (fun i u hi ih => ?_) ?_
 · simp only [cx_.turn3,cx_.step3,Int.toNat_natCast,W_up hi h,am_,bb_,ae_,dB_ ih,cC_ hi,cf_ hi]
   cases (j.names.getD i [] == x)<;>simp
 · simp only [cx_.turn3,cx_.step3,cn_,cond_false,ae_]
theorem gr_ {l:List Bs} {x:Bs} (h:l.length≤b6_):Ev (fun n _=>aF_ n l x) (FIdx l x):=by
 refine ap_ ?_
 unfold FIdx
 rw [←gL_ ([]:Bs) (fun y=>y == x) l]
 simp only [aF_]
 refine mu_ (fun n N i=>aF_.loop3 n (some (-1)) N l x (l.length:Int) (i:Int)) _ (fun i u hi ih => ?_) ?_
 · simp only [aF_.turn3,aF_.step3,Int.toNat_natCast,W_up hi h,am_,bb_,ae_,dB_ ih,cC_ hi,cf_ hi]
   rw [show (x == l.getD i [])=(l.getD i [] == x) from BEq.comm]
   cases (l.getD i [] == x)<;>simp
 · simp only [aF_.turn3,aF_.step3,cn_,cond_false,ae_]
def f2_ (j:aa_) (x:Bs):aa_ × Bool:=if FIdx j.names x<0 then (g5_,false) else (j.list.getD (FIdx j.names x).toNat aa_.dflt,true)
theorem idx_lt {l:List Bs} {x:Bs} (h:¬ FIdx l x<0):0≤FIdx l x∧FIdx l x<(l.length:Int):=by
 unfold FIdx at h ⊢
 split at h
 · rename_i hl;rw [if_pos hl];omega
 · exact absurd (by decide) h
theorem oM_ {j:aa_} (h:bE_ 6 j≤400) {x:Bs} (hx:¬ FIdx j.names x<0):(FIdx j.names x).toNat<j.list.length∧j.kind=5:=by
 have hi:=idx_lt hx
 by_cases hk:j.kind=5
 · have:=((dY_ h).1.obj hk).1;exact ⟨by omega,hk⟩
 · rw [(fq_ (e1_ h)).ns0 hk] at hi;simp at hi;omega
theorem gn_ {j:aa_} (h:bE_ 6 j≤400) (x:Bs):bE_ 6 (f2_ j x).1≤400:=by
 unfold f2_
 by_cases hx:FIdx j.names x<0
 · rw [if_pos hx];exact ez_
 · rw [if_neg hx]
   have:=(fB_ h (oM_ h hx).1).size
   rw [lr_ 5 _ this];exact this
theorem f4_ {j:aa_} (h:bE_ 6 j≤400) {x:Bs}:Ev (fun n _=>dS_ n j x) (f2_ j x):=by
 have hJ:=da_ (dh_ 6 j h)
 have hn:=fP_ h
 have hok:cG_ j=true:=decide_eq_true h
 refine ap_ ?_
 simp only [dS_,aS_,ab_ (hV_ (j:=j) (x:=x) (by simp only [b6_];omega)),ab_ hJ,hok,Bool.not_true,cond_false,f2_]
 by_cases hx:FIdx j.names x<0
 · rw [if_pos hx,decide_eq_true hx]
   simp only [cond_true,am_,ae_]
   exact ⟨fun _=>rfl,fun _=>rfl⟩
 · obtain ⟨h1,h2⟩:=oM_ h hx
   have hi:=idx_lt hx
   have hC:=ev_ 5 (j.list.getD (FIdx j.names x).toNat aa_.dflt) (fB_ h h1).size
   have hk:(j.kind != 5)=false:=by rw [h2];rfl
   rw [if_neg hx,decide_eq_false hx,hk]
   simp only [cond_false,bb_,ab_ hC,ae_]
   exact ⟨by omega,trivial⟩
theorem jO_ {j:aa_} (h:bE_ 6 j≤400) {x:Bs}:Ev (fun n _=>ej_ n j x) (f2_ j x):=by
 have hJ:=eA_ (dh_ 6 j h)
 have hn:=fP_ h
 have hok:cG_ j=true:=decide_eq_true h
 refine ap_ ?_
 simp only [ej_,aS_,ab_ (gr_ (l:=j.names) (x:=x) (by simp only [b6_];omega)),ab_ hJ,hok,Bool.not_true,cond_false,f2_]
 by_cases hx:FIdx j.names x<0
 · rw [if_pos hx,decide_eq_true hx]
   simp only [cond_true,ae_];rfl
 · obtain ⟨h1,h2⟩:=oM_ h hx
   have hi:=idx_lt hx
   have hC:=fX_ 5 (j.list.getD (FIdx j.names x).toNat aa_.dflt) (fB_ h h1).size
   rw [if_neg hx,decide_eq_false hx]
   simp only [cond_false,bb_,ab_ hC,ae_]
   exact ⟨by omega,trivial⟩
end Go.Pi
end
section
namespace Go.Pi
def fin (w:List Bs):List Bs × Bool:=if w.length > 6 then ([],false) else (w,true)
def wr (out:List Bs) (now:Bs):Bs→List Bs × Bool
 |[]=>fin (out++[now])
 |[c]=>if c=47 then fin (out++[now]++[[]]) else if c=126 then ([],false) else fin (out++[now++[c]])
 |c::e::l=>if c=47 then wr (out++[now]) [] (e::l) else if c=126 then (if e=48 then wr out (now++[126]) l else if e=49 then wr out (now++[47]) l else ([],false)) else wr out (now++[c]) (e::l)
theorem wr_sl (out:List Bs) (now l:Bs):wr out now (47::l)=wr (out++[now]) [] l:=by
 cases l with
 |nil=>rfl
 |cons e l=>rw [wr,if_pos rfl]
theorem wr_c {c:UInt8} (h1:c≠47) (h2:c≠126) (out:List Bs) (now l:Bs):wr out now (c::l)=wr out (now++[c]) l:=by
 cases l with
 |nil=>
  show (if c=47 then fin (out++[now]++[[]]) else if c=126 then ([],false) else fin (out++[now++[c]]))=fin (out++[now++[c]])
  rw [if_neg h1,if_neg h2]
 |cons e l=>rw [wr,if_neg h1,if_neg h2]
theorem wr_t (e:UInt8) (out:List Bs) (now l:Bs):wr out now (126::e::l)=if e=48 then wr out (now++[126]) l else if e=49 then wr out (now++[47]) l else ([],false):=by
 rw [wr,if_neg (by decide),if_pos rfl]
def FWr (s:Bs):List Bs × Bool:=match s with
 |[]=>([],true)
 |c::l=>if c=47 then wr [] [] l else ([],false)
theorem wr_enc:∀ (w:List Bs) (u now:Bs) (out:List Bs),wr out now (u.flatMap gz_++FWay w)=fin (out++[now++u]++w)
 |[],[],now,out=>by simp [FWay,wr]
 |s::w,[],now,out=>by
  have e:([]:Bs).flatMap gz_++FWay (s::w)=47::(s.flatMap gz_++FWay w):=rfl
  rw [e,wr_sl,wr_enc w s [] _];simp
 |w,c::u,now,out=>by
  have ih:=fun x=>wr_enc w u (now++[x]) out
  rw [List.flatMap_cons,List.append_assoc]
  by_cases h1:c=126
  · have e:gz_ c=[126,48]:=if_pos h1
    rw [e]
    show wr out now (126::48::(u.flatMap gz_++FWay w))=_
    rw [wr_t,if_pos rfl,ih 126,h1];simp
  · by_cases h2:c=47
    · have e:gz_ c=[126,49]:=by unfold gz_;rw [if_neg h1,if_pos h2]
      rw [e]
      show wr out now (126::49::(u.flatMap gz_++FWay w))=_
      rw [wr_t,if_neg (by decide),if_pos rfl,ih 47,h2];simp
    · have e:gz_ c=[c]:=by unfold gz_;rw [if_neg h1,if_neg h2]
      rw [e]
      show wr out now (c::(u.flatMap gz_++FWay w))=_
      rw [wr_c h2 h1,ih c];simp
theorem FWr_enc {w:List Bs} (h:w.length≤6):FWr (FWay w)=(w,true):=by
 cases w with
 |nil=>rfl
 |cons s w=>
  have e:FWay (s::w)=47::(s.flatMap gz_++FWay w):=rfl
  rw [e]
  show (if (47:UInt8)=47 then wr [] [] (s.flatMap gz_++FWay w) else ([],false))=_
  rw [if_pos rfl,wr_enc]
  unfold fin
  rw [if_neg (by simp at h ⊢;omega)];simp
def WrOk (B:Nat) (x:List Bs × Bool):Prop:=x.1.length≤6∧∀ y ∈ x.1,y.length≤B
theorem fin_ok {B:Nat} {w:List Bs} (h:∀ y ∈ w,y.length≤B):WrOk B (fin w):=by
 unfold fin
 split
 · exact ⟨Nat.zero_le _,fun y h=>(by cases h)⟩
 · exact ⟨by simp only;omega,h⟩
theorem wr_ok {B:Nat}:∀ (n:Nat) (l now:Bs) (out:List Bs),l.length≤n→(∀ y ∈ out,y.length≤B)→now.length+l.length≤B→WrOk B (wr out now l):=by
 have app:∀ {now:Bs} {out:List Bs},(∀ y ∈ out,y.length≤B)→now.length≤B→∀ y ∈ out++[now],y.length≤B:=by
  intro now out h1 h2 y hy
  rcases List.mem_append.1 hy with hy|hy
  · exact h1 y hy
  · obtain rfl:=List.mem_singleton.1 hy;exact h2
 have bad:WrOk B (([]:List Bs),false):=⟨Nat.zero_le _,fun y h=>(by cases h)⟩
 intro n
 induction n with
 |zero=>
  intro l now out hl h1 h2
  have:l=[]:=List.eq_nil_of_length_eq_zero (by omega)
  subst this
  exact fin_ok (app h1 (by simpa using h2))
 |succ n ih=>
  intro l now out hl h1 h2
  cases l with
  |nil=>exact fin_ok (app h1 (by simpa using h2))
  |cons c l=>
   simp only [List.length_cons] at hl h2
   by_cases hc:c=47
   · subst hc
     rw [wr_sl]
     exact ih l [] _ (by omega) (app h1 (by omega)) (by simp;omega)
   · by_cases ht:c=126
     · subst ht
       cases l with
       |nil=>exact bad
       |cons e l=>
        rw [wr_t]
        simp only [List.length_cons] at hl h2
        split
        · exact ih l _ out (by omega) h1 (by simp;omega)
        · split
          · exact ih l _ out (by omega) h1 (by simp;omega)
          · exact bad
     · rw [wr_c hc ht]
       exact ih l _ out (by omega) h1 (by simp;omega)
theorem FWr_ok (s:Bs):WrOk s.length (FWr s):=by
 unfold FWr
 split
 · exact ⟨Nat.zero_le _,fun y h=>(by cases h)⟩
 · rename_i c l
   split
   · exact wr_ok l.length l [] [] (Nat.le_refl _) (fun y h=>(by cases h)) (by simp)
   · exact ⟨Nat.zero_le _,fun y h=>(by cases h)⟩
theorem hX_ {s:Bs} (hs:s.length≤1000000):Ev (fun n _=>a3_ n s) (FWr s):=by
 have key:∀ (K:Nat→a3_.K6),(∀ out now,out.length≤1000000→s≠[]→Ev (fun n _=>K n s [] out (bi now)) (fin (out++[now]))) →
   ∀ (m i:Nat) (out:List Bs) (now:Bs),s.length - i≤m→1≤i→i≤s.length→out.length≤i→now.length≤i →
   Ev (fun n N=>a3_.loop6 n (K n) N s (i:Int) [] out (bi now)) (wr out now (s.drop i)):=by
  intro K hK m
  induction m with
  |zero=>
   intro i out now hm h1 h2 h3 h4
   have:i=s.length:=by omega
   subst this
   rw [List.drop_length]
   refine bF_ ?_
   simp only [a3_.turn6,a3_.step6,cn_,cond_false]
   exact hK out now (by omega) (fun e=>by rw [e] at h1;simp at h1)
  |succ m ih=>
   intro i out now hm h1 h2 h3 h4
   by_cases hi:i<s.length
   · have hd:=es_ 0 hi
     have hbl:=k0_ now
     have hW:W ((i:Int)+1)=((i+1:Nat):Int):=by rw [W_id (by omega) (by omega)];omega
     have hW2:W (((i+1:Nat):Int)+1)=((i+2:Nat):Int):=by rw [W_id (by omega) (by omega)];omega
     have hz:((i:Int) == 0)=false:=beq_eq_false_iff_ne.2 (by omega)
     have hg:decide ((i:Int) > 0)=true:=decide_eq_true (by omega)
     refine bF_ ?_
     simp only [a3_.turn6,a3_.step6,cC_ hi,cond_true,bb_,cf_ hi,true_and,Int.toNat_natCast,hW,hW2,hz,hg,cond_false,byte47,byte126,kc_,bk_]
     rw [hd]
     generalize hc:s.getD i 0=c
     by_cases c47:c=47
     · subst c47
       rw [wr_sl,decide_eq_true rfl]
       simp only [cond_true,bk_]
       exact ⟨by simp;omega,ih (i+1) (out++[now]) [] (by omega) (by omega) (by omega) (by simp;omega) (by simp)⟩
     · rw [decide_eq_false c47]
       simp only [cond_false]
       by_cases c126:c=126
       · subst c126
         rw [decide_eq_true rfl]
         simp only [cond_true]
         by_cases hi2:i+1<s.length
         · have hd2:=es_ 0 hi2
           have hne:(((i+1:Nat):Int) == (s.length:Int))=false:=beq_eq_false_iff_ne.2 (by omega)
           rw [hd2,wr_t]
           simp only [hne,cond_false,bb_,cf_ hi2,true_and,Int.toNat_natCast]
           generalize s.getD (i+1) 0=e
           have e48:((e.toNat:Int) == 48)=decide (e=48):=mF_ e 48 48 rfl
           have e49:((e.toNat:Int) == 49)=decide (e=49):=mF_ e 49 49 rfl
           have n1:=ih (i+2) out (now++[126]) (by omega) (by omega) (by omega) (by omega) (by simp;omega)
           have n2:=ih (i+2) out (now++[47]) (by omega) (by omega) (by omega) (by omega) (by simp;omega)
           rw [←oW_] at n1 n2
           simp only [bne,e48,e49]
           by_cases d48:e=48
           · subst d48
             simp only [decide_true,Bool.not_true,cond_false,cond_true,bb_,cf_ hi,cf_ hi2,true_and,bk_,if_true]
             exact ⟨by simp;omega,n1⟩
           · by_cases d49:e=49
             · subst d49
               simp only [d48,decide_true,decide_false,Bool.not_true,Bool.not_false,cond_false,cond_true,bb_,cf_ hi,cf_ hi2,true_and,bk_,if_true,if_false]
               exact ⟨by simp;omega,n2⟩
             · simp only [d48,d49,decide_false,Bool.not_false,cond_true,bb_,cf_ hi,cf_ hi2,true_and,ae_,if_false]
         · have hne:(((i+1:Nat):Int) == (s.length:Int))=true:=by simp;omega
           have hde:s.drop (i+1)=[]:=sg_ (by omega)
           rw [hde]
           simp only [hne,cond_true,bb_,cf_ hi,true_and,ae_]
           rfl
       · rw [wr_c c47 c126,decide_eq_false c126]
         have n1:=ih (i+1) out (now++[c]) (by omega) (by omega) (by omega) (by omega) (by simp;omega)
         rw [←oW_] at n1
         simp only [cond_false,bb_,cf_ hi,true_and,bk_]
         exact ⟨by simp;omega,n1⟩
   · have:i=s.length:=by omega
     subst this
     rw [List.drop_length]
     refine bF_ ?_
     simp only [a3_.turn6,a3_.step6,cn_,cond_false]
     exact hK out now (by omega) (fun e=>by rw [e] at h1;simp at h1)
 refine ap_ ?_
 simp only [a3_]
 cases s with
 |nil=>
  refine dg_ (f:=fun n N=>a3_.loop6 n (fun xy1 xy2 xy3 xy4=>(cond (!(xy1 == [])) (bf_ (xy3.length+([(iv_ xy4)]:List Bs).length) 16 (cond (decide (((xy3++([(iv_ xy4)]:List Bs)).length:Int) > 6)) (some (xy2,false)) (some ((xy3++([(iv_ xy4)]:List Bs)),true)))) (cond (decide ((xy3.length:Int) > 6)) (some (xy2,false)) (some (xy3,true))))) N [] 0 [] [] []) (bF_ ?_)
  exact ⟨0,fun _ _ _ _=>rfl⟩
 |cons c l=>
  have hK:∀ out now,out.length≤1000000→c::l≠[]→Ev (fun n (_:Nat)=>(cond (!(c::l == [])) (bf_ (out.length+([(iv_ (bi now))]:List Bs).length) 16 (cond (decide (((out++([(iv_ (bi now))]:List Bs)).length:Int) > 6)) (some (([]:List Bs),false)) (some ((out++([(iv_ (bi now))]:List Bs)),true)))) (cond (decide ((out.length:Int) > 6)) (some ([],false)) (some (out,true))))) (fin (out++[now])):=by
   intro out now h1 _
   have e:(!(c::l == []))=true:=rfl
   rw [e,kc_]
   simp only [cond_true,bk_,am_,ae_]
   unfold fin
   refine ⟨by simp;omega,fun h => ?_,fun h => ?_⟩
   · have h:=of_decide_eq_true h;rw [if_pos (by omega)]
   · have h:=of_decide_eq_false h;rw [if_neg (by omega)]
  refine dg_ (f:=fun n N=>a3_.loop6 n (fun xy1 xy2 xy3 xy4=>(cond (!(xy1 == [])) (bf_ (xy3.length+([(iv_ xy4)]:List Bs).length) 16 (cond (decide (((xy3++([(iv_ xy4)]:List Bs)).length:Int) > 6)) (some (xy2,false)) (some ((xy3++([(iv_ xy4)]:List Bs)),true)))) (cond (decide ((xy3.length:Int) > 6)) (some (xy2,false)) (some (xy3,true))))) N (c::l) 0 [] [] []) (bF_ ?_)
  have hk:=key (fun _=>fun xy1 xy2 xy3 xy4=>(cond (!(xy1 == [])) (bf_ (xy3.length+([(iv_ xy4)]:List Bs).length) 16 (cond (decide (((xy3++([(iv_ xy4)]:List Bs)).length:Int) > 6)) (some (xy2,false)) (some ((xy3++([(iv_ xy4)]:List Bs)),true)))) (cond (decide ((xy3.length:Int) > 6)) (some (xy2,false)) (some (xy3,true))))) hK l.length 1 [] [] (by simp) (Nat.le_refl _) (by simp) (by simp) (by simp)
  have c0:decide ((0:Int)<(((c::l).length:Nat):Int))=true:=decide_eq_true (by simp)
  have cg:decide ((0:Int) > 0)=false:=rfl
  have cz:((0:Int) == 0)=true:=rfl
  have hW:W ((0:Int)+1)=((1:Nat):Int):=rfl
  have hg0:(c::l).getD (0:Int).toNat 0=c:=rfl
  simp only [a3_.turn6,a3_.step6,c0,cond_true,bb_,hg0,byte47,cg,cz,cond_false,hW]
  refine ⟨by simp,?_⟩
  unfold FWr
  by_cases c47:c=47
  · rw [decide_eq_true c47]
    simp only [c47,if_true,cond_true]
    rw [c47] at hk
    exact hk
  · rw [decide_eq_false c47]
    simp only [c47,if_false,cond_false,ae_]
def FWi (s:Bs):List Bs × Bool:=if s=[] then ([],true) else
 if (((eH_ 47 s).drop 1).map fun p=>gW_ 126 48 [126] (gW_ 126 49 [47] p)).length > 6 then ([],false) else
 if FWay (((eH_ 47 s).drop 1).map fun p=>gW_ 126 48 [126] (gW_ 126 49 [47] p))=s then (((eH_ 47 s).drop 1).map fun p=>gW_ 126 48 [126] (gW_ 126 49 [47] p),true) else ([],false)
theorem iY_ {a b c:UInt8} {s:Bs} (hs:s.length≤1000000) (hne:([a,b] == [c])=false):Ev (fun n _=>strings_ReplaceAll n s [a,b] [c]) (gW_ a b [c] s):=by
 refine ap_ ?_
 have:=q8_ a b s
 simp only [strings_ReplaceAll,gk_,count2,qI_ a b [c] s hne,am_,ae_,dA_]
 refine ⟨fun _=>trivial,fun h => ?_⟩
 have e1:decide (s.length<4294967281)=true:=decide_eq_true (by omega)
 have e2:decide (1≤[a,b].length)=true:=rfl
 have e3:decide (s.length+cnt2 a b s*[c].length≤140737488355328)=true:=decide_eq_true (by simp only [List.length_cons,List.length_nil];omega)
 rw [e1,e2,e3] at h;cases h
theorem Split_ev {s:Bs} {b:UInt8} (hs:s.length≤1000000):Ev (fun n _=>strings_Split n s [b]) (eH_ b s):=by
 refine ap_ ?_
 have e1:decide (s.length<4294967281)=true:=decide_eq_true (by omega)
 have e2:decide (1≤[b].length)=true:=rfl
 simp only [strings_Split,rN_,split_one,e1,e2,Bool.and_self,cond_true,ae_]
theorem ic_ {s:Bs} (hs:s.length≤60):Ev (fun n _=>bD_ n s) (FWi s):=by
 refine ap_ ?_
 simp only [bD_,am_,ae_,ab_ (Split_ev (s:=s) (b:=47) (by omega))]
 unfold FWi
 by_cases h0:s=[]
 · rw [if_pos h0,h0]
   exact ⟨fun _=>rfl,fun h=>(by cases h)⟩
 · rw [if_neg h0,beq_eq_false_iff_ne.2 h0]
   refine ⟨fun h=>(by cases h),fun _ => ?_⟩
   obtain ⟨hl,hp⟩:=kg_ 47 s
   obtain ⟨p,ps,e⟩:=kf_ 47 s
   rw [e] at hl hp ⊢
   have e1:(((p::ps).length:Nat):Int).toNat=ps.length+1:=by simp
   have e2:((p::ps).take (ps.length+1)).drop 1=ps:=by
    rw [List.take_of_length_le (by simp)];rfl
   have e3:(ps.length+1 - 1:Nat)=ps.length:=rfl
   have e4:(p::ps).drop 1=ps:=rfl
   simp only [e1,e2,e3,e4,eD_]
   refine ⟨by simp only [List.length_cons] at hl ⊢;omega,?_⟩
   simp only [List.length_cons] at hl
   have hps:∀ q ∈ ps,q.length≤60:=fun q hq=>by have:=hp q (List.mem_cons_of_mem _ hq);omega
   refine p7_ [] ps (fun p=>gW_ 126 48 [126] (gW_ 126 49 [47] p)) (fun n N i (o:List Bs)=>bD_.loop7 n (fun xy4 xy5=>(cond (decide ((xy5.length:Int) > 6)) (some (([]:List Bs),false)) ((bS_ n xy5).bind fun xr6=>(cond (!(xr6 == xy4)) (some (([]:List Bs),false)) (some (xy5,true)))))) N s ps (ps.length:Int) (i:Int) o) _ (fun i o hi ho F hF => ?_) ?_
   · have hq:=hps _ (bX_ [] hi)
     have r1:=iY_ (a:=126) (b:=49) (c:=47) (s:=ps.getD i []) (by omega) rfl
     have r1l:=hm_ 126 49 47 (ps.getD i [])
     have r2:=iY_ (a:=126) (b:=48) (c:=126) (s:=gW_ 126 49 [47] (ps.getD i [])) (by omega) rfl
     have hW:=W_up hi (show ps.length≤b6_ by simp only [b6_];omega)
     simp only [bD_.turn7,bD_.step7,cC_ hi,cond_true,bb_,cf_ hi,true_and,Int.toNat_natCast,hW,ab_ r1,ab_ r2,bk_]
     exact ⟨by simp;omega,hF⟩
   · generalize hw:ps.map (fun p=>gW_ 126 48 [126] (gW_ 126 49 [47] p))=w
     have hwl:∀ q ∈ w,q.length≤60:=by
      intro q hq
      rw [←hw] at hq
      obtain ⟨x,hx,rfl⟩:=List.mem_map.1 hq
      have:=hm_ 126 49 47 x
      have:=hm_ 126 48 126 (gW_ 126 49 [47] x)
      have:=hps x hx
      omega
     simp only [bD_.turn7,bD_.step7,cn_,cond_false,am_,ae_]
     refine ⟨fun h => ?_,fun h => ?_⟩
     · have h:=of_decide_eq_true h;rw [if_pos (by omega)]
     · have h:=of_decide_eq_false h
       rw [if_neg (by omega)]
       simp only [ab_ (ib_ (w:=w) (by omega) hwl),am_,ae_]
       by_cases he:FWay w=s
       · rw [he,if_pos rfl];simp
       · rw [if_neg he,beq_eq_false_iff_ne.2 he];simp
theorem FWi_enc {w:List Bs} (h:w.length≤6):FWi (FWay w)=(w,true):=by
 unfold FWi
 cases w with
 |nil=>rfl
 |cons s w=>
  have e:FWay (s::w)≠[]:=by
   show 47::_≠[]
   intro e;cases e
  have e2:((eH_ 47 (FWay (s::w))).drop 1).map (fun p=>gW_ 126 48 [126] (gW_ 126 49 [47] p))=s::w:=by
   rw [pj_]
   show (((s::w).map fun s=>s.flatMap gz_).map fun p=>gW_ 126 48 [126] (gW_ 126 49 [47] p))=_
   rw [List.map_map]
   refine (List.map_congr_left fun x _ => ?_).trans (List.map_id _)
   show gW_ 126 48 [126] (gW_ 126 49 [47] (x.flatMap gz_))=x
   rw [unesc1,unesc2]
  rw [if_neg e,e2,if_neg (by omega),if_pos rfl]
theorem FWi_ok {s:Bs}:WrOk s.length (FWi s):=by
 unfold FWi
 split
 · exact ⟨Nat.zero_le _,fun y h=>(by cases h)⟩
 · split
   · exact ⟨Nat.zero_le _,fun y h=>(by cases h)⟩
   · rename_i h
     split
     · refine ⟨by simp only;omega,fun y hy => ?_⟩
       obtain ⟨x,hx,rfl⟩:=List.mem_map.1 hy
       have h1:=hm_ 126 49 47 x
       have h2:=hm_ 126 48 126 (gW_ 126 49 [47] x)
       have h3:=(kg_ 47 s).2 x (List.mem_of_mem_drop hx)
       omega
     · exact ⟨Nat.zero_le _,fun y h=>(by cases h)⟩
end Go.Pi
end
section
namespace Go.Pi
theorem nP_:∀ (d:Nat) (j:aa_),e5_ d j j=true
 |0,_=>rfl
 |d+1,j=>by
  simp only [e5_,jj_,beq_self_eq_true,decide_true,Bool.true_and,Bool.and_eq_true]
  exact ⟨e8_.2 fun i _=>by simp,e8_.2 fun i _=>nP_ d _⟩
theorem ps_ {j:aa_} (h:bE_ 6 j≤400):gw_ j j=true:=by
 unfold gw_ cG_
 rw [decide_eq_true h,nP_];rfl
theorem n0_ {j:aa_} (h:bE_ 6 j≤400):j.s.length≤60:=by
 have ho2:=fq_ (e1_ h)
 by_cases hk:j.kind=3
 · exact io_ (ho2.text hk)
 · rw [ho2.s0 hk];exact Nat.zero_le _
theorem ot_ {k:Int} {x:List Bs × Bool} {v:aa_} {s:Bs} (hs:s.length≤60) (hw:WrOk s.length x) (hv:bE_ 6 v≤400):fD_ (TOp.mk k x.1 v) :=
 ⟨⟨by have:=hw.1;show x.1.length≤b6_;simp only [b6_];omega,fun y hy=>by have:=hw.2 y hy;simp only [b6_];omega⟩,dh_ 6 v hv⟩
theorem fd_:fD_ (TOp.mk 0 [] (aa_.mk 0 0 [] [] [])):=⟨⟨Nat.zero_le _,fun y h=>(by cases h)⟩,d9_ 6⟩
abbrev fm_:List Bs:=[[97,100,100],[114,101,109,111,118,101],[114,101,112,108,97,99,101],[116,101,115,116]]
theorem nt_:Ev (fun n _=>dl_ n ()) fm_:=ap_ (by simp only [dl_,ae_])
theorem nw_:Ev (fun n _=>dj_ n ()) ([]::fm_):=ap_ (by simp only [dj_,ae_])
theorem mq_ {p:aa_} (h:bE_ 6 p≤400):Ans (fun n _=>dX_ n p) fun x=>fD_ x.1:=by
 refine b8_ ?_
 have hs:=n0_ (gn_ h fO_)
 have hv:=gn_ h ho_
 have hw:=FWi_ok (s:=(f2_ p fO_).1.s)
 have hL:=fun k=>ot_ (k:=k) hs hw hv
 simp only [dX_,aS_,a2_ (jO_ h),a2_ (ic_ hs),a2_ nt_,a2_ (gr_ (l:=fm_) (by decide)),ba_,aM_]
 refine ⟨fun _=>fd_,fun _=>⟨fun _=>fd_,fun _=>⟨fun _=>fd_,fun _ => ?_⟩⟩⟩
 have hk:=hL (W (1+FIdx fm_ (f2_ p [111,112]).1.s))
 simp only [a2_ (ie_ hk),a2_ (fL_ hk),a2_ (hJ_ (jb_ hk) (dh_ 6 p h)),ba_,aM_]
 exact ⟨fun _=>fd_,fun _=>⟨fun _=>fd_,fun _=>hk⟩⟩
structure OpIn (o:TOp):Prop where
 ok:iN_ o=true
 val:cF_ o=et_ o
 size:bE_ 6 (et_ o)≤400
theorem op_in {o:TOp} (h:(cF_ o).kind≠0):OpIn o:=by
 unfold cF_ at h
 cases ho:iN_ o with
 |false=>rw [ho] at h;exact absurd rfl h
 |true=>
  rw [ho,cond_true] at h
  unfold eL_ at h
  cases hj:cG_ (et_ o) with
  |false=>rw [hj] at h;exact absurd rfl h
  |true=>
   refine ⟨ho,?_,of_decide_eq_true hj⟩
   unfold cF_ eL_
   rw [ho,hj];rfl
theorem o7_ {j:aa_} (h:j2_ j=true):j=g5_:=by
 unfold j2_ at h
 simp only [Bool.and_eq_true,beq_iff_eq,decide_eq_true_eq] at h
 obtain ⟨h1,h2,h3,h4,h5⟩:=h
 obtain ⟨k,n,s,l,ns⟩:=j
 simp only at h1 h2 h3 h4 h5
 rw [h1,h2,h3,List.eq_nil_of_length_eq_zero h4,List.eq_nil_of_length_eq_zero h5];rfl
theorem val_of {o:TOp} (h:iN_ o=true) (hk:o.kind=2):o.value=g5_:=by
 unfold iN_ at h
 simp only [Bool.and_eq_true,Bool.or_eq_true] at h
 rcases h.2.2.2.2 with h|h
 · rw [hk] at h;exact absurd h (by decide)
 · exact o7_ h
theorem sc_ {o:TOp}:f2_ (et_ o) tq_=(sA_ (f0_ o.kind),true):=by
 unfold et_
 cases (o.kind == 2)<;>rfl
theorem kA_ {o:TOp}:f2_ (et_ o) fO_=(sA_ (FWay o.way),true):=by
 unfold et_
 cases (o.kind == 2)<;>rfl
theorem mt_ {o:TOp} (h:iN_ o=true):(f2_ (et_ o) ho_).1=o.value:=by
 unfold et_
 cases hk:(o.kind == 2) with
 |false=>rfl
 |true=>rw [val_of h (by simpa using hk)];rfl
theorem kind_back {o:TOp} (h:OpIs o):W (1+FIdx fm_ (f0_ o.kind))=o.kind:=by
 rcases h.kind with e|e|e|e<;>rw [e]<;>decide
theorem qu_ {o:TOp} (h:OpIn o):(FWay o.way).length≤60:=by
 have:=n0_ (gn_ h.size fO_)
 rw [kA_] at this
 exact this
theorem mp_ {o:TOp} (h:OpIn o):Ev (fun n _=>dX_ n (et_ o)) (o,true):=by
 have hi:=sM_ h.ok
 have hL:fD_ o:=ot_ (x:=(o.way,true)) (v:=o.value) (s:=FWay o.way) (qu_ h) ⟨hi.way,fun y hy=>by
  have:y.length≤(y.flatMap gz_).length:=by
   clear hy
   induction y with
   |nil=>exact Nat.le_refl _
   |cons c y ih=>rw [List.flatMap_cons,List.length_append,List.length_cons];have:1≤(gz_ c).length:=by unfold gz_;split<;>(try split)<;>simp
                 omega
  have:∀ w:List Bs,y ∈ w→(y.flatMap gz_).length≤(FWay w).length:=by
   intro w
   induction w with
   |nil=>intro h;cases h
   |cons s w ih=>
    intro h
    have e:FWay (s::w)=(47::s.flatMap gz_)++FWay w:=rfl
    rw [e,List.length_append,List.length_cons]
    rcases List.mem_cons.1 h with rfl|h
    · omega
    · have:=ih h;omega
  have:=this o.way hy
  simp only at hy;omega⟩ hi.val
 have hop:=sc_ (o:=o)
 have hpa:=kA_ (o:=o)
 have hva:=mt_ h.ok
 have hs:=qu_ h
 have hW:=kind_back hi
 have hw:Ev (fun n _=>bD_ n (FWay o.way)) (o.way,true):=by rw [←FWi_enc hi.way];exact ic_ hs
 have hS:=hJ_ (a:=et_ o) (b:=et_ o) (dh_ 6 _ h.size) (dh_ 6 _ h.size)
 rw [ps_ h.size] at hS
 have hJ:=fL_ hL
 rw [h.val] at hJ
 have hK:=ie_ hL
 rw [h.ok] at hK
 unfold tq_ at hop
 unfold fO_ at hpa
 refine ap_ ?_
 simp only [dX_,aS_,ab_ (jO_ h.size),hop,hpa,hva,sA_,ab_ hw,ab_ nt_,ab_ (gr_ (l:=fm_) (by decide)),hW,Bool.not_true,cond_false,hH_,ab_ hK,ab_ hJ,ab_ hS,ae_]
def FK (k:Int) (s:Bs):Nat→Nat→Int→Int
 |0,_,t=>t
 |j+1,i,t=>FK k s j (i+1) (cond (k == 3) (cond (s == ([]::fm_).getD i []) (i:Int) t) t)
theorem l7_ {K:Nat→bd_.K7} {F:TOp × Bool} {a0 a1:Int} {a2:Bs} {a3:List aa_} {a4:List Bs} {b1 b2 b3:Int} {b4:Bs} {c2 c3:Int} {c4:Bs} {k d1:Int} {s:Bs} {e0 e1:Int} {e2:Bs} {f3:List aa_} {f4:List Bs} {g3:List aa_} {g4:List Bs} :
  ∀ (j i:Nat) (t:Int),i+j=5→Ev (fun n _=>K n a0 a1 a2 a3 a4 b1 b2 b3 b4 (FK k s j i t) c2 c3 c4 e0 e1 e2 g3 g4) F →
    Ev (fun n N=>bd_.loop7 n (K n) N (i:Int) a0 a1 a2 a3 a4 b1 b2 b3 b4 t c2 c3 c4 k d1 s e0 e1 e2 ([]::fm_) f3 f4 g3 g4) F:=by
 have hlen:(([]:Bs)::fm_).length=5:=rfl
 intro j
 induction j with
 |zero=>
  intro i t hi hK
  obtain rfl:i=5:=by omega
  refine bF_ ?_
  have:decide (((5:Nat):Int)<(((([]:Bs)::fm_).length:Nat):Int))=false:=by rw [hlen];exact decide_eq_false (by omega)
  simp only [bd_.turn7,bd_.step7,this,cond_false]
  exact hK
 |succ j ih=>
  intro i t hi hK
  have hlt:i<(([]:Bs)::fm_).length:=by rw [hlen];omega
  have hW:W ((i:Int)+1)=((i+1:Nat):Int):=by rw [W_id (by omega) (by omega)];omega
  refine bF_ ?_
  simp only [bd_.turn7,bd_.step7,cC_ hlt,cond_true,Int.toNat_natCast,hW,am_,bb_,cf_ hlt,true_and]
  unfold FK at hK
  refine ⟨fun h3 => ?_,fun h3 => ?_⟩
  · rw [h3,cond_true] at hK
    exact ⟨fun he=>by rw [he,cond_true] at hK;exact ih (i+1) _ (by omega) hK,fun he=>by rw [he,cond_false] at hK;exact ih (i+1) _ (by omega) hK⟩
  · rw [h3,cond_false] at hK
    exact ih (i+1) _ (by omega) hK
theorem tail_any {p:aa_} (h:bE_ 6 p≤400) {t:Bool} {k:Int} {w:List Bs} {v:aa_} {b1 b2 b3:Int} {b4:Bs} (hk:fD_ (TOp.mk k w v)) :
  Ans (fun n (_:Nat)=>bd_.tail15 n t p.kind p.n_ p.s p.list p.names b1 b2 b3 b4 k w v.kind v.n_ v.s v.list v.names) fun x=>fD_ x.1:=by
 simp only [bd_.tail15,aS_,dE_,ba_,aM_,a2_ (ew_ hk),a2_ (fW_ (jb_ hk) (dh_ 6 p h))]
 exact ⟨fun _=>fd_,fun _=>⟨fun _=>fd_,fun _=>⟨fun _=>fd_,fun _=>hk⟩⟩⟩
theorem lO_ {p:aa_} (h:bE_ 6 p≤400):Ans (fun n _=>bd_ n p) fun x=>fD_ x.1:=by
 have hs:=n0_ (gn_ h fO_)
 have hv:=gn_ h ho_
 have hw:=FWr_ok (f2_ p fO_).1.s
 have hL:=fun k=>ot_ (k:=k) hs hw hv
 refine b8_ ?_
 simp only [bd_,aS_,a2_ (f4_ h),a2_ nw_]
 obtain ⟨v,h1,h2⟩:=tail_any h (t:=(FWr (f2_ p fO_).1.s).2) (b1:=0) (b2:=0) (b3:=0) (b4:=[]) (hL (FK (f2_ p tq_).1.kind (f2_ p tq_).1.s 4 1 0))
 refine ⟨v,?_,h2⟩
 refine dg_ (l7_ (K:=fun n=>fun xy4 xy5 xy6 xy7 xy8 xy9 xy10 xy11 xy12 xy13 xy14 xy15 xy16 xy17 xy18 xy19 xy20 xy21=>((a3_ n xy19).bind fun xr22=>((dS_ n (aa_.mk xy4 xy5 xy6 xy7 xy8) [118,97,108,117,101]).bind fun xr23=>(bd_.tail15 n xr22.2 xy4 xy5 xy6 xy7 xy8 xy9 xy10 xy11 xy12 xy13 xr22.1 xr23.1.kind xr23.1.n_ xr23.1.s xr23.1.list xr23.1.names)))) 4 1 0 rfl ?_)
 simp only [dE_,ab_ (hX_ (s:=(f2_ p fO_).1.s) (by omega)),ab_ (f4_ h)]
 exact h1
theorem sV_ {o:TOp} (h:OpIs o):FK 3 (f0_ o.kind) 4 1 0=o.kind:=by
 rcases h.kind with e|e|e|e<;>rw [e]<;>decide
theorem rX_ {o:TOp} (h:OpIn o):fD_ o:=by
 have hi:=sM_ h.ok
 exact ⟨⟨by have:=hi.way;simp only [b6_];omega,fun y hy=>by have:=hi.text y hy;simp only [b6_];omega⟩,dh_ 6 _ hi.val⟩
theorem lN_ {o:TOp} (h:OpIn o):Ev (fun n _=>bd_ n (et_ o)) (o,true):=by
 have hi:=sM_ h.ok
 have hL:=rX_ h
 have hop:=sc_ (o:=o)
 have hpa:=kA_ (o:=o)
 have hva:=mt_ h.ok
 have hs:=qu_ h
 have hW:=sV_ hi
 have hw:Ev (fun n _=>a3_ n (FWay o.way)) (o.way,true):=by rw [←FWr_enc hi.way];exact hX_ (by omega)
 have hS:=fW_ (a:=et_ o) (b:=et_ o) (dh_ 6 _ h.size) (dh_ 6 _ h.size)
 rw [ps_ h.size] at hS
 have hJ:=ew_ hL
 rw [h.val] at hJ
 have hk0:(o.kind == 0)=false:=beq_eq_false_iff_ne.2 (by rcases hi.kind with e|e|e|e<;>omega)
 unfold tq_ at hop
 unfold fO_ at hpa
 refine ap_ ?_
 simp only [bd_,aS_,ab_ (f4_ h.size),ab_ nw_,hop,hpa,sA_]
 refine dg_ (l7_ (K:=fun n=>fun xy4 xy5 xy6 xy7 xy8 xy9 xy10 xy11 xy12 xy13 xy14 xy15 xy16 xy17 xy18 xy19 xy20 xy21=>((a3_ n xy19).bind fun xr22=>((dS_ n (aa_.mk xy4 xy5 xy6 xy7 xy8) [118,97,108,117,101]).bind fun xr23=>(bd_.tail15 n xr22.2 xy4 xy5 xy6 xy7 xy8 xy9 xy10 xy11 xy12 xy13 xr22.1 xr23.1.kind xr23.1.n_ xr23.1.s xr23.1.list xr23.1.names)))) 4 1 0 rfl ?_)
 simp only [dE_,hW,ab_ hw,ab_ (f4_ h.size),hva,bd_.tail15,aS_,Bool.not_true,hk0,cond_false,hH_,ab_ hJ,ab_ hS,ae_]
end Go.Pi
end
section
namespace Go.Pi
mutual
def aa_.size:aa_→Nat
 |⟨_,_,s,l,ns⟩=>s.length+((l.length+aa_.sizes l)+e0_ szB ns)
def aa_.sizes:List aa_→Nat
 |[]=>0
 |x::l=>aa_.size x+aa_.sizes l
end
mutual
def aa_.len:aa_→Prop
 |⟨_,_,s,l,ns⟩=>s.length≤b6_∧(l.length≤b6_∧aa_.lens l)∧pG_ lenB ns
def aa_.lens:List aa_→Prop
 |[]=>True
 |x::l=>aa_.len x∧aa_.lens l
end
theorem aa_.sizes_eq:∀ l:List aa_,aa_.sizes l=er_ aa_.size l
 |[]=>by simp only [aa_.sizes,er_]
 |x::l=>by simp only [aa_.sizes,er_,aa_.sizes_eq l]
theorem aa_.lens_iff:∀ l:List aa_,aa_.lens l↔∀ x ∈ l,aa_.len x
 |[]=>by simp [aa_.lens]
 |x::l=>by simp [aa_.lens,aa_.lens_iff l]
theorem aa_.size_eq (j:aa_):aa_.size j=j.s.length+(e0_ aa_.size j.list+e0_ szB j.names):=by
 cases j;simp only [aa_.size,aa_.sizes_eq,e0_]
theorem aa_.len_iff (j:aa_):aa_.len j↔j.s.length≤b6_∧pG_ aa_.len j.list∧pG_ lenB j.names:=by
 cases j;simp only [aa_.len,aa_.lens_iff,pG_]
theorem aa_.re_eq (j:aa_):aa_.re j=j:=by cases j;rfl
theorem aa_.dec {x:aa_} {a:List aa_} (h:x ∈ a):SizeOf.sizeOf x.list<SizeOf.sizeOf a:=by
 have h1:=List.sizeOf_lt_of_mem h
 have h2:SizeOf.sizeOf x.list<SizeOf.sizeOf x:=by cases x;simp;omega
 omega
def TOp.size (s:TOp):Nat:=(e0_ szB) s.way+aa_.size s.value
def TOp.len (s:TOp):Prop:=(pG_ lenB) s.way∧aa_.len s.value
theorem TOp.eta (x:TOp):TOp.mk x.kind x.way x.value=x:=rfl
def aX_.size (s:aX_):Nat:=aa_.size s.doc+(e0_ TOp.size) s.ops
def aX_.len (s:aX_):Prop:=aa_.len s.doc∧(pG_ TOp.len) s.ops
theorem aX_.eta (x:aX_):aX_.mk x.kind x.version x.base x.doc x.ops=x:=rfl
def af_.size (s:af_):Nat:=(e0_ szI) s.b
def af_.len (s:af_):Prop:=(pG_ lenI) s.b
def aY_.size (s:aY_):Nat:=(e0_ szI) s.cols
def aY_.len (s:aY_):Prop:=(pG_ lenI) s.cols
def TRow.size (s:TRow):Nat:=(e0_ szI) s.cells
def TRow.len (s:TRow):Prop:=(pG_ lenI) s.cells
def ax_.size (s:ax_):Nat:=aY_.size s.schema+(e0_ (e0_ TRow.size)) s.tables
def ax_.len (s:ax_):Prop:=aY_.len s.schema∧(pG_ (pG_ TRow.len)) s.tables
def b3_.size (s:b3_):Nat:=0
def b3_.len (s:b3_):Prop:=True
def ay_.size (s:ay_):Nat:=(e0_ b3_.size) s.where_+(e0_ szI) s.show_
def ay_.len (s:ay_):Prop:=(pG_ b3_.len) s.where_∧(pG_ lenI) s.show_
def TKid.size (s:TKid):Nat:=0
def TKid.len (s:TKid):Prop:=True
def bn_.size (s:bn_):Nat:=ay_.size s.q+(e0_ TRow.size) s.rows+(e0_ TKid.size) s.kids
def bn_.len (s:bn_):Prop:=ay_.len s.q∧(pG_ TRow.len) s.rows∧(pG_ TKid.len) s.kids
def cp_.size (s:cp_):Nat:=bn_.size s.view+bn_.size s.last
def cp_.len (s:cp_):Prop:=bn_.len s.view∧bn_.len s.last
def TMut.size (s:TMut):Nat:=TRow.size s.row
def TMut.len (s:TMut):Prop:=TRow.len s.row
def aV_.size (s:aV_):Nat:=TRow.size s.old+TRow.size s.new
def aV_.len (s:aV_):Prop:=TRow.len s.old∧TRow.len s.new
def aB_.size (s:aB_):Nat:=szB s.text
def aB_.len (s:aB_):Prop:=lenB s.text
def a4_.size (s:a4_):Nat:=szB s.s
def a4_.len (s:a4_):Prop:=lenB s.s
end Go.Pi
end
section
namespace Go.Pi
def ff_ (l:List TOp):Nat:=l.findIdx fun o=>(cF_ o).kind == 0
def eh_ (l:List TOp):aa_:=aa_.mk 4 0 [] (l.map cF_) []
def em_ (l:List TOp):Int:=cond (decide (ff_ l<l.length)) (-1) (cond (bx_ (eh_ l) == []) (-1) ((bx_ (eh_ l)).length:Int))
theorem kD_ {l:List TOp} {i:Nat} (hi:i<ff_ l):((cF_ (l.getD i TOp.dflt)).kind == 0)=false:=by
 have hl:ff_ l≤l.length:=List.findIdx_le_length
 rw [List.getD_eq_getElem?_getD,List.getElem?_eq_getElem (by omega),Option.getD_some]
 have:=List.not_of_lt_findIdx (xs:=l) (p:=fun o=>(cF_ o).kind == 0) (i:=i) hi
 simpa using this
theorem bad_at {l:List TOp} (h:ff_ l<l.length):((cF_ (l.getD (ff_ l) TOp.dflt)).kind == 0)=true:=by
 rw [List.getD_eq_getElem?_getD,List.getElem?_eq_getElem h,Option.getD_some]
 exact List.findIdx_getElem (xs:=l) (p:=fun o=>(cF_ o).kind == 0) (w:=h)
theorem op_ {α β:Type} (f:α→β) (d:α) {a:List α} {i:Nat} (h:i<a.length):(a.take (i+1)).map f=(a.take i).map f++[f (a.getD i d)]:=by
 rw [cB_ d h,List.map_append];rfl
def kR_ (l:List TOp):Prop:=l.length≤4000000∧∀ o ∈ l,fD_ o
theorem jK_ {l:List TOp} (h:kR_ l):ft_ 6 (eh_ l):=by
 refine ⟨⟨Nat.zero_le _,Nat.zero_le _,fun x hx=>(by cases hx)⟩,by have:=h.1;simp [eh_,b6_];omega,fun x hx => ?_⟩
 obtain ⟨o,ho,e⟩:=List.mem_map.1 hx
 rw [←e];exact qN_ 5 _ (jb_ (h.2 o ho))
theorem ia_ {l:List TOp} (h:kR_ l):Ev (fun n _=>bq_ n l) (cond (decide (ff_ l<l.length)) (g5_,false) (eh_ l,true)):=by
 refine ap_ ?_
 have hl:=h.1
 have ht:l.length≤b6_:=by simp only [b6_];omega
 have hb:ff_ l≤l.length:=List.findIdx_le_length
 simp only [bq_]
 have:=eE_ (fun i=>(l.take i).map cF_) (ff_ l) (fun n N i (o:List aa_)=>bq_.loop4 n (fun xy2 xy3 xy4 xy5 xy6 xy7 xy8=>(some ((aa_.mk xy5 xy6 xy7 xy8 ([]:List Bs)),true))) N l (l.length:Int) (i:Int) 0 0 [] 4 0 [] o) (cond (decide (ff_ l<l.length)) (g5_,false) (eh_ l,true)) (fun i hi F hF => ?_) ?_
 · exact this
 · have hi2:i<l.length:=by omega
   have hx:=fL_ (h.2 _ (bX_ TOp.dflt hi2))
   rw [op_ cF_ TOp.dflt hi2] at hF
   have hol:((l.take i).map cF_).length≤i:=by simp;omega
   generalize (l.take i).map cF_=o at hF hol ⊢
   simp only [bq_.turn4,bq_.step4,aS_,hH_,Int.toNat_natCast,W_up hi2 ht,cC_ hi2,cf_ hi2,kD_ hi,cond_true,cond_false,bb_,bk_,ab_ hx]
   exact ⟨trivial,by simp;omega,hF⟩
 · by_cases hp:ff_ l<l.length
   · have hx:=fL_ (h.2 _ (bX_ TOp.dflt hp))
     simp only [bq_.turn4,bq_.step4,aS_,hH_,Int.toNat_natCast,cC_ hp,cf_ hp,bad_at hp,cond_true,bb_,ab_ hx,ae_]
     rw [decide_eq_true hp]
     exact ⟨trivial,rfl⟩
   · have e:ff_ l=l.length:=by omega
     rw [decide_eq_false hp,cond_false]
     unfold eh_
     rw [e,List.take_length]
     simp only [bq_.turn4,bq_.step4,cn_,cond_false,ae_]
theorem kx_ {l:List TOp} (h:kR_ l):Ev (fun n _=>dy_ n l) (em_ l):=by
 refine ap_ ?_
 simp only [dy_,aS_,ab_ (ia_ h)]
 unfold em_
 cases hp:decide (ff_ l<l.length) with
 |true=>
  simp only [cond_true,ab_ (ee_ (d9_ 6)),am_,ae_]
  simp
 |false=>
  simp only [cond_false,ab_ (ee_ (jK_ h)),am_,ae_]
  generalize bx_ (eh_ l)=s
  cases (s == [])<;>simp
theorem rW_:∀ (d:Nat) (j:aa_),aa_.len j→ft_ d j
 |0,_,_=>trivial
 |d+1,j,h=>by
  have hq:=(aa_.len_iff j).1 h
  exact ⟨⟨hq.1,hq.2.2.1,hq.2.2.2⟩,hq.2.1.1,fun x hx=>rW_ d x (hq.2.1.2 x hx)⟩
end Go.Pi
end
section
namespace Go.Pi
theorem k6_ {j:aa_}:Ev (fun n _=>aq_ n j (aa_.mk 0 0 [] [] [])) (j2_ j):=by
 refine ap_ ?_
 simp only [aq_,am_,ae_,j2_]
 by_cases h1:j.list=[]
 · by_cases h2:j.names=[]
   · have hL:Ev (fun n _=>aq_.loop6 n (aq_ n) (fun xy2 xy3 xy4 xy5 xy6 xy7 xy8 xy9 xy10 xy11=>(aq_.loop14 n (aq_ n) (some true) n 0 xy2 xy3 xy4 xy5 xy6 xy7 xy8 xy9 xy10 xy11)) n 0 j.kind j.n_ j.s [] [] 0 0 [] [] []) true :=
      dg_ (f:=fun n N=>aq_.loop6 n (aq_ n) (fun xy2 xy3 xy4 xy5 xy6 xy7 xy8 xy9 xy10 xy11=>(aq_.loop14 n (aq_ n) (some true) n 0 xy2 xy3 xy4 xy5 xy6 xy7 xy8 xy9 xy10 xy11)) N 0 j.kind j.n_ j.s [] [] 0 0 [] [] []) (bF_ (dg_ (f:=fun n N=>aq_.loop14 n (aq_ n) (some true) N 0 j.kind j.n_ j.s [] [] 0 0 [] [] []) (bF_ ⟨0,fun _ _ _ _=>rfl⟩)))
     rw [h1,h2]
     simp only [dB_ hL,bne]
     cases (j.kind == 0)<;>cases (j.n_ == 0)<;>cases (j.s == [])<;>simp
   · simp only [bne]
     rw [h1]
     have e:((j.names.length:Int) == (([]:List Bs).length:Int))=false:=by
      simp only [List.length_nil]
      rw [beq_eq_false_iff_ne];intro e;exact h2 (List.eq_nil_of_length_eq_zero (by omega))
     have e2:decide (j.names.length=0)=false:=decide_eq_false fun e=>h2 (List.eq_nil_of_length_eq_zero e)
     rw [e,e2]
     cases (j.kind == 0)<;>cases (j.n_ == 0)<;>cases (j.s == [])<;>simp
 · simp only [bne]
   have e:((j.list.length:Int) == (([]:List aa_).length:Int))=false:=by
    simp only [List.length_nil]
    rw [beq_eq_false_iff_ne];intro e;exact h1 (List.eq_nil_of_length_eq_zero (by omega))
   have e2:decide (j.list.length=0)=false:=decide_eq_false fun e=>h1 (List.eq_nil_of_length_eq_zero e)
   rw [e,e2]
   cases (j.kind == 0)<;>cases (j.n_ == 0)<;>cases (j.s == [])<;>simp
theorem iP_ {l:List TOp} (h:kR_ l):Ev (fun n _=>bN_ n l) (cond (decide (ff_ l<l.length)) (aa_.mk 4 0 [] ((l.take (ff_ l)).map cF_) [],false) (eh_ l,decide ((l.length:Int)≤40) && !(bx_ (eh_ l) == []))):=by
 refine ap_ ?_
 have hl:=h.1
 have ht:l.length≤b6_:=by simp only [b6_];omega
 have hb:ff_ l≤l.length:=List.findIdx_le_length
 simp only [bN_]
 have:=eE_ (fun i=>(l.take i).map cF_) (ff_ l) (fun n N i (o:List aa_)=>bN_.loop4 n (fun xy2 xy3 xy4 xy5 xy6 xy7 xy8 xy9=>(cond (decide ((xy2.length:Int)≤40)) ((cZ_ n (aa_.mk xy6 xy7 xy8 xy9 [])).bind fun xr10=>(some ((aa_.mk xy6 xy7 xy8 xy9 ([]:List Bs)),(!(xr10 == []))))) (some ((aa_.mk xy6 xy7 xy8 xy9 ([]:List Bs)),false)))) N l (i:Int) 0 0 [] 4 0 [] o) (cond (decide (ff_ l<l.length)) (aa_.mk 4 0 [] ((l.take (ff_ l)).map cF_) [],false) (eh_ l,decide ((l.length:Int)≤40) && !(bx_ (eh_ l) == []))) (fun i hi F hF => ?_) ?_
 · exact this
 · have hi2:i<l.length:=by omega
   have hx:=ew_ (h.2 _ (bX_ TOp.dflt hi2))
   rw [op_ cF_ TOp.dflt hi2] at hF
   have hol:((l.take i).map cF_).length≤i:=by simp;omega
   generalize (l.take i).map cF_=o at hF hol ⊢
   simp only [bN_.turn4,bN_.step4,aS_,hH_,Int.toNat_natCast,W_up hi2 ht,cC_ hi2,cf_ hi2,kD_ hi,cond_true,cond_false,bb_,bk_,ab_ hx]
   exact ⟨trivial,by simp;omega,hF⟩
 · by_cases hp:ff_ l<l.length
   · have hx:=ew_ (h.2 _ (bX_ TOp.dflt hp))
     simp only [bN_.turn4,bN_.step4,aS_,hH_,Int.toNat_natCast,cC_ hp,cf_ hp,bad_at hp,cond_true,bb_,ab_ hx,ae_]
     rw [decide_eq_true hp]
     exact ⟨trivial,rfl⟩
   · have e:ff_ l=l.length:=by omega
     have hE:=dQ_ (jK_ h)
     rw [decide_eq_false hp,cond_false]
     unfold eh_ at hE ⊢
     rw [e,List.take_length]
     simp only [bN_.turn4,bN_.step4,cn_,cond_false,am_,ab_ hE,ae_]
     cases decide ((l.length:Int)≤40)<;>simp
def qo_ (l:List TOp):Bool:=(!decide (ff_ l<l.length))&&(decide ((l.length:Int)≤40) && !(bx_ (eh_ l) == []))
def c2_ (e:aX_):Bool:=inn e.version 0 100000&&cond (e.kind == 1) ((e.base == 0)&&(decide (e.ops.length=0) && !(bx_ e.doc == []))) (cond (e.kind == 2) (qo_ e.ops&&(inn e.base 0 (W (e.version - 1))&&j2_ e.doc)) false)
def ov_ (e:aX_):Prop:=ft_ 6 e.doc∧kR_ e.ops
theorem mv_ (e:aX_):aX_.mk e.kind e.version e.base e.doc e.ops=e:=rfl
theorem size_ok (l:List TOp):decide (em_ l≥0)=((!decide (ff_ l<l.length)) && !(bx_ (eh_ l) == [])):=by
 unfold em_
 cases decide (ff_ l<l.length) with
 |true=>rfl
 |false=>
  cases hs:(bx_ (eh_ l) == []) with
  |true=>rfl
  |false=>simp only [cond_false,Bool.not_false,Bool.and_true];exact decide_eq_true (by omega)
theorem lQ_ {e:aX_} (h:ov_ e):Ev (fun n _=>d8_ n e) (c2_ e):=by
 refine ap_ ?_
 simp only [d8_,aS_,fQ_,am_,ab_ (dQ_ h.1),ab_ (iP_ h.2),ab_ k6_,ae_,oq_,c2_,qo_]
 generalize inn e.version 0 100000=a1
 generalize (e.kind == 1)=a2
 generalize (e.kind == 2)=a3
 generalize (e.base == 0)=a4
 generalize decide (e.ops.length=0)=a5
 generalize decide (ff_ e.ops<e.ops.length)=a6
 generalize decide ((e.ops.length:Int)≤40)=a7
 generalize (bx_ (eh_ e.ops) == [])=a8
 generalize (bx_ e.doc == [])=a9
 generalize inn e.base 0 (W (e.version - 1))=b1
 generalize j2_ e.doc=b2
 cases a1<;>cases a2<;>cases a3<;>cases a4<;>simp only [cond_true,cond_false,Bool.not_true,Bool.not_false,Bool.false_and,Bool.true_and,reduceCtorEq,false_implies,true_implies,true_and,and_true,implies_true]
 all_goals (cases a5<;>cases a6<;>cases a7<;>cases a8<;>cases a9<;>cases b1<;>cases b2<;>simp)
theorem kw_ {n:Int}:Ev (fun m _=>db_ m n) (inn n 0 100000):=ap_ (by simp only [db_,gB_,ae_])
theorem gm_ {e:aX_} (h:ov_ e):Ev (fun n _=>cT_ n e) (c2_ e):=by
 refine ap_ ?_
 simp only [cT_,aS_,gB_,am_,ab_ kw_,ab_ (ee_ h.1),ab_ iV_,ab_ (kx_ h.2),ae_,oq_,size_ok,c2_,qo_]
 generalize inn e.version 0 100000=a1
 generalize (e.kind == 1)=a2
 generalize (e.kind == 2)=a3
 generalize (e.base == 0)=a4
 generalize decide (e.ops.length=0)=a5
 generalize decide (ff_ e.ops<e.ops.length)=a6
 generalize decide ((e.ops.length:Int)≤40)=a7
 generalize (bx_ (eh_ e.ops) == [])=a8
 generalize (bx_ e.doc == [])=a9
 generalize inn e.base 0 (W (e.version - 1))=b1
 generalize j2_ e.doc=b2
 cases a1<;>cases a2<;>cases a3<;>cases a4<;>simp only [cond_true,cond_false,Bool.not_true,Bool.not_false,Bool.false_and,Bool.true_and,reduceCtorEq,false_implies,true_implies,true_and,and_true,implies_true]
 all_goals (cases a5<;>cases a6<;>cases a7<;>cases a8<;>cases a9<;>cases b1<;>cases b2<;>simp)
end Go.Pi
end
section
namespace Go.Pi
theorem g1_ {x:Int} (h0 : -9223372036854775808≤x) (h1:x≤9223372036854775807):Ev (fun n _=>ec_ n x) (Lib.itoa x):=by
 refine ap_ ?_
 have:=Itoa_ev h0 h1
 simp only [ec_,ab_ this,ae_]
end Go.Pi
end
section
namespace Go.Pi
def nd_ (v:Int):Bs:=([105,100,58,32]++Lib.itoa v)++[10]
def fp_ (v:Int) (d:Bs):Bs:=((([101,118,101,110,116,58,32,115,110,97,112,10]++nd_ v)++[100,97,116,97,58,32])++d)++[10,10]
def eU_ (v b:Int) (d:Bs):Bs:=((((([101,118,101,110,116,58,32,112,97,116,99,104,10]++nd_ v)++[98,97,115,101,58,32])++Lib.itoa b)++[10,100,97,116,97,58,32])++d)++[10,10]
def ck_ (e:aX_):Bs:=cond (c2_ e) (cond (e.kind == 1) (fp_ e.version (bx_ e.doc)) (eU_ e.version e.base (bx_ (eh_ e.ops)))) []
theorem fH_ (j:aa_):(bx_ j).length≤6000:=by
 unfold bx_
 cases cG_ j with
 |false=>exact Nat.zero_le _
 |true=>
  simp only [cond_true]
  cases h:decide (((FEnc 6 j).length:Int) > 6000) with
  |true=>exact Nat.zero_le _
  |false=>have:=of_decide_eq_false h;simp only [cond_false];omega
structure EvIs (e:aX_):Prop where
 ver:0≤e.version∧e.version≤100000
 base:(e.kind == 1)=false→0≤e.base∧e.base≤100000
 ops:(e.kind == 1)=false→decide (ff_ e.ops<e.ops.length)=false
theorem ev_is {e:aX_} (h:c2_ e=true):EvIs e:=by
 unfold c2_ at h
 rw [Bool.and_eq_true] at h
 have hv:=gK_ h.1
 refine ⟨by omega,fun hk => ?_,fun hk => ?_⟩
 all_goals (
  have h2:=h.2
  rw [hk,cond_false] at h2
  cases hk2:(e.kind == 2) with
  |false=>rw [hk2] at h2;cases h2
  |true=>
   rw [hk2,cond_true,Bool.and_eq_true,Bool.and_eq_true] at h2
   have hb:=gK_ h2.2.1
   rw [W_id (by omega) (by omega)] at hb
   unfold qo_ at h2
   rw [Bool.and_eq_true] at h2
   first|(have:=h2.1.1;simpa using this)|omega)
theorem eQ_ {e:aX_} (h:ov_ e):Ev (fun n _=>c3_ n e) (ck_ e):=by
 refine ap_ ?_
 simp only [c3_,aS_,mv_,ab_ (lQ_ h),am_,ae_,ck_]
 cases ho:c2_ e with
 |false=>exact ⟨fun _=>rfl,fun h=>(by cases h)⟩
 |true=>
  refine ⟨fun h=>(by cases h),fun _ => ?_⟩
  have hi:=ev_is ho
  have hd:=hi.ver
  have hdl:=Lib.itoa_length_le e.version (by omega) (by omega)
  cases hk:(e.kind == 1) with
  |true=>
   have hE:=dQ_ h.1
   have hEl:=fH_ e.doc
   simp only [ab_ (cO_ (x:=e.version) (by omega) (by omega)),cond_true,am_,dA_,ab_ hE,ae_,fp_,nd_]
   generalize Lib.itoa e.version=a at hdl ⊢
   generalize bx_ e.doc=b at hEl ⊢
   repeat' (first|apply And.intro|intro _)
   all_goals (first|trivial|rfl|(rename_i hc;have hc:=of_decide_eq_false hc;simp only [List.length_append,List.length_cons,List.length_nil] at hc;omega))
  |false=>
   have hb:=hi.base hk
   have hbl:=Lib.itoa_length_le e.base (by omega) (by omega)
   have hO:=iP_ h.2
   rw [hi.ops hk,cond_false] at hO
   have hE:=dQ_ (jK_ h.2)
   have hEl:=fH_ (eh_ e.ops)
   simp only [ab_ (cO_ (x:=e.version) (by omega) (by omega)),ab_ (cO_ (x:=e.base) (by omega) (by omega)),ab_ hO,cond_true,cond_false,am_,dA_,ab_ hE,ae_,eU_,nd_]
   generalize Lib.itoa e.version=a at hdl ⊢
   generalize Lib.itoa e.base=c at hbl ⊢
   generalize bx_ (eh_ e.ops)=b at hEl ⊢
   repeat' (first|apply And.intro|intro _)
   all_goals (first|trivial|rfl|(rename_i hc;have hc:=of_decide_eq_false hc;simp only [List.length_append,List.length_cons,List.length_nil] at hc;omega))
theorem ek_ {e:aX_} (h:ov_ e):Ev (fun n _=>co_ n e) (ck_ e):=by
 refine ap_ ?_
 simp only [co_,aS_,mv_,ab_ (gm_ h),am_,ae_,ck_]
 cases ho:c2_ e with
 |false=>exact ⟨fun _=>rfl,fun h=>(by cases h)⟩
 |true=>
  refine ⟨fun h=>(by cases h),fun _ => ?_⟩
  have hi:=ev_is ho
  have hd:=hi.ver
  have hdl:=Lib.itoa_length_le e.version (by omega) (by omega)
  cases hk:(e.kind == 1) with
  |true=>
   have hE:=ee_ h.1
   have hEl:=fH_ e.doc
   simp only [ab_ (g1_ (x:=e.version) (by omega) (by omega)),cond_true,am_,dA_,ab_ hE,ae_,fp_,nd_]
   generalize Lib.itoa e.version=a at hdl ⊢
   generalize bx_ e.doc=b at hEl ⊢
   repeat' (first|apply And.intro|intro _)
   all_goals (first|trivial|rfl|(rename_i hc;have hc:=of_decide_eq_false hc;simp only [List.length_append,List.length_cons,List.length_nil] at hc;omega))
  |false=>
   have hb:=hi.base hk
   have hbl:=Lib.itoa_length_le e.base (by omega) (by omega)
   have hO:=ia_ h.2
   rw [hi.ops hk,cond_false] at hO
   have hE:=ee_ (jK_ h.2)
   have hEl:=fH_ (eh_ e.ops)
   simp only [ab_ (g1_ (x:=e.version) (by omega) (by omega)),ab_ (g1_ (x:=e.base) (by omega) (by omega)),ab_ hO,cond_true,cond_false,am_,dA_,ab_ hE,ae_,eU_,nd_]
   generalize Lib.itoa e.version=a at hdl ⊢
   generalize Lib.itoa e.base=c at hbl ⊢
   generalize bx_ (eh_ e.ops)=b at hEl ⊢
   repeat' (first|apply And.intro|intro _)
   all_goals (first|trivial|rfl|(rename_i hc;have hc:=of_decide_eq_false hc;simp only [List.length_append,List.length_cons,List.length_nil] at hc;omega))
end Go.Pi
end
section
namespace Go.Pi
theorem rL_ {l:List TOp} {o:TOp} (h:∀ x ∈ l,fD_ x) (ho:fD_ o):∀ x ∈ l++[o],fD_ x:=by
 intro x hx
 rcases List.mem_append.1 hx with hx|hx
 · exact h x hx
 · obtain rfl:=List.mem_singleton.1 hx;exact ho
theorem m8_ {j:aa_} (h:bE_ 6 j≤400):Ans (fun n _=>bY_ n j) fun x=>kR_ x.1:=by
 have hll:=eR_ h
 refine b8_ ?_
 simp only [bY_]
 refine gQ_ (σ:=Nat × List TOp) (fun n N st=>bY_.loop4 n (fun xy2 xy3 xy4 xy5 xy6 xy7=>(some (xy7,(xy2 == 4)))) N j.list (j.list.length:Int) (st.1:Int) j.kind j.n_ j.s j.list j.names st.2) (fun st=>j.list.length - st.1) (fun st=>st.1≤j.list.length∧st.2.length≤st.1∧∀ o ∈ st.2,fD_ o) _ (fun st hI ih => ?_) (0,[]) ⟨Nat.zero_le _,Nat.zero_le _,fun y h=>(by cases h)⟩
 obtain ⟨i,ops⟩:=st
 simp only at hI ih ⊢
 obtain ⟨h1,h2,h3⟩:=hI
 simp only [bY_.turn4,bY_.step4,aS_,Int.toNat_natCast]
 by_cases hi:i<j.list.length
 · have hx:bE_ 6 (j.list.getD i aa_.dflt)≤400:=by
    have:=iy_ h (bX_ aa_.dflt hi)
    rw [lr_ 5 _ this];exact this
   simp only [cC_ hi,cond_true,fb_,cf_ hi,true_and,W_up hi (show j.list.length≤b6_ by simp only [b6_];omega)]
   refine av_ (mq_ hx) fun v hv => ?_
   simp only [ba_,aM_,dC_]
   exact ⟨fun _=>⟨Nat.zero_le _,fun y h=>(by cases h)⟩,fun _=>⟨by simp;omega,ih (i+1,_) ⟨hi,by simp;omega,rL_ h3 hv⟩ (by simp only;omega)⟩⟩
 · have e:i=j.list.length:=by omega
   subst e
   simp only [cn_,cond_false,aM_]
   exact ⟨by show ops.length≤4000000;omega,h3⟩
theorem ops_right {l:List TOp} (h:bE_ 6 (eh_ l)≤400):l.length≤400:=by
 have:=eR_ h
 simpa [eh_] using this
theorem m7_ {l:List TOp} (h:∀ o ∈ l,OpIn o) (hl:l.length≤400):Ev (fun n _=>bY_ n (eh_ l)) (l,true):=by
 refine ap_ ?_
 simp only [bY_,eh_]
 have:=eE_ (fun i=>l.take i) l.length (fun n N i (o:List TOp)=>bY_.loop4 n (fun xy2 xy3 xy4 xy5 xy6 xy7=>(some (xy7,(xy2 == 4)))) N (l.map cF_) ((l.map cF_).length:Int) (i:Int) 4 0 [] (l.map cF_) [] o) (l,true) (fun i hi F hF => ?_) ?_
 · exact this
 · have ho:=h _ (bX_ TOp.dflt hi)
   have hi2:i<(l.map cF_).length:=by simpa using hi
   have e:(l.map cF_).getD i aa_.dflt=et_ (l.getD i TOp.dflt):=by
    rw [←ho.val,List.getD_eq_getElem?_getD,List.getElem?_map,List.getD_eq_getElem?_getD,List.getElem?_eq_getElem hi];rfl
   rw [cB_ TOp.dflt hi] at hF
   simp only [bY_.turn4,bY_.step4,aS_,Int.toNat_natCast,cC_ hi2,cond_true,bb_,cf_ hi2,true_and,e,ab_ (mp_ ho),Bool.not_true,cond_false,bk_,W_up hi (show l.length≤b6_ by simp only [b6_];omega)]
   exact ⟨by simp;omega,hF⟩
 · have e:decide ((l.length:Int)<((l.map cF_).length:Int))=false:=by simp
   simp only [List.take_length,bY_.turn4,bY_.step4,e,cond_false,ae_]
   rfl
def FCut (s:Bs):Bs × Bs:=if Lib.indexByte s 10<0 then (s,[]) else (s.take (Lib.indexByte s 10).toNat,s.drop ((Lib.indexByte s 10).toNat+1))
theorem idx_le:∀ (s:Bs),Lib.indexByte s 10<(s.length:Int)∨s=[]
 |[]=>.inr rfl
 |b::l=>by
  left
  unfold Lib.indexByte
  split
  · simp only [List.length_cons];omega
  · split
    · simp only [List.length_cons];omega
    · rcases idx_le l with h|h
      · simp only [List.length_cons];omega
      · subst h;rename_i h1 h2;exact absurd (by rfl) h2
theorem Cut_ev {s:Bs} (hs:s.length≤4194304):Ev (fun n _=>(ep_ n s [10])) ((FCut s).1,(FCut s).2,decide (0≤Lib.indexByte s 10)):=by
 have hge:=Lib.indexByte_ge s 10
 have hX:Ev (fun n _=>b7_ n s [10]) (Lib.indexByte s 10):=ap_ (by simp only [b7_,rO_,ae_])
 have hC:Ev (fun n _=>ci_ n s [10]) ((FCut s).1,(FCut s).2,decide (0≤Lib.indexByte s 10)):=by
  refine ap_ ?_
  simp only [ci_,ab_ hX,am_,eD_,ae_]
  unfold FCut
  refine ⟨fun h => ?_,fun h => ?_⟩
  · have h:=of_decide_eq_true h
    have hlt:Lib.indexByte s 10<(s.length:Int):=by
     rcases idx_le s with h|h
     · exact h
     · subst h;rename_i h0;exact absurd h0 (by decide)
    have hW:W (Lib.indexByte s 10+(([10]:Bs).length:Int))=Lib.indexByte s 10+1:=W_id (by show _≤Lib.indexByte s 10+1;omega) (by show Lib.indexByte s 10+1<_;omega)
    rw [hW,if_neg (by omega),decide_eq_true (show 0≤Lib.indexByte s 10 by omega)]
    have e1:(Lib.indexByte s 10+1).toNat=(Lib.indexByte s 10).toNat+1:=by omega
    rw [e1]
    simp only [Int.toNat_natCast,List.take_length,List.drop_zero]
    exact ⟨by omega,by omega,trivial⟩
  · have h:=of_decide_eq_false h
    rw [if_pos (by omega),decide_eq_false (show ¬ 0≤Lib.indexByte s 10 by omega)]
 exact ap_ (by simp only [ep_,ab_ hC,ae_])
theorem sj_ (s:Bs):(FCut s).1.length≤s.length∧(FCut s).2.length≤s.length:=by
 unfold FCut
 split
 · exact ⟨Nat.le_refl _,Nat.zero_le _⟩
 · simp;omega
theorem idx_app:∀ {a:Bs} (b:Bs),(∀ c ∈ a,c≠10)→Lib.indexByte (a++10::b) 10=(a.length:Int)
 |[],b,_=>rfl
 |c::a,b,h=>by
  have hc:=h c (List.mem_cons_self ..)
  have ih:=idx_app b fun x hx=>h x (List.mem_cons_of_mem _ hx)
  have e:(c == 10)=false:=beq_eq_false_iff_ne.2 hc
  rw [List.cons_append,Lib.indexByte,e,ih,if_neg (by simp),if_neg (by simp<;>omega),List.length_cons];omega
theorem cut_app {a:Bs} (b:Bs) (h:∀ c ∈ a,c≠10):FCut (a++10::b)=(a,b):=by
 unfold FCut
 rw [idx_app b h,if_neg (by omega),Int.toNat_natCast,List.take_left]
 have:(a++10::b).drop (a.length+1)=b:=by rw [←List.drop_drop,List.drop_left];rfl
 rw [this]
def j3_ (p s:Bs):Bs:=cond (pfx p s) (s.drop p.length) s
theorem trim_le (p s:Bs):(j3_ p s).length≤s.length:=by
 unfold j3_;cases pfx p s<;>simp
theorem rx_ (p s:Bs):j3_ p (p++s)=s:=by unfold j3_;rw [i8_,List.drop_left];rfl
theorem iF_ {s p:Bs} (hs:s.length≤4194304):Ev (fun n _=>dp_ n s p) (j3_ p (FCut s).1,(FCut s).2):=by
 refine ap_ ?_
 simp only [dp_,ab_ (Cut_ev hs),ab_ hB_,ae_,j3_]
theorem ih_ {p a b:Bs} (hp:∀ c ∈ p,c≠10) (ha:∀ c ∈ a,c≠10) (hs:(p++(a++10::b)).length≤4194304):Ev (fun n _=>dp_ n (p++(a++10::b)) p) (a,b):=by
 have e:p++(a++10::b)=(p++a)++10::b:=by simp
 have h:=iF_ (p:=p) hs
 rw [e] at h ⊢
 rw [cut_app b (fun c hc=>by rcases List.mem_append.1 hc with h|h;exact hp c h;exact ha c h),rx_] at h
 exact h
abbrev tSnap:Bs:=[101,118,101,110,116,58,32,115,110,97,112,10]
abbrev js_:Bs:=[101,118,101,110,116,58,32,112,97,116,99,104,10]
abbrev tId:Bs:=[105,100,58,32]
abbrev k5_:Bs:=[98,97,115,101,58,32]
abbrev fy_:Bs:=[100,97,116,97,58,32]
theorem lT_ (v:Int) (d:Bs):fp_ v d=tSnap++(tId++(Lib.itoa v++10::(fy_++(d++10::[10])))):=by
 simp [fp_,nd_]
theorem kn_ (v b:Int) (d:Bs):eU_ v b d=js_++(tId++(Lib.itoa v++10::(k5_++(Lib.itoa b++10::(fy_++(d++10::[10])))))):=by
 simp [eU_,nd_]
theorem lc_ {s:Bs} (hs:s.length≤4194304):Ans (fun n _=>dm_ n s) fun e=>ov_ e:=by
 have hA:∀ {t:Bs},t.length≤4194304→Ev (fun n _=>cS_ n t) (endOf t (Lib.atoiAll t)):=fun h=>mW_ (by omega)
 have fl:∀ (p t:Bs),(j3_ p (FCut t).1).length≤t.length:=fun p t=>Nat.le_trans (trim_le _ _) (sj_ t).1
 refine b8_ ?_
 simp only [dm_,aS_,a2_ gS_]
 cases hp:pfx [101,118,101,110,116,58,32,115,110,97,112,10] s with
 |true=>
  simp only [cond_true]
  have h1:(s.drop tSnap.length).length≤s.length:=by simp
  generalize s.drop tSnap.length=t at h1 ⊢
  have h2:=(sj_ t).2
  have h3:=fl [100,97,116,97,58,32] (FCut t).2
  have h4:=fl [105,100,58,32] t
  simp only [a2_ (iF_ (s:=t) (p:=[105,100,58,32]) (by omega)),a2_ (iF_ (s:=(FCut t).2) (p:=[100,97,116,97,58,32]) (by omega)),a2_ (hA (t:=j3_ [105,100,58,32] (FCut t).1) (by omega))]
  refine av_ (ig_ (s:=j3_ [100,97,116,97,58,32] (FCut (FCut t).2).1) (by omega)) fun v hv => ?_
  simp only [aM_]
  exact ⟨dh_ 6 _ hv,Nat.zero_le _,fun o h=>(by cases h)⟩
 |false=>
  simp only [cond_false,a2_ hB_]
  have h1:=trim_le js_ s
  show Ans (fun n N=>(dp_ n (j3_ js_ s) [105,100,58,32]).bind _) _
  generalize j3_ js_ s=t at h1 ⊢
  have h2:=(sj_ t).2
  have h3:=(sj_ (FCut t).2).2
  have h4:=fl [105,100,58,32] t
  have h5:=fl [98,97,115,101,58,32] (FCut t).2
  have h6:=fl [100,97,116,97,58,32] (FCut (FCut t).2).2
  simp only [a2_ (iF_ (s:=t) (p:=[105,100,58,32]) (by omega)),a2_ (iF_ (s:=(FCut t).2) (p:=[98,97,115,101,58,32]) (by omega)),a2_ (iF_ (s:=(FCut (FCut t).2).2) (p:=[100,97,116,97,58,32]) (by omega)),a2_ (hA (t:=j3_ [105,100,58,32] (FCut t).1) (by omega)),a2_ (hA (t:=j3_ [98,97,115,101,58,32] (FCut (FCut t).2).1) (by omega))]
  refine av_ (ig_ (s:=j3_ [100,97,116,97,58,32] (FCut (FCut (FCut t).2).2).1) (by omega)) fun v hv => ?_
  refine av_ (m8_ hv) fun w hw => ?_
  simp only [aM_]
  exact ⟨d9_ 6,hw⟩
structure SnapIs (e:aX_):Prop where
 ver:0≤e.version∧e.version≤100000
 base:e.base=0
 ops:e.ops=[]
 doc:bx_ e.doc≠[]
structure PatchIs (e:aX_):Prop where
 ver:0≤e.version∧e.version≤100000
 base:0≤e.base∧e.base≤100000
 doc:e.doc=g5_
 ops:∀ o ∈ e.ops,OpIn o
 enc:bx_ (eh_ e.ops)≠[]
 len:e.ops.length≤400
theorem jT_ {e:aX_} (h:c2_ e=true):(e.kind=1∧SnapIs e)∨(e.kind=2∧PatchIs e):=by
 have hi:=ev_is h
 unfold c2_ at h
 rw [Bool.and_eq_true] at h
 have h2:=h.2
 cases hk:(e.kind == 1) with
 |true=>
  rw [hk,cond_true] at h2
  simp only [Bool.and_eq_true,Bool.not_eq_true',beq_iff_eq,decide_eq_true_eq,beq_eq_false_iff_ne] at h2
  exact .inl ⟨by simpa using hk,hi.ver,h2.1,List.eq_nil_of_length_eq_zero h2.2.1,h2.2.2⟩
 |false=>
  rw [hk,cond_false] at h2
  cases hk2:(e.kind == 2) with
  |false=>rw [hk2] at h2;cases h2
  |true=>
   rw [hk2,cond_true] at h2
   unfold qo_ at h2
   simp only [Bool.and_eq_true,Bool.not_eq_true',decide_eq_true_eq,decide_eq_false_iff_not,beq_eq_false_iff_ne] at h2
   obtain ⟨⟨b1,b2,b3⟩,b4,b5⟩:=h2
   have henc:=my_ b3
   refine .inr ⟨by simpa using hk2,hi.ver,hi.base hk,o7_ b5,fun o ho=>op_in ?_,b3,ops_right henc.1⟩
   intro hz
   have:e.ops.findIdx (fun o=>(cF_ o).kind == 0)<e.ops.length:=List.findIdx_lt_length_of_exists ⟨o,ho,by rw [hz];rfl⟩
   exact b1 this
theorem ht_ {e:aX_} (h:c2_ e=true) (hk:e.kind=1):ck_ e=fp_ e.version (bx_ e.doc):=by
 unfold ck_;rw [h,hk];rfl
theorem gN_ {e:aX_} (h:c2_ e=true) (hk:e.kind=2):ck_ e=eU_ e.version e.base (bx_ (eh_ e.ops)):=by
 unfold ck_;rw [h,hk];rfl
theorem oO_ {j:aa_} (h:bx_ j≠[]):∀ c ∈ bx_ j,c≠10:=by
 obtain ⟨h1,h2,_⟩:=my_ h
 rw [h2];exact enc_nl 6 j h1
theorem g9_ {e:aX_} (h:c2_ e=true):(ck_ e).length≤10000:=by
 rcases jT_ h with ⟨hk,hs⟩|⟨hk,hs⟩
 · rw [ht_ h hk,lT_]
   have:=fH_ e.doc
   have:=Lib.itoa_length_le e.version (by have:=hs.ver;omega) (by have:=hs.ver;omega)
   simp only [List.length_append,List.length_cons,List.length_nil];omega
 · rw [gN_ h hk,kn_]
   have:=fH_ (eh_ e.ops)
   have:=Lib.itoa_length_le e.version (by have:=hs.ver;omega) (by have:=hs.ver;omega)
   have:=Lib.itoa_length_le e.base (by have:=hs.base;omega) (by have:=hs.base;omega)
   simp only [List.length_append,List.length_cons,List.length_nil];omega
theorem mw_ {e:aX_} (h:c2_ e=true):ck_ e≠[]:=by
 rcases jT_ h with ⟨hk,hs⟩|⟨hk,hs⟩
 · rw [ht_ h hk,lT_];intro e;cases e
 · rw [gN_ h hk,kn_];intro e;cases e
theorem oX_ {n:Int} (h0:0≤n) (h1:n≤100000):Ev (fun m _=>cS_ m (Lib.itoa n)) (n,true):=by
 have hl:=Lib.itoa_length_le n (by omega) (by omega)
 have:=mW_ (s:=Lib.itoa n) (by omega)
 rw [jY_ (by omega) (by omega)] at this
 exact this
theorem lb_ {e:aX_} (h:c2_ e=true):Ev (fun n _=>dm_ n (ck_ e)) e:=by
 have hlen:=g9_ h
 refine ap_ ?_
 rcases jT_ h with ⟨hk,hs⟩|⟨hk,hs⟩
 · rw [ht_ h hk,lT_] at hlen ⊢
   simp only [List.length_append] at hlen
   have hv:=hs.ver
   have f1:=ih_ (p:=tId) (a:=Lib.itoa e.version) (b:=fy_++(bx_ e.doc++10::[10])) (by decide) (jc_ _) (by simp only [List.length_append];omega)
   have f2:=ih_ (p:=fy_) (a:=bx_ e.doc) (b:=[10]) (by decide) (oO_ hs.doc) (by simp only [List.length_append,List.length_cons] at hlen ⊢;omega)
   simp only [dm_,aS_,ab_ gS_,i8_,cond_true,List.drop_left,ab_ f1,ab_ f2,ab_ (oX_ hv.1 hv.2),ab_ (if_ hs.doc),ae_]
   obtain ⟨k,v,b,d,o⟩:=e
   have e1:=hs.base
   have e2:=hs.ops
   simp only at e1 e2 hk
   rw [e1,e2,hk]
 · rw [gN_ h hk,kn_] at hlen ⊢
   simp only [List.length_append] at hlen
   have hv:=hs.ver
   have hb:=hs.base
   have f1:=ih_ (p:=tId) (a:=Lib.itoa e.version) (b:=k5_++(Lib.itoa e.base++10::(fy_++(bx_ (eh_ e.ops)++10::[10])))) (by decide) (jc_ _) (by simp only [List.length_append];omega)
   have f2:=ih_ (p:=k5_) (a:=Lib.itoa e.base) (b:=fy_++(bx_ (eh_ e.ops)++10::[10])) (by decide) (jc_ _) (by simp only [List.length_append,List.length_cons] at hlen ⊢;omega)
   have f3:=ih_ (p:=fy_) (a:=bx_ (eh_ e.ops)) (b:=[10]) (by decide) (oO_ hs.enc) (by simp only [List.length_append,List.length_cons] at hlen ⊢;omega)
   have hp:∀ t,pfx [101,118,101,110,116,58,32,115,110,97,112,10] (js_++t)=false:=fun t=>rfl
   have ht:∀ t,cond (pfx [101,118,101,110,116,58,32,112,97,116,99,104,10] (js_++t)) ((js_++t).drop ([101,118,101,110,116,58,32,112,97,116,99,104,10]:Bs).length) (js_++t)=t:=fun t=>rx_ js_ t
   simp only [dm_,aS_,ab_ gS_,hp,cond_false,ab_ hB_,ht,ab_ f1,ab_ f2,ab_ f3,ab_ (oX_ hv.1 hv.2),ab_ (oX_ hb.1 hb.2),ab_ (if_ hs.enc),ab_ (m7_ hs.ops hs.len),ae_]
   obtain ⟨k,v,b,d,o⟩:=e
   have e1:=hs.doc
   simp only at e1 hk
   rw [e1,hk];rfl
abbrev sy_:aX_:=aX_.mk 0 0 0 (aa_.mk 0 0 [] [] []) []
def st_ (s:Bs) (x:aX_ × Bool):Prop:=x=(sy_,false)∨(x.2=true∧c2_ x.1=true∧ck_ x.1=s)
theorem text_ok {e:aX_} (h:ck_ e≠[]):c2_ e=true:=by
 unfold ck_ at h
 cases ho:c2_ e with
 |true=>rfl
 |false=>rw [ho] at h;exact absurd rfl h
theorem jQ_ {s:Bs} (hs:s.length≤4194304):Ans (fun n _=>cu_ n s) (st_ s):=by
 refine b8_ ?_
 simp only [cu_,aS_,mv_]
 refine av_ (lc_ hs) fun e he => ?_
 simp only [a2_ (ek_ he),ba_,aM_]
 refine ⟨fun _=>.inl rfl,fun h1=>⟨fun _=>.inl rfl,fun h2=>.inr ⟨rfl,text_ok ?_,by simpa using h2⟩⟩⟩
 exact fun e=>by rw [e] at h1;cases h1
theorem lo_ {e:aX_} (h:c2_ e=true):ov_ e:=by
 rcases jT_ h with ⟨hk,hs⟩|⟨hk,hs⟩
 · refine ⟨dh_ 6 _ (my_ hs.doc).1,?_⟩
   rw [hs.ops];exact ⟨Nat.zero_le _,fun o h=>(by cases h)⟩
 · refine ⟨?_,by have:=hs.len;omega,fun o ho=>rX_ (hs.ops o ho)⟩
   rw [hs.doc];exact d9_ 6
theorem jP_ {e:aX_} (h:c2_ e=true):Ev (fun n _=>cu_ n (ck_ e)) (e,true):=by
 have hne:(ck_ e == [])=false:=beq_eq_false_iff_ne.2 (mw_ h)
 refine ap_ ?_
 simp only [cu_,aS_,mv_,ab_ (lb_ h),ab_ (ek_ (lo_ h)),hne,beq_self_eq_true,Bool.not_true,cond_false,ae_]
end Go.Pi
end
section
namespace Go.Pi
def eW_ (cur:Bs):Bs→List Bs
 |[]=>[]
 |c::l=>if c=10 then cur::eW_ [] l else eW_ (cur++[c]) l
theorem fo_ (cur b:Bs):∀ (a:Bs),(∀ c ∈ a,c≠10)→eW_ cur (a++10::b)=(cur++a)::eW_ [] b:=by
 intro a
 induction a generalizing cur with
 |nil=>intro _;rw [List.nil_append,eW_,if_pos rfl,List.append_nil]
 |cons c a ih=>
  intro h
  rw [List.cons_append,eW_,if_neg (h c (List.mem_cons_self ..)),ih _ fun x hx=>h x (List.mem_cons_of_mem _ hx)]
  simp
theorem l9_:∀ (s cur:Bs) (B:Nat),cur.length+s.length≤B→(eW_ cur s).length≤s.length∧∀ y ∈ eW_ cur s,y.length≤B
 |[],_,_,_=>⟨Nat.le_refl _,fun y h=>(by cases h)⟩
 |c::l,cur,B,h=>by
  unfold eW_
  simp only [List.length_cons] at h
  split
  · obtain ⟨h1,h2⟩:=l9_ l [] B (by simp;omega)
    refine ⟨by simp;omega,fun y hy => ?_⟩
    rcases List.mem_cons.1 hy with rfl|hy
    · omega
    · exact h2 y hy
  · obtain ⟨h1,h2⟩:=l9_ l (cur++[c]) B (by simp;omega)
    exact ⟨by simp;omega,h2⟩
theorem hF_ {s:Bs} (hs:s.length≤4194304):Ev (fun n _=>bj_ n s) (eW_ [] s):=by
 refine ap_ ?_
 simp only [bj_]
 have key:∀ (m i f:Nat) (out:List Bs),i+m=s.length→f≤i→out.length≤i→Ev (fun n N=>bj_.loop5 n (fun xy1=>(some xy1)) N s (f:Int) (i:Int) out) (out++eW_ ((s.take i).drop f) (s.drop i)):=by
  intro m
  induction m with
  |zero=>
   intro i f out hi _ _
   have:i=s.length:=by omega
   subst this
   refine bF_ ?_
   simp only [bj_.turn5,bj_.step5,cn_,cond_false,List.drop_length,eW_,List.append_nil,ae_]
  |succ m ih=>
   intro i f out hi hf ho
   have hlt:i<s.length:=by omega
   have hW:=W_up hlt (show s.length≤b6_ by simp only [b6_];omega)
   have hd:=es_ 0 hlt
   refine bF_ ?_
   simp only [bj_.turn5,bj_.step5,cC_ hlt,cond_true,bb_,cf_ hlt,true_and,Int.toNat_natCast,hW,am_,eD_,bk_]
   have e10:((s.getD i 0).toNat:Int)=10↔s.getD i 0=10:=by
    have:=mF_ (s.getD i 0) 10 10 rfl
    constructor
    · intro h;rw [show (((s.getD i 0).toNat:Nat):Int)=((10:Nat):Int) from h] at this;simpa using this
    · intro h;rw [h];rfl
   rw [hd]
   refine ⟨fun h => ?_,fun h => ?_⟩
   · have h:s.getD i 0=10:=e10.1 (by simpa using h)
     have hn:=ih (i+1) (i+1) (out++[(s.take i).drop f]) (by omega) (Nat.le_refl _) (by simp;omega)
     rw [sg_ (show (s.take (i+1)).length≤i+1 by simp;omega)] at hn
     rw [eW_,if_pos h]
     rw [List.append_assoc] at hn
     exact ⟨by omega,by simp;omega,hn⟩
   · have h:¬ s.getD i 0=10:=fun e=>by rw [e10.2 e] at h;cases h
     have hn:=ih (i+1) f out (by omega) (by omega) (by omega)
     rw [cB_ 0 hlt,List.drop_append_of_le_length (by simp;omega)] at hn
     rw [eW_,if_neg h]
     exact hn
 have:=key s.length 0 0 [] (by omega) (Nat.le_refl _) (Nat.le_refl _)
 rw [List.nil_append] at this
 exact dg_ (f:=fun n N=>bj_.loop5 n (fun xy1=>(some xy1)) N s 0 0 []) this
def dZ_ (l h:Bs):Bs:=cond (pfx h l) (l.drop h.length) []
theorem ha_ {l h:Bs}:Ev (fun n _=>cI_ n l h) (dZ_ l h):=by
 refine ap_ ?_
 simp only [cI_,am_,eD_,ae_,Int.toNat_natCast,List.take_length,dZ_,lk_]
 refine ⟨fun hc => ?_,fun hc => ?_⟩
 · have hc:=of_decide_eq_true hc
   cases e:((l.take h.length).drop 0 == h) with
   |false=>rfl
   |true=>rw [←lk_] at e;have:=i7_ e;omega
 · have hc:=of_decide_eq_false hc
   refine ⟨by omega,?_⟩
   cases ((l.take h.length).drop 0 == h) with
   |false=>exact ⟨fun _=>rfl,fun h=>(by cases h)⟩
   |true=>exact ⟨fun h=>(by cases h),fun _=>⟨by omega,rfl⟩⟩
theorem mH_ (l h:Bs):(dZ_ l h).length≤l.length:=by
 unfold dZ_;cases pfx h l<;>simp
theorem iI_ (h l:Bs):dZ_ (h++l) h=l:=by unfold dZ_;rw [i8_,List.drop_left];rfl
theorem nz_ {s:Bs} (hs:s.length≤4194304):Ans (fun n _=>dF_ n s) fun _=>True:=by
 refine b8_ ?_
 simp only [dF_]
 refine av_ (kV_ (s:=s) (p:=0) (ok:=true) (left:=0) hs (Nat.zero_le _)) fun v hv => ?_
 obtain ⟨p',ok',e1,e2,e3,e4,e5⟩:=hv
 simp only [ba_,aM_,a2_ (cO_ (x:=v.1) e4 e5),implies_true,and_self]
theorem ny_ {n:Int} (h0:0≤n) (h1:n≤100000):Ev (fun m _=>dF_ m (Lib.itoa n)) (n,true):=by
 have hl:=Lib.itoa_length_le n (by omega) (by omega)
 have hN:=kU_ (s:=Lib.itoa n) (p:=0) (left:=0) (r:=[]) (n:=n) (by simp only [jV_];omega) (by omega) (by omega) n2_ ⟨Nat.zero_le _,by simp⟩
 have hN:Ev (fun m _=>aD_ m ⟨Lib.itoa n,0,true,0⟩) (n,⟨Lib.itoa n,((0+(Lib.itoa n).length:Nat):Int),true,0⟩):=hN
 refine ap_ ?_
 simp only [dF_,ab_ hN,cond_true,ab_ (cO_ (x:=n) (by omega) (by omega)),beq_self_eq_true,ae_]
end Go.Pi
end
section
namespace Go.Pi
section
variable {n6:Int}
theorem sR_ {j:aa_} (h:bE_ 6 j≤400) {i:Nat} (hi:i<j.list.length):bE_ 6 (j.list.getD i aa_.dflt)≤400:=by
 have:=iy_ h (bX_ aa_.dflt hi)
 rw [lr_ 5 _ this];exact this
theorem ops_uni {s:Bs} {t6 a b c d e:Int} {f:Bs} {t40 t41 t42 t43 t44:Int} {t45:Bs} {t5:List Bs} {t46:List aa_} {t47:List Bs} {j:aa_} (hj:bE_ 6 j≤400) :
  ∀ (m i:Nat) (o:List TOp),i+m=j.list.length→(∀ x ∈ o,fD_ x)→o.length≤4000+i→∃ M,
    (∀ n R,M≤n→M≤R→∀ k,ad_.loop20 n k R s t6 (i:Int) a b c d e f t40 t41 t42 t43 t44 t45 t5 j.kind j.n_ j.s t46 t47 o j.list j.names=some (sy_,false)) ∨
    ∃ o',o'.length≤o.length+m∧(∀ x ∈ o',fD_ x)∧∀ n R,M≤n→M≤R→∀ k,ad_.loop20 n k R s t6 (i:Int) a b c d e f t40 t41 t42 t43 t44 t45 t5 j.kind j.n_ j.s t46 t47 o j.list j.names=k s t6 a b c d e f t40 t41 t42 t43 t44 t45 t5 t46 t47 o':=by
 have hll:=eR_ hj
 intro m
 induction m with
 |zero=>
  intro i o hi ho _
  have e:i=j.list.length:=by omega
  subst e
  refine ⟨1,.inr ⟨o,Nat.le_refl _,ho,fun n R _ hR k => ?_⟩⟩
  obtain ⟨R,rfl⟩:∃ m,R=m+1:=⟨R - 1,by omega⟩
  simp only [ad_.turn20,ad_.step20,cn_,cond_false]
 |succ m ih=>
  intro i o hi ho hol
  have hlt:i<j.list.length:=by omega
  obtain ⟨v,⟨M1,hM1⟩,hv⟩:=lO_ (sR_ hj hlt)
  have hW:=W_up hlt (show j.list.length≤b6_ by simp only [b6_];omega)
  have hr:(o.length+1)*112≤140737488355328:=by omega
  cases hq:v.2 with
  |false=>
   refine ⟨max M1 1,.inl fun n R hn hR k => ?_⟩
   obtain ⟨R,rfl⟩:∃ m,R=m+1:=⟨R - 1,by omega⟩
   simp only [ad_.turn20,ad_.step20,aS_,Int.toNat_natCast,cC_ hlt,cond_true,jM_ hlt,hM1 n n (by omega) (by omega),Option.bind_some,hq,Bool.not_false]
  |true=>
   obtain ⟨M2,h2⟩:=ih (i+1) (o++[v.1]) (by omega) (rL_ ho hv) (by simp;omega)
   refine ⟨max M1 (M2+1),?_⟩
   have step:∀ n R,max M1 (M2+1)≤n→max M1 (M2+1)≤R→∀ k,∃ R',M2≤R'∧ad_.loop20 n k R s t6 (i:Int) a b c d e f t40 t41 t42 t43 t44 t45 t5 j.kind j.n_ j.s t46 t47 o j.list j.names=ad_.loop20 n k R' s t6 ((i+1:Nat):Int) a b c d e f t40 t41 t42 t43 t44 t45 t5 j.kind j.n_ j.s t46 t47 (o++[v.1]) j.list j.names:=by
    intro n R hn hR k
    obtain ⟨R,rfl⟩:∃ m,R=m+1:=⟨R - 1,by omega⟩
    refine ⟨R,by omega,?_⟩
    have hr2:(o.length+[v.1].length)*112≤140737488355328:=hr
    simp only [ad_.turn20,ad_.step20,aS_,hH_,Int.toNat_natCast,cC_ hlt,cond_true,jM_ hlt,hM1 n n (by omega) (by omega),Option.bind_some,hq,Bool.not_true,cond_false,jB_ hr2,hW]
   rcases h2 with h2|⟨o',g1,g2,g3⟩
   · refine .inl fun n R hn hR k => ?_
     obtain ⟨R',h1,e⟩:=step n R hn hR k
     rw [e];exact h2 n R' (by omega) h1 k
   · refine .inr ⟨o',by simp at g1;omega,g2,fun n R hn hR k => ?_⟩
     obtain ⟨R',h1,e⟩:=step n R hn hR k
     rw [e];exact g3 n R' (by omega) h1 k
theorem ops_any {K:Nat→Nat→ad_.K20} {Q:aX_ × Bool→Prop} {s:Bs} {t6 a b c d e:Int} {f:Bs} {t40 t41 t42 t43 t44:Int} {t45:Bs} {t5:List Bs} {t46:List aa_} {t47:List Bs} {j:aa_} (hj:bE_ 6 j≤400) {o:List TOp} (ho:∀ x ∈ o,fD_ x) (hol:o.length≤4000)
  (hz:Q (sy_,false)) (hK:∀ o',o'.length≤o.length+400→(∀ x ∈ o',fD_ x)→Ans (fun n N=>K n N s t6 a b c d e f t40 t41 t42 t43 t44 t45 t5 t46 t47 o') Q) :
  Ans (fun n N=>ad_.loop20 n (K n N) n s t6 0 a b c d e f t40 t41 t42 t43 t44 t45 t5 j.kind j.n_ j.s t46 t47 o j.list j.names) Q:=by
 have hll:=eR_ hj
 obtain ⟨M,h|⟨o',g1,g2,g3⟩⟩:=ops_uni (s:=s) (t6:=t6) (a:=a) (b:=b) (c:=c) (d:=d) (e:=e) (f:=f) (t40:=t40) (t41:=t41) (t42:=t42) (t43:=t43) (t44:=t44) (t45:=t45) (t5:=t5) (t46:=t46) (t47:=t47) hj j.list.length 0 o (by omega) ho (by omega)
 · exact ⟨_,⟨M,fun n N hn _=>h n n hn hn _⟩,hz⟩
 · obtain ⟨v,hv,hq⟩:=hK o' (by omega) g2
   exact ⟨v,oN_ M (fun n N hn=>g3 n n hn hn _) hv,hq⟩
theorem ops_exact {s:Bs} {t6 a b c d e:Int} {f:Bs} {t40 t41 t42 t43 t44:Int} {t45:Bs} {t5:List Bs} {t46:List aa_} {t47:List Bs} {l:List TOp} (hl:l.length≤400) (h:∀ o ∈ l,OpIn o) :
  ∀ (m i:Nat),i+m=l.length→∃ M,∀ n R,M≤n→M≤R→∀ k,ad_.loop20 n k R s t6 (i:Int) a b c d e f t40 t41 t42 t43 t44 t45 t5 4 0 [] t46 t47 (l.take i) (l.map cF_) []=k s t6 a b c d e f t40 t41 t42 t43 t44 t45 t5 t46 t47 l:=by
 intro m
 induction m with
 |zero=>
  intro i hi
  have e:i=l.length:=by omega
  subst e
  have e:decide ((l.length:Int)<((l.map cF_).length:Int))=false:=by simp
  refine ⟨1,fun n R _ hR k => ?_⟩
  obtain ⟨R,rfl⟩:∃ m,R=m+1:=⟨R - 1,by omega⟩
  simp only [List.take_length,ad_.turn20,ad_.step20,e,cond_false]
 |succ m ih=>
  intro i hi
  have hlt:i<l.length:=by omega
  have ho:=h _ (bX_ TOp.dflt hlt)
  have hi2:i<(l.map cF_).length:=by simpa using hlt
  have e:(l.map cF_).getD i aa_.dflt=et_ (l.getD i TOp.dflt):=by
   rw [←ho.val,List.getD_eq_getElem?_getD,List.getElem?_map,List.getD_eq_getElem?_getD,List.getElem?_eq_getElem hlt];rfl
  obtain ⟨M1,hM1⟩:=lN_ ho
  obtain ⟨M2,h2⟩:=ih (i+1) (by omega)
  have hW:=W_up hlt (show l.length≤b6_ by simp only [b6_];omega)
  refine ⟨max M1 (M2+1),fun n R hn hR k => ?_⟩
  obtain ⟨R,rfl⟩:∃ m,R=m+1:=⟨R - 1,by omega⟩
  have hr2:((l.take i).length+[l.getD i TOp.dflt].length)*112≤140737488355328:=by simp;omega
  rw [cB_ TOp.dflt hlt] at h2
  simp only [ad_.turn20,ad_.step20,aS_,hH_,Int.toNat_natCast,cC_ hi2,cond_true,jM_ hi2,e,hM1 n n (by omega) (by omega),Option.bind_some,Bool.not_true,cond_false,jB_ hr2,hW]
  exact h2 n R (by omega) (by omega) k
theorem ops_enc {K:Nat→Nat→ad_.K20} {F:aX_ × Bool} {s:Bs} {t6 a b c d e:Int} {f:Bs} {t40 t41 t42 t43 t44:Int} {t45:Bs} {t5:List Bs} {t46:List aa_} {t47:List Bs} {l:List TOp} (hl:l.length≤400) (h:∀ o ∈ l,OpIn o)
  (hK:Ev (fun n N=>K n N s t6 a b c d e f t40 t41 t42 t43 t44 t45 t5 t46 t47 l) F) :
  Ev (fun n N=>ad_.loop20 n (K n N) n s t6 0 a b c d e f t40 t41 t42 t43 t44 t45 t5 4 0 [] t46 t47 [] (l.map cF_) []) F:=by
 obtain ⟨M,hM⟩:=ops_exact (s:=s) (t6:=t6) (a:=a) (b:=b) (c:=c) (d:=d) (e:=e) (f:=f) (t40:=t40) (t41:=t41) (t42:=t42) (t43:=t43) (t44:=t44) (t45:=t45) (t5:=t5) (t46:=t46) (t47:=t47) hl h l.length 0 (by omega)
 exact oN_ M (fun n N hn=>hM n n hn hn _) hK
end
section
variable {K:Nat→ad_.K5} {s:Bs} {a b c d e:Int} {f:Bs}
theorem lines_any {Q:aX_ × Bool→Prop} {L:List Bs} (hL:L.length≤4194304) (hLl:∀ y ∈ L,y.length≤4194304) (hz:Q (sy_,false))
  (hK:∀ t40 t41 t42 (j:aa_) o,ft_ 6 j→o.length≤4000→(∀ x ∈ o,fD_ x)→Ans (fun n _=>K n s a b c d e f t40 t41 t42 j.kind j.n_ j.s j.list j.names o) Q) :
  Ans (fun n _=>ad_.loop5 n (K n) n s 0 a b c d e f 0 0 0 0 0 [] L [] [] []) Q:=by
 refine gQ_ (σ:=Nat × Int × Int × Int × aa_ × List TOp) (fun n N st=>ad_.loop5 n (K n) N s (st.1:Int) a b c d e f st.2.1 st.2.2.1 st.2.2.2.1 st.2.2.2.2.1.kind st.2.2.2.2.1.n_ st.2.2.2.2.1.s L st.2.2.2.2.1.list st.2.2.2.2.1.names st.2.2.2.2.2) (fun st=>6 - st.1)
  (fun st=>st.1≤6∧ft_ 6 st.2.2.2.2.1∧st.2.2.2.2.2.length≤400*st.1∧∀ x ∈ st.2.2.2.2.2,fD_ x) _ (fun st hI ih => ?_) (0,0,0,0,g5_,[]) ⟨Nat.zero_le _,d9_ 6,Nat.zero_le _,fun y h=>(by cases h)⟩
 obtain ⟨i,t40,t41,t42,j,o⟩:=st
 simp only at hI ih ⊢
 obtain ⟨h1,h2,h3,h4⟩:=hI
 have hend:=hK t40 t41 t42 j o h2 (by omega) h4
 simp only [ad_.turn5,ad_.step5,aS_,Int.toNat_natCast,ba_]
 refine ⟨fun hlt=>⟨fun h6 => ?_,fun _=>hend⟩,fun _=>hend⟩
 have hlt:=of_decide_eq_true hlt
 have h6:=of_decide_eq_true h6
 have hi:i<L.length:=by omega
 have hW:W ((i:Int)+1)=((i+1:Nat):Int):=by rw [W_id (by omega) (by omega)];omega
 have hy:=hLl _ (bX_ [] hi)
 have b1:=mH_ (L.getD i []) [105,100,58,32]
 have b2:=mH_ (L.getD i []) [98,97,115,101,58,32]
 have b3:=mH_ (L.getD i []) [100,97,116,97,58,32]
 simp only [fb_,cf_ hi,true_and,hW,ba_,a2_ ha_]
 have next:∀ t40 t41 t42 j o',ft_ 6 j→o'.length≤o.length+400→(∀ x ∈ o',fD_ x)→Ans (fun n N=>ad_.loop5 n (K n) N s ((i+1:Nat):Int) a b c d e f t40 t41 t42 j.kind j.n_ j.s L j.list j.names o') Q :=
  fun t40 t41 t42 j o' g1 g2 g3=>ih (i+1,t40,t41,t42,j,o') ⟨by simp only;omega,g1,by simp only;omega,g3⟩ (by simp only;omega)
 refine ⟨fun _=>next _ _ _ j o h2 (by omega) h4,fun _=>⟨fun _=>next _ _ _ j o h2 (by omega) h4,fun _=>⟨fun _ => ?_,fun _=>⟨fun _ => ?_,fun _=>⟨fun _ => ?_,fun _=>next _ _ _ j o h2 (by omega) h4⟩⟩⟩⟩⟩
 · exact av_ (nz_ (by omega)) fun v _=>next _ _ _ j o h2 (by omega) h4
 · exact av_ (nz_ (by omega)) fun v _=>next _ _ _ j o h2 (by omega) h4
 · refine av_ (lR_ (by omega)) fun v hv => ?_
   simp only [ba_]
   refine ⟨fun _=>next _ _ _ v.1 o (dh_ 6 _ hv) (by omega) h4,fun _ => ?_⟩
   exact ops_any hv h4 (by omega) hz fun o' g1 g2=>by simp only [hW];exact next _ _ _ j o' h2 g1 g2
end
theorem jy_ {s:Bs} (hs:s.length≤4194304):Ans (fun n _=>ad_ n s) (st_ s):=by
 obtain ⟨l1,l2⟩:=l9_ s [] 4194304 (by simpa using hs)
 refine b8_ ?_
 simp only [ad_,a2_ (hF_ hs)]
 refine lines_any (by omega) l2 (.inl rfl) fun t40 t41 t42 j o g1 g2 g3 => ?_
 have he:ov_ (aX_.mk t40 t41 t42 j o):=⟨g1,by show o.length≤4000000;omega,g3⟩
 simp only [dE_,ba_,aM_,a2_ (eQ_ he)]
 refine ⟨fun _=>.inl rfl,fun h1=>⟨fun _=>.inl rfl,fun h2=>.inr ⟨rfl,text_ok ?_,by simpa using h2⟩⟩⟩
 have h2:ck_ (aX_.mk t40 t41 t42 j o)=s:=by simpa using h2
 rw [h2]
 exact fun e=>by rw [e] at h1;cases h1
section
variable {K:Nat→ad_.K5} {s:Bs} {a b c d e:Int} {f:Bs} {F:aX_ × Bool} {t40 t41 t42 t43 t44:Int} {t45:Bs} {L:List Bs} {t46:List aa_} {t47:List Bs} {t48:List TOp} {i:Nat}
theorem jG_ {a c:UInt8} (h:c≠a) (p t:Bs):dZ_ (c::t) (a::p)=[]:=by unfold dZ_;rw [px_ h];rfl
theorem line_snap (hi:i<L.length) (h6:i<6) (hl:L.getD i []=[101,118,101,110,116,58,32,115,110,97,112])
  (h:Ev (fun n N=>ad_.loop5 n (K n) N s ((i+1:Nat):Int) a b c d e f 1 t41 t42 t43 t44 t45 L t46 t47 t48) F) :
  Ev (fun n N=>ad_.loop5 n (K n) N s (i:Int) a b c d e f t40 t41 t42 t43 t44 t45 L t46 t47 t48) F:=by
 have hW:W ((i:Int)+1)=((i+1:Nat):Int):=by rw [W_id (by omega) (by omega)];omega
 have h6':decide ((i:Int)<6)=true:=decide_eq_true (by omega)
 refine bF_ ?_
 simp only [ad_.turn5,ad_.step5,Int.toNat_natCast,cC_ hi,h6',cond_true,bb_,cf_ hi,true_and,hW,hl,beq_self_eq_true]
 exact h
theorem sT_ (hi:i<L.length) (h6:i<6) (hl:L.getD i []=[101,118,101,110,116,58,32,112,97,116,99,104])
  (h:Ev (fun n N=>ad_.loop5 n (K n) N s ((i+1:Nat):Int) a b c d e f 2 t41 t42 t43 t44 t45 L t46 t47 t48) F) :
  Ev (fun n N=>ad_.loop5 n (K n) N s (i:Int) a b c d e f t40 t41 t42 t43 t44 t45 L t46 t47 t48) F:=by
 have hW:W ((i:Int)+1)=((i+1:Nat):Int):=by rw [W_id (by omega) (by omega)];omega
 have h6':decide ((i:Int)<6)=true:=decide_eq_true (by omega)
 have c1:(([101,118,101,110,116,58,32,112,97,116,99,104]:Bs) == [101,118,101,110,116,58,32,115,110,97,112])=false:=rfl
 refine bF_ ?_
 simp only [ad_.turn5,ad_.step5,Int.toNat_natCast,cC_ hi,h6',cond_true,cond_false,bb_,cf_ hi,true_and,hW,hl,c1,beq_self_eq_true]
 exact h
theorem ol_ {c a:UInt8} (h:c≠a) (p t:Bs):((c::t:Bs) == (a::p))=false:=beq_eq_false_iff_ne.2 fun e=>h (List.cons.inj e).1
theorem itoa_ne (n:Int):(Lib.itoa n == [])=false:=by
 obtain ⟨c,t,e,_⟩:=g7_ n
 rw [e];rfl
theorem line_id {v:Int} (hv0:0≤v) (hv1:v≤100000) (hi:i<L.length) (h6:i<6) (hl:L.getD i []=tId++Lib.itoa v)
  (h:Ev (fun n N=>ad_.loop5 n (K n) N s ((i+1:Nat):Int) a b c d e f t40 v t42 t43 t44 t45 L t46 t47 t48) F) :
  Ev (fun n N=>ad_.loop5 n (K n) N s (i:Int) a b c d e f t40 t41 t42 t43 t44 t45 L t46 t47 t48) F:=by
 have hW:W ((i:Int)+1)=((i+1:Nat):Int):=by rw [W_id (by omega) (by omega)];omega
 have h6':decide ((i:Int)<6)=true:=decide_eq_true (by omega)
 have c1:∀ p,(tId++Lib.itoa v == (101::p))=false:=fun p=>ol_ (by decide) p _
 have c3:dZ_ (tId++Lib.itoa v) [105,100,58,32]=Lib.itoa v:=iI_ tId _
 have c4:=itoa_ne v
 refine bF_ ?_
 simp only [ad_.turn5,ad_.step5,Int.toNat_natCast,cC_ hi,h6',cond_true,cond_false,bb_,cf_ hi,true_and,hW,hl,c1,ab_ ha_,c3,c4,Bool.not_false,ab_ (ny_ hv0 hv1)]
 exact h
theorem line_base {v:Int} (hv0:0≤v) (hv1:v≤100000) (hi:i<L.length) (h6:i<6) (hl:L.getD i []=k5_++Lib.itoa v)
  (h:Ev (fun n N=>ad_.loop5 n (K n) N s ((i+1:Nat):Int) a b c d e f t40 t41 v t43 t44 t45 L t46 t47 t48) F) :
  Ev (fun n N=>ad_.loop5 n (K n) N s (i:Int) a b c d e f t40 t41 t42 t43 t44 t45 L t46 t47 t48) F:=by
 have hW:W ((i:Int)+1)=((i+1:Nat):Int):=by rw [W_id (by omega) (by omega)];omega
 have h6':decide ((i:Int)<6)=true:=decide_eq_true (by omega)
 have c1:∀ p,(k5_++Lib.itoa v == (101::p))=false:=fun p=>ol_ (by decide) p _
 have c2:dZ_ (k5_++Lib.itoa v) [105,100,58,32]=[]:=jG_ (by decide) _ _
 have c3:dZ_ (k5_++Lib.itoa v) [98,97,115,101,58,32]=Lib.itoa v:=iI_ k5_ _
 have c4:=itoa_ne v
 have c5:(!(([]:Bs) == []))=false:=rfl
 refine bF_ ?_
 simp only [ad_.turn5,ad_.step5,Int.toNat_natCast,cC_ hi,h6',cond_true,cond_false,bb_,cf_ hi,true_and,hW,hl,c1,ab_ ha_,c2,c3,c4,c5,Bool.not_false,ab_ (ny_ hv0 hv1)]
 exact h
theorem line_data {j:aa_} (hj:bx_ j≠[]) (hi:i<L.length) (h6:i<6) (hl:L.getD i []=fy_++bx_ j)
  (h:Ev (fun n N=>ad_.loop5 n (K n) N s ((i+1:Nat):Int) a b c d e f 1 t41 t42 j.kind j.n_ j.s L j.list j.names t48) F) :
  Ev (fun n N=>ad_.loop5 n (K n) N s (i:Int) a b c d e f 1 t41 t42 t43 t44 t45 L t46 t47 t48) F:=by
 have hW:W ((i:Int)+1)=((i+1:Nat):Int):=by rw [W_id (by omega) (by omega)];omega
 have h6':decide ((i:Int)<6)=true:=decide_eq_true (by omega)
 have c1:∀ p,(fy_++bx_ j == (101::p))=false:=fun p=>ol_ (by decide) p _
 have c2:dZ_ (fy_++bx_ j) [105,100,58,32]=[]:=jG_ (by decide) _ _
 have c6:dZ_ (fy_++bx_ j) [98,97,115,101,58,32]=[]:=jG_ (by decide) _ _
 have c3:dZ_ (fy_++bx_ j) [100,97,116,97,58,32]=bx_ j:=iI_ fy_ _
 have c4:(bx_ j == [])=false:=beq_eq_false_iff_ne.2 hj
 have c5:(!(([]:Bs) == []))=false:=rfl
 have c7:((1:Int) == 1)=true:=rfl
 refine bF_ ?_
 simp only [ad_.turn5,ad_.step5,Int.toNat_natCast,cC_ hi,h6',cond_true,cond_false,bb_,cf_ hi,true_and,hW,hl,c1,ab_ ha_,c2,c3,c4,c5,c6,c7,Bool.not_false,ab_ (h0_ hj)]
 exact h
theorem line_ops {l:List TOp} (hj:bx_ (eh_ l)≠[]) (hn:l.length≤400) (ho:∀ o ∈ l,OpIn o) (hi:i<L.length) (h6:i<6) (hl:L.getD i []=fy_++bx_ (eh_ l))
  (h:Ev (fun n N=>ad_.loop5 n (K n) N s ((i+1:Nat):Int) a b c d e f 2 t41 t42 t43 t44 t45 L t46 t47 l) F) :
  Ev (fun n N=>ad_.loop5 n (K n) N s (i:Int) a b c d e f 2 t41 t42 t43 t44 t45 L t46 t47 []) F:=by
 have hW:W ((i:Int)+1)=((i+1:Nat):Int):=by rw [W_id (by omega) (by omega)];omega
 have h6':decide ((i:Int)<6)=true:=decide_eq_true (by omega)
 have c1:∀ p,(fy_++bx_ (eh_ l) == (101::p))=false:=fun p=>ol_ (by decide) p _
 have c2:dZ_ (fy_++bx_ (eh_ l)) [105,100,58,32]=[]:=jG_ (by decide) _ _
 have c6:dZ_ (fy_++bx_ (eh_ l)) [98,97,115,101,58,32]=[]:=jG_ (by decide) _ _
 have c3:dZ_ (fy_++bx_ (eh_ l)) [100,97,116,97,58,32]=bx_ (eh_ l):=iI_ fy_ _
 have c4:(bx_ (eh_ l) == [])=false:=beq_eq_false_iff_ne.2 hj
 have c5:(!(([]:Bs) == []))=false:=rfl
 have c7:((2:Int) == 1)=false:=rfl
 refine bF_ ?_
 simp only [ad_.turn5,ad_.step5,Int.toNat_natCast,cC_ hi,h6',cond_true,cond_false,bb_,cf_ hi,true_and,hW,hl,c1,ab_ ha_,c2,c3,c4,c5,c6,c7,Bool.not_false,ab_ (h0_ hj)]
 exact ops_enc hn ho (by simp only [hW];exact h)
theorem rT_ (hi:i<L.length) (h6:i<6) (hl:L.getD i []=[])
  (h:Ev (fun n N=>ad_.loop5 n (K n) N s ((i+1:Nat):Int) a b c d e f t40 t41 t42 t43 t44 t45 L t46 t47 t48) F) :
  Ev (fun n N=>ad_.loop5 n (K n) N s (i:Int) a b c d e f t40 t41 t42 t43 t44 t45 L t46 t47 t48) F:=by
 have hW:W ((i:Int)+1)=((i+1:Nat):Int):=by rw [W_id (by omega) (by omega)];omega
 have h6':decide ((i:Int)<6)=true:=decide_eq_true (by omega)
 have c1:∀ (a:UInt8) p,(([]:Bs) == (a::p))=false:=fun a p=>rfl
 have c2:∀ (a:UInt8) p,dZ_ [] (a::p)=[]:=fun a p=>rfl
 have c5:(!(([]:Bs) == []))=false:=rfl
 refine bF_ ?_
 simp only [ad_.turn5,ad_.step5,Int.toNat_natCast,cC_ hi,h6',cond_true,cond_false,bb_,cf_ hi,true_and,hW,hl,c1,ab_ ha_,c2,c5]
 exact h
theorem rU_ (hi:i=L.length) (h:Ev (fun n _=>K n s a b c d e f t40 t41 t42 t43 t44 t45 t46 t47 t48) F) :
  Ev (fun n N=>ad_.loop5 n (K n) N s (i:Int) a b c d e f t40 t41 t42 t43 t44 t45 L t46 t47 t48) F:=by
 subst hi
 refine bF_ ?_
 simp only [ad_.turn5,ad_.step5,cn_,cond_false]
 exact h
end
theorem sS_ (v:Int) {d:Bs} (hd:∀ c ∈ d,c≠10):eW_ [] (fp_ v d)=[[101,118,101,110,116,58,32,115,110,97,112],tId++Lib.itoa v,fy_++d,[]]:=by
 have e:fp_ v d=[101,118,101,110,116,58,32,115,110,97,112]++10::((tId++Lib.itoa v)++10::((fy_++d)++10::([]++10::[]))):=by simp [fp_,nd_]
 have h1:∀ c ∈ tId++Lib.itoa v,c≠10:=fun c hc=>by rcases List.mem_append.1 hc with h|h;exact (show ∀ c ∈ tId,c≠10 by decide) c h;exact jc_ v c h
 have h2:∀ c ∈ fy_++d,c≠10:=fun c hc=>by rcases List.mem_append.1 hc with h|h;exact (show ∀ c ∈ fy_,c≠10 by decide) c h;exact hd c h
 rw [e,fo_ [] _ _ (by decide),fo_ [] _ _ h1,fo_ [] _ _ h2,fo_ [] _ _ (by decide)];rfl
theorem qM_ (v b:Int) {d:Bs} (hd:∀ c ∈ d,c≠10):eW_ [] (eU_ v b d)=[[101,118,101,110,116,58,32,112,97,116,99,104],tId++Lib.itoa v,k5_++Lib.itoa b,fy_++d,[]]:=by
 have e:eU_ v b d=[101,118,101,110,116,58,32,112,97,116,99,104]++10::((tId++Lib.itoa v)++10::((k5_++Lib.itoa b)++10::((fy_++d)++10::([]++10::[])))):=by simp [eU_,nd_]
 have h1:∀ c ∈ tId++Lib.itoa v,c≠10:=fun c hc=>by rcases List.mem_append.1 hc with h|h;exact (show ∀ c ∈ tId,c≠10 by decide) c h;exact jc_ v c h
 have h3:∀ c ∈ k5_++Lib.itoa b,c≠10:=fun c hc=>by rcases List.mem_append.1 hc with h|h;exact (show ∀ c ∈ k5_,c≠10 by decide) c h;exact jc_ b c h
 have h2:∀ c ∈ fy_++d,c≠10:=fun c hc=>by rcases List.mem_append.1 hc with h|h;exact (show ∀ c ∈ fy_,c≠10 by decide) c h;exact hd c h
 rw [e,fo_ [] _ _ (by decide),fo_ [] _ _ h1,fo_ [] _ _ h3,fo_ [] _ _ h2,fo_ [] _ _ (by decide)];rfl
theorem gE_ {e:aX_} (h:c2_ e=true):Ev (fun n _=>ad_ n (ck_ e)) (e,true):=by
 have hlen:=g9_ h
 have hne:(ck_ e == [])=false:=beq_eq_false_iff_ne.2 (mw_ h)
 have hT:=eQ_ (lo_ h)
 refine ap_ ?_
 simp only [ad_,ab_ (hF_ (s:=ck_ e) (by omega))]
 rcases jT_ h with ⟨hk,hs⟩|⟨hk,hs⟩
 · have hl:=sS_ e.version (oO_ hs.doc)
   rw [←ht_ h hk] at hl
   rw [hl]
   refine dg_ (line_snap (i:=0) (by simp only [List.length_cons,List.length_nil];omega) (by decide) rfl (line_id hs.ver.1 hs.ver.2 (by simp only [List.length_cons,List.length_nil];omega) (by decide) rfl (line_data hs.doc (by simp only [List.length_cons,List.length_nil];omega) (by decide) rfl (rT_ (by simp only [List.length_cons,List.length_nil];omega) (by decide) rfl (rU_ rfl ?_)))))
   have ee:aX_.mk 1 e.version 0 e.doc []=e:=by
    obtain ⟨k,v,b,d,o⟩:=e
    have e1:=hs.base
    have e2:=hs.ops
    simp only at e1 e2 hk
    rw [e1,e2,hk]
   simp only [dE_,ee,hne,cond_false,ab_ hT,beq_self_eq_true,Bool.not_true,ae_]
 · have hl:=qM_ e.version e.base (oO_ hs.enc)
   rw [←gN_ h hk] at hl
   rw [hl]
   refine dg_ (sT_ (i:=0) (by simp only [List.length_cons,List.length_nil];omega) (by decide) rfl (line_id hs.ver.1 hs.ver.2 (by simp only [List.length_cons,List.length_nil];omega) (by decide) rfl (line_base hs.base.1 hs.base.2 (by simp only [List.length_cons,List.length_nil];omega) (by decide) rfl (line_ops hs.enc hs.len hs.ops (by simp only [List.length_cons,List.length_nil];omega) (by decide) rfl (rT_ (by simp only [List.length_cons,List.length_nil];omega) (by decide) rfl (rU_ rfl ?_))))))
   have ee:aX_.mk 2 e.version e.base (aa_.mk 0 0 [] [] []) e.ops=e:=by
    obtain ⟨k,v,b,d,o⟩:=e
    have e1:=hs.doc
    simp only at e1 hk
    rw [e1,hk];rfl
   simp only [ee,hne,cond_false,ab_ hT,beq_self_eq_true,Bool.not_true,ae_]
theorem i0_ {s:Bs} (hs:s.length≤4194304):∃ x,st_ s x∧Ev (fun n _=>ad_ n s) x∧Ev (fun n _=>cu_ n s) x:=by
 obtain ⟨x,h1,h2⟩:=jQ_ hs
 obtain ⟨y,g1,g2⟩:=jy_ hs
 rcases h2 with rfl|⟨a1,a2,a3⟩
 · rcases g2 with rfl|⟨b1,b2,b3⟩
   · exact ⟨_,.inl rfl,g1,h1⟩
   · have:=jP_ b2
     rw [b3] at this
     have e:=congrArg Prod.snd ((dB_ h1).1 this)
     cases e
 · have:=gE_ a2
   rw [a3] at this
   refine ⟨x,.inr ⟨a1,a2,a3⟩,?_,h1⟩
   rw [←a1] at this
   exact this
end Go.Pi
end
section
namespace Go.Pi
theorem pe_:∀ {l:List Bs} {c:Nat},(∀ x ∈ l,x.length≤c)→er_ szB l≤l.length*c
 |[],_,_=>Nat.zero_le _
 |x::l,c,h=>by
  have:=pe_ (l:=l) fun y hy=>h y (List.mem_cons_of_mem _ hy)
  have:=h x (List.mem_cons_self ..)
  simp only [er_,szB,List.length_cons,Nat.add_mul] at *;omega
theorem r1_:∀ (d:Nat) (j:aa_),bE_ d j≤400→aa_.size j≤50000*bE_ d j
 |0,j,h=>by simp only [bE_] at h;omega
 |d+1,j,h=>by
  obtain ⟨ho,hs⟩:=dY_ h
  have hl:=eR_ h
  have hn:=fP_ h
  have hsum:∀ l:List aa_,(∀ x ∈ l,bE_ d x≤400)→er_ aa_.size l≤50000*er_ (bE_ d) l:=by
   intro l
   induction l with
   |nil=>intro _;exact Nat.zero_le _
   |cons x l ih=>
    intro hx
    have h1:=r1_ d x (hx x (List.mem_cons_self ..))
    have h2:=ih fun y hy=>hx y (List.mem_cons_of_mem _ hy)
    simp only [er_];omega
  have h1:=hsum j.list fun x hx=>by have:=i1_ (bE_ d) hx;omega
  have hF:FOwn j=true:=by
   simp only [bE_] at h
   cases hf:FOwn j with
   |true=>rfl
   |false=>rw [hf,cond_false] at h;omega
  have hsl:j.s.length≤60:=by
   unfold FOwn at hF
   simp only [Bool.and_eq_true,Bool.or_eq_true] at hF
   rcases hF.2.2.2.1 with e|e
   · have:j.s=[]:=by simpa using e
     rw [this];exact Nat.zero_le _
   · exact ho.text (by simpa using e)
  have hnt:er_ szB j.names≤j.names.length*60:=pe_ fun x hx=>by
   by_cases hk:j.kind=5
   · obtain ⟨i,hi,e⟩:=List.mem_iff_getElem.1 hx
     have:=iJ_ (ho.obj hk).2 hi
     rw [List.getD_eq_getElem?_getD,List.getElem?_eq_getElem hi,Option.getD_some,e] at this
     exact this
   · have:j.names.length=0:=by
      unfold FOwn at hF
      simp only [Bool.and_eq_true,Bool.or_eq_true] at hF
      rcases hF.2.1 with e|e
      · exact of_decide_eq_true e
      · exact absurd (by simpa using e) hk
     rw [List.eq_nil_of_length_eq_zero this] at hx;cases hx
  have e:=aa_.size_eq j
  unfold e0_ at e
  rw [hs]
  omega
end Go.Pi
end
section
namespace Go.Pi
end Go.Pi
end
section
namespace Go.Pi
end Go.Pi
end
section
namespace Go.Pi
noncomputable def FRd (s:Bs):aX_ × Bool:=if h:s.length≤4194304 then Classical.choose (i0_ h) else (sy_,false)
theorem rd_is {s:Bs} (h:s.length≤4194304):st_ s (FRd s)∧Ev (fun n _=>ad_ n s) (FRd s)∧Ev (fun n _=>cu_ n s) (FRd s):=by
 unfold FRd;rw [dif_pos h];exact Classical.choose_spec (i0_ h)
theorem rd_text {e:aX_} (h:c2_ e=true):FRd (ck_ e)=(e,true):=by
 have:=g9_ h
 exact (dB_ (rd_is (by omega)).2.1).1 (gE_ h)
end Go.Pi
end
