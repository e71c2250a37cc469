/- FnCut: of a drawn text that is cut into pieces the pieces together are it, each as long as wanted, but at the end. No condition. Text 6 of 8. -/
import Derived.Test.YtmgcfhlcdhlafaaGreatDoorCuE
import Derived.Lib.ItoaLen
import Derived.Lib.AtoiAllCases
set_option linter.unusedVariables false
set_option maxRecDepth 100000
set_option linter.unusedSimpArgs false
namespace Go.Pi
theorem join_snoc (x sep:Bs):∀ l:List Bs,Lib.join (l++[x]) sep=if l=[] then x else Lib.join l sep++sep++x
 |[]=>by rw [if_pos rfl];exact Lib.join_one x sep
 |y::l=>by rw [if_neg (by simp),List.cons_append,Lib.join_cons,Lib.join_cons];simp [Lib.joinTail]
theorem hj_ {α:Type} (f:α->Nat):∀ a b:List α,eF_ f (a++b)=eF_ f a+eF_ f b
 |[],b=>by simp [eF_]
 |x::a,b=>by simp only [List.cons_append,eF_,hj_ f a b];omega
theorem rS_ {α:Type} (f:α->Nat) (h:∀ x,1<=f x):∀ a:List α,a.length<=eF_ f a
 |[]=>Nat.le_refl _
 |x::a=>by have:=rS_ f h a;have:=h x;simp only [eF_,List.length_cons];omega
theorem qE_:∀ (d:Nat) (j:aa_),1<=bI_ d j
 |0,_=>by simp only [bI_];omega
 |d+1,j=>by simp only [bI_];cases FOwn j<;>simp only [cond_true,cond_false]<;>omega
theorem ir_ {s:Bs} (h:jo_ s=true):s.length<=60:=by unfold jo_ at h;rw [Bool.and_eq_true] at h;have:=of_decide_eq_true h.2;omega
theorem iM_ {l:List Bs} (h:lb_ l=true) {i:Nat} (hi:i<l.length):(l.getD i []).length<=60:=by have:=fc_.1 h i hi;rw [Bool.and_eq_true] at this;exact ir_ this.1
structure Own (j:aa_):Prop where
 kind:j.kind=0\/j.kind=1\/j.kind=2\/j.kind=3\/j.kind=4\/j.kind=5
 list:j.kind≠4->j.kind≠5->j.list=[]
 bool:j.kind=1->0<=j.n_/\j.n_<=1
 num:j.kind=2 -> -1000000000<=j.n_/\j.n_<=1000000000
 text:j.kind=3->j.s.length<=60
 obj:j.kind=5->j.names.length=j.list.length/\lb_ j.names=true
theorem FOwn_own {j:aa_} (h:FOwn j=true):Own j:=by
 unfold FOwn FOwnK at h;simp only [Bool.and_eq_true,Bool.or_eq_true] at h;obtain ⟨p,I,z,u,m⟩:=h;refine ⟨?_,fun k4 k5 => ?_,fun k => ?_,fun k => ?_,fun k => ?_,fun k => ?_⟩
 . rcases my_ j.kind with k|k|k|k|k|k|⟨k0,k1,k2,k3,k4,k5⟩
   . exact .inl k
   . exact .inr (.inl k)
   . exact .inr (.inr (.inl k))
   . exact .inr (.inr (.inr (.inl k)))
   . exact .inr (.inr (.inr (.inr (.inl k))))
   . exact .inr (.inr (.inr (.inr (.inr k))))
   . simp only [beq_eq_false_iff_ne.2 k0,beq_eq_false_iff_ne.2 k1,beq_eq_false_iff_ne.2 k2,beq_eq_false_iff_ne.2 k3,beq_eq_false_iff_ne.2 k4,beq_eq_false_iff_ne.2 k5,cond_false,Bool.or_false] at m
     cases m
 . rcases p with p|p|p
   . exact List.eq_nil_of_length_eq_zero (of_decide_eq_true p)
   . exact absurd (by simpa using p) k4
   . exact absurd (by simpa using p) k5
 . simp only [k,Int.reduceBEq,cond_true,cond_false] at m;exact gP_ m
 . simp only [k,Int.reduceBEq,cond_true,cond_false] at m;exact gP_ m
 . simp only [k,Int.reduceBEq,cond_true,cond_false] at m;exact ir_ m
 . simp only [k,Int.reduceBEq,cond_true,cond_false,Bool.and_eq_true] at m
   exact ⟨by have:=m.1;simp at this;omega,m.2⟩
def dJ_ (enc:aa_->Bs) (j:aa_) (i:Nat):Bs:=cond (j.kind == 5) (dr_ (j.names.getD i [])++([58]++enc (j.list.getD i aa_.dflt))) (enc (j.list.getD i aa_.dflt))
def eq_ (enc:aa_->Bs) (j:aa_) (m:Nat):Bs:=Lib.join ((List.range m).map (dJ_ enc j)) [44]
def FEnc:Nat->aa_->Bs
 |0,_=>[]
 |d+1,j=>cond (j.kind == 0) [110,117,108,108] (cond (j.kind == 1) (cond (j.n_ == 1) [116,114,117,101] [102,97,108,115,101]) (cond (j.kind == 2) (Lib.itoa j.n_) (cond (j.kind == 3) (dr_ j.s)
   (cond (j.kind == 5) ([123]++eq_ (FEnc d) j j.list.length++[125]) ([91]++eq_ (FEnc d) j j.list.length++[93])))))
theorem od_ (enc:aa_->Bs) (j:aa_):eq_ enc j 0=[]:=rfl
theorem iv_ (enc:aa_->Bs) (j:aa_):eq_ enc j 1=dJ_ enc j 0:=Lib.join_one _ _
theorem hf_ (enc:aa_->Bs) (j:aa_) {m:Nat} (h:0<m):eq_ enc j (m+1)=eq_ enc j m++[44]++dJ_ enc j m:=by unfold eq_;rw [List.range_succ,List.map_append,List.map_cons,List.map_nil,join_snoc,if_neg];intro e;have:=congrArg List.length e;simp at this;omega
theorem d8_ {d:Nat} {j:aa_} (h:bI_ (d+1) j<=400):Own j/\bI_ (d+1) j=1+eF_ (bI_ d) j.list:=by
 simp only [bI_] at h ⊢;cases k:FOwn j with
 |false=>rw [k,cond_false] at h;omega
 |true=>
  rw [k,cond_true] at h;exact ⟨FOwn_own k,by rw [cond_true];omega⟩
theorem enc_len:∀ (d:Nat) (j:aa_),bI_ d j<=400->(FEnc d j).length+150<=300*bI_ d j
 |0,j,h=>by simp only [bI_] at h;omega
 |d+1,j,h=>by
  obtain ⟨p,hs⟩:=d8_ h;have hJ:∀ m,m<=j.list.length->(eq_ (FEnc d) j m).length<=300*eF_ (bI_ d) (j.list.take m):=by
   intro m;induction m with
   |zero=>intro _;exact Nat.zero_le _
   |succ m ih=>
    intro I;have hi:m<j.list.length:=by omega
    have T:=ih (by omega);have S:=i5_ (bI_ d) (b2_ aa_.dflt hi);have O:=enc_len d (j.list.getD m aa_.dflt) (by omega);have J:(dJ_ (FEnc d) j m).length<=123+(FEnc d (j.list.getD m aa_.dflt)).length:=by
     unfold dJ_;cases k:(j.kind == 5) with
     |false=>rw [cond_false];omega
     |true=>
      obtain ⟨e1,e2⟩:=p.obj (by simpa using k);have:=iM_ e2 (i:=m) (by omega);have:=gp_ (j.names.getD m []);rw [cond_true];simp only [List.length_append,List.length_cons,List.length_nil];omega
    rw [cH_ aa_.dflt hi,hj_];simp only [eF_,Nat.mul_add];by_cases z:m=0
    . subst z;rw [iv_];omega
    . rw [hf_ _ _ (by omega)];simp only [List.length_append,List.length_cons,List.length_nil];omega
  have u:=hJ j.list.length (Nat.le_refl _);rw [List.take_length] at u;rw [hs];rcases p.kind with k|k|k|k|k|k
  . simp only [FEnc,k,Int.reduceBEq,cond_true,cond_false,List.length_cons,List.length_nil];omega
  . simp only [FEnc,k,Int.reduceBEq,cond_true,cond_false]
    cases (j.n_ == 1)<;>simp only [cond_true,cond_false,List.length_cons,List.length_nil]<;>omega
  . have:=p.num k
    have:=Lib.itoa_length_le j.n_ (by omega) (by omega);simp only [FEnc,k,Int.reduceBEq,cond_true,cond_false];omega
  . have:=p.text k
    have:=gp_ j.s;simp only [FEnc,k,Int.reduceBEq,cond_true,cond_false];omega
  . simp only [FEnc,k,Int.reduceBEq,cond_true,cond_false,List.length_append,List.length_cons,List.length_nil];omega
  . simp only [FEnc,k,Int.reduceBEq,cond_true,cond_false,List.length_append,List.length_cons,List.length_nil];omega
structure Part (d:Nat) (j:aa_) (i:Nat):Prop where
 size:bI_ d (j.list.getD i aa_.dflt)<=400
 enc:(FEnc d (j.list.getD i aa_.dflt)).length<=120000
 name:j.kind=5->i<j.names.length/\(j.names.getD i []).length<=60
theorem fF_ {d:Nat} {j:aa_} (h:bI_ (d+1) j<=400) {i:Nat} (hi:i<j.list.length):Part d j i:=by obtain ⟨k,hs⟩:=d8_ h;have u:=i5_ (bI_ d) (b2_ aa_.dflt hi);have p:=enc_len d (j.list.getD i aa_.dflt) (by omega);exact ⟨by omega,by omega,fun m=>⟨by have:=(k.obj m).1;omega,iM_ (k.obj m).2 (by have:=(k.obj m).1;omega)⟩⟩
theorem oT_ {d:Nat} {j:aa_} (h:bI_ (d+1) j<=400):∀ m,m<=j.list.length->(eq_ (FEnc d) j m).length<=m*120200:=by
 intro m;induction m with
 |zero=>intro _;exact Nat.zero_le _
 |succ m ih=>
  intro z;have k:=fF_ h (i:=m) (by omega);have J:=ih (by omega);have I:(dJ_ (FEnc d) j m).length<=123+120000:=by
   have:=k.enc;unfold dJ_;cases p:(j.kind == 5) with
   |false=>rw [cond_false];omega
   |true=>
    have:=(k.name (by simpa using p)).2;have:=gp_ (j.names.getD m []);rw [cond_true];simp only [List.length_append,List.length_cons,List.length_nil];omega
  by_cases u:m=0
  . subst u;rw [iv_];omega
  . rw [hf_ _ _ (by omega)];simp only [List.length_append,List.length_cons,List.length_nil];omega
theorem eZ_ {d:Nat} {j:aa_} (h:bI_ (d+1) j<=400):j.list.length<=400:=by have:=(d8_ h).2;have:=rS_ (bI_ d) (qE_ d) j.list;omega
def fJ_ (c:UInt8):Prop:=48<=c.toNat/\c.toNat<=57
theorem jZ_ {d:Nat} (h:d<10):(UInt8.ofNat (48+d)).toNat=48+d:=by rw [UInt8.toNat_ofNat'];omega
theorem im_:∀ (u:Nat),∀ c ∈ Lib.decDigits u,fJ_ c:=by
 intro u;induction u using Nat.strongRecOn with
 |ind u ih=>
  intro c hc;rw [Lib.decDigits] at hc;by_cases h:u<10
  . rw [dif_pos h] at hc
    obtain rfl:=List.mem_singleton.1 hc;unfold fJ_;rw [jZ_ h];omega
  . rw [dif_neg h] at hc
    rcases List.mem_append.1 hc with hc|hc
    . exact ih (u / 10) (by omega) c hc
    . obtain rfl:=List.mem_singleton.1 hc
      unfold fJ_;rw [jZ_ (by omega)];omega
theorem mP_ (u:Nat):1<=(Lib.decDigits u).length:=by
 rw [Lib.decDigits];by_cases h:u<10
 . rw [dif_pos h];simp
 . rw [dif_neg h];simp
theorem rl_:∀ (k u:Nat),u<10 ^ (k+1)->(Lib.decDigits u).length<=k+1
 |0,u,h=>by rw [Lib.decDigits,dif_pos (by simpa using h)];simp
 |k+1,u,h=>by
  rw [Lib.decDigits];by_cases m:u<10
  . rw [dif_pos m];simp
  . rw [dif_neg m,List.length_append]
    have:=rl_ k (u / 10) (by rw [Nat.pow_succ] at h;omega);simp;omega
def ke_ (x:Nat) (l:Bs):Nat:=l.foldl (fun x c=>10*x+(c.toNat - 48)) x
theorem val_nil (x:Nat):ke_ x []=x:=rfl
theorem ju_ (x:Nat) (c:UInt8) (l:Bs):ke_ x (c::l)=ke_ (10*x+(c.toNat - 48)) l:=by unfold ke_;rw [List.foldl_cons]
theorem val_app (x:Nat) (a b:Bs):ke_ x (a++b)=ke_ (ke_ x a) b:=List.foldl_append
theorem og_:∀ (u:Nat),ke_ 0 (Lib.decDigits u)=u:=by
 intro u;induction u using Nat.strongRecOn with
 |ind u ih=>
  rw [Lib.decDigits];by_cases h:u<10
  . rw [dif_pos h,ju_,val_nil,jZ_ h];omega
  . rw [dif_neg h,val_app,ih (u / 10) (by omega)]
    have e:=jZ_ (d:=u % 10) (by omega);rw [ju_,val_nil,e];omega
theorem val_le:∀ (x:Nat) (l:Bs),x<=ke_ x l
 |_,[]=>Nat.le_refl _
 |x,c::l=>by rw [ju_];exact Nat.le_trans (by omega) (val_le _ l)
theorem pu_val:∀ (x:Nat) (l:Bs),(∀ c ∈ l,fJ_ c)->ke_ x l<=1000000000000000000->Lib.parseUint10 x l = .ok (ke_ x l)
 |_,[],_,_=>rfl
 |x,c::l,h,k=>by have hc:=h c (List.mem_cons_self ..);have m:=val_le (10*x+(c.toNat - 48)) l;rw [ju_] at k ⊢;unfold fJ_ at hc;rw [Lib.parseUint10,if_pos hc,if_neg (by omega),if_neg (by omega),show x*10+(c.toNat - 48)=10*x+(c.toNat - 48) by omega];exact pu_val _ l (fun c hc=>h c (List.mem_cons_of_mem _ hc)) k
theorem qx_ {n:Int} (J : -1000000000<=n) (I:n<=1000000000):Lib.atoiAll (Lib.itoa n) = .ok n:=by
 unfold Lib.itoa;have k:∀ u:Nat,u<=1000000000->Lib.parseMag (Lib.decDigits u) = .ok u:=by intro u z;have:=mP_ u;unfold Lib.parseMag;rw [if_neg (fun e=>by rw [e] at this;simp at this),pu_val 0 _ (im_ u) (by rw [og_];omega),og_]
 by_cases p:n<0
 . rw [if_pos p,Lib.atoiAll_minus,k n.natAbs (by omega)]
   show (if 9223372036854775808<n.natAbs then Lib.NumEnd.range else .ok (-(n.natAbs:Int)))=_;rw [if_neg (by omega),show (-(n.natAbs:Int))=n by omega]
 . rw [if_neg p]
   have e:=k n.toNat (by omega);have m:=mP_ n.toNat;have hd:=im_ n.toNat;generalize Lib.decDigits n.toNat=l at e m hd ⊢;cases l with
   |nil=>simp at m
   |cons c r=>
    have hc:=hd c (List.mem_cons_self ..);unfold fJ_ at hc;rw [Lib.atoiAll_plain c r (by omega) (by omega),e];show (if 9223372036854775808<=n.toNat then Lib.NumEnd.range else .ok (n.toNat:Int))=_;rw [if_neg (by omega),show (n.toNat:Int)=n by omega]
def dR_ (enc:aa_->Bs) (j:aa_):Nat->Nat->Bs
 |0,_=>[]
 |k+1,i=>(if i=0 then [] else [44])++(dJ_ enc j i++dR_ enc j k (i+1))
theorem oe_ (enc:aa_->Bs) (j:aa_):∀ k i,eq_ enc j i++dR_ enc j k i=eq_ enc j (i+k)
 |0,i=>by rw [dR_,List.append_nil];rfl
 |k+1,i=>by
  rw [dR_,show i+(k+1)=i+1+k by omega,<-oe_ enc j k (i+1)];by_cases h:i=0
  . subst h;rw [od_,iv_,if_pos rfl];simp
  . rw [if_neg h,hf_ enc j (by omega)];simp
theorem m4_ (enc:aa_->Bs) (j:aa_) (m:Nat):eq_ enc j m=dR_ enc j m 0:=by have:=oe_ enc j m 0;rw [od_,List.nil_append,Nat.zero_add] at this;exact this.symm
def Stop (r:Bs):Prop:=∀ c t,r=c::t->¬ fJ_ c
theorem ok_:Stop []:=fun c t h=>(by cases h)
theorem lM_ {c:UInt8} {t:Bs} (h:¬ fJ_ c):Stop (c::t):=fun d u e=>by cases e;exact h
theorem h9_ (n:Int):∃ c t,Lib.itoa n=c::t/\(c=45\/fJ_ c):=by
 unfold Lib.itoa;by_cases h:n<0
 . rw [if_pos h];exact ⟨45,_,rfl,.inl rfl⟩
 . rw [if_neg h]
   have k:=mP_ n.toNat;have hd:=im_ n.toNat;generalize Lib.decDigits n.toNat=l at k hd ⊢;cases l with
   |nil=>simp at k
   |cons c r=>exact ⟨c,r,rfl,.inr (hd c (List.mem_cons_self ..))⟩
theorem enc_head {d:Nat} {j:aa_} (h:bI_ d j<=400):∃ c t,FEnc d j=c::t/\c.toNat≠93/\c.toNat≠125/\c.toNat≠44:=by
 cases d with
 |zero=>simp only [bI_] at h;omega
 |succ d=>
  have m:=(d8_ h).1;rcases m.kind with k|k|k|k|k|k
  . exact ⟨110,[117,108,108],by simp only [FEnc,k,Int.reduceBEq,cond_true],by decide⟩
  . cases hb:(j.n_ == 1) with
    |true=>exact ⟨116,[114,117,101],by simp only [FEnc,k,hb,Int.reduceBEq,cond_true,cond_false],by decide⟩
    |false=>exact ⟨102,[97,108,115,101],by simp only [FEnc,k,hb,Int.reduceBEq,cond_true,cond_false],by decide⟩
  . obtain ⟨c,t,e,hc⟩:=h9_ j.n_
    refine ⟨c,t,by simp only [FEnc,k,Int.reduceBEq,cond_true,cond_false,e],?_⟩;rcases hc with rfl|hc
    . decide
    . unfold fJ_ at hc;omega
  . exact ⟨34,j.s.flatMap fT_++[34],by simp only [FEnc,k,Int.reduceBEq,cond_true,cond_false,dr_];rfl,by decide⟩
  . exact ⟨91,eq_ (FEnc d) j j.list.length++[93],by simp only [FEnc,k,Int.reduceBEq,cond_true,cond_false];rfl,by decide⟩
  . exact ⟨123,eq_ (FEnc d) j j.list.length++[125],by simp only [FEnc,k,Int.reduceBEq,cond_true,cond_false];rfl,by decide⟩
theorem oc_ {d:Nat} {j:aa_} (h:bI_ (d+1) j<=400) {i:Nat} (hi:i<j.list.length):∃ c t,dJ_ (FEnc d) j i=c::t/\c.toNat≠93/\c.toNat≠125/\c.toNat≠44:=by
 unfold dJ_;cases (j.kind == 5) with
 |true=>exact ⟨34,(j.names.getD i []).flatMap fT_++[34]++([58]++FEnc d (j.list.getD i aa_.dflt)),by simp only [cond_true,dr_];rfl,by decide⟩
 |false=>exact enc_head (fF_ h hi).size
theorem qesc_nl {s:Bs} (h:∀ c ∈ s,c≠10):∀ c ∈ dr_ s,c≠10:=by
 intro c hc;unfold dr_ at hc;simp only [List.cons_append,List.mem_cons,List.mem_append,List.mem_flatMap,List.not_mem_nil,or_false] at hc;rcases hc with rfl|⟨b,hb,hc⟩|rfl
 . decide
 . have:=h b hb
   unfold fT_ at hc;split at hc
   . simp only [List.mem_cons,List.not_mem_nil,or_false] at hc
     rcases hc with rfl|rfl
     . decide
     . exact this
   . obtain rfl:=List.mem_singleton.1 hc;exact this
 . decide
theorem text_nl {s:Bs} (h:jo_ s=true):∀ c ∈ s,c≠10:=by
 intro c hc e;subst e;unfold jo_ at h;rw [Bool.and_eq_true] at h;obtain ⟨i,hi,e⟩:=List.getElem_of_mem hc;have:=fc_.1 h.1 i hi;rw [List.getD_eq_getElem?_getD,List.getElem?_eq_getElem hi,Option.getD_some,e] at this
 revert this;decide
theorem jg_ (n:Int):∀ c ∈ Lib.itoa n,c≠10:=by
 intro c hc e;subst e;unfold Lib.itoa at hc;have k:∀ u,(10:UInt8) ∈ Lib.decDigits u->False:=fun u h=>by have:=im_ u 10 h;unfold fJ_ at this;revert this;decide
 split at hc
 . rcases List.mem_cons.1 hc with h|h
   . revert h;decide
   . exact k _ h
 . exact k _ hc
structure Own2 (j:aa_):Prop where
 text:j.kind=3->jo_ j.s=true
 n0:j.kind≠1->j.kind≠2->j.n_=0
 s0:j.kind≠3->j.s=[]
 ns0:j.kind≠5->j.names=[]
theorem ft_ {j:aa_} (h:FOwn j=true):Own2 j:=by
 unfold FOwn FOwnK at h;simp only [Bool.and_eq_true,Bool.or_eq_true] at h;obtain ⟨I,z,u,p,m⟩:=h;refine ⟨fun k => ?_,fun k1 k2 => ?_,fun k3 => ?_,fun k5 => ?_⟩
 . simpa only [k,Int.reduceBEq,cond_true,cond_false] using m
 . rcases u with h|h|h
   . simpa using h
   . exact absurd (by simpa using h) k1
   . exact absurd (by simpa using h) k2
 . rcases p with h|h
   . simpa using h
   . exact absurd (by simpa using h) k3
 . rcases z with h|h
   . exact List.eq_nil_of_length_eq_zero (of_decide_eq_true h)
   . exact absurd (by simpa using h) k5
theorem e6_ {d:Nat} {j:aa_} (h:bI_ (d+1) j<=400):FOwn j=true:=by
 simp only [bI_] at h;cases k:FOwn j with
 |false=>rw [k,cond_false] at h;omega
 |true=>rfl
theorem enc_nl:∀ (d:Nat) (j:aa_),bI_ d j<=400->∀ c ∈ FEnc d j,c≠10
 |0,j,h=>by simp only [bI_] at h;omega
 |d+1,j,h=>by
  have u:=(d8_ h).1;have p:=ft_ (e6_ h);have hJ:∀ k i,i+k<=j.list.length->∀ c ∈ dR_ (FEnc d) j k i,c≠10:=by
   intro k;induction k with
   |zero=>intro i _ c hc;cases hc
   |succ k ih=>
    intro i hi c hc;have O:=fF_ h (i:=i) (by omega);simp only [dR_,List.mem_append] at hc;rcases hc with hc|hc|hc
    . split at hc
      . cases hc
      . obtain rfl:=List.mem_singleton.1 hc;decide
    . have I:=enc_nl d _ O.size
      unfold dJ_ at hc;cases m:(j.kind == 5) with
      |false=>rw [m,cond_false] at hc;exact I c hc
      |true=>
       obtain ⟨e1,e2⟩:=u.obj (by simpa using m);have z:=fc_.1 e2 i (by omega);rw [Bool.and_eq_true] at z;rw [m,cond_true] at hc;simp only [List.mem_append] at hc;rcases hc with hc|hc|hc
       . exact qesc_nl (text_nl z.1) c hc
       . obtain rfl:=List.mem_singleton.1 hc;decide
       . exact I c hc
    . exact ih (i+1) (by omega) c hc
  have J:=hJ j.list.length 0 (by omega);rw [<-m4_] at J;intro c hc;rcases u.kind with m|m|m|m|m|m
  . simp only [FEnc,m,Int.reduceBEq,cond_true] at hc
    intro e;subst e;revert hc;decide
  . simp only [FEnc,m,Int.reduceBEq,cond_true,cond_false] at hc
    intro e;subst e;revert hc;cases (j.n_ == 1)<;>decide
  . simp only [FEnc,m,Int.reduceBEq,cond_true,cond_false] at hc
    exact jg_ _ c hc
  . simp only [FEnc,m,Int.reduceBEq,cond_true,cond_false] at hc
    exact qesc_nl (text_nl (p.text m)) c hc
  all_goals (
   simp only [FEnc,m,Int.reduceBEq,cond_true,cond_false,List.mem_append,List.mem_singleton] at hc;rcases hc with (rfl|hc)|rfl
   . decide
   . exact J c hc
   . decide)
def eR_ (b:UInt8):Bs->List Bs
 |[]=>[[]]
 |c::l=>if c=b then []::eR_ b l else match eR_ b l with
  |[]=>[[c]]
  |p::ps=>(c::p)::ps
theorem kj_ (b:UInt8):∀ l,∃ p ps,eR_ b l=p::ps
 |[]=>⟨[],[],rfl⟩
 |c::l=>by
  obtain ⟨p,ps,e⟩:=kj_ b l;unfold eR_;by_cases h:c=b
  . rw [if_pos h];exact ⟨_,_,rfl⟩
  . rw [if_neg h,e];exact ⟨_,_,rfl⟩
theorem ki_ (b:UInt8):∀ (s:Bs) (k:Nat),s.count b<=k->Lib.splitK [b] 0 k s=eR_ b s
 |[],0,_=>rfl
 |[],k+1,_=>by rw [Lib.splitK];have:Lib.index [] [b] = -1:=rfl;rw [this,if_pos (by decide)];rfl
 |c::l,k,h=>by
  unfold eR_;by_cases e:c=b
  . subst e
    rw [List.count_cons_self] at h;obtain ⟨k,rfl⟩:∃ m,k=m+1:=⟨k - 1,by omega⟩
    rw [Lib.splitK,gn_,if_pos rfl,if_neg (by decide),if_pos rfl];show []::Lib.splitK [c] 0 k l=_;rw [ki_ c l k (by omega)]
  . rw [List.count_cons_of_ne e] at h
    have ih:=ki_ b l k h;rw [if_neg e,<-ih];cases k with
    |zero=>rfl
    |succ k=>
     have hx:Lib.index (c::l) [b]=if Lib.index l [b] = -1 then -1 else Lib.index l [b]+1:=by rw [gn_,if_neg (show ¬ b=c from fun h=>e h.symm)]
     rw [Lib.splitK,Lib.splitK,hx];by_cases p:Lib.index l [b] = -1
     . rw [if_pos p,if_pos (by decide),p,if_pos (by decide)]
     . have:=Lib.index_ge l [b]
       obtain ⟨i,hi⟩:∃ i:Nat,Lib.index l [b]=i:=⟨(Lib.index l [b]).toNat,by omega⟩
       rw [if_neg p,if_neg (by rw [hi];simp<;>omega),if_neg (by rw [hi];simp<;>omega),hi,show ((i:Int)+1).toNat=i+1 by omega,show ((i:Int)).toNat=i by omega];rfl
theorem split_one (b:UInt8) (s:Bs):Lib.split s [b]=eR_ b s:=by unfold Lib.split;rw [mQ_];exact ki_ b s _ (Nat.le_refl _)
theorem kk_ (b:UInt8):∀ (s:Bs),(eR_ b s).length<=s.length+1/\∀ p ∈ eR_ b s,p.length<=s.length
 |[]=>⟨Nat.le_refl _,fun p u=>by obtain rfl:=List.mem_singleton.1 u;exact Nat.le_refl _⟩
 |c::l=>by
  obtain ⟨m,k⟩:=kk_ b l;obtain ⟨p,ps,e⟩:=kj_ b l;unfold eR_;by_cases h:c=b
  . rw [if_pos h]
    refine ⟨by simp;omega,fun q hq => ?_⟩;rcases List.mem_cons.1 hq with rfl|hq
    . simp
    . have:=k q hq;simp;omega
  . rw [if_neg h,e]
    rw [e] at m k;refine ⟨by simp at m ⊢;omega,fun q hq => ?_⟩;rcases List.mem_cons.1 hq with rfl|hq
    . have:=k p (List.mem_cons_self ..);simp;omega
    . have:=k q (List.mem_cons_of_mem _ hq);simp;omega
theorem kl_ (b:UInt8) (r:Bs):∀ (a:Bs),(∀ c ∈ a,c≠b)->eR_ b (a++b::r)=a::eR_ b r
 |[],_=>by rw [List.nil_append,eR_,if_pos rfl]
 |c::a,h=>by rw [List.cons_append,eR_,if_neg (h c (List.mem_cons_self ..)),kl_ b r a fun x hx=>h x (List.mem_cons_of_mem _ hx)]
theorem nA_ (b:UInt8):∀ (a:Bs),(∀ c ∈ a,c≠b)->eR_ b a=[a]
 |[],_=>rfl
 |c::a,h=>by rw [eR_,if_neg (h c (List.mem_cons_self ..)),nA_ b a fun x hx=>h x (List.mem_cons_of_mem _ hx)]
theorem wesc_sl (s:Bs):∀ c ∈ s.flatMap gG_,c≠47:=by
 intro c hc;obtain ⟨b,_,hc⟩:=List.mem_flatMap.1 hc;unfold gG_ at hc;split at hc
 . intro e;subst e;revert hc;decide
 . split at hc
   . intro e;subst e;revert hc;decide
   . obtain rfl:=List.mem_singleton.1 hc;assumption
theorem pz_:∀ (w:List Bs),eR_ 47 (FWay w)=[]::w.map fun s=>s.flatMap gG_
 |[]=>rfl
 |s::w=>by
  have e:FWay (s::w)=[]++47::(s.flatMap gG_++FWay w):=rfl;rw [e,kl_ 47 _ [] (fun c h=>by cases h)]
  congr 1
  cases w with
  |nil=>
   have:FWay ([]:List Bs)=[]:=rfl;rw [this,List.append_nil,nA_ 47 _ (wesc_sl s)];rfl
  |cons t w=>
   have ih:=pz_ (t::w);have e2:FWay (t::w)=47::(t.flatMap gG_++FWay w):=rfl;rw [e2,eR_,if_pos rfl] at ih;rw [e2,kl_ 47 _ _ (wesc_sl s),List.map_cons,List.cons.inj ih |>.2]
def gZ_ (a b:UInt8) (new:Bs):Bs->Bs
 |[]=>[]
 |[x]=>[x]
 |x::y::l=>if x=a/\y=b then new++gZ_ a b new l else x::gZ_ a b new (y::l)
theorem k3_ (a b x:UInt8) (l:Bs):Lib.index (x::l) [a,b]=if x=a/\l.head?=some b then 0 else if Lib.index l [a,b] = -1 then -1 else Lib.index l [a,b]+1:=by
 rw [Lib.index];have:List.isPrefixOf [a,b] (x::l)=decide (x=a/\l.head?=some b):=by
  refine Bool.eq_iff_iff.2 ?_;cases l with
  |nil=>simp [List.isPrefixOf]
  |cons y l=>
   simp only [List.isPrefixOf,List.head?_cons,Option.some.injEq,decide_eq_true_eq,Bool.and_true,Bool.and_eq_true,beq_iff_eq];exact ⟨fun ⟨m,k⟩=>⟨m.symm,k.symm⟩,fun ⟨m,k⟩=>⟨m.symm,k.symm⟩⟩
 rw [this];by_cases h:x=a/\l.head?=some b
 . rw [decide_eq_true h,if_pos rfl,if_pos h]
 . rw [decide_eq_false h,if_neg (by simp),if_neg h]
   by_cases k:Lib.index l [a,b] = -1
   . rw [k,if_pos rfl,if_pos (by decide)]
   . rw [if_neg k,if_neg (by simpa using k)]
def cnt2 (a b:UInt8):Bs->Nat
 |[]=>0
 |[_]=>0
 |x::y::l=>if x=a/\y=b then 1+cnt2 a b l else cnt2 a b (y::l)
theorem rq_ (a b:UInt8):∀ l:Bs,cnt2 a b l<=l.length
 |[]=>Nat.le_refl _
 |[_]=>by simp [cnt2]
 |x::y::l=>by
  unfold cnt2;have m:=rq_ a b l;have k:=rq_ a b (y::l);split
  . simp;omega
  . simp at k ⊢;omega
theorem kI_ (a b:UInt8):∀ (s:Bs) (f:Nat),s.length<f->Lib.countFrom [a,b] f s=cnt2 a b s
 |[],f+1,_=>by rw [Lib.countFrom];have:Lib.index [] [a,b] = -1:=rfl;rw [this,if_pos (by decide)];rfl
 |[x],f+1,_=>by
  rw [Lib.countFrom];have:Lib.index [x] [a,b] = -1:=by rw [k3_,if_neg (by simp)];rfl
  rw [this,if_pos (by decide)];rfl
 |x::y::l,f+1,h=>by
  have hl:l.length+1<f:=by simpa using h
  unfold cnt2;by_cases e:x=a/\y=b
  . have hx:Lib.index (x::y::l) [a,b]=0:=by rw [k3_,if_pos (show x=a/\(y::l).head?=some b by simpa using e)]
    rw [if_pos e,Lib.countFrom,hx,if_neg (by decide)];show 1+Lib.countFrom [a,b] f l=_;rw [kI_ a b l f (by omega)]
  . have hx:Lib.index (x::y::l) [a,b]=if Lib.index (y::l) [a,b] = -1 then -1 else Lib.index (y::l) [a,b]+1:=by rw [k3_,if_neg (show ¬ (x=a/\(y::l).head?=some b) by simpa using e)]
    rw [if_neg e,<-kI_ a b (y::l) (f+1) (by simp;omega),Lib.countFrom,Lib.countFrom,hx];by_cases k:Lib.index (y::l) [a,b] = -1
    . rw [if_pos k,if_pos (by decide),k,if_pos (by decide)]
    . have:=Lib.index_ge (y::l) [a,b]
      obtain ⟨i,hi⟩:∃ i:Nat,Lib.index (y::l) [a,b]=i:=⟨(Lib.index (y::l) [a,b]).toNat,by omega⟩
      rw [if_neg k,if_neg (by rw [hi];simp<;>omega),if_neg (by rw [hi];simp<;>omega),hi,show ((i:Int)+1).toNat=i+1 by omega,show ((i:Int)).toNat=i by omega];rfl
theorem count2 (a b:UInt8) (s:Bs):Lib.count s [a,b]=cnt2 a b s:=kI_ a b s _ (Nat.lt_succ_self _)
theorem ma_ (a b:UInt8) (new:Bs):∀ (s:Bs) (k:Nat),cnt2 a b s<=k->Lib.replaceK [a,b] new k s=gZ_ a b new s
 |[],0,_=>rfl
 |[],k+1,_=>by rw [Lib.replaceK];have:Lib.index [] [a,b] = -1:=rfl;rw [this,if_pos (by decide)];rfl
 |[x],0,_=>rfl
 |[x],k+1,_=>by
  rw [Lib.replaceK];have:Lib.index [x] [a,b] = -1:=by rw [k3_,if_neg (by simp)];rfl
  rw [this,if_pos (by decide)];rfl
 |x::y::l,k,h=>by
  unfold cnt2 at h;unfold gZ_;by_cases e:x=a/\y=b
  . rw [if_pos e] at h ⊢
    obtain ⟨k,rfl⟩:∃ m,k=m+1:=⟨k - 1,by omega⟩
    have hx:Lib.index (x::y::l) [a,b]=0:=by rw [k3_,if_pos (show x=a/\(y::l).head?=some b by simpa using e)]
    rw [Lib.replaceK,hx,if_neg (by decide)];show []++new++Lib.replaceK [a,b] new k l=_;rw [ma_ a b new l k (by omega)];rfl
  . rw [if_neg e] at h ⊢
    have ih:=ma_ a b new (y::l) k h;rw [<-ih];cases k with
    |zero=>rfl
    |succ k=>
     have hx:Lib.index (x::y::l) [a,b]=if Lib.index (y::l) [a,b] = -1 then -1 else Lib.index (y::l) [a,b]+1:=by rw [k3_,if_neg (show ¬ (x=a/\(y::l).head?=some b) by simpa using e)]
     rw [Lib.replaceK,Lib.replaceK,hx];by_cases p:Lib.index (y::l) [a,b] = -1
     . rw [if_pos p,if_pos (by decide),p,if_pos (by decide)]
     . have:=Lib.index_ge (y::l) [a,b]
       obtain ⟨i,hi⟩:∃ i:Nat,Lib.index (y::l) [a,b]=i:=⟨(Lib.index (y::l) [a,b]).toNat,by omega⟩
       rw [if_neg p,if_neg (by rw [hi];simp<;>omega),if_neg (by rw [hi];simp<;>omega),hi,show ((i:Int)+1).toNat=i+1 by omega,show ((i:Int)).toNat=i by omega];rfl
theorem q0_ (a b:UInt8) (new s:Bs) (k:([a,b] == new)=false):Lib.replaceAll s [a,b] new=gZ_ a b new s:=by unfold Lib.replaceAll Lib.replace Lib.replaceNum;rw [k,if_neg (by simp),if_pos (.inl (by decide)),count2];exact ma_ a b new s _ (Nat.le_refl _)
theorem hp_ (a b c:UInt8):∀ l:Bs,(gZ_ a b [c] l).length<=l.length
 |[]=>Nat.le_refl _
 |[_]=>Nat.le_refl _
 |x::y::l=>by
  unfold gZ_;have m:=hp_ a b c l;have k:=hp_ a b c (y::l);split
  . simp;omega
  . simp at k ⊢;omega
theorem rZ_ (a b:UInt8) (new l:Bs):gZ_ a b new (a::b::l)=new++gZ_ a b new l:=by rw [gZ_,if_pos ⟨rfl,rfl⟩]
theorem mb_ {a b x:UInt8} (h:x≠a) (new l:Bs):gZ_ a b new (x::l)=x::gZ_ a b new l:=by
 cases l with
 |nil=>rfl
 |cons y l=>rw [gZ_,if_neg fun e=>h e.1]
theorem s0_ {a b y:UInt8} (h:y≠b) (new l:Bs) (k:y≠a):gZ_ a b new (a::y::l)=a::y::gZ_ a b new l:=by rw [gZ_,if_neg fun e=>h e.2,mb_ k]
def pp_ (c:UInt8):Bs:=if c=126 then [126,48] else [c]
theorem unesc1:∀ (s:Bs),gZ_ 126 49 [47] (s.flatMap gG_)=s.flatMap pp_
 |[]=>rfl
 |c::s=>by
  have ih:=unesc1 s;rw [List.flatMap_cons,List.flatMap_cons];generalize s.flatMap gG_=x at ih ⊢;generalize s.flatMap pp_=y at ih ⊢;by_cases k:c=126
  . have e1:gG_ c=[126,48]:=if_pos k
    have e2:pp_ c=[126,48]:=if_pos k;rw [e1,e2];show gZ_ 126 49 [47] (126::48::x)=126::48::y;rw [s0_ (by decide) _ _ (by decide),ih]
  . have e2:pp_ c=[c]:=if_neg k
    by_cases m:c=47
    . have e1:gG_ c=[126,49]:=by unfold gG_;rw [if_neg k,if_pos m]
      rw [e1,e2];show gZ_ 126 49 [47] (126::49::x)=c::y;rw [rZ_,ih,m];rfl
    . have e1:gG_ c=[c]:=by unfold gG_;rw [if_neg k,if_neg m]
      rw [e1,e2];show gZ_ 126 49 [47] (c::x)=c::y;rw [mb_ k,ih]
theorem unesc2:∀ (s:Bs),gZ_ 126 48 [126] (s.flatMap pp_)=s
 |[]=>rfl
 |c::s=>by
  have ih:=unesc2 s;rw [List.flatMap_cons];generalize s.flatMap pp_=y at ih ⊢;by_cases k:c=126
  . have e2:pp_ c=[126,48]:=if_pos k
    rw [e2];show gZ_ 126 48 [126] (126::48::y)=_;rw [rZ_,ih,k];rfl
  . have e2:pp_ c=[c]:=if_neg k
    rw [e2];show gZ_ 126 48 [126] (c::y)=_;rw [mb_ k,ih]
theorem hH_:∀ (d:Nat) (j:aa_),bI_ d j<=400->Ev (fun n _=>aO_ n j) (FEnc d j)
 |0,j,h=>by simp only [bI_] at h;omega
 |d+1,j,h=>by
  have Y:=(d8_ h).1;have hll:=eZ_ h;refine am_ ?_;have z:(j.kind=4\/j.kind=5)->∀ (K:Nat->Bs->Int->Int->Bs->List aa_->List Bs->Option Bs) (v:Bs),Ev (fun n N=>K n (eq_ (FEnc d) j j.list.length) j.kind j.n_ j.s j.list j.names) v->Ev (fun n _=>aO_.loop17 n (aO_ n) (K n) n [] 0 j.kind j.n_ j.s j.list j.names) v:=by
   intro O K v hK;refine eO_ (fun i=>eq_ (FEnc d) j i) j.list.length (fun n N i (o:Bs)=>aO_.loop17 n (aO_ n) (K n) N o (i:Int) j.kind j.n_ j.s j.list j.names) v (fun i hi F k => ?_) ?_
   . have V:=fF_ h hi
     have hx:=hH_ d (j.list.getD i aa_.dflt) V.size;have p:=oT_ h i (by omega);have T:=V.enc;have U:=W_up hi (show j.list.length<=cf_ by simp only [cf_];omega);rcases O with m|m
     . have u:(j.kind == 5)=false:=by rw [m];rfl
       by_cases S:i=0
       . have I:decide ((i:Int) > 0)=false:=decide_eq_false (by omega)
         have e0:eq_ (FEnc d) j i=[]:=by rw [S];rfl
         have e1:eq_ (FEnc d) j (i+1)=dJ_ (FEnc d) j i:=by rw [S];exact iv_ _ _
         rw [e1] at k;unfold dJ_ at k;rw [u,cond_false] at k;simp only [e0,aO_.turn17,aO_.step17,aY_,Int.toNat_natCast,U,u,I,reduceCtorEq,false_implies,true_implies,true_and,and_true,al_,bc_,dI_,cE_ hi,ch_ hi,ab_ hx,List.nil_append];generalize FEnc d (j.list.getD i aa_.dflt)=x at k T ⊢
         repeat' (first|apply And.intro|intro _)
         all_goals (first|contradiction|exact k|trivial|(rename_i hc;have hc:=of_decide_eq_false hc;simp only [List.length_append,List.length_cons,List.length_nil] at hc;omega))
       . rw [hf_ _ _ (by omega)] at k
         unfold dJ_ at k;rw [u,cond_false] at k;have I:decide ((i:Int) > 0)=true:=decide_eq_true (by omega);simp only [aO_.turn17,aO_.step17,aY_,Int.toNat_natCast,U,u,I,al_,bc_,dI_,cE_ hi,ch_ hi,ab_ hx];generalize FEnc d (j.list.getD i aa_.dflt)=x at k T ⊢;generalize eq_ (FEnc d) j i=o at k p ⊢
         repeat' (first|apply And.intro|intro _)
         all_goals (first|contradiction|exact k|trivial|(rename_i hc;have hc:=of_decide_eq_false hc;simp only [List.length_append,List.length_cons,List.length_nil] at hc;omega))
     . have u:(j.kind == 5)=true:=by rw [m];rfl
       have Z:=V.name m;have hq:=hW_ (s:=j.names.getD i []) (by omega);have J:=gp_ (j.names.getD i []);by_cases S:i=0
       . have I:decide ((i:Int) > 0)=false:=decide_eq_false (by omega)
         have e0:eq_ (FEnc d) j i=[]:=by rw [S];rfl
         have e1:eq_ (FEnc d) j (i+1)=dJ_ (FEnc d) j i:=by rw [S];exact iv_ _ _
         rw [e1] at k;unfold dJ_ at k;rw [u,cond_true] at k;simp only [e0,aO_.turn17,aO_.step17,aY_,Int.toNat_natCast,U,u,I,reduceCtorEq,false_implies,true_implies,true_and,and_true,al_,bc_,dI_,cE_ hi,ch_ hi,ch_ Z.1,ab_ hx,ab_ hq,List.nil_append];generalize FEnc d (j.list.getD i aa_.dflt)=x at k T ⊢;generalize dr_ (j.names.getD i [])=y at k J ⊢;rw [<-List.append_assoc] at k
         repeat' (first|apply And.intro|intro _)
         all_goals (first|contradiction|exact k|trivial|(rename_i hc;have hc:=of_decide_eq_false hc;simp only [List.length_append,List.length_cons,List.length_nil] at hc;omega))
       . rw [hf_ _ _ (by omega)] at k
         unfold dJ_ at k;rw [u,cond_true] at k;have I:decide ((i:Int) > 0)=true:=decide_eq_true (by omega);simp only [aO_.turn17,aO_.step17,aY_,Int.toNat_natCast,U,u,I,al_,bc_,dI_,cE_ hi,ch_ hi,ch_ Z.1,ab_ hx,ab_ hq];generalize FEnc d (j.list.getD i aa_.dflt)=x at k T ⊢;generalize dr_ (j.names.getD i [])=y at k J ⊢;generalize eq_ (FEnc d) j i=o at k p ⊢;rw [<-List.append_assoc,<-List.append_assoc] at k
         repeat' (first|apply And.intro|intro _)
         all_goals (first|contradiction|exact k|trivial|(rename_i hc;have hc:=of_decide_eq_false hc;simp only [List.length_append,List.length_cons,List.length_nil] at hc;omega))
   . simp only [aO_.turn17,aO_.step17,co_,cond_false]
     exact hK
  have p:=oT_ h j.list.length (Nat.le_refl _);simp only [aO_,aY_];rcases Y.kind with m|m|m|m|m|m
  . simp only [FEnc,m,Int.reduceBEq,cond_true,ae_]
  . simp only [FEnc,m,Int.reduceBEq,cond_true,cond_false,al_,ae_]
    cases (j.n_ == 1)<;>simp
  . have Z:=Y.num m
    simp only [FEnc,m,Int.reduceBEq,cond_true,cond_false,ab_ (c4_ (x:=j.n_) (by omega) (by omega)),ae_]
  . have hs:=Y.text m
    simp only [FEnc,m,Int.reduceBEq,cond_true,cond_false,ab_ (hW_ (s:=j.s) (by omega)),ae_]
  all_goals (
   have e0:(j.kind == 0)=false:=by rw [m];rfl
   have e1:(j.kind == 1)=false:=by rw [m];rfl
   have e2:(j.kind == 2)=false:=by rw [m];rfl
   have e3:(j.kind == 3)=false:=by rw [m];rfl
   simp only [FEnc,e0,e1,e2,e3,cond_false];refine z (by omega) _ _ ?_;generalize eq_ (FEnc d) j j.list.length=o at p ⊢;simp only [m,Int.reduceBEq,cond_true,cond_false,al_,ae_,dI_];refine ⟨fun _=>⟨fun _=>trivial,fun hc => ?_⟩,fun hc => ?_⟩
   . have hc:=of_decide_eq_false hc
     simp only [List.length_append,List.length_cons,List.length_nil] at hc;omega
   . have hc:=of_decide_eq_false hc
     simp only [List.length_append,List.length_cons,List.length_nil] at hc;omega)
theorem Join_ev {l:List Bs} {sep:Bs} (hl:l.length<=1000000) (k:(Lib.join l sep).length<=1000000000):Ev (fun n _=>strings_Join n l sep) (Lib.join l sep):=by refine am_ ?_;simp only [strings_Join,nJoin,al_,ae_,dI_];refine ⟨fun _=>trivial,fun h => ?_⟩;rw [decide_eq_true (by omega),decide_eq_true (by omega)] at h;cases h
theorem ib_:∀ (d:Nat) (j:aa_),bI_ d j<=400->Ev (fun n _=>be_ n j) (FEnc d j)
 |0,j,h=>by simp only [bI_] at h;omega
 |d+1,j,h=>by
  have J:=(d8_ h).1;have Y:=eZ_ h;refine am_ ?_;have u:∀ (K:Nat->Int->Int->Bs->List aa_->List Bs->List Bs->Option Bs) (v:Bs),Ev (fun n N=>K n j.kind j.n_ j.s j.list j.names ((List.range j.list.length).map (dJ_ (FEnc d) j))) v->Ev (fun n _=>be_.loop4 n (be_ n) (K n) n j.list (j.list.length:Int) 0 j.kind j.n_ j.s j.list j.names []) v:=by
   intro K v Z;refine eO_ (fun i=>(List.range i).map (dJ_ (FEnc d) j)) j.list.length (fun n N i (o:List Bs)=>be_.loop4 n (be_ n) (K n) N j.list (j.list.length:Int) (i:Int) j.kind j.n_ j.s j.list j.names o) v (fun i hi F p => ?_) ?_
   . have S:=fF_ h hi
     have hx:=ib_ d (j.list.getD i aa_.dflt) S.size;have U:=S.enc;have V:=W_up hi (show j.list.length<=cf_ by simp only [cf_];omega);have k:((List.range i).map (dJ_ (FEnc d) j)).length=i:=by simp
     rw [List.range_succ,List.map_append,List.map_cons,List.map_nil] at p;unfold dJ_ at p;cases I:(j.kind == 5) with
     |false=>
      simp only [I,cond_false] at p;unfold dJ_ at k ⊢;simp only [I,cond_false] at k ⊢;simp only [be_.turn4,be_.step4,aY_,Int.toNat_natCast,V,I,cond_false,al_,bc_,dI_,ba_,cE_ hi,ch_ hi,ab_ hx];generalize FEnc d (j.list.getD i aa_.dflt)=x at p U ⊢;generalize (List.range i).map _=o at p k ⊢;exact ⟨fun _=>⟨trivial,by simp;omega,p⟩,fun h=>(by cases h)⟩
     |true=>
      have T:=S.name (by simpa using I);have hq:=iY_ (s:=j.names.getD i []) (by omega);have O:=gp_ (j.names.getD i []);simp only [I,cond_true] at p;unfold dJ_ at k ⊢;simp only [I,cond_true] at k ⊢;simp only [be_.turn4,be_.step4,aY_,Int.toNat_natCast,V,I,cond_true,al_,bc_,dI_,ba_,cE_ hi,ch_ hi,ch_ T.1,ab_ hx,ab_ hq];generalize FEnc d (j.list.getD i aa_.dflt)=x at p U ⊢;generalize dr_ (j.names.getD i [])=y at p O ⊢;generalize (List.range i).map _=o at p k ⊢;rw [<-List.append_assoc] at p
      repeat' (first|apply And.intro|intro _)
      all_goals (first|contradiction|exact p|trivial|(rename_i hc;have hc:=of_decide_eq_false hc;simp only [List.length_append,List.length_cons,List.length_nil] at hc;omega)|(simp;omega))
   . simp only [be_.turn4,be_.step4,co_,cond_false]
     exact Z
  have z:=oT_ h j.list.length (Nat.le_refl _);have hJ:=Join_ev (l:=(List.range j.list.length).map (dJ_ (FEnc d) j)) (sep:=[44]) (by simp;omega) (by unfold eq_ at z;omega);simp only [be_,aY_];refine u _ _ ?_;rcases J.kind with m|m|m|m|m|m
  . simp only [FEnc,m,Int.reduceBEq,cond_true,ae_]
  . have hb:=J.bool m
    simp only [FEnc,m,Int.reduceBEq,cond_true,cond_false,bc_,ae_];have:j.n_=0\/j.n_=1:=by omega
    rcases this with e|e<;>rw [e]<;>exact ⟨⟨by decide,by decide⟩,rfl⟩
  . have T:=J.num m
    simp only [FEnc,m,Int.reduceBEq,cond_true,cond_false,ab_ (Itoa_ev (x:=j.n_) (by omega) (by omega)),ae_]
  . have hs:=J.text m
    simp only [FEnc,m,Int.reduceBEq,cond_true,cond_false,ab_ (iY_ (s:=j.s) (by omega)),ae_]
  all_goals (
   simp only [FEnc,m,Int.reduceBEq,cond_true,cond_false,ab_ hJ];unfold eq_ at z ⊢;generalize Lib.join ((List.range j.list.length).map (dJ_ (FEnc d) j)) [44]=o at z ⊢;simp only [al_,ae_,dI_];refine ⟨fun _=>⟨fun _=>trivial,fun hc => ?_⟩,fun hc => ?_⟩
   . have hc:=of_decide_eq_false hc
     simp only [List.length_append,List.length_cons,List.length_nil] at hc;omega
   . have hc:=of_decide_eq_false hc
     simp only [List.length_append,List.length_cons,List.length_nil] at hc;omega)
def bC_ (j:aa_):Bs:=cond (cM_ j) (cond (decide (((FEnc 6 j).length:Int) > 6000)) [] (FEnc 6 j)) []
theorem dY_ {j:aa_} (h:fx_ 6 j):Ev (fun n _=>c3_ n j) (bC_ j):=by
 refine am_ ?_;simp only [c3_,aY_,ab_ (dD_ h),al_,ae_,bC_];cases k:cM_ j with
 |false=>simp
 |true=>
  simp only [ab_ (hH_ 6 j (of_decide_eq_true k)),al_,ae_];cases decide (((FEnc 6 j).length:Int) > 6000)<;>simp
theorem ep_ {j:aa_} (h:fx_ 6 j):Ev (fun n _=>dw_ n j) (bC_ j):=by
 refine am_ ?_;simp only [dw_,aY_,ab_ (eK_ h),al_,ae_,bC_];cases k:cM_ j with
 |false=>simp
 |true=>
  simp only [ab_ (ib_ 6 j (of_decide_eq_true k)),al_,ae_];cases decide (((FEnc 6 j).length:Int) > 6000)<;>simp
def tw_:Nat->aa_->Prop
 |0,_=>False
 |d+1,j=>∀ x ∈ j.list,tw_ d x
theorem he_:∀ (d:Nat) (j:aa_),bI_ d j<=400->tw_ d j
 |0,j,h=>by simp only [bI_] at h;omega
 |d+1,j,h=>fun x hx=>by
  refine he_ d x ?_;simp only [bI_] at h;have:=i5_ (bI_ d) hx;cases k:FOwn j with
  |false=>rw [k] at h;simp only [cond_false] at h;omega
  |true=>rw [k] at h;simp only [cond_true] at h;omega
def jn_ (a b:List Bs):Bool:=decide (a.length=b.length)&&iO_ (fun i=>a.getD i [] == b.getD i []) a.length
def e9_:Nat->aa_->aa_->Bool
 |0,_,_=>true
 |d+1,a,b=>(a.kind == b.kind)&&((a.n_ == b.n_)&&((a.s == b.s)&&(jn_ a.names b.names&&(decide (a.list.length=b.list.length)&&iO_ (fun i=>e9_ d (a.list.getD i aa_.dflt) (b.list.getD i aa_.dflt)) a.list.length))))
theorem r5_ {n m:Nat}:((n:Int) != (m:Int)) = !decide (n=m):=by
 by_cases h:n=m
 . rw [h,decide_eq_true rfl];simp
 . rw [decide_eq_false h];simp;omega
theorem fN_:∀ (d:Nat) (a b:aa_),tw_ d a->fx_ d a->Ev (fun n _=>aq_ n a b) (e9_ d a b)
 |0,a,b,h,_=>h.elim
 |d+1,a,b,h,hl=>by
  refine am_ ?_;simp only [aq_,r5_,al_,ae_,e9_,jn_];by_cases hq:a.list.length=b.list.length
  . by_cases k:a.names.length=b.names.length
    . have m:Ev (fun n _=>aq_.loop14 n (aq_ n) (some true) n 0 a.kind a.n_ a.s a.list a.names b.kind b.n_ b.s b.list b.names) (iO_ (fun i=>a.names.getD i [] == b.names.getD i []) a.names.length):=by
       refine gj_ (e8_ (fun n N i=>aq_.loop14 n (aq_ n) (some true) N (i:Int) a.kind a.n_ a.s a.list a.names b.kind b.n_ b.s b.list b.names) (fun i=>a.names.getD i [] == b.names.getD i []) (len:=a.names.length) (v:=true) (fun i w hi ih => ?_) ?_) (by rw [Bool.and_true])
       . simp only [aq_.turn14,aq_.step14,Int.toNat_natCast,W_up hi hl.1.2.1,al_,bc_,ae_,dK_ ih,cE_ hi,ch_ hi,ch_ (k ▸ hi)]
         cases (a.names.getD i [] == b.names.getD i [])<;>simp
       . simp only [aq_.turn14,aq_.step14,co_,cond_false,ae_]
      have p:Ev (fun n _=>aq_.loop6 n (aq_ n) (fun B2 B3 B4 B5 B6 B7 B8 B9 B10 B11=>(aq_.loop14 n (aq_ n) (some true) n 0 B2 B3 B4 B5 B6 B7 B8 B9 B10 B11)) n 0 a.kind a.n_ a.s a.list a.names b.kind b.n_ b.s b.list b.names) (iO_ (fun i=>e9_ d (a.list.getD i aa_.dflt) (b.list.getD i aa_.dflt)) a.list.length&&iO_ (fun i=>a.names.getD i [] == b.names.getD i []) a.names.length):=by
       refine e8_ (fun n N i=>aq_.loop6 n (aq_ n) (fun B2 B3 B4 B5 B6 B7 B8 B9 B10 B11=>(aq_.loop14 n (aq_ n) (some true) n 0 B2 B3 B4 B5 B6 B7 B8 B9 B10 B11)) N (i:Int) a.kind a.n_ a.s a.list a.names b.kind b.n_ b.s b.list b.names) _ (fun i w hi ih => ?_) ?_
       . have hx:=fN_ d (a.list.getD i aa_.dflt) (b.list.getD i aa_.dflt) (h _ (b2_ _ hi)) (hl.2.2 _ (b2_ _ hi))
         simp only [aq_.turn6,aq_.step6,aY_,Int.toNat_natCast,W_up hi hl.2.1,al_,bc_,ab_ hx,ae_,dK_ ih,cE_ hi,ch_ hi,ch_ (hq ▸ hi)];cases e9_ d (a.list.getD i aa_.dflt) (b.list.getD i aa_.dflt)<;>simp
       . simp only [aq_.turn6,aq_.step6,co_,cond_false]
         exact m
      rw [decide_eq_true hq,decide_eq_true k];simp only [dK_ p,bne];generalize iO_ (fun i=>e9_ d (a.list.getD i aa_.dflt) (b.list.getD i aa_.dflt)) a.list.length=u;generalize iO_ (fun i=>a.names.getD i [] == b.names.getD i []) a.names.length=w;cases (a.kind == b.kind)<;>cases (a.n_ == b.n_)<;>cases (a.s == b.s)<;>cases u<;>cases w<;>simp
    . rw [decide_eq_false k]
      simp only [bne];cases (a.kind == b.kind)<;>cases (a.n_ == b.n_)<;>cases (a.s == b.s)<;>cases decide (a.list.length=b.list.length)<;>simp
  . rw [decide_eq_false hq]
    simp only [bne];cases (a.kind == b.kind)<;>cases (a.n_ == b.n_)<;>cases (a.s == b.s)<;>simp
def g1_ (ns:List Bs) (x:Bs):Nat:=ns.findIdx (fun y => !Op.bytesLess y x)
def g0_ (ns:List Bs) (x:Bs):Nat:=if ns.getD (g1_ ns x) []=x/\g1_ ns x<ns.length then g1_ ns x+1 else g1_ ns x
def mc_ {α:Type} (ns:List Bs) (x:Bs) (l:List α) (y:α):List α:=l.take (g1_ ns x)++[y]++l.drop (g0_ ns x)
theorem ix_ {α:Type} (d:α) {a m:List α} {i q:Nat} (p:Nat) (hi:i<a.length) (h:q<=i):a.take p++m++(a.take (i+1)).drop q=a.take p++m++(a.take i).drop q++[a.getD i d]:=by rw [cH_ d hi,List.drop_append_of_le_length (by simp;omega)];simp
theorem put_idx {ns:List Bs} {x:Bs} {i:Nat} (hi:i<ns.length) (k:i<=g1_ ns x):(!Op.bytesLess (ns.getD i []) x)=decide (i=g1_ ns x):=by
 rw [List.getD_eq_getElem?_getD,List.getElem?_eq_getElem hi,Option.getD_some];unfold g1_ at k ⊢;by_cases h:i=ns.findIdx (fun y => !Op.bytesLess y x)
 . rw [decide_eq_true h]
   have:=List.findIdx_getElem (xs:=ns) (p:=fun y => !Op.bytesLess y x) (w:=by omega);simp only [<-h] at this;exact this
 . rw [decide_eq_false h]
   exact List.not_of_lt_findIdx (xs:=ns) (p:=fun y => !Op.bytesLess y x) (i:=i) (by omega)
theorem hk_ {o j:aa_} {x:Bs} (hk:o.names.length<=2000000) (he:o.list.length=o.names.length) (V:∀ y,Op.bytesLess y x=true->(y == x)=false) (U:∀ i,g0_ o.names x<=i->i<o.names.length->(o.names.getD i [] == x)=false) :
  Ev (fun n _=>bP_ n o x j) (aa_.mk 5 0 [] (mc_ o.names x o.list j) (mc_ o.names x o.names x)):=by
 refine am_ ?_;have ht:o.names.length<=cf_:=by simp only [cf_];omega
 obtain ⟨p,J⟩:∃ p,p=g1_ o.names x:=⟨_,rfl⟩
 have hpl:p<=o.names.length:=by rw [J];exact List.findIdx_le_length
 obtain ⟨q,hq⟩:∃ q,q=g0_ o.names x:=⟨_,rfl⟩
 have Z:p<=q/\q<=p+1:=by rw [hq,J];unfold g0_;split<;>omega
 have hT:o.list.take o.names.length=o.list:=List.take_of_length_le (by omega)
 let S:Nat->Bool × List aa_ × List Bs:=fun i=>if i<=p then (false,o.list.take i,o.names.take i) else (true,o.list.take p++[j]++(o.list.take i).drop q,o.names.take p++[x]++(o.names.take i).drop q)
 have Y:S 0=(false,[],[]):=by simp [S]
 simp only [bP_];have:=eO_ S o.names.length (fun n N i (s:Bool × List aa_ × List Bs)=>bP_.loop5 n (fun B1 B2 B3 B4 B5 B6 B7 B8 B9 B10 B11 B12 B13 B14 B15=>(cond (!B2) (bk_ (B15.length+([B1]:List Bs).length) 16 (bk_ (B14.length+([(aa_.mk B3 B4 B5 B6 B7)]:List aa_).length) 80 (some (aa_.mk B11 B12 B13 (B14++([(aa_.mk B3 B4 B5 B6 B7)]:List aa_)) (B15++([B1]:List Bs)))))) (some (aa_.mk B11 B12 B13 B14 B15)))) N x s.1 (i:Int) o.kind o.n_ o.s o.list o.names j.kind j.n_ j.s j.list j.names 0 0 [] 5 0 [] s.2.1 s.2.2)
  (aa_.mk 5 0 [] (mc_ o.names x o.list j) (mc_ o.names x o.names x)) (fun i hi F I => ?_) ?_
 . rw [Y] at this;exact this
 . have hx:=put_idx (ns:=o.names) (x:=x) hi
   rw [<-J] at hx;have O:(S i).2.2.length<=o.names.length+1:=by simp only [S];split<;>simp<;>omega
   have T:(S i).2.1.length<=o.names.length+1:=by simp only [S];split<;>simp<;>omega
   have z:i<o.list.length:=by omega
   simp only [bP_.turn5,bP_.step5,ej_,aY_,Int.toNat_natCast,W_up hi ht,al_,bc_,ba_,cE_ hi,ch_ hi,ch_ z];by_cases m:i<=p
   . have s1:S i=(false,o.list.take i,o.names.take i):=by simp only [S,if_pos m]
     rw [s1] at O T ⊢;by_cases e:i=p
     . have hb:(!Op.bytesLess (o.names.getD i []) x)=true:=by rw [hx m];exact decide_eq_true e
       subst e;by_cases hs:o.names.getD i []=x
       . have u:q=i+1:=by rw [hq];unfold g0_;rw [<-J,if_pos ⟨hs,hi⟩]
         have s2:S (i+1)=(true,o.list.take i++[j],o.names.take i++[x]):=by simp only [S,if_neg (show ¬ i+1<=i by omega)];rw [List.drop_eq_nil_of_le (by simp;omega),List.drop_eq_nil_of_le (by simp;omega),List.append_nil,List.append_nil]
         rw [s2] at I;have k:(o.names.getD i [] == x)=true:=by simpa using hs
         simp only [hb,k,cond_true,cond_false,Bool.not_true,Bool.not_false]
         repeat' (first|apply And.intro|intro _)
         all_goals (first|contradiction|exact I|trivial|(simp;omega))
       . have u:q=i:=by rw [hq];unfold g0_;rw [<-J,if_neg (fun h=>hs h.1)]
         have s2:S (i+1)=(true,o.list.take i++[j]++[o.list.getD i aa_.dflt],o.names.take i++[x]++[o.names.getD i []]):=by simp only [S,if_neg (show ¬ i+1<=i by omega),u];rw [ix_ aa_.dflt i z (Nat.le_refl _),ix_ [] i hi (Nat.le_refl _),List.drop_eq_nil_of_le (by simp;omega),List.drop_eq_nil_of_le (by simp;omega),List.append_nil,List.append_nil]
         rw [s2] at I;have k:(o.names.getD i [] == x)=false:=by simpa using hs
         simp only [hb,k,cond_true,cond_false,Bool.not_true,Bool.not_false]
         repeat' (first|apply And.intro|intro _)
         all_goals (first|contradiction|exact I|trivial|(simp;omega))
     . have hb:(!Op.bytesLess (o.names.getD i []) x)=false:=by rw [hx m];exact decide_eq_false e
       have k:(o.names.getD i [] == x)=false:=V (o.names.getD i []) (by rw [Bool.not_eq_false'] at hb;exact hb);have s2:S (i+1)=(false,o.list.take i++[o.list.getD i aa_.dflt],o.names.take i++[o.names.getD i []]):=by simp only [S,if_pos (show i+1<=p by omega),cH_ aa_.dflt z,cH_ [] hi]
       rw [s2] at I;simp only [hb,k,cond_true,cond_false,Bool.not_true,Bool.not_false]
       repeat' (first|apply And.intro|intro _)
       all_goals (first|contradiction|exact I|trivial|(simp;omega))
   . have s1:S i=(true,o.list.take p++[j]++(o.list.take i).drop q,o.names.take p++[x]++(o.names.take i).drop q):=by simp only [S,if_neg m]
     have s2:S (i+1)=(true,o.list.take p++[j]++(o.list.take i).drop q++[o.list.getD i aa_.dflt],o.names.take p++[x]++(o.names.take i).drop q++[o.names.getD i []]):=by simp only [S,if_neg (show ¬ i+1<=p by omega)];rw [ix_ aa_.dflt p z (by omega),ix_ [] p hi (by omega)]
     have k:=U i (by omega) hi;rw [s1] at O T ⊢;rw [s2] at I;simp only [k,cond_true,cond_false,Bool.not_true,Bool.not_false]
     repeat' (first|apply And.intro|intro _)
     all_goals (first|contradiction|exact I|trivial|(simp at O T ⊢;omega))
 . simp only [bP_.turn5,bP_.step5,ej_,co_,cond_false,al_,ba_,ae_]
   unfold mc_;rw [<-J,<-hq];by_cases m:o.names.length<=p
   . have e:p=o.names.length:=by omega
     have u:q=p:=by rw [hq];unfold g0_;rw [<-J,if_neg (fun h=>by omega)]
     have s1:S o.names.length=(false,o.list,o.names):=by simp only [S,if_pos m,List.take_length];rw [List.take_of_length_le (by omega)]
     rw [s1,u,e,List.take_of_length_le (l:=o.list) (by omega),List.drop_eq_nil_of_le (show o.list.length<=o.names.length by omega),List.take_length,List.drop_length];refine ⟨fun _=>⟨by simp;omega,by simp;omega,by simp⟩,fun h=>(by cases h)⟩
   . have s1:S o.names.length=(true,o.list.take p++[j]++o.list.drop q,o.names.take p++[x]++o.names.drop q):=by simp only [S,if_neg m,List.take_length];rw [hT]
     rw [s1];exact ⟨fun h=>(by cases h),fun _=>rfl⟩
theorem jk_:∀ (x y:Bs),Op.bytesLess x y=decide (x<y)
 |[],[]=>by simp [Op.bytesLess]
 |_::_,[]=>by simp [Op.bytesLess]
 |[],_::_=>by simp [Op.bytesLess]
 |a::x,b::y=>by rw [Op.bytesLess,jk_ x y];simp only [List.cons_lt_cons_iff];by_cases p:a<b<;>by_cases m:a=b<;>by_cases k:x<y<;>simp [p,m,k]
theorem less_ne {x y:Bs} (h:Op.bytesLess y x=true):(y == x)=false:=by rw [jk_] at h;exact beq_eq_false_iff_ne.2 fun e=>by subst e;exact List.lt_irrefl y (of_decide_eq_true h)
def g8_:aa_:=aa_.mk 0 0 [] [] []
def eV_ (j:aa_):aa_:=cond (cM_ j) j g8_
theorem orNull_ev {j:aa_} (h:fx_ 6 j):Ev (fun n _=>em_ n j) (eV_ j):=by refine am_ ?_;simp only [em_,aY_,ab_ (eK_ h),al_,ae_,eV_,g8_];cases cM_ j<;>simp
theorem fV_ {d:Nat} {j:aa_} (h:bI_ (d+1) j<=400):j.names.length<=400:=by
 have z:=eZ_ h;have p:=(d8_ h).1;by_cases m:j.kind=5
 . have:=(p.obj m).1;omega
 . have:FOwn j=true:=by
    simp only [bI_] at h;cases u:FOwn j with
    |true=>rfl
    |false=>rw [u,cond_false] at h;omega
   unfold FOwn at this;simp only [Bool.and_eq_true,Bool.or_eq_true] at this;rcases this.2.1 with k|k
   . have:=of_decide_eq_true k;omega
   . exact absurd (by simpa using k) m
theorem f4_:∀ (d:Nat) (j:aa_),bI_ d j<=400->Ev (fun n _=>bd_ n j) j
 |0,j,h=>by simp only [bI_] at h;omega
 |d+1,j,h=>by
  have u:=eZ_ h;have p:=fV_ h;refine am_ ?_;have hc:Ev (fun n _=>dE_ n j.names) j.names:=am_ (by simp only [dE_,ba_,ae_,List.nil_append,List.length_nil,and_true];omega);simp only [bd_,ab_ hc];have:=eO_ (fun i=>j.list.take i) j.list.length (fun n N i (o:List aa_)=>bd_.loop4 n (bd_ n) (fun B3 B4 B5 B6 B7 B8 B9 B10=>(some (aa_.mk B6 B7 B8 B9 B10))) N j.list (j.list.length:Int) (i:Int) 0 0 [] j.kind j.n_ j.s o j.names) j (fun i hi F k => ?_) ?_
  . exact this
  . have m:=fF_ h hi
    have hx:=f4_ d (j.list.getD i aa_.dflt) m.size;rw [cH_ aa_.dflt hi] at k;simp only [bd_.turn4,bd_.step4,aY_,Int.toNat_natCast,W_up hi (show j.list.length<=cf_ by simp only [cf_];omega),al_,bc_,ba_,cE_ hi,ch_ hi,ab_ hx];exact ⟨fun _=>⟨trivial,by simp;omega,k⟩,fun h=>(by cases h)⟩
  . simp only [bd_.turn4,bd_.step4,co_,cond_false,List.take_length,ae_,ej_]
theorem e4_:∀ (d:Nat) (j:aa_),bI_ d j<=400->Ev (fun n _=>br_ n j) j
 |0,j,h=>by simp only [bI_] at h;omega
 |d+1,j,h=>by
  have u:=eZ_ h;have p:=fV_ h;refine am_ ?_;simp only [br_,ba_,List.nil_append,List.length_nil];refine ⟨by omega,?_⟩;have:=eO_ (fun i=>j.list.take i) j.list.length (fun n N i (o:List aa_)=>br_.loop4 n (br_ n) (fun B2 B3 B4 B5 B6 B7 B8 B9=>(some (aa_.mk B5 B6 B7 B8 B9))) N (i:Int) j.kind j.n_ j.s j.list j.names 0 0 [] j.kind j.n_ j.s o j.names) j (fun i hi F k => ?_) ?_
  . exact this
  . have m:=fF_ h hi
    have hx:=e4_ d (j.list.getD i aa_.dflt) m.size;rw [cH_ aa_.dflt hi] at k;simp only [br_.turn4,br_.step4,aY_,Int.toNat_natCast,W_up hi (show j.list.length<=cf_ by simp only [cf_];omega),al_,bc_,ba_,cE_ hi,ch_ hi,ab_ hx];exact ⟨fun _=>⟨trivial,by simp;omega,k⟩,fun h=>(by cases h)⟩
  . simp only [br_.turn4,br_.step4,co_,cond_false,List.take_length,ae_,ej_]
def j6_ (j:aa_):Bool:=(j.kind == 0)&&((j.n_ == 0)&&((j.s == [])&&(decide (j.list.length=0)&&decide (j.names.length=0))))
theorem oK_ {α:Type} (l:List α):((l.length:Int) == 0)=decide (l.length=0):=by
 by_cases h:l.length=0
 . rw [h];rfl
 . rw [decide_eq_false h];simp;intro e;exact h (by rw [e];rfl)
theorem iZ_ {j:aa_}:Ev (fun n _=>d5_ n j) (j6_ j):=by refine am_ ?_;simp only [d5_,al_,ae_,j6_,oK_];cases (j.kind == 0)<;>cases (j.n_ == 0)<;>cases (j.s == [])<;>cases decide (j.list.length=0)<;>simp
theorem tz_ (d:Nat) (j:aa_):e9_ (d+1) j g8_=j6_ j:=by
 simp only [e9_,g8_,jn_,j6_,List.length_nil];by_cases m:j.names.length=0
 . by_cases k:j.list.length=0
   . rw [m,k];simp [iO_,io_]
   . have k:j.list≠[]:=fun e=>k (by rw [e];rfl)
     simp [k]
 . have m:j.names≠[]:=fun e=>m (by rw [e];rfl)
   simp [m]
def sP_ (w:List Bs):Bool:=iO_ (fun i=>jo_ (w.getD i [])) w.length
def iQ_ (o:TOp):Bool:=inn o.kind 1 4&&(decide (o.way.length<=6)&&(cM_ o.value&&(sP_ o.way&&((o.kind != 2)||j6_ o.value))))
def fW_ (o:TOp):Prop:=lenNs cf_ o.way/\fx_ 6 o.value
theorem hK_ (o:TOp):TOp.mk o.kind o.way o.value=o:=rfl
theorem gt_le {n:Nat}:decide ((n:Int) > 6) = !decide (n<=6):=by
 by_cases h:n<=6
 . rw [decide_eq_true h,decide_eq_false (by omega)];rfl
 . rw [decide_eq_false h,decide_eq_true (by omega)];rfl
theorem le_le {n:Nat}:decide ((n:Int)<=6)=decide (n<=6):=by
 by_cases h:n<=6
 . rw [decide_eq_true h,decide_eq_true (by omega)]
 . rw [decide_eq_false h,decide_eq_false (by omega)]
theorem pC_ {o:TOp} (h:fW_ o):Ev (fun n _=>cy_ n o) (iQ_ o):=by
 refine am_ ?_;simp only [cy_,aY_,fX_,ab_ (dD_ h.2),al_,ae_,gt_le,iQ_];cases m:cM_ o.value with
 |false=>cases inn o.kind 1 4<;>cases decide (o.way.length<=6)<;>simp
 |true=>
  have k:=fN_ 6 o.value g8_ (he_ 6 o.value (of_decide_eq_true m)) h.2;rw [tz_] at k;unfold g8_ at k;have hl:Ev (fun n _=>cy_.loop6 n (fun B4 B5 B6 B7 B8 B9 B10=>(cond (B4 != 2) (some true) ((aq_ n (aa_.mk B6 B7 B8 B9 B10) (aa_.mk 0 0 [] [] [])).bind fun A11=>(some A11)))) n 0 o.kind o.way o.value.kind o.value.n_ o.value.s o.value.list o.value.names) (sP_ o.way&&((o.kind != 2)||j6_ o.value)):=by
   refine e8_ (fun n N i=>cy_.loop6 n (fun B4 B5 B6 B7 B8 B9 B10=>(cond (B4 != 2) (some true) ((aq_ n (aa_.mk B6 B7 B8 B9 B10) (aa_.mk 0 0 [] [] [])).bind fun A11=>(some A11)))) N (i:Int) o.kind o.way o.value.kind o.value.n_ o.value.s o.value.list o.value.names) _ (fun i w hi ih => ?_) ?_
   . simp only [cy_.turn6,cy_.step6,Int.toNat_natCast,W_up hi h.1.1,al_,bc_,ab_ (gW_ (jW_ h.1 i)),ae_,dK_ ih,cE_ hi,ch_ hi]
     cases jo_ (o.way.getD i [])<;>simp
   . simp only [cy_.turn6,cy_.step6,co_,cond_false,ej_,al_,ab_ k,ae_]
     cases (o.kind != 2)<;>simp
  simp only [dK_ hl];cases inn o.kind 1 4<;>cases decide (o.way.length<=6)<;>simp
theorem ig_ {o:TOp} (h:fW_ o):Ev (fun n _=>cz_ n o) (iQ_ o):=by
 refine am_ ?_;simp only [cz_];have e:iQ_ o=(sP_ o.way&&(inn o.kind 1 4&&(decide (o.way.length<=6)&&(cM_ o.value&&((o.kind != 2)||j6_ o.value))))):=by unfold iQ_;cases inn o.kind 1 4<;>cases decide (o.way.length<=6)<;>cases cM_ o.value<;>cases sP_ o.way<;>simp
 rw [e];refine e8_ (fun n N i=>cz_.loop3 n (fun B2 B3 B4 B5 B6 B7 B8=>((aN_ n B2 1 4).bind fun A9=>(cond A9 (cond (decide ((B3.length:Int)<=6)) ((db_ n (aa_.mk B4 B5 B6 B7 B8)).bind fun A10=>(cond A10 (cond (B2 != 2) (some true) ((d5_ n (aa_.mk B4 B5 B6 B7 B8)).bind fun A11=>(some A11))) (some false))) (some false)) (some false)))) N o.way (o.way.length:Int) (i:Int) o.kind o.way o.value.kind o.value.n_ o.value.s o.value.list o.value.names) _ (fun i w hi ih => ?_) ?_
 . simp only [cz_.turn3,cz_.step3,Int.toNat_natCast,W_up hi h.1.1,al_,bc_,ab_ (g3_ (jW_ h.1 i)),ae_,dK_ ih,cE_ hi,ch_ hi]
   cases jo_ (o.way.getD i [])<;>simp
 . simp only [cz_.turn3,cz_.step3,co_,cond_false,ej_,al_,gI_,le_le,ab_ (eK_ h.2),ab_ iZ_,ae_]
   cases inn o.kind 1 4<;>cases decide (o.way.length<=6)<;>cases cM_ o.value<;>cases (o.kind != 2)<;>simp
def f8_ (k:Int):Bs:=cond (k == 1) [97,100,100] (cond (k == 2) [114,101,109,111,118,101] (cond (k == 3) [114,101,112,108,97,99,101] [116,101,115,116]))
def sS_ (s:Bs):aa_:=aa_.mk 3 0 s [] []
abbrev tJ_:Bs:=[111,112]
abbrev fU_:Bs:=[112,97,116,104]
abbrev hr_:Bs:=[118,97,108,117,101]
def eD_ (o:TOp):aa_:=cond (o.kind == 2) (aa_.mk 5 0 [] [sS_ (f8_ o.kind),sS_ (FWay o.way)] [tJ_,fU_]) (aa_.mk 5 0 [] [sS_ (f8_ o.kind),sS_ (FWay o.way),o.value] [tJ_,fU_,hr_])
def cK_ (o:TOp):aa_:=cond (iQ_ o) (eV_ (eD_ o)) g8_
theorem q5_:∀ (d:Nat) (j:aa_),fx_ (d+1) j->fx_ d j
 |0,_,_=>trivial
 |d+1,j,h=>⟨h.1,h.2.1,fun x hx=>q5_ d x (h.2.2 x hx)⟩
theorem ly_ {s:Bs} (h:s.length<=cf_):∀ d,fx_ d (sS_ s)
 |0=>trivial
 |d+1=>⟨⟨h,Nat.zero_le _,fun x hx=>(by cases hx)⟩,Nat.zero_le _,fun x hx=>(by cases hx)⟩
theorem ev_:∀ d,fx_ d g8_
 |0=>trivial
 |d+1=>⟨⟨Nat.zero_le _,Nat.zero_le _,fun x hx=>(by cases hx)⟩,Nat.zero_le _,fun x hx=>(by cases hx)⟩
structure OpIs (o:TOp):Prop where
 kind:o.kind=1\/o.kind=2\/o.kind=3\/o.kind=4
 way:o.way.length<=6
 text:∀ s ∈ o.way,s.length<=60
 val:bI_ 6 o.value<=400
theorem s4_ {o:TOp} (h:iQ_ o=true):OpIs o:=by unfold iQ_ at h;simp only [Bool.and_eq_true] at h;obtain ⟨u,p,m,k,_⟩:=h;have z:=gP_ u;refine ⟨by omega,of_decide_eq_true p,fun s hs => ?_,of_decide_eq_true m⟩;obtain ⟨i,hi,e⟩:=List.mem_iff_getElem.1 hs;have:=fc_.1 k i hi;rw [List.getD_eq_getElem?_getD,List.getElem?_eq_getElem hi,Option.getD_some,e] at this;exact ir_ this
theorem name_len (k:Int):(f8_ k).length<=60:=by unfold f8_;cases (k == 1)<;>cases (k == 2)<;>cases (k == 3)<;>simp
theorem kv_ {o:TOp} (h:fW_ o) (m:OpIs o):fx_ 6 (eD_ o):=by
 have I:=pf_ m.text;have u:=m.way;have k:(FWay o.way).length<=cf_:=by simp only [cf_];omega
 have p:(f8_ o.kind).length<=cf_:=by have:=name_len o.kind;simp only [cf_];omega
 have z:=q5_ 5 _ h.2;unfold eD_;cases (o.kind == 2) with
 |true=>
  refine ⟨⟨Nat.zero_le _,by show 2<=cf_;decide,fun x hx => ?_⟩,by show 2<=cf_;decide,fun x hx => ?_⟩
  . simp at hx;rcases hx with e|e<;>(rw [e];decide)
  . simp at hx;rcases hx with e|e
    . rw [e];exact ly_ p 5
    . rw [e];exact ly_ k 5
 |false=>
  refine ⟨⟨Nat.zero_le _,by show 3<=cf_;decide,fun x hx => ?_⟩,by show 3<=cf_;decide,fun x hx => ?_⟩
  . simp at hx;rcases hx with e|e|e<;>(rw [e];decide)
  . simp at hx;rcases hx with e|e|e
    . rw [e];exact ly_ p 5
    . rw [e];exact ly_ k 5
    . rw [e];exact z
theorem jf_ {o:TOp} (h:fW_ o):fx_ 6 (cK_ o):=by
 unfold cK_;cases k:iQ_ o with
 |false=>exact ev_ 6
 |true=>
  unfold eV_;cases cM_ (eD_ o) with
  |false=>exact ev_ 6
  |true=>exact kv_ h (s4_ k)
theorem put_value (a b v:aa_):Ev (fun n _=>bP_ n (aa_.mk 5 0 [] [a,b] [tJ_,fU_]) hr_ v) (aa_.mk 5 0 [] [a,b,v] [tJ_,fU_,hr_]) :=
 hk_ (o:=aa_.mk 5 0 [] [a,b] [tJ_,fU_]) (j:=v) (x:=hr_) (by show 2<=2000000;decide) rfl (fun _=>less_ne) (fun i m k=>by
  have:g0_ [tJ_,fU_] hr_=2:=by decide
  have k:i<2:=k;have m:g0_ [tJ_,fU_] hr_<=i:=m;omega)
theorem eG_ {o:TOp} (h:fW_ o):Ev (fun n _=>d3_ n o) (cK_ o):=by
 refine am_ ?_;have z:Ev (fun n _=>dn_ n ()) [[],[97,100,100],[114,101,109,111,118,101],[114,101,112,108,97,99,101],[116,101,115,116]]:=am_ (by simp only [dn_,ae_]);simp only [d3_,aY_,hK_,ab_ (pC_ h),al_,ae_];unfold cK_;cases u:iQ_ o with
 |false=>exact ⟨fun _=>rfl,fun h=>(by cases h)⟩
 |true=>
  refine ⟨fun h=>(by cases h),fun _ => ?_⟩;have hi:=s4_ u;have m:=dD_ (kv_ h hi);have p:=e4_ 6 o.value hi.val;simp only [ab_ z,bc_,ab_ (lS_ hi.way hi.text)];unfold eV_ g8_ eD_ sS_ f8_;unfold eD_ sS_ f8_ at m;rcases hi.kind with k|k|k|k;all_goals (
   simp only [k,Int.reduceBEq,cond_true,cond_false] at m;simp only [k,Int.reduceBEq,cond_true,cond_false,bne,Bool.not_false,Bool.not_true,Int.reduceToNat,List.getD_cons_succ,List.getD_cons_zero,al_,ab_ p,ab_ (put_value _ _ _),ab_ m,ae_];refine ⟨⟨by decide,by decide⟩,?_⟩;generalize cM_ _=q;cases q<;>simp)
theorem fQ_ {o:TOp} (h:fW_ o):Ev (fun n _=>eo_ n o) (cK_ o):=by
 refine am_ ?_;have z:Ev (fun n _=>dp_ n ()) [[97,100,100],[114,101,109,111,118,101],[114,101,112,108,97,99,101],[116,101,115,116]]:=am_ (by simp only [dp_,ae_]);simp only [eo_,aY_,hK_,ab_ (ig_ h),al_,ae_];unfold cK_;cases u:iQ_ o with
 |false=>exact ⟨fun _=>rfl,fun h=>(by cases h)⟩
 |true=>
  refine ⟨fun h=>(by cases h),fun _ => ?_⟩;have hi:=s4_ u;have m:=orNull_ev (kv_ h hi);have p:=f4_ 6 o.value hi.val;simp only [ab_ z,bc_,ab_ (ie_ hi.way hi.text)];simp only [cond_true];unfold eD_ sS_ f8_;unfold eD_ sS_ f8_ at m;have w1:W ((1:Int) - 1)=0:=by rw [W_id (by decide) (by decide)];rfl
  have w2:W ((2:Int) - 1)=1:=by rw [W_id (by decide) (by decide)];rfl
  have w3:W ((3:Int) - 1)=2:=by rw [W_id (by decide) (by decide)];rfl
  have w4:W ((4:Int) - 1)=3:=by rw [W_id (by decide) (by decide)];rfl
  rcases hi.kind with k|k|k|k;all_goals (
   simp only [k,Int.reduceBEq,cond_true,cond_false] at m;simp only [k,w1,w2,w3,w4,Int.reduceBEq,cond_true,cond_false,bne,Bool.not_false,Bool.not_true,Int.reduceToNat,List.getD_cons_succ,List.getD_cons_zero,List.cons_append,List.nil_append,al_,ba_,ab_ p,ab_ m,ae_,true_implies,false_implies,reduceCtorEq,and_true,true_and];simp only [List.length_cons,List.length_nil];decide)
def pfx (p s:Bs):Bool:=p.isPrefixOf s
theorem pM_ {a c:UInt8} (h:c≠a) (p t:Bs):pfx (a::p) (c::t)=false:=by have e:(a == c)=false:=beq_eq_false_iff_ne.2 fun e=>h e.symm;show (a == c&&List.isPrefixOf p t)=false;rw [e];rfl
theorem pfx_nil (a:UInt8) (p:Bs):pfx (a::p) []=false:=rfl
theorem jc_ (p t:Bs):pfx p (p++t)=true:=List.isPrefixOf_iff_prefix.2 (List.prefix_append p t)
theorem jb_ {p t:Bs} (h:pfx p t=true):p.length<=t.length:=(List.isPrefixOf_iff_prefix.1 h).length_le
theorem lw_ (p s:Bs):pfx p s=((s.take p.length).drop 0 == p):=by rw [List.drop_zero];refine Bool.eq_iff_iff.2 ?_;rw [beq_iff_eq];exact ⟨fun h=>(List.prefix_iff_eq_take.1 (List.isPrefixOf_iff_prefix.1 h)).symm,fun h=>List.isPrefixOf_iff_prefix.2 (List.prefix_iff_eq_take.2 h.symm)⟩
section
variable {β:Type} {g:Nat->Nat->Bool->Option β} {v:β}
theorem iq_ {s p:Bs}:Ev (fun n _=>bn_ n s p) (pfx p s):=by
 refine am_ ?_;simp only [bn_,al_,dQ_,ae_,Int.toNat_natCast];refine ⟨fun h => ?_,fun h => ?_⟩
 . have h:=of_decide_eq_true h
   exact ⟨⟨by omega,by omega,by omega⟩,(lw_ p s).symm⟩
 . have h:=of_decide_eq_false h
   cases e:pfx p s with
   |false=>rfl
   |true=>have:=jb_ e;omega
theorem gV_ {s p:Bs}:Ev (fun n _=>cS_ n s p) (cond (pfx p s) (s.drop p.length,true) (s,false)):=by
 have:Ev (fun n _=>bV_ n s p) (cond (pfx p s) (s.drop p.length,true) (s,false)):=by
  refine am_ ?_;simp only [bV_,ab_ iq_,al_,dQ_,ae_,Int.toNat_natCast,List.take_length];cases e:pfx p s with
  |false=>exact ⟨fun _=>rfl,fun h=>(by cases h)⟩
  |true=>exact ⟨fun h=>(by cases h),fun _=>⟨⟨by omega,by have:=jb_ e;omega,by omega⟩,rfl⟩⟩
 exact am_ (by simp only [cS_,ab_ this,ae_])
theorem hD_ {s p:Bs}:Ev (fun n _=>cN_ n s p) (cond (pfx p s) (s.drop p.length) s):=by
 have:Ev (fun n _=>bL_ n s p) (cond (pfx p s) (s.drop p.length) s):=by
  refine am_ ?_;simp only [bL_,ab_ iq_,al_,dQ_,ae_,Int.toNat_natCast,List.take_length];cases e:pfx p s with
  |false=>exact ⟨fun h=>(by cases h),fun _=>rfl⟩
  |true=>exact ⟨fun _=>⟨⟨by omega,by have:=jb_ e;omega,by omega⟩,rfl⟩,fun h=>(by cases h)⟩
 exact am_ (by simp only [cN_,ab_ this,ae_])
end
def eU_ (r:aP_) (p:Bs):Bool × aP_:=cond (pfx p r.text) (!r.bad,⟨r.text.drop p.length,r.bad⟩) (false,⟨r.text,r.bad⟩)
def m0_ (r:aP_) (p:Bs):aP_:=cond (pfx p r.text) ⟨r.text.drop p.length,r.bad⟩ ⟨r.text,true⟩
theorem qP_ {r:aP_} {p:Bs}:Ev (fun n _=>bx_ n r p) (eU_ r p):=by refine am_ ?_;simp only [bx_,ab_ gV_,al_,ae_,eU_];cases pfx p r.text<;>simp
theorem want_ev {r:aP_} {p:Bs}:Ev (fun n _=>ct_ n r p) (m0_ r p):=by refine am_ ?_;simp only [ct_,ab_ qP_,al_,ae_,eU_,m0_];cases pfx p r.text<;>cases r.bad<;>simp
theorem hi_ (r:aP_) (p:Bs):(eU_ r p).2.text.length<=r.text.length:=by unfold eU_;cases pfx p r.text<;>simp
theorem sT_ {r:aP_} {p:Bs} (h:(eU_ r p).1=true):(eU_ r p).2.text.length+p.length<=r.text.length:=by
 unfold eU_ at h ⊢;cases e:pfx p r.text with
 |false=>rw [e] at h;cases h
 |true=>have:=jb_ e;simp;omega
theorem qN_ (r:aP_) (p:Bs):(m0_ r p).text.length<=r.text.length:=by unfold m0_;cases pfx p r.text<;>simp
section
variable {β:Type} {Q:β->Prop} {v:β}
theorem rR_ {r:aP_} {p:Bs} {g:Nat->Nat->Bool × aP_->Option β}:Ans (fun n N=>(bx_ n r p).bind (g n N)) Q↔Ans (fun n N=>g n N (eU_ r p)) Q:=bg_ qP_
theorem want_a {r:aP_} {p:Bs} {g:Nat->Nat->aP_->Option β}:Ans (fun n N=>(ct_ n r p).bind (g n N)) Q↔Ans (fun n N=>g n N (m0_ r p)) Q:=bg_ want_ev
theorem fy_ {r:aP_} {p:Bs} {g:Nat->Nat->Bool × aP_->Option β}:Ev (fun n N=>(bx_ n r p).bind (g n N)) v↔Ev (fun n N=>g n N (eU_ r p)) v:=ab_ qP_
theorem rM_ {r:aP_} {p:Bs} {g:Nat->Nat->aP_->Option β}:Ev (fun n N=>(ct_ n r p).bind (g n N)) v↔Ev (fun n N=>g n N (m0_ r p)) v:=ab_ want_ev
end
theorem hv_ {s p:Bs}:Ev (fun n _=>c6_ n s p) (pfx p s):=am_ (by simp only [c6_,ab_ iq_,ae_])
theorem gc_ (p t:Bs):eU_ ⟨p++t,false⟩ p=(true,⟨t,false⟩):=by unfold eU_;rw [jc_,List.drop_left];rfl
theorem c0_ {a c:UInt8} (h:c≠a) (p t:Bs) (b:Bool):eU_ ⟨c::t,b⟩ (a::p)=(false,⟨c::t,b⟩):=by unfold eU_;rw [pM_ h];rfl
theorem take_nil (a:UInt8) (p:Bs) (b:Bool):eU_ ⟨[],b⟩ (a::p)=(false,⟨[],b⟩):=rfl
theorem lr_ (p t:Bs):m0_ ⟨p++t,false⟩ p=⟨t,false⟩:=by unfold m0_;rw [jc_,List.drop_left];rfl
theorem nH_ {r:aP_} (hr:r.text.length<=4194304):Ans (fun n _=>av_ n r) fun x=>x.2.text.length<=r.text.length/\x.1.length<=r.text.length:=by
 refine ci_ ?_;simp only [av_,want_a];have p:=qN_ r [34];generalize m0_ r [34]=q at p ⊢;refine gk_ (σ:=Bs × Bool × List Int) (fun n N s=>av_.loop4 n (fun B4 B5=>(some ([],(aP_.mk B4 B5)))) N s.1 s.2.1 s.2.2) (fun s=>s.1.length) (fun s=>s.1.length+s.2.2.length<=r.text.length) _ (fun s I ih => ?_) (q.text,q.bad,[]) (by simp;omega);obtain ⟨t,b,o⟩:=s;simp only at I ih ⊢;simp only [av_.turn4,av_.step4,rR_,bj_,aX_,eN_,d7_,lC_,Int.toNat_natCast,List.take_length];have m:=hi_ ⟨t,b⟩ [34];have k:=hi_ (eU_ ⟨t,b⟩ [34]).2 [92];simp only at m;generalize eU_ ⟨t,b⟩ [34]=x at m k ⊢;generalize eU_ x.2 [92]=y at k ⊢;refine ⟨fun _=>⟨fun _=>⟨by omega,by simp;omega⟩,fun _=>⟨fun _=>⟨by omega,by simp⟩,fun hc => ?_⟩⟩,fun _=>⟨by omega,by simp⟩⟩;have u:1<=y.2.text.length:=by
  cases z:y.2.text with
  |nil=>rw [z] at hc;cases hc
  |cons _ _=>simp
 refine ⟨by omega,by simp;omega,⟨by omega,by omega,by omega⟩,?_⟩;exact ih (y.2.text.drop 1,y.2.bad,o++[((y.2.text.getD 0 0).toNat:Int)]) (by simp;omega) (by simp;omega)
theorem pb_ (o:Bs) (c:UInt8):bi o++[((c.toNat:Nat):Int)]=bi (o++[c]):=by simp [bi]
theorem kp_ {s r:Bs} (hl:(dr_ s++r).length<=1000000000000):Ev (fun n _=>av_ n ⟨dr_ s++r,false⟩) (s,⟨r,false⟩):=by
 have hq:=gp_ s;have p:s.length<=(dr_ s).length:=by
  have:∀ s:Bs,s.length<=(s.flatMap fT_).length:=by
   intro s;induction s with
   |nil=>exact Nat.le_refl _
   |cons c s ih=>
    rw [List.flatMap_cons,List.length_append,List.length_cons];have:1<=(fT_ c).length:=by unfold fT_;split<;>simp
    omega
  have:=this s;simp only [dr_,List.cons_append,List.length_cons,List.length_append];omega
 simp only [List.length_append] at hl;have e:dr_ s++r=[34]++(s.flatMap fT_++34::r):=by simp [dr_]
 refine am_ ?_;simp only [av_,rM_,e,lr_];have:=eO_ (fun i=>((s.drop i).flatMap fT_++34::r,bi (s.take i))) s.length (fun n N i (q:Bs × List Int)=>av_.loop4 n (fun B4 B5=>(some ([],(aP_.mk B4 B5)))) N q.1 false q.2) (s,⟨r,false⟩) (fun i hi F k => ?_) ?_
 . exact this
 . have hd:=ds_ 0 hi
   have ht:=cH_ 0 hi;rw [ht] at k;simp only [hd,List.flatMap_cons,List.append_assoc];have m:=k9_ (s.take i);rw [List.length_take] at m;generalize (s.drop (i+1)).flatMap fT_++34::r=T at k ⊢;generalize s.getD i 0=c at k ⊢;rw [<-pb_] at k;generalize bi (s.take i)=o at k m ⊢;simp only [av_.turn4,av_.step4,Bool.not_false,cond_true,fy_];by_cases hc:c=34\/c=92
   . have e1:fT_ c=[92,c]:=if_pos hc
     have e2:fT_ c++T=92::c::T:=by rw [e1];rfl
     have e3:eU_ ⟨92::c::T,false⟩ [92]=(true,⟨c::T,false⟩):=gc_ [92] (c::T);simp only [e2,fy_,c0_ (show (92:UInt8)≠34 by decide),e3,cond_false,al_,bc_,ba_,dQ_,Int.toNat_natCast,List.take_length,List.getD_cons_zero,List.drop_succ_cons,List.drop_zero]
     repeat' (first|exact k|apply And.intro|intro _)
     all_goals (first|contradiction|omega|(simp;done)|(simp;omega)|trace_state)
   . have e1:fT_ c=[c]:=if_neg hc
     have e2:fT_ c++T=c::T:=by rw [e1];rfl
     simp only [e2,fy_,c0_ (show c≠34 from fun e=>hc (.inl e)),c0_ (show c≠92 from fun e=>hc (.inr e)),cond_false,al_,bc_,ba_,dQ_,Int.toNat_natCast,List.take_length,List.getD_cons_zero,List.drop_succ_cons,List.drop_zero]
     repeat' (first|exact k|apply And.intro|intro _)
     all_goals (first|contradiction|omega|(simp;done)|(simp;omega)|trace_state)
 . have e3:eU_ ⟨34::r,false⟩ [34]=(true,⟨r,false⟩):=gc_ [34] r
   simp only [List.drop_length,List.take_length,List.flatMap_nil,List.nil_append,av_.turn4,av_.step4,Bool.not_false,cond_true,fy_,e3,kg_,ae_]
theorem nb_ {s:Bs} (h:s.length<=281474976710656):Ev (fun n _=>cV_ n s) (endOf s (Lib.atoiAll s)) :=
 am_ (by simp only [cV_,nAtoi,decide_eq_true h,cond_true,ae_])
theorem s6_ {r:aP_} (hr:r.text.length<=4194304):Ans (fun n _=>ap_ n r) fun x=>x.2.text.length<=r.text.length/\x.1.s=[]/\x.1.list=[]/\x.1.names=[]:=by
 refine ci_ ?_;simp only [ap_];obtain ⟨t,b⟩:=r;simp only at hr ⊢;have p:∀ (K:Nat->ap_.K3) (Q:aa_ × aP_->Prop),(∀ i,i<=t.length->Ans (fun n _=>K n ((i:Nat):Int) t b 0 0 []) Q)->Ans (fun n _=>ap_.loop3 n (K n) n 0 t b 0 0 []) Q:=by
  intro K Q z;refine gk_ (σ:=Nat) (fun n N i=>ap_.loop3 n (K n) N (i:Int) t b 0 0 []) (fun i=>t.length - i) (fun i=>i<=t.length) _ (fun i I ih => ?_) 0 (Nat.zero_le _);have k:=z i I;simp only [ap_.turn3,ap_.step3,Int.toNat_natCast];by_cases hi:i<t.length
  . have m:=ih (i+1) hi (by omega)
    have u:=W_up hi (show t.length<=cf_ by simp only [cf_];omega);simp only [u,cE_ hi,cond_true,eN_,ch_ hi,true_and,bg_ po_,bj_];exact ⟨fun _=>m,fun _=>⟨fun _=>⟨by omega,fun _=>m,fun _=>k⟩,fun _=>k⟩⟩
  . have e:i=t.length:=by omega
    subst e;simp only [co_,cond_false];exact k
 refine p _ _ fun i hi => ?_;have J:=nb_ (s:=(t.take i).drop 0) (by simp;omega);simp only [Int.toNat_natCast,List.take_length,lC_,bg_ J,bj_,aX_];exact ⟨by omega,fun _=>⟨by omega,by simp⟩,fun _=>⟨by omega,by simp⟩⟩
theorem itoa_at (n:Int) {i:Nat} (hi:i<(Lib.itoa n).length):fJ_ ((Lib.itoa n).getD i 0)\/(i=0/\(Lib.itoa n).getD i 0=45):=by
 unfold Lib.itoa at hi ⊢;by_cases h:n<0
 . rw [if_pos h] at hi ⊢
   cases i with
   |zero=>exact .inr ⟨rfl,rfl⟩
   |succ i=>
    left;rw [List.getD_cons_succ];exact im_ n.natAbs _ (b2_ 0 (by simpa using hi))
 . rw [if_neg h] at hi ⊢
   exact .inl (im_ n.toNat _ (b2_ 0 hi))
theorem qh_ {a b:Bs} {i:Nat} (h:i<a.length):(a++b).getD i 0=a.getD i 0:=by rw [List.getD_eq_getElem?_getD,List.getElem?_append_left h,<-List.getD_eq_getElem?_getD]
theorem tp_ {a b:Bs} {c:UInt8}:(a++c::b).getD a.length 0=c:=by rw [List.getD_eq_getElem?_getD,List.getElem?_append_right (Nat.le_refl _)];simp
theorem inn_dig {c:UInt8} (h:fJ_ c):inn (c.toNat:Int) 48 57=true:=by unfold fJ_ at h;exact jh_.2 (by omega)
theorem inn_not {c:UInt8} (h:¬ fJ_ c):inn (c.toNat:Int) 48 57=false:=by
 cases e:inn (c.toNat:Int) 48 57 with
 |false=>rfl
 |true=>exact absurd (by unfold fJ_;have:=gP_ e;omega) h
theorem s5_ {n:Int} {r:Bs} (U : -1000000000<=n) (T:n<=1000000000) (hs:Stop r) (hl:(Lib.itoa n++r).length<=1000000000000):Ev (fun m _=>ap_ m ⟨Lib.itoa n++r,false⟩) (aa_.mk 2 n [] [] [],⟨r,false⟩):=by
 have J:=nb_ (s:=Lib.itoa n) (by simp only [List.length_append] at hl;omega);rw [qx_ U T] at J;obtain ⟨c0,t0,e0,_⟩:=h9_ n;have O:1<=(Lib.itoa n).length:=by rw [e0];simp
 have p:=fun i=>itoa_at n (i:=i);generalize Lib.itoa n=t at hl J O p ⊢;simp only [List.length_append] at hl;refine am_ ?_;simp only [ap_];have u:∀ (K:Nat->ap_.K3) (F:aa_ × aP_),Ev (fun n _=>K n (t.length:Int) (t++r) false 0 0 []) F->Ev (fun n _=>ap_.loop3 n (K n) n 0 (t++r) false 0 0 []) F:=by
  intro K F z;refine eO_ (fun _=>()) t.length (fun n N i (_:Unit)=>ap_.loop3 n (K n) N (i:Int) (t++r) false 0 0 []) F (fun i hi F I => ?_) ?_
  . have k:i<(t++r).length:=by simp;omega
    have S:=W_up k (by simp only [cf_,List.length_append];omega);simp only [ap_.turn3,ap_.step3,Int.toNat_natCast,S,cE_ k,cond_true,bc_,ch_ k,true_and,gI_,sH_,qh_ hi,al_];rcases p i hi with hd|⟨rfl,hd⟩
    . rw [inn_dig hd]
      exact ⟨fun _=>I,fun h=>(by cases h)⟩
    . simp only [qh_ hi,hd]
      exact ⟨fun _=>I,fun _=>⟨fun _=>⟨by omega,fun _=>I,fun h=>absurd h (by decide)⟩,fun h=>(by cases h)⟩⟩
  . simp only [ap_.turn3,ap_.step3,Int.toNat_natCast]
    cases r with
    |nil=>
     rw [List.append_nil] at z ⊢;simp only [co_,cond_false];exact z
    |cons c r=>
     have k:t.length<(t++c::r).length:=by simp
     have hz:(((t.length:Nat):Int) == 0)=false:=beq_eq_false_iff_ne.2 (by omega);simp only [cE_ k,cond_true,bc_,ch_ k,true_and,gI_,sH_,tp_,inn_not (hs c r rfl),hz,cond_false];exact z
 refine u _ _ ?_;have e1:((t++r).take t.length).drop 0=t:=by simp
 simp only [Int.toNat_natCast,e1,List.take_length,List.drop_left,dQ_,ab_ J,endOf,Bool.not_true,cond_false,ae_];exact ⟨by simp;omega,by simp;omega,trivial⟩
def tD_ (L d:Nat) (x:aa_ × aP_):Prop:=x.2.text.length<=L/\fx_ d x.1
theorem e7_ {d:Nat} {k n:Int}:fx_ d (aa_.mk k n [] [] []):=by
 cases d with
 |zero=>trivial
 |succ d=>exact ⟨⟨Nat.zero_le _,Nat.zero_le _,fun x h=>(by cases h)⟩,Nat.zero_le _,fun x h=>(by cases h)⟩
theorem pW_ {d:Nat} {k n:Int} {s:Bs} (h:s.length<=cf_):fx_ d (aa_.mk k n s [] []):=by
 cases d with
 |zero=>trivial
 |succ d=>exact ⟨⟨h,Nat.zero_le _,fun x h=>(by cases h)⟩,Nat.zero_le _,fun x h=>(by cases h)⟩
theorem tD_.mono {L M d:Nat} {x:aa_ × aP_} (h:tD_ L d x) (hl:L<=M):tD_ M d x:=⟨Nat.le_trans h.1 hl,h.2⟩
theorem parts_any {d:Nat} (hd:d<=1000) (ih:∀ r:aP_,r.text.length<=4194304->Ans (fun n _=>a2_ n r (d:Int)) (tD_ r.text.length d))
  {r:aP_} (hr:r.text.length<=4194304) (kind:Int) (end_:Bs):Ans (fun n _=>an_ n r kind end_ ((d+1:Nat):Int)) (tD_ r.text.length (d+1)):=by
 refine ci_ ?_;have hW:W (((d+1:Nat):Int) - 1)=(d:Int):=by rw [W_id (by omega) (by omega)];omega
 simp only [an_,rR_,bj_,aX_];have ht:=hi_ r end_;generalize eU_ r end_=x at ht ⊢;refine ⟨fun _=>⟨ht,e7_⟩,fun _ => ?_⟩;obtain ⟨x1,t0,b0⟩:=x;simp only at ht ⊢;have O:∀ (K:Nat->an_.K7_1) (Q:aa_ × aP_->Prop),(∀ t b l ns,t.length<=t0.length->l.length<=4194305->(∀ y ∈ l,fx_ d y)->ns.length<=l.length->(∀ y ∈ ns,y.length<=4194304)->Ans (fun n _=>K n end_ t b 0 0 [] kind 0 [] l ns) Q) ->
   Ans (fun n _=>an_.loop7 n (a2_ n) (K n) n kind end_ ((d+1:Nat):Int) true t0 b0 0 0 [] kind 0 [] [] []) Q:=by
  intro K Q hK;refine gk_ (σ:=Bool × Bs × Bool × List aa_ × List Bs) (fun n N s=>an_.loop7 n (a2_ n) (K n) N kind end_ ((d+1:Nat):Int) s.1 s.2.1 s.2.2.1 0 0 [] kind 0 [] s.2.2.2.1 s.2.2.2.2)
   (fun s=>s.2.1.length+cond s.1 1 0) (fun s=>s.2.1.length<=t0.length/\s.2.2.2.1.length+s.2.1.length<=t0.length+cond s.1 0 1/\(∀ y ∈ s.2.2.2.1,fx_ d y)/\s.2.2.2.2.length<=s.2.2.2.1.length/\(∀ y ∈ s.2.2.2.2,y.length<=4194304)) _ (fun s V ihl => ?_) (true,t0,b0,[],[]) (by simp)
  obtain ⟨more,t,b,l,ns⟩:=s;simp only at V ihl ⊢;obtain ⟨Z,T,J,Y,z⟩:=V;have S:l.length<=4194305:=by cases more<;>simp at T<;>omega
  have u:=hK t b l ns Z S J Y z;simp only [an_.turn7,an_.step7,hW,aY_,bj_];refine ⟨fun hm=>⟨fun _ => ?_,fun _=>u⟩,fun _=>u⟩;subst hm;simp only [cond_true,Nat.add_zero] at T ihl;have m:∀ (q:aP_) (ns':List Bs),q.text.length<=t.length->ns'.length<=l.length+1->(∀ y ∈ ns',y.length<=4194304) ->
    Ans (fun n N=>(a2_ n q (d:Int)).bind fun A4=>bk_ (l.length+[A4.1].length) 80 ((bx_ n A4.2 [44]).bind fun A5=>an_.loop7 n (a2_ n) (K n) N kind end_ ((d+1:Nat):Int) A5.1 A5.2.text A5.2.bad 0 0 [] kind 0 [] (l++[A4.1]) ns')) Q:=by
   intro q ns' hq hn hb;refine az_ (ih q (by omega)) fun v I => ?_;simp only [d7_,rR_];have g1:=hi_ v.2 [44];have g2:=sT_ (r:=v.2) (p:=[44]);generalize eU_ v.2 [44]=x at g1 g2 ⊢;obtain ⟨m',t',b'⟩:=x;simp only [List.length_cons,List.length_nil] at g1 g2 ⊢;have hv1:=I.1;refine ⟨by omega,ihl (m',t',b',l++[v.1],ns') ⟨by simp only;omega,?_,?_,by simpa using hn,hb⟩ ?_⟩
   . cases m' with
     |true=>have:=g2 rfl;simp;omega
     |false=>simp;omega
   . intro y k
     rcases List.mem_append.1 k with k|k
     . exact J y k
     . obtain rfl:=List.mem_singleton.1 k;exact I.2
   . cases m' with
     |true=>have:=g2 rfl;simp;omega
     |false=>simp;omega
  refine ⟨fun _ => ?_,fun _=>m ⟨t,b⟩ ns (Nat.le_refl _) (by omega) z⟩;refine az_ (nH_ (r:=⟨t,b⟩) (by simp only;omega)) fun v I => ?_;simp only at I;simp only [want_a,d7_];have U:=qN_ v.2 [58];refine ⟨by simp;omega,m (m0_ v.2 [58]) (ns++[v.1]) (by omega) (by simp;omega) fun y k => ?_⟩;rcases List.mem_append.1 k with k|k
  . exact z y k
  . obtain rfl:=List.mem_singleton.1 k;omega
 refine O _ _ fun t b l ns Z T J Y z => ?_;simp only [want_a,aX_];have U:=qN_ ⟨t,b⟩ end_;simp only at U;exact ⟨by simp only;omega,⟨Nat.zero_le _,by show ns.length<=cf_;simp only [cf_];omega,fun y k=>by have:=z y k;simp only [cf_];omega⟩,by show l.length<=cf_;simp only [cf_];omega,J⟩
theorem ps_:∀ (d:Nat),d<=1000->∀ r:aP_,r.text.length<=4194304->Ans (fun n _=>a2_ n r (d:Int)) (tD_ r.text.length d)
 |0,_,r,hr=>by refine ci_ ?_;simp only [a2_,bj_,aX_];exact ⟨fun _=>⟨Nat.le_refl _,trivial⟩,fun h=>by simp at h⟩
 |d+1,hd,r,hr=>by
  have ih:=fun (r:aP_) hr=>parts_any (d:=d) (by omega) (ps_ d (by omega)) (r:=r) hr;refine ci_ ?_;simp only [a2_,aY_,bj_,aX_,rR_,bg_ hv_];refine ⟨fun h=>by have:=of_decide_eq_true h;omega,fun _=>⟨fun _=>⟨Nat.le_refl _,e7_⟩,fun _ => ?_⟩⟩;have p:=hi_ r [110,117,108,108];generalize eU_ r [110,117,108,108]=x1 at p ⊢;have J:=hi_ x1.2 [102,97,108,115,101];generalize eU_ x1.2 [102,97,108,115,101]=x2 at J ⊢;have I:=hi_ x2.2 [116,114,117,101];generalize eU_ x2.2 [116,114,117,101]=x3 at I ⊢;have z:=hi_ x3.2 [91];generalize eU_ x3.2 [91]=x4 at z ⊢;have u:=hi_ x4.2 [123];generalize eU_ x4.2 [123]=x5 at u ⊢;refine ⟨fun _=>⟨p,e7_⟩,fun _=>⟨fun _=>⟨by simp only;omega,e7_⟩,fun _=>⟨fun _=>⟨by simp only;omega,e7_⟩,fun _=>⟨fun _ => ?_,fun _=>⟨fun _ => ?_,fun _=>⟨fun _ => ?_,fun _ => ?_⟩⟩⟩⟩⟩⟩
  . refine az_ (nH_ (r:=x3.2) (by omega)) fun v m => ?_
    simp only [aX_];exact ⟨by simp only;omega,pW_ (by simp only [cf_];omega)⟩
  . refine az_ (ih x4.2 (by omega) 4 [93]) fun v m => ?_
    simp only [aX_];exact m.mono (by omega)
  . refine az_ (ih x5.2 (by omega) 5 [125]) fun v m => ?_
    simp only [aX_];exact m.mono (by omega)
  . refine az_ (s6_ (r:=x5.2) (by omega)) fun v m => ?_
    simp only [aX_];obtain ⟨⟨k,nn,s,l,ns⟩,q⟩:=v;obtain ⟨e1,e2,e3,e4⟩:=m;simp only at e1 e2 e3 e4;subst e2 e3 e4;exact ⟨by simp only;omega,e7_⟩
theorem qp_ (enc:aa_->Bs) (j:aa_) (k i:Nat):dR_ enc j (k+1) (i+1)=44::(dJ_ enc j (i+1)++dR_ enc j k (i+2)):=by rw [dR_,if_neg (by omega)];rfl
theorem py_ (enc:aa_->Bs) (j:aa_) (k i:Nat) {c:UInt8} (h:¬ fJ_ c) (r:Bs):Stop (dR_ enc j k (i+1)++c::r):=by
 cases k with
 |zero=>exact lM_ h
 |succ k=>rw [qp_];exact lM_ (by unfold fJ_;decide)
theorem ri_ {kind:Int} {c:UInt8} (h:c.toNat=93\/c.toNat=125):¬ fJ_ c:=by unfold fJ_;omega
theorem pN_ {d:Nat} (hd:d<=1000) {j:aa_} (h:bI_ (d+1) j<=400) (z:j.kind=4\/j.kind=5)
  (ih:∀ x,bI_ d x<=400->∀ r,Stop r->(FEnc d x++r).length<=1000000000000->Ev (fun n _=>a2_ n ⟨FEnc d x++r,false⟩ (d:Int)) (x,⟨r,false⟩))
  (c:UInt8) (hc:c.toNat=93\/c.toNat=125) (r:Bs) (hl:(eq_ (FEnc d) j j.list.length++c::r).length<=1000000000000) :
  Ev (fun n _=>an_ n ⟨eq_ (FEnc d) j j.list.length++c::r,false⟩ j.kind [c] ((d+1:Nat):Int)) (aa_.mk j.kind 0 [] j.list j.names,⟨r,false⟩):=by
 have V:W (((d+1:Nat):Int) - 1)=(d:Int):=by rw [W_id (by omega) (by omega)];omega
 have hll:=eZ_ h;have hnl:=fV_ h;have hT:eU_ ⟨c::r,false⟩ [c]=(true,⟨r,false⟩):=gc_ [c] r;have hWa:m0_ ⟨c::r,false⟩ [c]=⟨r,false⟩:=lr_ [c] r;have ho:=(d8_ h).1;have S:=ft_ (e6_ h);rw [m4_] at hl ⊢;refine am_ ?_;cases hm:j.list.length with
 |zero=>
  have e1:j.list=[]:=List.eq_nil_of_length_eq_zero hm;have e2:j.names=[]:=by
   rcases z with z|z
   . exact S.ns0 (by omega)
   . exact List.eq_nil_of_length_eq_zero (by rw [(ho.obj z).1,hm])
  simp only [an_,fy_,dR_,List.nil_append,hT,cond_true,ae_,e1,e2]
 |succ m=>
  obtain ⟨a,p0,ep,hp1,hp2,hp3⟩:=oc_ h (i:=0) (by omega);have e0:dR_ (FEnc d) j (m+1) 0=dJ_ (FEnc d) j 0++dR_ (FEnc d) j m 1:=by rw [dR_,if_pos rfl];rfl
  have hac:a≠c:=fun e=>by subst e;omega
  have e3:dJ_ (FEnc d) j 0++dR_ (FEnc d) j m 1++c::r=a::(p0++dR_ (FEnc d) j m 1++c::r):=by rw [ep];rfl
  have e4:eU_ ⟨dJ_ (FEnc d) j 0++dR_ (FEnc d) j m 1++c::r,false⟩ [c]=(false,⟨dJ_ (FEnc d) j 0++dR_ (FEnc d) j m 1++c::r,false⟩):=by rw [e3];exact c0_ hac [] _ false
  simp only [an_,fy_,e0,e4,cond_false];rw [hm,e0] at hl;have Y:∀ (K:Nat->an_.K7_1) (F:aa_ × aP_),Ev (fun n _=>K n [c] (c::r) false 0 0 [] j.kind 0 [] j.list j.names) F ->
    ∀ k i,i+1+k=j.list.length->(dJ_ (FEnc d) j i++dR_ (FEnc d) j k (i+1)++c::r).length<=1000000000000 ->
    Ev (fun n N=>an_.loop7 n (a2_ n) (K n) N j.kind [c] ((d+1:Nat):Int) true (dJ_ (FEnc d) j i++dR_ (FEnc d) j k (i+1)++c::r) false 0 0 [] j.kind 0 [] (j.list.take i) (j.names.take i)) F:=by
   intro K F hK k;induction k with
   |zero=>
    intro i hi p;have Z:=fF_ h (i:=i) (by omega);have hx:=ih _ Z.size (c::r) (lM_ (ri_ (kind:=0) hc));have I:eU_ ⟨c::r,false⟩ [44]=(false,⟨c::r,false⟩):=c0_ (by intro e;subst e;revert hc;decide) [] _ false;have J:∀ F,Ev (fun n _=>K n [c] (c::r) false 0 0 [] j.kind 0 [] j.list j.names) F->Ev (fun n N=>an_.loop7 n (a2_ n) (K n) N j.kind [c] ((d+1:Nat):Int) false (c::r) false 0 0 [] j.kind 0 [] j.list j.names) F:=fun F hF=>a8_ (by
     simp only [an_.turn7,an_.step7,cond_false];exact hF)
    have el:j.list.take i++[j.list.getD i aa_.dflt]=j.list:=by rw [<-cH_ aa_.dflt (by omega)];exact List.take_of_length_le (by omega)
    refine a8_ ?_;simp only [dR_,List.append_nil];simp only [dR_,List.append_nil] at p;rcases z with z|z
    . have O:(j.kind == 5)=false:=by rw [z];rfl
      have en:j.names=[]:=S.ns0 (by omega);unfold dJ_ at p ⊢;rw [O,cond_false] at p ⊢;simp only [an_.turn7,an_.step7,aY_,V,O,Bool.not_false,cond_true,cond_false,ab_ (hx p),ba_,fy_,I,el,en,List.take_nil];refine ⟨by simp;omega,?_⟩;have:=J F hK;rw [en] at this;exact this
    . have O:(j.kind == 5)=true:=by rw [z];rfl
      obtain ⟨o1,o2⟩:=ho.obj z;have en:j.names.take i++[j.names.getD i []]=j.names:=by rw [<-cH_ [] (by omega)];exact List.take_of_length_le (by omega)
      unfold dJ_ at p ⊢;rw [O,cond_true] at p ⊢;simp only [List.append_assoc] at p ⊢;have hq:=kp_ p;simp only [List.length_append] at p;have hx:=hx (by simp only [List.length_append];simp at p ⊢;omega);simp only [an_.turn7,an_.step7,aY_,V,O,Bool.not_false,cond_true,cond_false,ab_ hq,rM_,lr_,ab_ hx,ba_,fy_,I,el,en];exact ⟨by simp;omega,by simp;omega,J F hK⟩
   |succ k ihk=>
    intro i hi p;have Z:=fF_ h (i:=i) (by omega);have hx:=ih _ Z.size (dR_ (FEnc d) j (k+1) (i+1)++c::r) (py_ _ _ _ _ (ri_ (kind:=0) hc) r);have e5:dR_ (FEnc d) j (k+1) (i+1)++c::r=[44]++(dJ_ (FEnc d) j (i+1)++dR_ (FEnc d) j k (i+2)++c::r):=by rw [qp_];simp
    have I:eU_ ⟨dR_ (FEnc d) j (k+1) (i+1)++c::r,false⟩ [44]=(true,⟨dJ_ (FEnc d) j (i+1)++dR_ (FEnc d) j k (i+2)++c::r,false⟩):=by rw [e5];exact gc_ _ _
    have U:(dJ_ (FEnc d) j (i+1)++dR_ (FEnc d) j k (i+2)++c::r).length<=1000000000000:=by have:=congrArg List.length e5;simp only [List.length_append,List.length_cons,List.length_nil] at this p ⊢;omega
    have u:=ihk (i+1) (by omega) U;rw [cH_ aa_.dflt (show i<j.list.length by omega)] at u;refine a8_ ?_;rw [List.append_assoc] at p ⊢;generalize dR_ (FEnc d) j (k+1) (i+1)++c::r=T at hx I p ⊢;rcases z with z|z
    . have O:(j.kind == 5)=false:=by rw [z];rfl
      have en:j.names=[]:=S.ns0 (by omega);have ef:dJ_ (FEnc d) j i=FEnc d (j.list.getD i aa_.dflt):=by unfold dJ_;rw [O];rfl
      rw [ef] at p ⊢;rw [en,List.take_nil] at u;simp only [an_.turn7,an_.step7,aY_,V,O,Bool.not_false,cond_true,cond_false,ab_ (hx p),ba_,fy_,I,en,List.take_nil];exact ⟨by simp;omega,u⟩
    . have O:(j.kind == 5)=true:=by rw [z];rfl
      obtain ⟨o1,o2⟩:=ho.obj z;rw [cH_ [] (show i<j.names.length by omega)] at u;have ef:dJ_ (FEnc d) j i=dr_ (j.names.getD i [])++([58]++FEnc d (j.list.getD i aa_.dflt)):=by unfold dJ_;rw [O];rfl
      rw [ef] at p ⊢;simp only [List.append_assoc] at p ⊢;have hq:=kp_ p;have hx:=hx (by simp only [List.length_append] at p ⊢;simp at p ⊢;omega);simp only [an_.turn7,an_.step7,aY_,V,O,Bool.not_false,cond_true,cond_false,ab_ hq,rM_,lr_,ab_ hx,ba_,fy_,I];exact ⟨by simp;omega,by simp;omega,u⟩
  have:=Y (fun n=>fun B8 B9 B10 B11 B12 B13 B14 B15 B16 B17 B18=>((ct_ n (aP_.mk B9 B10) B8).bind fun A19=>(some ((aa_.mk B14 B15 B16 B17 B18),A19)))) (aa_.mk j.kind 0 [] j.list j.names,⟨r,false⟩) (by simp only [rM_,hWa,ae_]) m 0 (by omega) hl;exact cX_ (f:=fun n N=>an_.loop7 n (a2_ n) (fun B8 B9 B10 B11 B12 B13 B14 B15 B16 B17 B18=>((ct_ n (aP_.mk B9 B10) B8).bind fun A19=>(some ((aa_.mk B14 B15 B16 B17 B18),A19)))) N j.kind [c] ((d+1:Nat):Int) true (dJ_ (FEnc d) j 0++dR_ (FEnc d) j m 1++c::r) false 0 0 [] j.kind 0 [] [] []) this
theorem oS_ {d:Nat} {j:aa_} (h:bI_ (d+1) j<=400) (p:j.kind=4\/j.kind=5):aa_.mk j.kind 0 [] j.list j.names=j:=by have m:=ft_ (e6_ h);have e1:=m.n0 (by omega) (by omega);have e2:=m.s0 (by omega);obtain ⟨k,n,s,l,ns⟩:=j;simp only at e1 e2 ⊢;subst e1 e2;rfl
theorem pr_:∀ (d:Nat),d<=1000->∀ j,bI_ d j<=400->∀ r,Stop r->(FEnc d j++r).length<=1000000000000->Ev (fun n _=>a2_ n ⟨FEnc d j++r,false⟩ (d:Int)) (j,⟨r,false⟩)
 |0,_,j,h,r,_,_=>by simp only [bI_] at h;omega
 |d+1,hd,j,h,r,hs,hl=>by
  have ih:=pr_ d (by omega);have u:=(d8_ h).1;have p:=ft_ (e6_ h);have O:decide (((d+1:Nat):Int)<1)=false:=decide_eq_false (by omega);refine am_ ?_;simp only [a2_,aY_,O,cond_false,fy_,ab_ hv_];rcases u.kind with m|m|m|m|m|m
  . have e:FEnc (d+1) j=[110,117,108,108]:=by simp only [FEnc,m,Int.reduceBEq,cond_true]
    have ej:j=aa_.mk 0 0 [] [] []:=by have e1:=p.n0 (by omega) (by omega);have e2:=p.s0 (by omega);have e3:=u.list (by omega) (by omega);have e4:=p.ns0 (by omega);obtain ⟨k,n,s,l,ns⟩:=j;simp only at e1 e2 e3 e4 m;subst e1 e2 e3 e4 m;rfl
    rw [e];simp only [gc_,cond_true,ae_];rw [ej]
  . have hb:=u.bool m
    have e2:=p.s0 (by omega);have e3:=u.list (by omega) (by omega);have e4:=p.ns0 (by omega);obtain ⟨k,n,s,l,ns⟩:=j;simp only at e2 e3 e4 m hb;subst e2 e3 e4 m;have:n=0\/n=1:=by omega
    rcases this with rfl|rfl
    . have e:FEnc (d+1) (aa_.mk 1 0 [] [] [])++r=102::([97,108,115,101]++r):=rfl
      have e5:eU_ ⟨102::([97,108,115,101]++r),false⟩ [102,97,108,115,101]=(true,⟨r,false⟩):=gc_ [102,97,108,115,101] r;rw [e];simp only [fy_,ab_ hv_,c0_ (show (102:UInt8)≠110 by decide),e5,cond_false,cond_true,ae_]
    . have e:FEnc (d+1) (aa_.mk 1 1 [] [] [])++r=116::([114,117,101]++r):=rfl
      have e5:eU_ ⟨116::([114,117,101]++r),false⟩ [116,114,117,101]=(true,⟨r,false⟩):=gc_ [116,114,117,101] r;rw [e];simp only [fy_,ab_ hv_,c0_ (show (116:UInt8)≠110 by decide),c0_ (show (116:UInt8)≠102 by decide),e5,cond_false,cond_true,ae_]
  . have S:=u.num m
    have e:FEnc (d+1) j=Lib.itoa j.n_:=by simp only [FEnc,m,Int.reduceBEq,cond_true,cond_false]
    rw [e] at hl ⊢;have I:=s5_ S.1 S.2 hs hl;have ej:aa_.mk 2 j.n_ [] [] []=j:=by have e2:=p.s0 (by omega);have e3:=u.list (by omega) (by omega);have e4:=p.ns0 (by omega);obtain ⟨k,n,s,l,ns⟩:=j;simp only at e2 e3 e4 m;subst e2 e3 e4 m;rfl
    rw [ej] at I;obtain ⟨c,t,ec,hc⟩:=h9_ j.n_;rw [ec] at I ⊢;have ne:∀ x:UInt8,(x.toNat<45\/x.toNat=46\/57<x.toNat)->c≠x:=by
     rintro x hx rfl
     rcases hc with rfl|hc
     . revert hx;decide
     . unfold fJ_ at hc;omega
    rw [List.cons_append] at I ⊢;simp only [fy_,ab_ hv_,c0_ (ne 110 (by decide)),c0_ (ne 102 (by decide)),c0_ (ne 116 (by decide)),c0_ (ne 91 (by decide)),c0_ (ne 123 (by decide)),pM_ (ne 34 (by decide)),cond_false,ab_ I,ae_]
  . have ht:=p.text m
    have e:FEnc (d+1) j=dr_ j.s:=by simp only [FEnc,m,Int.reduceBEq,cond_true,cond_false]
    rw [e] at hl ⊢;have hq:=kp_ hl;have ej:aa_.mk 3 0 j.s [] []=j:=by have e2:=p.n0 (by omega) (by omega);have e3:=u.list (by omega) (by omega);have e4:=p.ns0 (by omega);obtain ⟨k,n,s,l,ns⟩:=j;simp only at e2 e3 e4 m;subst e2 e3 e4 m;rfl
    have ec:dr_ j.s++r=34::(j.s.flatMap fT_++[34]++r):=by simp [dr_]
    rw [ec] at hq ⊢;have J:pfx [34] (34::(j.s.flatMap fT_++[34]++r))=true:=jc_ [34] _;simp only [fy_,ab_ hv_,c0_ (show (34:UInt8)≠110 by decide),c0_ (show (34:UInt8)≠102 by decide),c0_ (show (34:UInt8)≠116 by decide),J,cond_false,cond_true,ab_ hq,ae_,ej]
  . have e:FEnc (d+1) j=[91]++eq_ (FEnc d) j j.list.length++[93]:=by simp only [FEnc,m,Int.reduceBEq,cond_true,cond_false]
    have e1:FEnc (d+1) j++r=91::(eq_ (FEnc d) j j.list.length++93::r):=by rw [e];simp
    rw [e1] at hl ⊢;have z:=pN_ (by omega) h (.inl m) ih 93 (.inl rfl) r (by simp only [List.length_cons] at hl;omega);rw [oS_ h (.inl m),m] at z;have e5:eU_ ⟨91::(eq_ (FEnc d) j j.list.length++93::r),false⟩ [91]=(true,⟨eq_ (FEnc d) j j.list.length++93::r,false⟩):=gc_ [91] _;simp only [fy_,ab_ hv_,c0_ (show (91:UInt8)≠110 by decide),c0_ (show (91:UInt8)≠102 by decide),c0_ (show (91:UInt8)≠116 by decide),pM_ (show (91:UInt8)≠34 by decide),e5,cond_false,cond_true,ab_ z,ae_]
  . have e:FEnc (d+1) j=[123]++eq_ (FEnc d) j j.list.length++[125]:=by simp only [FEnc,m,Int.reduceBEq,cond_true,cond_false]
    have e1:FEnc (d+1) j++r=123::(eq_ (FEnc d) j j.list.length++125::r):=by rw [e];simp
    rw [e1] at hl ⊢;have z:=pN_ (by omega) h (.inr m) ih 125 (.inr rfl) r (by simp only [List.length_cons] at hl;omega);rw [oS_ h (.inr m),m] at z;have e5:eU_ ⟨123::(eq_ (FEnc d) j j.list.length++125::r),false⟩ [123]=(true,⟨eq_ (FEnc d) j j.list.length++125::r,false⟩):=gc_ [123] _;simp only [fy_,ab_ hv_,c0_ (show (123:UInt8)≠110 by decide),c0_ (show (123:UInt8)≠102 by decide),c0_ (show (123:UInt8)≠116 by decide),c0_ (show (123:UInt8)≠91 by decide),pM_ (show (123:UInt8)≠34 by decide),e5,cond_false,cond_true,ab_ z,ae_]
abbrev j1_:Nat:=4194304
structure At (s:Bs) (p:Nat) (x:Bs):Prop where
 le:p<=s.length
 eq:s.drop p=x
theorem At.next {s a b:Bs} {p:Nat} (h:At s p (a++b)):At s (p+a.length) b:=by have k:=congrArg List.length h.eq;simp only [List.length_drop,List.length_append] at k;have m:=h.le;exact ⟨by omega,by rw [<-List.drop_drop,h.eq,List.drop_left]⟩
theorem At.next1 {s t:Bs} {c:UInt8} {p:Nat} (h:At s p (c::t)):At s (p+1) t:=At.next (a:=[c]) h
theorem At.lt {s t:Bs} {c:UInt8} {p:Nat} (h:At s p (c::t)):p<s.length/\s.getD p 0=c:=by
 have m:=congrArg List.length h.eq;simp only [List.length_drop,List.length_cons] at m;have k:p<s.length:=by omega
 refine ⟨k,?_⟩;have:=ds_ 0 k;rw [h.eq] at this;exact (List.cons.inj this).1.symm
theorem At.end_ {s:Bs} {p:Nat} (h:At s p []):p=s.length:=by have k:=congrArg List.length h.eq;simp only [List.length_drop,List.length_nil] at k;have:=h.le;omega
def iu_ (s:Bs) (p:Nat):Int:=cond (decide (p<s.length)) ((s.getD p 0).toNat:Int) 0
theorem eL_ {s:Bs} {p:Nat} {ok:Bool} {left:Int}:Ev (fun n _=>c1_ n ⟨s,(p:Int),ok,left⟩) (iu_ s p,⟨s,(p:Int),ok,left⟩):=by
 refine am_ ?_;simp only [c1_,al_,bc_,ae_,Int.toNat_natCast,iu_];by_cases h:p<s.length
 . rw [decide_eq_true h]
   exact ⟨fun hc=>by have:=of_decide_eq_true hc;omega,fun _=>⟨by omega,rfl⟩⟩
 . rw [decide_eq_false h]
   exact ⟨fun _=>rfl,fun hc=>by have:=of_decide_eq_false hc;omega⟩
theorem eM_ {s t:Bs} {c:UInt8} {p:Nat} (h:At s p (c::t)):iu_ s p=(c.toNat:Int):=by obtain ⟨m,k⟩:=h.lt;unfold iu_;rw [decide_eq_true m,k];rfl
theorem peek_end {s:Bs} {p:Nat} (h:At s p []):iu_ s p=0:=by unfold iu_;rw [decide_eq_false (by have:=h.end_;omega)];rfl
theorem oz_ {s:Bs} {p:Nat} (h:iu_ s p≠0):p<s.length:=by
 unfold iu_ at h;by_cases k:p<s.length
 . exact k
 . rw [decide_eq_false k] at h;exact absurd rfl h
def FTk (s:Bs) (p:Nat) (ok:Bool) (left:Int) (w:Bs):a7_:=cond (pfx w (s.drop p)) ⟨s,((p+w.length:Nat):Int),ok,left⟩ ⟨s,(p:Int),false,left⟩
theorem jw_ {s w:Bs} {p:Nat} {ok:Bool} {left:Int} (hs:s.length<=j1_) (k:w.length<=100) (m:p<=s.length):Ev (fun n _=>cj_ n ⟨s,(p:Int),ok,left⟩ w) (FTk s p ok left w):=by
 refine am_ ?_;simp only [j1_] at hs;have e1:W ((s.length:Int) - (p:Int))=(s.length:Int) - p:=W_id (by omega) (by omega);have e2:W ((p:Int)+(w.length:Int))=((p+w.length:Nat):Int):=by rw [W_id (by omega) (by omega)];omega
 simp only [cj_,e1,e2,al_,dQ_,ae_,Int.toNat_natCast,FTk];have e3:pfx w (s.drop p)=(((s.take (p+w.length)).drop p) == w):=by rw [lw_,List.drop_zero,List.drop_take,show p+w.length - p=w.length by omega]
 refine ⟨fun h => ?_,fun h => ?_⟩
 . have h:=of_decide_eq_true h
   cases e:pfx w (s.drop p) with
   |false=>rfl
   |true=>have:=jb_ e;simp only [List.length_drop] at this;omega
 . have h:=of_decide_eq_false h
   refine ⟨by omega,?_⟩;rw [e3];cases ((s.take (p+w.length)).drop p == w)<;>simp
theorem pt_ {s w t:Bs} {p:Nat} {ok:Bool} {left:Int} (h:At s p (w++t)):FTk s p ok left w=⟨s,((p+w.length:Nat):Int),ok,left⟩:=by unfold FTk;rw [h.eq,jc_];rfl
theorem kh_ {s w:Bs} {p:Nat} {ok:Bool} {left:Int} (k:p<=s.length):∃ p' ok',FTk s p ok left w=⟨s,((p':Nat):Int),ok',left⟩/\p<=p'/\p'<=s.length/\(ok'=true->ok=true):=by
 unfold FTk;cases e:pfx w (s.drop p) with
 |false=>exact ⟨p,false,rfl,by omega,k,fun h=>(by cases h)⟩
 |true=>have:=jb_ e;simp only [List.length_drop] at this;exact ⟨p+w.length,ok,rfl,by omega,by omega,id⟩
theorem k0_ {s:Bs} {p:Nat} {ok:Bool} {left:Int} (hs:s.length<=j1_) (U:p<=s.length) :
  Ans (fun n _=>aH_ n ⟨s,(p:Int),ok,left⟩) fun x=>∃ p' ok',x.2=⟨s,((p':Nat):Int),ok',left⟩/\p'<=s.length/\x.1.length<=j1_/\(ok'=true->ok=true):=by
 refine ci_ ?_;simp only [aH_,bg_ (jw_ (w:=[34]) hs (by simp) U)];obtain ⟨p0,ok0,e0,_,J,O⟩:=kh_ (w:=[34]) (ok:=ok) (left:=left) U;rw [e0];have I:=hs;simp only [j1_] at hs;have z:∀ (K:Nat->aH_.K4) (Q:Bs × a7_->Prop),(∀ (q:Nat) b o,q<=s.length->o.length<=j1_->(b=true->ok0=true)->Ans (fun n _=>K n s (q:Int) b left o) Q)->Ans (fun n _=>aH_.loop4 n (K n) n s (p0:Int) ok0 left []) Q:=by
  intro K Q T;refine gk_ (σ:=Nat × Bool × List Int) (fun n N st=>aH_.loop4 n (K n) N s (st.1:Int) st.2.1 left st.2.2) (fun st=>s.length - st.1) (fun st=>st.1<=s.length/\st.2.2.length<=st.1/\(st.2.1=true->ok0=true)) _ (fun st m ih => ?_) (p0,ok0,[]) ⟨J,Nat.zero_le _,id⟩;obtain ⟨q,b,o⟩:=st;simp only at m ih ⊢;have k:=T q b o m.1 (by simp only [j1_];omega) m.2.2;have Z:W ((q:Int)+1)=((q+1:Nat):Int):=by rw [W_id (by omega) (by omega)];omega
  have S:W (((q+1:Nat):Int)+1)=((q+1+1:Nat):Int):=by rw [W_id (by omega) (by omega)];omega
  simp only [aH_.turn4,aH_.step4,bj_,bg_ eL_,Z,S,eN_,d7_,Int.toNat_natCast];refine ⟨fun hb=>⟨fun _=>⟨fun u => ?_,fun _=>⟨fun hc=>T q false o m.1 (by simp only [j1_];omega) (fun h=>(by cases h)),fun hc => ?_⟩⟩,fun _=>k⟩,fun _=>k⟩
  . have Y:q<s.length:=oz_ (fun e=>by rw [e] at u;revert u;decide)
    refine ⟨fun hc=>T (q+1) false o (by omega) (by simp only [j1_];omega) (fun h=>(by cases h)),fun hc => ?_⟩;have hc:=of_decide_eq_false hc;exact ⟨by omega,by simp;omega,ih (q+1+1,b,_) ⟨by simp only;omega,by simp;omega,m.2.2⟩ (by simp only;omega)⟩
  . have hc:=of_decide_eq_false hc
    exact ⟨by omega,by simp;omega,ih (q+1,b,_) ⟨by simp only;omega,by simp;omega,m.2.2⟩ (by simp only;omega)⟩
 refine z _ _ fun q b o hq V hb => ?_;simp only [bg_ (jw_ (w:=[34]) I (by simp) hq),aX_];obtain ⟨p1,ok1,e1,h2,h3,h4⟩:=kh_ (w:=[34]) (ok:=b) (left:=left) hq;exact ⟨p1,ok1,e1,h3,by simpa using V,fun h=>O (hb (h4 h))⟩
theorem kZ_ {s t r:Bs} {p:Nat} {left:Int} (hs:s.length<=j1_) (h:At s p (dr_ t++r)) :
  Ev (fun n _=>aH_ n ⟨s,(p:Int),true,left⟩) (t,⟨s,((p+(dr_ t).length:Nat):Int),true,left⟩):=by
 have e:dr_ t++r=[34]++(t.flatMap fT_++34::r):=by simp [dr_]
 have eq:(dr_ t).length=1+(t.flatMap fT_).length+1:=by simp [dr_];omega
 rw [e] at h;have Z:At s (p+1) (t.flatMap fT_++34::r):=h.next;refine am_ ?_;simp only [aH_,ab_ (jw_ (w:=[34]) hs (by simp) h.le),pt_ h];have S:=hs;simp only [j1_] at hs;have O:∀ (K:Nat->aH_.K4) (F:Bs × a7_),Ev (fun n _=>K n s ((p+1+(t.flatMap fT_).length:Nat):Int) true left (bi t)) F ->
   ∀ (u v:Bs) (q:Nat),v++u=t->q=p+1+(v.flatMap fT_).length->At s q (u.flatMap fT_++34::r)->Ev (fun n N=>aH_.loop4 n (K n) N s (q:Int) true left (bi v)) F:=by
  intro K F hK u;induction u with
  |nil=>
   intro v q J hq ha;rw [List.append_nil] at J;subst J hq;refine a8_ ?_;have ha:At s (p+1+(v.flatMap fT_).length) (34::r):=ha;simp only [aH_.turn4,aH_.step4,cond_true,ab_ eL_,eM_ ha];exact hK
  |cons c u ih=>
   intro v q J hq ha;have k:=ih (v++[c]) (q+(fT_ c).length) (by rw [<-J];simp) (by rw [hq];simp;omega) (by
    rw [List.flatMap_cons,List.append_assoc] at ha;exact ha.next)
   rw [<-pb_] at k;have hvl:v.length<=(v.flatMap fT_).length:=by
    clear J hq k;induction v with
    |nil=>exact Nat.le_refl _
    |cons c v ih=>
     rw [List.flatMap_cons,List.length_append,List.length_cons];have:1<=(fT_ c).length:=by unfold fT_;split<;>simp
     omega
   have T:=k9_ v;rw [List.flatMap_cons,List.append_assoc] at ha;generalize bi v=o at k T ⊢;refine a8_ ?_;by_cases hc:c=34\/c=92
   . have e1:fT_ c=[92,c]:=if_pos hc
     rw [e1] at ha k;have ha:At s q (92::c::(u.flatMap fT_++34::r)):=ha;have hl:=ha.next1.lt;have V:W ((q:Int)+1)=((q+1:Nat):Int):=by rw [W_id (by omega) (by omega)];omega
     have U:W (((q+1:Nat):Int)+1)=((q+1+1:Nat):Int):=by rw [W_id (by omega) (by omega)];omega
     have I:decide (((q+1:Nat):Int)>=(s.length:Int))=false:=decide_eq_false (by omega);have z:(((92:UInt8).toNat:Int) != 34)=true:=rfl;have m:(((92:UInt8).toNat:Int) == 92)=true:=rfl;simp only [aH_.turn4,aH_.step4,cond_true,cond_false,ab_ eL_,eM_ ha,z,m,V,U,I,bc_,ba_,Int.toNat_natCast,hl.2];exact ⟨by omega,by simp;omega,k⟩
   . have e1:fT_ c=[c]:=if_neg hc
     rw [e1] at ha k;have ha:At s q (c::(u.flatMap fT_++34::r)):=ha;have hl:=ha.lt;have V:W ((q:Int)+1)=((q+1:Nat):Int):=by rw [W_id (by omega) (by omega)];omega
     have I:decide ((q:Int)>=(s.length:Int))=false:=decide_eq_false (by omega);have z:((c.toNat:Int) != 34)=true:=by show (!((c.toNat:Int) == 34))=true;rw [byte34,decide_eq_false fun e=>hc (.inl e)];rfl
     have m:((c.toNat:Int) == 92)=false:=by rw [byte92,decide_eq_false fun e=>hc (.inr e)]
     simp only [aH_.turn4,aH_.step4,cond_true,cond_false,ab_ eL_,eM_ ha,z,m,V,I,bc_,ba_,Int.toNat_natCast,hl.2];exact ⟨by omega,by simp;omega,k⟩
 have Y:At s (p+1+(t.flatMap fT_).length) (34::r):=Z.next;have:=O (fun n=>fun B4 B5 B6 B7 B8=>((cj_ n (a7_.mk B4 B5 B6 B7) [34]).bind fun A9=>(some ((hS_ B8),A9)))) (t,⟨s,((p+(dr_ t).length:Nat):Int),true,left⟩) (by
  simp only [ab_ (jw_ (w:=[34]) S (by simp) Y.le),pt_ (w:=[34]) Y,ae_,kg_];show (t,a7_.mk s ((p+1+(t.flatMap fT_).length+1:Nat):Int) true left)=_;rw [show p+1+(t.flatMap fT_).length+1=p+(dr_ t).length by omega]) t [] (p+1) rfl rfl Z
 exact cX_ (f:=fun n N=>aH_.loop4 n (fun B4 B5 B6 B7 B8=>((cj_ n (a7_.mk B4 B5 B6 B7) [34]).bind fun A9=>(some ((hS_ B8),A9)))) N s ((p+1:Nat):Int) true left []) this
theorem k2_ {s:Bs} {p:Nat} {ok:Bool} {left:Int} (hs:s.length<=j1_) (Y:p<=s.length) :
  Ans (fun n _=>aE_ n ⟨s,(p:Int),ok,left⟩) fun x=>∃ p' ok',x.2=⟨s,((p':Nat):Int),ok',left⟩/\p'<=s.length/\(ok'=true->ok=true) /\ -9223372036854775808<=x.1/\x.1<=9223372036854775807:=by
 have z:∀ x:Int,-9223372036854775808<=W x/\W x<=9223372036854775807:=by intro x;show -9223372036854775808<=IntKind.i64.wrap x/\IntKind.i64.wrap x<=9223372036854775807;rw [IntKind.wrap_i64];omega
 simp only [j1_] at hs;have I:∀ (K:Nat->aE_.K7) (Q:Int × a7_->Prop) (t3:Bool) (t4:Int) (p0:Nat),p0<=s.length->(∀ (q:Nat) (x:Int),q<=s.length -> -9223372036854775808<=x->x<=9223372036854775807->Ans (fun n _=>K n t3 t4 x s (q:Int) ok left) Q)->Ans (fun n _=>aE_.loop7 n (K n) n t3 t4 0 s (p0:Int) ok left) Q:=by
  intro K Q t3 t4 p0 T Z;refine gk_ (σ:=Nat × Int) (fun n N st=>aE_.loop7 n (K n) N t3 t4 st.2 s (st.1:Int) ok left) (fun st=>s.length - st.1) (fun st=>st.1<=s.length /\ -9223372036854775808<=st.2/\st.2<=9223372036854775807) _ (fun st S ih => ?_) (p0,0) ⟨T,by simp,by simp⟩;obtain ⟨q,x⟩:=st;simp only at S ih ⊢;have u:=Z q x S.1 S.2.1 S.2.2;have V:W ((q:Int)+1)=((q+1:Nat):Int):=by rw [W_id (by omega) (by omega)];omega
  simp only [aE_.turn7,aE_.step7,bj_,bg_ eL_,V];refine ⟨fun J=>⟨fun _=>⟨fun _ => ?_,fun _=>u⟩,fun _=>u⟩,fun _=>u⟩;have J:=of_decide_eq_true J;have U:q<s.length:=oz_ (fun e=>by omega);exact ih (q+1,_) ⟨by simp only;omega,z _⟩ (by simp only;omega)
 refine ci_ ?_;simp only [aE_,bg_ eL_,bj_];refine ⟨fun O => ?_,fun _ => ?_⟩
 . have U:p<s.length:=oz_ (fun e=>by rw [e] at O;revert O;decide)
   have V:W ((p:Int)+1)=((p+1:Nat):Int):=by rw [W_id (by omega) (by omega)];omega
   rw [V];refine I _ _ _ _ (p+1) (by omega) fun q x hq m k => ?_;simp only [bj_,aX_];exact ⟨fun _=>⟨fun _=>⟨q,false,rfl,hq,fun h=>(by cases h),z _⟩,fun _=>⟨q,false,rfl,hq,fun h=>(by cases h),m,k⟩⟩,fun _=>⟨fun _=>⟨q,ok,rfl,hq,id,z _⟩,fun _=>⟨q,ok,rfl,hq,id,m,k⟩⟩⟩
 . refine I _ _ _ _ p Y fun q x hq m k => ?_
   simp only [bj_,aX_];exact ⟨fun _=>⟨fun _=>⟨q,false,rfl,hq,fun h=>(by cases h),z _⟩,fun _=>⟨q,false,rfl,hq,fun h=>(by cases h),m,k⟩⟩,fun _=>⟨fun _=>⟨q,ok,rfl,hq,id,z _⟩,fun _=>⟨q,ok,rfl,hq,id,m,k⟩⟩⟩
theorem k1_ {s r:Bs} {p:Nat} {left:Int} {n:Int} (hs:s.length<=j1_) (h0 : -1000000000<=n) (h1:n<=1000000000) (Y:Stop r) (h:At s p (Lib.itoa n++r)) :
  Ev (fun m _=>aE_ m ⟨s,(p:Int),true,left⟩) (n,⟨s,((p+(Lib.itoa n).length:Nat):Int),true,left⟩):=by
 simp only [j1_] at hs;have T:∀ (K:Nat->aE_.K7) (F:Int × a7_) (t3:Bool) (f:Nat) (D:Bs),(∀ c ∈ D,fJ_ c)->∀ (q x:Nat),f<=q->q+D.length<=f+10->ke_ x D<=1000000000->At s q (D++r) ->
   Ev (fun n _=>K n t3 (f:Int) (ke_ x D:Int) s ((q+D.length:Nat):Int) true left) F->Ev (fun n N=>aE_.loop7 n (K n) N t3 (f:Int) (x:Int) s (q:Int) true left) F:=by
  intro K F t3 f D;induction D with
  |nil=>
   intro _ q x hf hl V ha O;refine a8_ ?_;have O:Ev (fun n _=>K n t3 (f:Int) (x:Int) s (q:Int) true left) F:=O;have ha:At s q r:=ha;simp only [aE_.turn7,aE_.step7,ab_ eL_,al_];have Z:¬ (48<=iu_ s q/\iu_ s q<=57):=by
    cases r with
    |nil=>rw [peek_end ha];omega
    |cons c r=>rw [eM_ ha];have:=Y c r rfl;unfold fJ_ at this;omega
   exact ⟨fun a=>⟨fun b=>absurd ⟨of_decide_eq_true a,of_decide_eq_true b⟩ Z,fun _=>O⟩,fun _=>O⟩
  |cons c D ih=>
   intro hd q x hf hl V ha O;have hc:=hd c (List.mem_cons_self ..);unfold fJ_ at hc;rw [ju_] at V O;have hle:=val_le (10*x+(c.toNat - 48)) D;have ha:At s q (c::(D++r)):=ha;have hlt:=ha.lt;simp only [List.length_cons] at hl;have U:=ih (fun c hc=>hd c (List.mem_cons_of_mem _ hc)) (q+1) (10*x+(c.toNat - 48)) (by omega) (by omega) V ha.next1 (by
    rw [show q+1+D.length=q+(c::D).length by simp;omega];exact O)
   have hW:W ((q:Int)+1)=((q+1:Nat):Int):=by rw [W_id (by omega) (by omega)];omega
   have hW2:W ((q:Int) - (f:Int))=(q:Int) - f:=W_id (by omega) (by omega);have hW3:W (10*(x:Int))=((10*x:Nat):Int):=by rw [W_id (by omega) (by omega)];omega
   have hW4:W (((10*x:Nat):Int)+(c.toNat:Int))=((10*x+c.toNat:Nat):Int):=by rw [W_id (by omega) (by omega)];omega
   have hW5:W (((10*x+c.toNat:Nat):Int) - 48)=((10*x+(c.toNat - 48):Nat):Int):=by rw [W_id (by omega) (by omega)];omega
   refine a8_ ?_;simp only [aE_.turn7,aE_.step7,ab_ eL_,eM_ ha,sH_,hW,hW2,hW3,hW4,hW5,al_];exact ⟨fun _=>⟨fun _=>⟨fun _=>U,fun hx=>by have:=of_decide_eq_false hx;omega⟩,fun hx=>by have:=of_decide_eq_false hx;omega⟩,fun hx=>by have:=of_decide_eq_false hx;omega⟩
 refine am_ ?_;by_cases U:n<0
 . have e:Lib.itoa n=45::Lib.decDigits n.natAbs:=by unfold Lib.itoa;rw [if_pos U]
   rw [e] at h ⊢;have z:=mP_ n.natAbs;have J:=rl_ 9 n.natAbs (by omega);have k:=im_ n.natAbs;have u:=og_ n.natAbs;generalize Lib.decDigits n.natAbs=D at h z J k u ⊢;have h:At s p (45::(D++r)):=h;have hlt:=h.lt;have hW:W ((p:Int)+1)=((p+1:Nat):Int):=by rw [W_id (by omega) (by omega)];omega
   have hW0:W (0 - ((n.natAbs:Nat):Int))=n:=by rw [W_id (by omega) (by omega)];omega
   have S:(((45:UInt8).toNat:Int) == 45)=true:=rfl;simp only [aE_,ab_ eL_,eM_ h,S,cond_true,hW];have I:(((p+1+D.length:Nat):Int) == ((p+1:Nat):Int))=false:=beq_eq_false_iff_ne.2 (by omega);have:=T (fun n=>fun B5 B6 B7 B8 B9 B10 B11=>(cond (B9 == B6) (cond B5 (some ((W (0 - B7)),(a7_.mk B8 B9 false B11))) (some (B7,(a7_.mk B8 B9 false B11)))) (cond B5 (some ((W (0 - B7)),(a7_.mk B8 B9 B10 B11))) (some (B7,(a7_.mk B8 B9 B10 B11)))))) (n,⟨s,((p+(45::D).length:Nat):Int),true,left⟩) true (p+1) D k (p+1) 0 (Nat.le_refl _) (by omega) (by omega) h.next1 (by
    simp only [I,cond_false,cond_true,u,hW0,ae_,List.length_cons];congr 3;omega)
   exact cX_ (f:=fun n N=>aE_.loop7 n (fun B5 B6 B7 B8 B9 B10 B11=>(cond (B9 == B6) (cond B5 (some ((W (0 - B7)),(a7_.mk B8 B9 false B11))) (some (B7,(a7_.mk B8 B9 false B11)))) (cond B5 (some ((W (0 - B7)),(a7_.mk B8 B9 B10 B11))) (some (B7,(a7_.mk B8 B9 B10 B11)))))) N true ((p+1:Nat):Int) 0 s ((p+1:Nat):Int) true left) this
 . have e:Lib.itoa n=Lib.decDigits n.toNat:=by unfold Lib.itoa;rw [if_neg U]
   rw [e] at h ⊢;have z:=mP_ n.toNat;have J:=rl_ 9 n.toNat (by omega);have k:=im_ n.toNat;have u:=og_ n.toNat;generalize Lib.decDigits n.toNat=D at h z J k u ⊢;have S:(iu_ s p == 45)=false:=by
    cases D with
    |nil=>simp at z
    |cons c D=>
     have h:At s p (c::(D++r)):=h;have hc:=k c (List.mem_cons_self ..);unfold fJ_ at hc;rw [eM_ h];exact beq_eq_false_iff_ne.2 (by omega)
   have hN:((n.toNat:Nat):Int)=n:=by omega
   simp only [aE_,ab_ eL_,S,cond_false];have I:(((p+D.length:Nat):Int) == (p:Int))=false:=beq_eq_false_iff_ne.2 (by omega);have:=T (fun n=>fun B12 B13 B14 B15 B16 B17 B18=>(cond (B16 == B13) (cond B12 (some ((W (0 - B14)),(a7_.mk B15 B16 false B18))) (some (B14,(a7_.mk B15 B16 false B18)))) (cond B12 (some ((W (0 - B14)),(a7_.mk B15 B16 B17 B18))) (some (B14,(a7_.mk B15 B16 B17 B18)))))) (n,⟨s,((p+D.length:Nat):Int),true,left⟩) false p D k p 0 (Nat.le_refl _) (by omega) (by omega) h (by
    simp only [I,cond_false,u,hN,ae_])
   exact cX_ (f:=fun n N=>aE_.loop7 n (fun B12 B13 B14 B15 B16 B17 B18=>(cond (B16 == B13) (cond B12 (some ((W (0 - B14)),(a7_.mk B15 B16 false B18))) (some (B14,(a7_.mk B15 B16 false B18)))) (cond B12 (some ((W (0 - B14)),(a7_.mk B15 B16 B17 B18))) (some (B14,(a7_.mk B15 B16 B17 B18)))))) N false (p:Int) 0 s (p:Int) true left) this
def rJ_ (s:Bs) (left:Int) (d:Nat) (x:aa_ × a7_):Prop :=
 ∃ (p':Nat) (ok':Bool) (left':Int),x.2=⟨s,(p':Int),ok',left'⟩/\p'<=s.length /\ -1<=left'/\left'<left/\(ok'=true->0<=left')/\fx_ d x.1
theorem many_any {s:Bs} (hs:s.length<=j1_) {d:Nat} (hd:d<=1000) (ih:∀ (p:Nat) (ok:Bool) (left:Int),p<=s.length->0<=left->left<=400->Ans (fun n _=>bT_ n ⟨s,(p:Int),ok,left⟩ (d:Int)) (rJ_ s left d))
  (p:Nat) (left:Int) (V:p<s.length) (h0:0<=left) (h1:left<=400):Ans (fun n _=>a0_ n ⟨s,(p:Int),true,left⟩ ((d+1:Nat):Int)) (rJ_ s (left+1) (d+1)):=by
 have Z:W (((d+1:Nat):Int) - 1)=(d:Int):=by rw [W_id (by omega) (by omega)];omega
 have z:=hs;simp only [j1_] at hs;have T:W ((p:Int)+1)=((p+1:Nat):Int):=by rw [W_id (by omega) (by omega)];omega
 have J:∀ (K:Nat->a0_.K8_1) (Q:aa_ × a7_->Prop) (kind:Int) (e:UInt8),(∀ (q:Nat) b (l:Int) js ns,q<=s.length -> -1<=l->l<=left->(b=true->0<=l)->js.length<=402->(∀ y ∈ js,fx_ d y)->ns.length<=402->(∀ y ∈ ns,y.length<=j1_)->Ans (fun n _=>K n [e] s (q:Int) b l 0 0 [] kind 0 [] js ns) Q) ->
   Ans (fun n _=>a0_.loop8 n (bT_ n) (K n) n ((d+1:Nat):Int) [e] s ((p+1:Nat):Int) true left 0 0 [] kind 0 [] [] []) Q:=by
  intro K Q kind e hK;refine gk_ (σ:=Nat × Bool × Int × List aa_ × List Bs) (fun n N st=>a0_.loop8 n (bT_ n) (K n) N ((d+1:Nat):Int) [e] s (st.1:Int) st.2.1 st.2.2.1 0 0 [] kind 0 [] st.2.2.2.1 st.2.2.2.2)
   (fun st=>(st.2.2.1+1).toNat) (fun st=>st.1<=s.length /\ -1<=st.2.2.1/\st.2.2.1+st.2.2.2.1.length<=left/\(st.2.1=true->0<=st.2.2.1)/\(∀ y ∈ st.2.2.2.1,fx_ d y)/\st.2.2.2.2.length<=st.2.2.2.1.length/\(∀ y ∈ st.2.2.2.2,y.length<=j1_)) _ (fun st U ihl => ?_) (p+1,true,left,[],[]) ⟨V,by simp only;omega,by simp,fun _=>h0,fun y h=>(by cases h),Nat.le_refl _,fun y h=>(by cases h)⟩
  obtain ⟨q,b,l,js,ns⟩:=st;simp only at U ihl ⊢;obtain ⟨i1,i2,i3,i4,i5,i6,i7⟩:=U;have I:=hK q b l js ns i1 i2 (by omega) i4 (by omega) i5 (by omega) i7;simp only [a0_.turn8,a0_.step8,aY_,Z,bj_,bg_ eL_,eN_,List.length_cons,List.length_nil];refine ⟨fun hb=>⟨by omega,fun _ => ?_,fun _=>I⟩,fun _=>I⟩;subst hb;have l0:=i4 rfl;have m:∀ (q:Nat) (b:Bool) (ns':List Bs),q<=s.length->ns'.length<=js.length+1->(∀ y ∈ ns',y.length<=j1_) ->
    Ans (fun n N=>(bT_ n ⟨s,(q:Int),b,l⟩ (d:Int)).bind fun A6=>bk_ (js.length+(0+1)) 80 (a0_.loop8 n (bT_ n) (K n) N ((d+1:Nat):Int) [e] A6.2.s A6.2.at_ A6.2.ok A6.2.left 0 0 [] kind 0 [] (js++[A6.1]) ns')) Q:=by
   intro q b ns' hq Y S;refine az_ (ih q b l hq l0 (by omega)) fun v O => ?_;obtain ⟨j,c⟩:=v;obtain ⟨p',ok',left',e1,e2,e3,e4,e5,e6⟩:=O;simp only at e1 e6;subst e1;simp only [d7_];refine ⟨by omega,ihl (p',ok',left',js++[j],ns') ⟨e2,e3,by simp;omega,e5,?_,by simpa using Y,S⟩ (by simp only;omega)⟩;intro y k;rcases List.mem_append.1 k with k|k
   . exact i5 y k
   . obtain rfl:=List.mem_singleton.1 k;exact e6
  have u:∀ (q:Nat) (b:Bool),q<=s.length ->
    Ans (fun n N=>(aH_ n ⟨s,(q:Int),b,l⟩).bind fun A4=>bk_ (ns.length+(0+1)) 16 ((cj_ n A4.2 [58]).bind fun A5=>(bT_ n A5 (d:Int)).bind fun A6=>bk_ (js.length+(0+1)) 80 (a0_.loop8 n (bT_ n) (K n) N ((d+1:Nat):Int) [e] A6.2.s A6.2.at_ A6.2.ok A6.2.left 0 0 [] kind 0 [] (js++[A6.1]) (ns++[A4.1])))) Q:=by
   intro q b hq;refine az_ (k0_ (ok:=b) (left:=l) z hq) fun v O => ?_;obtain ⟨t,c⟩:=v;obtain ⟨p',ok',e1,e2,e3,e4⟩:=O;simp only at e1 e3;subst e1;obtain ⟨p2,ok2,g1,g2,g3,g4⟩:=kh_ (w:=[58]) (ok:=ok') (left:=l) e2;simp only [d7_,bg_ (jw_ (w:=[58]) z (by simp) e2),g1];refine ⟨by omega,m p2 ok2 (ns++[t]) g3 (by simp;omega) fun y k => ?_⟩;rcases List.mem_append.1 k with k|k
   . exact i7 y k
   . obtain rfl:=List.mem_singleton.1 k;exact e3
  refine ⟨fun _ => ?_,fun _=>⟨fun _=>u q true i1,fun _=>m q true ns i1 (by omega) i7⟩⟩;obtain ⟨p2,ok2,g1,g2,g3,g4⟩:=kh_ (w:=[44]) (ok:=true) (left:=l) i1;simp only [bg_ (jw_ (w:=[44]) z (by simp) i1),g1,bj_];exact ⟨fun _=>u p2 ok2 g3,fun _=>m p2 ok2 ns g3 (by omega) i7⟩
 have fin:∀ (e:UInt8) (kind:Int) (q:Nat) (b:Bool) (l:Int) (js:List aa_) (ns:List Bs),q<=s.length -> -1<=l->l<=left->(b=true->0<=l)->js.length<=402->(∀ y ∈ js,fx_ d y)->ns.length<=402->(∀ y ∈ ns,y.length<=j1_) ->
   Ans (fun n (_:Nat)=>(cj_ n (a7_.mk s (q:Int) b l) [e]).bind fun A25=>some ((aa_.mk kind 0 [] js ns),A25)) (rJ_ s (left+1) (d+1)):=by
  intro e kind q b l js ns a1 a2 a3 a4 a5 a6 a7 a8;obtain ⟨p2,ok2,g1,g2,g3,g4⟩:=kh_ (w:=[e]) (ok:=b) (left:=l) a1;simp only [bg_ (jw_ (w:=[e]) z (by simp) a1),g1,aX_];refine ⟨p2,ok2,l,rfl,g3,a2,by omega,fun h=>a4 (g4 h),⟨Nat.zero_le _,?_,fun y k => ?_⟩,?_,a6⟩
  . show ns.length<=cf_;simp only [cf_];omega
  . have:=a8 y k;simp only [j1_] at this;simp only [cf_];omega
  . show js.length<=cf_;simp only [cf_];omega
 refine ci_ ?_;simp only [a0_,bg_ eL_,bj_,T];exact ⟨fun _=>J _ _ 5 125 fun q b l js ns a1 a2 a3 a4 a5 a6 a7 a8=>fin 125 5 q b l js ns a1 a2 a3 a4 a5 a6 a7 a8,fun _=>J _ _ 4 93 fun q b l js ns a1 a2 a3 a4 a5 a6 a7 a8=>fin 93 4 q b l js ns a1 a2 a3 a4 a5 a6 a7 a8⟩
theorem mr_ {s:Bs} (hs:s.length<=j1_):∀ (d:Nat),d<=1000->∀ (p:Nat) (ok:Bool) (left:Int),p<=s.length->0<=left->left<=400->Ans (fun n _=>bT_ n ⟨s,(p:Int),ok,left⟩ (d:Int)) (rJ_ s left d)
 |0,_,p,ok,left,z,h0,h1=>by have hl:W (left - 1)=left - 1:=W_id (by omega) (by omega);refine ci_ ?_;simp only [bT_,bj_,aX_,hl];exact ⟨fun _=>⟨p,false,_,rfl,z,by omega,by omega,fun h=>(by cases h),trivial⟩,fun h=>by simp at h⟩
 |d+1,hd,p,ok,left,z,h0,h1=>by
  have U:=many_any hs (d:=d) (by omega) (mr_ hs d (by omega));have hl:W (left - 1)=left - 1:=W_id (by omega) (by omega);refine ci_ ?_;simp only [bT_,aY_,bj_,aX_,hl,bg_ eL_];refine ⟨fun h=>by simp at h;omega,fun _=>⟨fun _=>⟨p,false,_,rfl,z,by omega,by omega,fun h=>(by cases h),e7_⟩,fun hc => ?_⟩⟩;have hc:=of_decide_eq_false hc;refine ⟨fun _=>⟨p,ok,_,rfl,z,by omega,by omega,fun h=>by omega,e7_⟩,fun J => ?_⟩;have J:ok=true:=by simpa using J
  subst J;have I:∀ (w:Bs) (k n:Int),w.length<=100->Ans (fun m (_:Nat)=>(cj_ m ⟨s,(p:Int),true,left - 1⟩ w).bind fun xr=>some (aa_.mk k n [] [] [],xr)) (rJ_ s left (d+1)):=by intro w k n Y;obtain ⟨p2,ok2,g1,g2,g3,g4⟩:=kh_ (w:=w) (ok:=true) (left:=left - 1) z;simp only [bg_ (jw_ (w:=w) hs Y z),g1,aX_];exact ⟨p2,ok2,_,rfl,g3,by omega,by omega,fun _=>by omega,e7_⟩
  have O:Ans (fun m (_:Nat)=>(aE_ m ⟨s,(p:Int),true,left - 1⟩).bind fun xr=>some (aa_.mk 2 xr.1 [] [] [],xr.2)) (rJ_ s left (d+1)):=by refine az_ (k2_ (ok:=true) (left:=left - 1) hs z) fun v S => ?_;obtain ⟨x,c⟩:=v;obtain ⟨p',ok',e1,e2,e3,_⟩:=S;simp only at e1;subst e1;simp only [aX_];exact ⟨p',ok',_,rfl,e2,by omega,by omega,fun _=>by omega,e7_⟩
  have u:(iu_ s p == 91)=true\/(iu_ s p == 123)=true->Ans (fun n (_:Nat)=>(a0_ n ⟨s,(p:Int),true,left - 1⟩ ((d+1:Nat):Int)).bind fun A8=>some (A8.1,A8.2)) (rJ_ s left (d+1)):=by intro T;have V:p<s.length:=oz_ (fun e=>by rw [e] at T;revert T;decide);refine az_ (U p (left - 1) V (by omega) (by omega)) fun v S => ?_;simp only [aX_];obtain ⟨p',ok',left',e1,e2,e3,e4,e5,e6⟩:=S;exact ⟨p',ok',left',e1,e2,e3,by omega,e5,e6⟩
  refine ⟨fun _=>I _ 0 0 (by simp),fun _=>⟨fun _=>I _ 1 1 (by simp),fun _=>⟨fun _=>I _ 1 0 (by simp),fun _=>⟨fun _ => ?_,fun _=>⟨fun h=>⟨fun _=>u (.inl h),fun _=>O⟩,fun _=>⟨fun h=>u (.inr h),fun _=>O⟩⟩⟩⟩⟩⟩;refine az_ (k0_ (ok:=true) (left:=left - 1) hs z) fun v S => ?_;obtain ⟨t,c⟩:=v;obtain ⟨p',ok',e1,e2,e3,e4⟩:=S;simp only at e1 e3;subst e1;simp only [aX_];exact ⟨p',ok',_,rfl,e2,by omega,by omega,fun _=>by omega,pW_ (by simp only [j1_] at e3;simp only [cf_];omega)⟩
theorem r9_ {s:Bs} (hs:s.length<=j1_) {d:Nat} (hd:d<=1000) {j:aa_} (h:bI_ (d+1) j<=400) (u:j.kind=4\/j.kind=5)
  (ih:∀ x,bI_ d x<=400->∀ (p:Nat) (r:Bs) (left:Int),Stop r->(bI_ d x:Int)<=left->left<=400->At s p (FEnc d x++r)->Ev (fun n _=>bT_ n ⟨s,(p:Int),true,left⟩ (d:Int)) (x,⟨s,((p+(FEnc d x).length:Nat):Int),true,left - bI_ d x⟩))
  (o c:UInt8) (T:(j.kind=4->o=91/\c=93)/\(j.kind=5->o=123/\c=125)) (r:Bs) (p:Nat) (left:Int) (hl:(eF_ (bI_ d) j.list:Int)<=left) (J:left<=400) (ha:At s p (o::(eq_ (FEnc d) j j.list.length++c::r))) :
  Ev (fun n _=>a0_ n ⟨s,(p:Int),true,left⟩ ((d+1:Nat):Int)) (aa_.mk j.kind 0 [] j.list j.names,⟨s,((p+1+(eq_ (FEnc d) j j.list.length).length+1:Nat):Int),true,left - eF_ (bI_ d) j.list⟩):=by
 have hW:W (((d+1:Nat):Int) - 1)=(d:Int):=by rw [W_id (by omega) (by omega)];omega
 have O:=hs;simp only [j1_] at hs;have hll:=eZ_ h;have hnl:=fV_ h;have ho:=(d8_ h).1;have ho2:=ft_ (e6_ h);have hlt:=ha.lt;have hWp:W ((p:Int)+1)=((p+1:Nat):Int):=by rw [W_id (by omega) (by omega)];omega
 have hc:c.toNat=93\/c.toNat=125:=by
  rcases u with u|u
  . rw [(T.1 u).2];exact .inl rfl
  . rw [(T.2 u).2];exact .inr rfl
 have hcd:¬ fJ_ c:=ri_ (kind:=0) hc;have key:∀ (K:Nat->a0_.K8_1) (F:aa_ × a7_) (k i q:Nat) (left:Int),i+k=j.list.length->(eF_ (bI_ d) (j.list.drop i):Int)<=left->left<=400->At s q (dR_ (FEnc d) j k i++c::r) ->
   Ev (fun n _=>K n [c] s ((q+(dR_ (FEnc d) j k i).length:Nat):Int) true (left - eF_ (bI_ d) (j.list.drop i)) 0 0 [] j.kind 0 [] j.list j.names) F ->
   Ev (fun n N=>a0_.loop8 n (bT_ n) (K n) N ((d+1:Nat):Int) [c] s (q:Int) true left 0 0 [] j.kind 0 [] (j.list.take i) (j.names.take i)) F:=by
  intro K F k;induction k with
  |zero=>
   intro i q left hi hl _ ha Z;have ei:i=j.list.length:=by omega
   subst ei;have en:j.names.take j.list.length=j.names:=by
    rcases u with u|u
    . rw [ho2.ns0 (by omega)];simp
    . exact List.take_of_length_le (by rw [(ho.obj u).1];exact Nat.le_refl _)
   have ha:At s q (c::r):=ha;have Z:Ev (fun n _=>K n [c] s (q:Int) true left 0 0 [] j.kind 0 [] j.list j.names) F:=by simpa [dR_,eF_] using Z
   refine a8_ ?_;have hne:((c.toNat:Int) != (([c]:Bs).getD 0 0).toNat)=false:=by simp
   simp only [a0_.turn8,a0_.step8,List.take_length,en,cond_true,ab_ eL_,eM_ ha,hne,cond_false,bc_];exact ⟨by simp,Z⟩
  |succ k ihk=>
   intro i q left hi hl J ha Z;have V:i<j.list.length:=by omega
   have hp:=fF_ h (i:=i) (by omega);rw [jy_ (bI_ d) aa_.dflt V] at hl Z;have z:=ihk (i+1);rw [cH_ aa_.dflt V] at z;have hx:=ih _ hp.size;have hst:Stop (dR_ (FEnc d) j k (i+1)++c::r):=py_ _ _ _ _ hcd r;have etl:(j.list.take i).length=i:=by simp;omega
   have iN_:∀ (q':Nat),At s q' (dJ_ (FEnc d) j i++(dR_ (FEnc d) j k (i+1)++c::r))->q'+(dJ_ (FEnc d) j i).length+(dR_ (FEnc d) j k (i+1)).length=q+(dR_ (FEnc d) j (k+1) i).length ->
     Ev (fun n N=>cond (j.kind == 5) ((aH_ n ⟨s,(q':Int),true,left⟩).bind fun A4=>bk_ ((j.names.take i).length+[A4.1].length) 16 ((cj_ n A4.2 [58]).bind fun A5=>(bT_ n A5 (d:Int)).bind fun A6=>bk_ ((j.list.take i).length+[A6.1].length) 80 (a0_.loop8 n (bT_ n) (K n) N ((d+1:Nat):Int) [c] A6.2.s A6.2.at_ A6.2.ok A6.2.left 0 0 [] j.kind 0 [] (j.list.take i++[A6.1]) (j.names.take i++[A4.1]))))
      ((bT_ n ⟨s,(q':Int),true,left⟩ (d:Int)).bind fun A6=>bk_ ((j.list.take i).length+[A6.1].length) 80 (a0_.loop8 n (bT_ n) (K n) N ((d+1:Nat):Int) [c] A6.2.s A6.2.at_ A6.2.ok A6.2.left 0 0 [] j.kind 0 [] (j.list.take i++[A6.1]) (j.names.take i)))) F:=by
    intro q' m S;rcases u with u|u
    . have h5:(j.kind == 5)=false:=by rw [u];rfl
      have en:j.names=[]:=ho2.ns0 (by omega);have ef:dJ_ (FEnc d) j i=FEnc d (j.list.getD i aa_.dflt):=by unfold dJ_;rw [h5];rfl
      rw [ef] at m S;have hx:=hx q' _ left hst (by omega) J m;have hn:=z (q'+(FEnc d (j.list.getD i aa_.dflt)).length) (left - bI_ d (j.list.getD i aa_.dflt)) (by omega) (by omega) (by omega) m.next (by
       rw [S,show left - (bI_ d (j.list.getD i aa_.dflt):Int) - (eF_ (bI_ d) (j.list.drop (i+1)):Int)=left - ((bI_ d (j.list.getD i aa_.dflt)+eF_ (bI_ d) (j.list.drop (i+1)):Nat):Int) by omega];exact Z)
      rw [en,List.take_nil] at hn;simp only [h5,cond_false,ab_ hx,ba_,en,List.take_nil];exact ⟨by simp;omega,hn⟩
    . have h5:(j.kind == 5)=true:=by rw [u];rfl
      obtain ⟨o1,o2⟩:=ho.obj u;have ef:dJ_ (FEnc d) j i=dr_ (j.names.getD i [])++([58]++FEnc d (j.list.getD i aa_.dflt)):=by unfold dJ_;rw [h5];rfl
      rw [ef] at m S;simp only [List.append_assoc] at m;have hq:=kZ_ (left:=left) O m;have I:=m.next;have ha3:=I.next;have hx:=hx _ _ left hst (by omega) J ha3;rw [cH_ [] (show i<j.names.length by omega)] at z;have hn:=z _ (left - bI_ d (j.list.getD i aa_.dflt)) (by omega) (by omega) (by omega) ha3.next (by
       rw [show q'+(dr_ (j.names.getD i [])).length+([58]:Bs).length+(FEnc d (j.list.getD i aa_.dflt)).length+(dR_ (FEnc d) j k (i+1)).length=q+(dR_ (FEnc d) j (k+1) i).length by rw [<-S];simp only [List.length_append];omega,
        show left - (bI_ d (j.list.getD i aa_.dflt):Int) - (eF_ (bI_ d) (j.list.drop (i+1)):Int)=left - ((bI_ d (j.list.getD i aa_.dflt)+eF_ (bI_ d) (j.list.drop (i+1)):Nat):Int) by omega]
       exact Z)
      simp only [h5,cond_true,ab_ hq,ab_ (jw_ (w:=[58]) O (by simp) I.le),pt_ I,ab_ hx,ba_];exact ⟨by simp;omega,by simp;omega,hn⟩
   refine a8_ ?_;by_cases h0:i=0
   . have e0:dR_ (FEnc d) j (k+1) i=dJ_ (FEnc d) j i++dR_ (FEnc d) j k (i+1):=by rw [dR_,if_pos h0];rfl
     have m:At s q (dJ_ (FEnc d) j i++(dR_ (FEnc d) j k (i+1)++c::r)):=by rw [e0,List.append_assoc] at ha;exact ha
     have hr:=iN_ q m (by rw [e0,List.length_append];omega);obtain ⟨a,p0,ep,hp1,hp2,hp3⟩:=oc_ h (i:=i) (by omega);have Y:(iu_ s q != (([c]:Bs).getD 0 0).toNat)=true:=by rw [ep] at m;rw [eM_ (t:=p0++(dR_ (FEnc d) j k (i+1)++c::r)) m];show (!((a.toNat:Int) == (c.toNat:Int)))=true;rw [beq_eq_false_iff_ne.2 (by omega)];rfl
     have hg:decide (((j.list.take i).length:Int) > 0)=false:=decide_eq_false (by omega);simp only [a0_.turn8,a0_.step8,aY_,hW,cond_true,ab_ eL_,Y,hg,cond_false,bc_];exact ⟨by simp,hr⟩
   . have e0:dR_ (FEnc d) j (k+1) i=[44]++(dJ_ (FEnc d) j i++dR_ (FEnc d) j k (i+1)):=by rw [dR_,if_neg h0]
     have m:At s q ([44]++(dJ_ (FEnc d) j i++(dR_ (FEnc d) j k (i+1)++c::r))):=by rw [e0,List.append_assoc,List.append_assoc] at ha;exact ha
     have hr:=iN_ (q+([44]:Bs).length) m.next (by rw [e0];simp only [List.length_append];omega);have Y:(iu_ s q != (([c]:Bs).getD 0 0).toNat)=true:=by rw [eM_ (c:=44) m];show (!(((44:UInt8).toNat:Int) == (c.toNat:Int)))=true;rw [beq_eq_false_iff_ne.2 (show (((44:UInt8).toNat:Int))≠(c.toNat:Int) by show (44:Int)≠_;omega)];rfl
     have hg:decide (((j.list.take i).length:Int) > 0)=true:=decide_eq_true (by omega);simp only [a0_.turn8,a0_.step8,aY_,hW,cond_true,ab_ eL_,Y,hg,ab_ (jw_ (w:=[44]) O (by simp) m.le),pt_ m,bc_];exact ⟨by simp,hr⟩
 have U:=ha.next1;rw [m4_] at U ⊢;have I:=U.next;have fin:Ev (fun n (_:Nat)=>(cj_ n (a7_.mk s ((p+1+(dR_ (FEnc d) j j.list.length 0).length:Nat):Int) true (left - eF_ (bI_ d) (j.list.drop 0))) [c]).bind fun A25=>some ((aa_.mk j.kind 0 [] j.list j.names),A25)) (aa_.mk j.kind 0 [] j.list j.names,⟨s,((p+1+(dR_ (FEnc d) j j.list.length 0).length+1:Nat):Int),true,left - eF_ (bI_ d) j.list⟩):=by simp only [ab_ (jw_ (w:=[c]) O (by simp) I.le),pt_ (w:=[c]) I,ae_,List.drop_zero];rfl
 refine am_ ?_;simp only [a0_,ab_ eL_,eM_ ha,hWp];rcases u with u|u
 . obtain ⟨rfl,rfl⟩:=T.1 u
   have h1:(((91:UInt8).toNat:Int) == 123)=false:=rfl;have:=key (fun n=>fun B26 B27 B28 B29 B30 B31 B32 B33 B34 B35 B36 B37 B38=>((cj_ n (a7_.mk B27 B28 B29 B30) B26).bind fun A39=>(some ((aa_.mk B34 B35 B36 B37 B38),A39)))) _ j.list.length 0 (p+1) left (by omega) (by rw [List.drop_zero];exact hl) J U fin
   rw [u] at this ⊢;simp only [h1,cond_false];exact cX_ this
 . obtain ⟨rfl,rfl⟩:=T.2 u
   have h1:(((123:UInt8).toNat:Int) == 123)=true:=rfl;have:=key (fun n=>fun B12 B13 B14 B15 B16 B17 B18 B19 B20 B21 B22 B23 B24=>((cj_ n (a7_.mk B13 B14 B15 B16) B12).bind fun A25=>(some ((aa_.mk B20 B21 B22 B23 B24),A25)))) _ j.list.length 0 (p+1) left (by omega) (by rw [List.drop_zero];exact hl) J U fin
   rw [u] at this ⊢;simp only [h1,cond_true];exact cX_ this
theorem mq_ {s:Bs} (hs:s.length<=j1_):∀ (d:Nat),d<=1000->∀ x,bI_ d x<=400->∀ (p:Nat) (r:Bs) (left:Int),Stop r->(bI_ d x:Int)<=left->left<=400->At s p (FEnc d x++r)->Ev (fun n _=>bT_ n ⟨s,(p:Int),true,left⟩ (d:Int)) (x,⟨s,((p+(FEnc d x).length:Nat):Int),true,left - bI_ d x⟩)
 |0,_,x,h,p,r,left,_,_,_,_=>by simp only [bI_] at h;omega
 |d+1,hd,j,h,p,r,left,T,hl,hl2,ha=>by
  have ih:=mq_ hs d (by omega);have O:=(d8_ h).1;have z:=ft_ (e6_ h);have J:=(d8_ h).2;have Y:=qE_ (d+1) j;have V:W (left - 1)=left - 1:=W_id (by omega) (by omega);have hz:((((d+1:Nat):Int)) == 0)=false:=beq_eq_false_iff_ne.2 (by omega);have U:decide (left - 1<0)=false:=decide_eq_false (by omega);refine am_ ?_;simp only [bT_,aY_,V,hz,U,Bool.not_true,cond_false,ab_ eL_];have I:j.list=[]->left - 1=left - (bI_ (d+1) j:Int):=by intro e;rw [J,e];simp [eF_]
  rcases O.kind with u|u|u|u|u|u
  . have e:FEnc (d+1) j=[110,117,108,108]:=by simp only [FEnc,u,Int.reduceBEq,cond_true]
    have e3:=O.list (by omega) (by omega);rw [<-I e3];have ej:j=aa_.mk 0 0 [] [] []:=by have e1:=z.n0 (by omega) (by omega);have e2:=z.s0 (by omega);have e4:=z.ns0 (by omega);obtain ⟨k,n,s,l,ns⟩:=j;simp only at e1 e2 e3 e4 u;subst e1 e2 e3 e4 u;rfl
    rw [e] at ha ⊢;have m:=eM_ (c:=110) (t:=[117,108,108]++r) ha;have c1:(((110:UInt8).toNat:Int) == 110)=true:=rfl;simp only [m,c1,cond_true,ab_ (jw_ (w:=[110,117,108,108]) hs (by simp) ha.le),pt_ ha,ae_];rw [ej]
  . have hb:=O.bool u
    have e2:=z.s0 (by omega);have e3:=O.list (by omega) (by omega);have e4:=z.ns0 (by omega);rw [<-I e3];obtain ⟨k,n,ss,l,ns⟩:=j;simp only at e2 e3 e4 u hb;subst e2 e3 e4 u;have:n=0\/n=1:=by omega
    rcases this with rfl|rfl
    . have e:FEnc (d+1) (aa_.mk 1 0 [] [] [])=[102,97,108,115,101]:=rfl
      rw [e] at ha ⊢;have m:=eM_ (c:=102) (t:=[97,108,115,101]++r) ha;have c1:(((102:UInt8).toNat:Int) == 110)=false:=rfl;have c2:(((102:UInt8).toNat:Int) == 116)=false:=rfl;have c3:(((102:UInt8).toNat:Int) == 102)=true:=rfl;simp only [m,c1,c2,c3,cond_true,cond_false,ab_ (jw_ (w:=[102,97,108,115,101]) hs (by simp) ha.le),pt_ ha,ae_]
    . have e:FEnc (d+1) (aa_.mk 1 1 [] [] [])=[116,114,117,101]:=rfl
      rw [e] at ha ⊢;have m:=eM_ (c:=116) (t:=[114,117,101]++r) ha;have c1:(((116:UInt8).toNat:Int) == 110)=false:=rfl;have c2:(((116:UInt8).toNat:Int) == 116)=true:=rfl;simp only [m,c1,c2,cond_true,cond_false,ab_ (jw_ (w:=[116,114,117,101]) hs (by simp) ha.le),pt_ ha,ae_]
  . have Z:=O.num u
    have e:FEnc (d+1) j=Lib.itoa j.n_:=by simp only [FEnc,u,Int.reduceBEq,cond_true,cond_false]
    have e3:=O.list (by omega) (by omega);rw [<-I e3];rw [e] at ha ⊢;have hN:=k1_ (left:=left - 1) hs Z.1 Z.2 T ha;have ej:aa_.mk 2 j.n_ [] [] []=j:=by have e2:=z.s0 (by omega);have e4:=z.ns0 (by omega);obtain ⟨k,n,s,l,ns⟩:=j;simp only at e2 e3 e4 u;subst e2 e3 e4 u;rfl
    obtain ⟨c,t,ec,hc⟩:=h9_ j.n_;have m:iu_ s p=(c.toNat:Int):=by rw [ec] at ha;exact eM_ (t:=t++r) ha
    have ne:∀ x:Int,(x<45\/x=46\/57<x)->((c.toNat:Int) == x)=false:=by
     intro x hx;refine beq_eq_false_iff_ne.2 ?_;rcases hc with rfl|hc
     . show (45:Int)≠x;omega
     . unfold fJ_ at hc;omega
    simp only [m,ne 110 (by decide),ne 116 (by decide),ne 102 (by decide),ne 34 (by decide),ne 91 (by decide),ne 123 (by decide),cond_false,ab_ hN,ae_,ej]
  . have ht:=z.text u
    have e:FEnc (d+1) j=dr_ j.s:=by simp only [FEnc,u,Int.reduceBEq,cond_true,cond_false]
    have e3:=O.list (by omega) (by omega);rw [<-I e3];rw [e] at ha ⊢;have hq:=kZ_ (left:=left - 1) hs ha;have ej:aa_.mk 3 0 j.s [] []=j:=by have e2:=z.n0 (by omega) (by omega);have e4:=z.ns0 (by omega);obtain ⟨k,n,s,l,ns⟩:=j;simp only at e2 e3 e4 u;subst e2 e3 e4 u;rfl
    have m:iu_ s p=((34:UInt8).toNat:Int):=eM_ (c:=34) (t:=j.s.flatMap fT_++[34]++r) (by
     have:dr_ j.s++r=34::(j.s.flatMap fT_++[34]++r):=by simp [dr_]
     rw [<-this];exact ha)
    have c1:(((34:UInt8).toNat:Int) == 110)=false:=rfl;have c2:(((34:UInt8).toNat:Int) == 116)=false:=rfl;have c3:(((34:UInt8).toNat:Int) == 102)=false:=rfl;have c4:(((34:UInt8).toNat:Int) == 34)=true:=rfl;simp only [m,c1,c2,c3,c4,cond_true,cond_false,ab_ hq,ae_,ej]
  . have e:FEnc (d+1) j=[91]++eq_ (FEnc d) j j.list.length++[93]:=by simp only [FEnc,u,Int.reduceBEq,cond_true,cond_false]
    have e1:FEnc (d+1) j++r=91::(eq_ (FEnc d) j j.list.length++93::r):=by rw [e];simp
    have e2:p+(FEnc (d+1) j).length=p+1+(eq_ (FEnc d) j j.list.length).length+1:=by rw [e];simp;omega
    rw [e1] at ha;rw [e2];have S:=r9_ hs (by omega) h (.inl u) ih 91 93 ⟨fun _=>⟨rfl,rfl⟩,fun h=>by omega⟩ r p (left - 1) (by omega) (by omega) ha;rw [oS_ h (.inl u),show left - 1 - (eF_ (bI_ d) j.list:Int)=left - (bI_ (d+1) j:Int) by rw [J];omega] at S;have m:=eM_ ha;have c1:(((91:UInt8).toNat:Int) == 110)=false:=rfl;have c2:(((91:UInt8).toNat:Int) == 116)=false:=rfl;have c3:(((91:UInt8).toNat:Int) == 102)=false:=rfl;have c4:(((91:UInt8).toNat:Int) == 34)=false:=rfl;have c5:(((91:UInt8).toNat:Int) == 91)=true:=rfl;simp only [m,c1,c2,c3,c4,c5,cond_true,cond_false,ab_ S,ae_]
  . have e:FEnc (d+1) j=[123]++eq_ (FEnc d) j j.list.length++[125]:=by simp only [FEnc,u,Int.reduceBEq,cond_true,cond_false]
    have e1:FEnc (d+1) j++r=123::(eq_ (FEnc d) j j.list.length++125::r):=by rw [e];simp
    have e2:p+(FEnc (d+1) j).length=p+1+(eq_ (FEnc d) j j.list.length).length+1:=by rw [e];simp;omega
    rw [e1] at ha;rw [e2];have S:=r9_ hs (by omega) h (.inr u) ih 123 125 ⟨fun h=>by omega,fun _=>⟨rfl,rfl⟩⟩ r p (left - 1) (by omega) (by omega) ha;rw [oS_ h (.inr u),show left - 1 - (eF_ (bI_ d) j.list:Int)=left - (bI_ (d+1) j:Int) by rw [J];omega] at S;have m:=eM_ ha;have c1:(((123:UInt8).toNat:Int) == 110)=false:=rfl;have c2:(((123:UInt8).toNat:Int) == 116)=false:=rfl;have c3:(((123:UInt8).toNat:Int) == 102)=false:=rfl;have c4:(((123:UInt8).toNat:Int) == 34)=false:=rfl;have c5:(((123:UInt8).toNat:Int) == 91)=false:=rfl;have c6:(((123:UInt8).toNat:Int) == 123)=true:=rfl;simp only [m,c1,c2,c3,c4,c5,c6,cond_true,cond_false,ab_ S,ae_]
theorem m9_ {a b:List Bs} (ha:a.length<=cf_):Ev (fun n _=>aK_ n a b) (jn_ a b):=by
 refine am_ ?_;simp only [aK_,r5_,al_,ae_];unfold jn_;by_cases hl:a.length=b.length
 . rw [decide_eq_true hl]
   refine ⟨fun h=>(by cases h),fun _ => ?_⟩;refine gj_ (e8_ (fun n N i=>aK_.loop6 n (some true) N a b (a.length:Int) (i:Int)) (fun i=>a.getD i [] == b.getD i []) (len:=a.length) (v:=true) (fun i w hi ih => ?_) ?_) (by rw [Bool.and_true,Bool.true_and])
   . simp only [aK_.turn6,aK_.step6,Int.toNat_natCast,W_up hi ha,al_,bc_,ae_,dK_ ih,cE_ hi,ch_ hi,ch_ (hl ▸ hi)]
     cases (a.getD i [] == b.getD i [])<;>simp
   . simp only [aK_.turn6,aK_.step6,co_,cond_false,ae_]
 . rw [decide_eq_false hl]
   exact ⟨fun _=>rfl,fun h=>(by cases h)⟩
theorem jS_:∀ (d:Nat) (a b:aa_),tw_ d a->fx_ d a->Ev (fun n _=>ed_ n a b) (e9_ d a b)
 |0,a,b,h,_=>h.elim
 |d+1,a,b,h,hl=>by
  refine am_ ?_;have k:Ev (fun n _=>ai_ n a.list b.list) (decide (a.list.length=b.list.length)&&iO_ (fun i=>e9_ d (a.list.getD i aa_.dflt) (b.list.getD i aa_.dflt)) a.list.length):=by
   refine am_ ?_;simp only [ai_,r5_,al_,ae_];by_cases hq:a.list.length=b.list.length
   . rw [decide_eq_true hq]
     refine ⟨fun h=>(by cases h),fun _ => ?_⟩;refine gj_ (e8_ (fun n N i=>ai_.loop6 n (ed_ n) (some true) N b.list a.list (a.list.length:Int) (i:Int)) (fun i=>e9_ d (a.list.getD i aa_.dflt) (b.list.getD i aa_.dflt)) (len:=a.list.length) (v:=true) (fun i w hi ih => ?_) ?_) (by rw [Bool.and_true,Bool.true_and])
     . have hx:=jS_ d (a.list.getD i aa_.dflt) (b.list.getD i aa_.dflt) (h _ (b2_ _ hi)) (hl.2.2 _ (b2_ _ hi))
       simp only [ai_.turn6,ai_.step6,aY_,Int.toNat_natCast,W_up hi hl.2.1,al_,bc_,ab_ hx,ae_,dK_ ih,cE_ hi,ch_ hi,ch_ (hq ▸ hi)];cases e9_ d (a.list.getD i aa_.dflt) (b.list.getD i aa_.dflt)<;>simp
     . simp only [ai_.turn6,ai_.step6,co_,cond_false,ae_]
   . rw [decide_eq_false hq]
     exact ⟨fun _=>rfl,fun h=>(by cases h)⟩
  simp only [ed_,al_,ab_ (m9_ (b:=b.names) hl.1.2.1),ab_ k,ae_,e9_];cases (a.kind == b.kind)<;>cases (a.n_ == b.n_)<;>cases (a.s == b.s)<;>cases jn_ a.names b.names<;>simp
def gD_ (a b:aa_):Bool:=cM_ a&&(cM_ b&&e9_ 6 a b)
theorem hM_ {a b:aa_} (ha:fx_ 6 a) (hb:fx_ 6 b):Ev (fun n _=>dV_ n a b) (gD_ a b):=by
 refine am_ ?_;simp only [dV_,aY_,ab_ (eK_ ha),ab_ (eK_ hb),al_,ae_,gD_];cases k:cM_ a with
 |false=>simp
 |true=>
  have hd:tw_ 6 a:=he_ 6 a (of_decide_eq_true k);simp only [ab_ (jS_ 6 a b hd ha),ae_];cases cM_ b<;>simp
theorem f3_ {a b:aa_} (ha:fx_ 6 a) (hb:fx_ 6 b):Ev (fun n _=>dC_ n a b) (gD_ a b):=by
 refine am_ ?_;simp only [dC_,aY_,ab_ (dD_ ha),ab_ (dD_ hb),al_,ae_,gD_];cases k:cM_ a with
 |false=>simp
 |true=>
  have hd:tw_ 6 a:=he_ 6 a (of_decide_eq_true k);simp only [ab_ (fN_ 6 a b hd ha),ae_];cases cM_ b<;>simp
theorem iz_ {d:Nat} {j:aa_} (h:bI_ (d+1) j<=400) {x:aa_} (hx:x ∈ j.list):bI_ d x<=400:=by have:=(d8_ h).2;have:=i5_ (bI_ d) hx;omega
theorem dl_:∀ (d:Nat) (j:aa_),bI_ d j<=400->fx_ d j
 |0,_,_=>trivial
 |d+1,j,h=>by
  have p:=(d8_ h).1;have k:=ft_ (e6_ h);have z:=eZ_ h;have u:=fV_ h;refine ⟨⟨?_,by simp only [cf_];omega,fun x hx => ?_⟩,by simp only [cf_];omega,fun x hx=>dl_ d x (iz_ h hx)⟩
  . by_cases m:j.kind=3
    . have:=ir_ (k.text m);simp only [cf_];omega
    . rw [k.s0 m];exact Nat.zero_le _
  . by_cases m:j.kind=5
    . obtain ⟨i,hi,e⟩:=List.getElem_of_mem hx
      have:=iM_ (p.obj m).2 hi;rw [List.getD_eq_getElem?_getD,List.getElem?_eq_getElem hi,Option.getD_some,e] at this;simp only [cf_];omega
    . rw [k.ns0 m] at hx;cases hx
theorem nz_ {α:Type} {f g:α->Nat}:∀ {l:List α},(∀ x ∈ l,f x=g x)->eF_ f l=eF_ g l
 |[],_=>rfl
 |x::l,h=>by simp only [eF_];rw [h x (List.mem_cons_self ..),nz_ fun y k=>h y (List.mem_cons_of_mem _ k)]
theorem lD_:∀ (d:Nat) (j:aa_),bI_ d j<=400->bI_ (d+1) j=bI_ d j
 |0,j,h=>by simp only [bI_] at h;omega
 |d+1,j,h=>by have hs:=(d8_ h).2;have k:=e6_ h;have e:eF_ (bI_ (d+1)) j.list=eF_ (bI_ d) j.list:=nz_ fun x hx=>lD_ d x (iz_ h hx);rw [bI_,k,cond_true,e,<-hs];omega
theorem eJ_:bI_ 6 g8_<=400:=by decide
theorem mN_ {j:aa_} (h:bC_ j≠[]):bI_ 6 j<=400/\bC_ j=FEnc 6 j/\(FEnc 6 j).length<=6000:=by
 unfold bC_ at h ⊢;cases k:cM_ j with
 |false=>rw [k] at h;exact absurd rfl h
 |true=>
  rw [k] at h;simp only [cond_true] at h ⊢;cases hl:decide (((FEnc 6 j).length:Int) > 6000) with
  |true=>rw [hl] at h;exact absurd rfl h
  |false=>have:=of_decide_eq_false hl;exact ⟨of_decide_eq_true k,rfl,by omega⟩
theorem ii_ {s:Bs} (hs:s.length<=4194304):Ans (fun n _=>dO_ n s) fun x=>bI_ 6 x.1<=400:=by
 refine ci_ ?_;simp only [dO_,aY_,bj_,aX_];refine ⟨fun _=>eJ_,fun _ => ?_⟩;by_cases p:s=[]
 . subst p
   have u:Ev (fun n _=>ap_ n ⟨[],false⟩) (aa_.mk 2 0 [] [] [],⟨[],true⟩):=by have z:Ev (fun n _=>cV_ n []) (0,false):=nb_ (s:=[]) (by simp);refine am_ ?_;simp only [ap_];refine cX_ (f:=fun n N=>ap_.loop3 n (fun B2 B3 B4 B5 B6 B7=>(f6_ 0 B2 B3.length ((cV_ n ((B3.take B2.toNat).drop 0)).bind fun A8=>(cond (!A8.2) (f6_ B2 (B3.length:Int) B3.length (some ((aa_.mk 2 A8.1 [] ([]:List aa_) ([]:List Bs)),(aP_.mk ((B3.take (B3.length:Int).toNat).drop B2.toNat) true)))) (f6_ B2 (B3.length:Int) B3.length (some ((aa_.mk 2 A8.1 [] ([]:List aa_) ([]:List Bs)),(aP_.mk ((B3.take (B3.length:Int).toNat).drop B2.toNat) B4)))))))) N 0 [] false 0 0 []) (a8_ ?_);have e0:(([]:Bs).take (0:Int).toNat).drop 0=[]:=rfl;have c0:decide ((0:Int)<((([]:Bs).length:Nat):Int))=false:=rfl;simp only [ap_.turn3,ap_.step3,c0,cond_false,e0,dQ_,ab_ z,Bool.not_false,cond_true,ae_];exact ⟨⟨by decide,by decide,by decide⟩,⟨by decide,by decide,by decide⟩,rfl⟩
   have k:Ev (fun n _=>a2_ n ⟨[],false⟩ 6) (aa_.mk 2 0 [] [] [],⟨[],true⟩):=by have m:decide ((6:Int)<1)=false:=rfl;refine am_ ?_;simp only [a2_,aY_,m,cond_false,fy_,ab_ hv_,take_nil,pfx_nil,ab_ u,ae_]
   simp only [bg_ k,cond_true,aX_];exact eJ_
 . refine az_ (ps_ 6 (by omega) ⟨s,false⟩ hs) fun v k => ?_
   simp only [bj_,aX_,bg_ (ep_ k.2)];refine ⟨fun _=>eJ_,fun _=>⟨fun _=>eJ_,fun h => ?_⟩⟩;have e:bC_ v.1=s:=by simpa using h
   exact (mN_ (by rw [e];exact p)).1
theorem ih_ {j:aa_} (h:bC_ j≠[]):Ev (fun n _=>dO_ n (bC_ j)) (j,true):=by
 obtain ⟨p,m,z⟩:=mN_ h;have k:=pr_ 6 (by omega) j p [] ok_ (by rw [List.append_nil];omega);rw [List.append_nil,<-m] at k;have k:Ev (fun n _=>a2_ n ⟨bC_ j,false⟩ 6) (j,⟨[],false⟩):=k;have u:=ep_ (dl_ 6 j p);have hl:decide (((bC_ j).length:Int) > 6000)=false:=by rw [m];exact decide_eq_false (by omega)
 refine am_ ?_;simp only [dO_,aY_,hl,cond_false,ab_ k,ab_ u,beq_self_eq_true,Bool.not_true,ae_]
theorem l0_ {s:Bs} (hs:s.length<=4194304):Ans (fun n _=>d4_ n s) fun x=>bI_ 6 x.1<=400:=by
 refine ci_ ?_;simp only [d4_,aY_,bj_,aX_];refine ⟨fun _=>eJ_,fun k=>⟨fun _=>eJ_,fun _ => ?_⟩⟩;refine az_ (mr_ (s:=s) hs 6 (by omega) 0 true 400 (Nat.zero_le _) (by omega) (by omega)) fun v m => ?_;obtain ⟨p',ok',left',e1,e2,e3,e4,e5,e6⟩:=m;simp only [bj_,aX_,bg_ (dY_ e6)];refine ⟨fun _=>eJ_,fun _=>⟨fun _=>eJ_,fun _=>⟨fun _=>eJ_,fun h => ?_⟩⟩⟩;have e:bC_ v.1=s:=by simpa using h
 exact (mN_ (by rw [e];intro e;rw [e] at k;cases k)).1
theorem h2_ {j:aa_} (h:bC_ j≠[]):Ev (fun n _=>d4_ n (bC_ j)) (j,true):=by
 obtain ⟨p,m,J⟩:=mN_ h;have u:(bC_ j).length<=6000:=by rw [m];exact J
 have k:=mq_ (s:=bC_ j) (by simp only [j1_];omega) 6 (by omega) j p 0 [] 400 ok_ (by omega) (by omega) ⟨Nat.zero_le _,by rw [List.append_nil,<-m];rfl⟩;have k:Ev (fun n _=>bT_ n ⟨bC_ j,0,true,400⟩ 6) (j,⟨bC_ j,((0+(FEnc 6 j).length:Nat):Int),true,400 - bI_ 6 j⟩):=k;have I:=dY_ (dl_ 6 j p);have hl:decide (((bC_ j).length:Int) > 6000)=false:=decide_eq_false (by omega);have z:(bC_ j == [])=false:=beq_eq_false_iff_ne.2 h;have ha:(((0+(FEnc 6 j).length:Nat):Int) != ((bC_ j).length:Int))=false:=by rw [m];simp
 refine am_ ?_;simp only [d4_,aY_,hl,z,cond_false,ab_ k,ha,ab_ I,beq_self_eq_true,Bool.not_true,ae_]
def FIdx (l:List Bs) (x:Bs):Int:=if l.findIdx (fun y=>y == x)<l.length then ((l.findIdx (fun y=>y == x):Nat):Int) else -1
theorem kS_ {j:aa_} {x:Bs} (h:j.names.length<=cf_):Ev (fun n _=>cI_ n j x) (FIdx j.names x):=by
 refine am_ ?_;unfold FIdx;rw [<-gQ_ ([]:Bs) (fun y=>y == x) j.names];simp only [cI_];refine mK_ (fun n N i=>cI_.loop3 n (some (-1)) N x (i:Int) j.kind j.n_ j.s j.list j.names) _ (fun i u hi ih => ?_) ?_
 . simp only [cI_.turn3,cI_.step3,Int.toNat_natCast,W_up hi h,al_,bc_,ae_,dK_ ih,cE_ hi,ch_ hi]
   cases (j.names.getD i [] == x)<;>simp
 . simp only [cI_.turn3,cI_.step3,co_,cond_false,ae_]
theorem gy_ {l:List Bs} {x:Bs} (h:l.length<=cf_):Ev (fun n _=>aG_ n l x) (FIdx l x):=by
 refine am_ ?_;unfold FIdx;rw [<-gQ_ ([]:Bs) (fun y=>y == x) l];simp only [aG_];refine mK_ (fun n N i=>aG_.loop3 n (some (-1)) N l x (l.length:Int) (i:Int)) _ (fun i u hi ih => ?_) ?_
 . simp only [aG_.turn3,aG_.step3,Int.toNat_natCast,W_up hi h,al_,bc_,ae_,dK_ ih,cE_ hi,ch_ hi]
   rw [show (x == l.getD i [])=(l.getD i [] == x) from BEq.comm];cases (l.getD i [] == x)<;>simp
 . simp only [aG_.turn3,aG_.step3,co_,cond_false,ae_]
def gb_ (j:aa_) (x:Bs):aa_ × Bool:=if FIdx j.names x<0 then (g8_,false) else (j.list.getD (FIdx j.names x).toNat aa_.dflt,true)
theorem idx_lt {l:List Bs} {x:Bs} (h:¬ FIdx l x<0):0<=FIdx l x/\FIdx l x<(l.length:Int):=by
 unfold FIdx at h ⊢;split at h
 . rename_i hl;rw [if_pos hl];omega
 . exact absurd (by decide) h
theorem o2_ {j:aa_} (h:bI_ 6 j<=400) {x:Bs} (hx:¬ FIdx j.names x<0):(FIdx j.names x).toNat<j.list.length/\j.kind=5:=by
 have hi:=idx_lt hx;by_cases k:j.kind=5
 . have:=((d8_ h).1.obj k).1;exact ⟨by omega,k⟩
 . rw [(ft_ (e6_ h)).ns0 k] at hi;simp at hi;omega
theorem gu_ {j:aa_} (h:bI_ 6 j<=400) (x:Bs):bI_ 6 (gb_ j x).1<=400:=by
 unfold gb_;by_cases hx:FIdx j.names x<0
 . rw [if_pos hx];exact eJ_
 . rw [if_neg hx]
   have:=(fF_ h (o2_ h hx).1).size;rw [lD_ 5 _ this];exact this
theorem gd_ {j:aa_} (h:bI_ 6 j<=400) {x:Bs}:Ev (fun n _=>d0_ n j x) (gb_ j x):=by
 have hJ:=dD_ (dl_ 6 j h);have I:=fV_ h;have k:cM_ j=true:=decide_eq_true h;refine am_ ?_;simp only [d0_,aY_,ab_ (kS_ (j:=j) (x:=x) (by simp only [cf_];omega)),ab_ hJ,k,Bool.not_true,cond_false,gb_];by_cases hx:FIdx j.names x<0
 . rw [if_pos hx,decide_eq_true hx]
   simp only [cond_true,al_,ae_];exact ⟨fun _=>rfl,fun _=>rfl⟩
 . obtain ⟨z,u⟩:=o2_ h hx
   have hi:=idx_lt hx;have p:=e4_ 5 (j.list.getD (FIdx j.names x).toNat aa_.dflt) (fF_ h z).size;have m:(j.kind != 5)=false:=by rw [u];rfl
   rw [if_neg hx,decide_eq_false hx,m];simp only [cond_false,bc_,ab_ p,ae_];exact ⟨by omega,trivial⟩
theorem jT_ {j:aa_} (h:bI_ 6 j<=400) {x:Bs}:Ev (fun n _=>ew_ n j x) (gb_ j x):=by
 have hJ:=eK_ (dl_ 6 j h);have u:=fV_ h;have k:cM_ j=true:=decide_eq_true h;refine am_ ?_;simp only [ew_,aY_,ab_ (gy_ (l:=j.names) (x:=x) (by simp only [cf_];omega)),ab_ hJ,k,Bool.not_true,cond_false,gb_];by_cases hx:FIdx j.names x<0
 . rw [if_pos hx,decide_eq_true hx]
   simp only [cond_true,ae_];rfl
 . obtain ⟨p,z⟩:=o2_ h hx
   have hi:=idx_lt hx;have m:=f4_ 5 (j.list.getD (FIdx j.names x).toNat aa_.dflt) (fF_ h p).size;rw [if_neg hx,decide_eq_false hx];simp only [cond_false,bc_,ab_ m,ae_];exact ⟨by omega,trivial⟩
def fin (w:List Bs):List Bs × Bool:=if w.length > 6 then ([],false) else (w,true)
def wr (out:List Bs) (now:Bs):Bs->List Bs × Bool
 |[]=>fin (out++[now])
 |[c]=>if c=47 then fin (out++[now]++[[]]) else if c=126 then ([],false) else fin (out++[now++[c]])
 |c::e::l=>if c=47 then wr (out++[now]) [] (e::l) else if c=126 then (if e=48 then wr out (now++[126]) l else if e=49 then wr out (now++[47]) l else ([],false)) else wr out (now++[c]) (e::l)
theorem wr_sl (out:List Bs) (now l:Bs):wr out now (47::l)=wr (out++[now]) [] l:=by
 cases l with
 |nil=>rfl
 |cons e l=>rw [wr,if_pos rfl]
theorem wr_c {c:UInt8} (m:c≠47) (k:c≠126) (out:List Bs) (now l:Bs):wr out now (c::l)=wr out (now++[c]) l:=by
 cases l with
 |nil=>
  show (if c=47 then fin (out++[now]++[[]]) else if c=126 then ([],false) else fin (out++[now++[c]]))=fin (out++[now++[c]]);rw [if_neg m,if_neg k]
 |cons e l=>rw [wr,if_neg m,if_neg k]
theorem wr_t (e:UInt8) (out:List Bs) (now l:Bs):wr out now (126::e::l)=if e=48 then wr out (now++[126]) l else if e=49 then wr out (now++[47]) l else ([],false):=by rw [wr,if_neg (by decide),if_pos rfl]
def FWr (s:Bs):List Bs × Bool:=match s with
 |[]=>([],true)
 |c::l=>if c=47 then wr [] [] l else ([],false)
theorem wr_enc:∀ (w:List Bs) (u now:Bs) (out:List Bs),wr out now (u.flatMap gG_++FWay w)=fin (out++[now++u]++w)
 |[],[],now,out=>by simp [FWay,wr]
 |s::w,[],now,out=>by have e:([]:Bs).flatMap gG_++FWay (s::w)=47::(s.flatMap gG_++FWay w):=rfl;rw [e,wr_sl,wr_enc w s [] _];simp
 |w,c::u,now,out=>by
  have ih:=fun x=>wr_enc w u (now++[x]) out;rw [List.flatMap_cons,List.append_assoc];by_cases k:c=126
  . have e:gG_ c=[126,48]:=if_pos k
    rw [e];show wr out now (126::48::(u.flatMap gG_++FWay w))=_;rw [wr_t,if_pos rfl,ih 126,k];simp
  . by_cases m:c=47
    . have e:gG_ c=[126,49]:=by unfold gG_;rw [if_neg k,if_pos m]
      rw [e];show wr out now (126::49::(u.flatMap gG_++FWay w))=_;rw [wr_t,if_neg (by decide),if_pos rfl,ih 47,m];simp
    . have e:gG_ c=[c]:=by unfold gG_;rw [if_neg k,if_neg m]
      rw [e];show wr out now (c::(u.flatMap gG_++FWay w))=_;rw [wr_c m k,ih c];simp
theorem FWr_enc {w:List Bs} (h:w.length<=6):FWr (FWay w)=(w,true):=by
 cases w with
 |nil=>rfl
 |cons s w=>
  have e:FWay (s::w)=47::(s.flatMap gG_++FWay w):=rfl;rw [e];show (if (47:UInt8)=47 then wr [] [] (s.flatMap gG_++FWay w) else ([],false))=_;rw [if_pos rfl,wr_enc];unfold fin
  rw [if_neg (by simp at h ⊢;omega)];simp
def WrOk (B:Nat) (x:List Bs × Bool):Prop:=x.1.length<=6/\∀ y ∈ x.1,y.length<=B
theorem fin_ok {B:Nat} {w:List Bs} (h:∀ y ∈ w,y.length<=B):WrOk B (fin w):=by
 unfold fin
 split
 . exact ⟨Nat.zero_le _,fun y h=>(by cases h)⟩
 . exact ⟨by simp only;omega,h⟩
theorem wr_ok {B:Nat}:∀ (n:Nat) (l now:Bs) (out:List Bs),l.length<=n->(∀ y ∈ out,y.length<=B)->now.length+l.length<=B->WrOk B (wr out now l):=by
 have p:∀ {now:Bs} {out:List Bs},(∀ y ∈ out,y.length<=B)->now.length<=B->∀ y ∈ out++[now],y.length<=B:=by
  intro now out k m y u;rcases List.mem_append.1 u with u|u
  . exact k y u
  . obtain rfl:=List.mem_singleton.1 u;exact m
 have z:WrOk B (([]:List Bs),false):=⟨Nat.zero_le _,fun y h=>(by cases h)⟩
 intro n;induction n with
 |zero=>
  intro l now out hl k m;have:l=[]:=List.eq_nil_of_length_eq_zero (by omega);subst this;exact fin_ok (p k (by simpa using m))
 |succ n ih=>
  intro l now out hl k m;cases l with
  |nil=>exact fin_ok (p k (by simpa using m))
  |cons c l=>
   simp only [List.length_cons] at hl m;by_cases hc:c=47
   . subst hc
     rw [wr_sl];exact ih l [] _ (by omega) (p k (by omega)) (by simp;omega)
   . by_cases ht:c=126
     . subst ht
       cases l with
       |nil=>exact z
       |cons e l=>
        rw [wr_t];simp only [List.length_cons] at hl m;split
        . exact ih l _ out (by omega) k (by simp;omega)
        . split
          . exact ih l _ out (by omega) k (by simp;omega)
          . exact z
     . rw [wr_c hc ht]
       exact ih l _ out (by omega) k (by simp;omega)
theorem FWr_ok (s:Bs):WrOk s.length (FWr s):=by
 unfold FWr;split
 . exact ⟨Nat.zero_le _,fun y h=>(by cases h)⟩
 . rename_i c l
   split
   . exact wr_ok l.length l [] [] (Nat.le_refl _) (fun y h=>(by cases h)) (by simp)
   . exact ⟨Nat.zero_le _,fun y h=>(by cases h)⟩
theorem hZ_ {s:Bs} (hs:s.length<=1000000):Ev (fun n _=>a6_ n s) (FWr s):=by
 have I:∀ (K:Nat->a6_.K6),(∀ out now,out.length<=1000000->s≠[]->Ev (fun n _=>K n s [] out (bi now)) (fin (out++[now]))) ->
   ∀ (m i:Nat) (out:List Bs) (now:Bs),s.length - i<=m->1<=i->i<=s.length->out.length<=i->now.length<=i ->
   Ev (fun n N=>a6_.loop6 n (K n) N s (i:Int) [] out (bi now)) (wr out now (s.drop i)):=by
  intro K z m;induction m with
  |zero=>
   intro i out now hm u h2 h3 h4;have:i=s.length:=by omega
   subst this;rw [List.drop_length];refine a8_ ?_;simp only [a6_.turn6,a6_.step6,co_,cond_false];exact z out now (by omega) (fun e=>by rw [e] at u;simp at u)
  |succ m ih=>
   intro i out now hm u h2 h3 h4;by_cases hi:i<s.length
   . have hd:=ds_ 0 hi
     have hbl:=k9_ now;have U:W ((i:Int)+1)=((i+1:Nat):Int):=by rw [W_id (by omega) (by omega)];omega
     have T:W (((i+1:Nat):Int)+1)=((i+2:Nat):Int):=by rw [W_id (by omega) (by omega)];omega
     have hz:((i:Int) == 0)=false:=beq_eq_false_iff_ne.2 (by omega);have hg:decide ((i:Int) > 0)=true:=decide_eq_true (by omega);refine a8_ ?_;simp only [a6_.turn6,a6_.step6,cE_ hi,cond_true,bc_,ch_ hi,true_and,Int.toNat_natCast,U,T,hz,hg,cond_false,byte47,byte126,kg_,ba_];rw [hd];generalize hc:s.getD i 0=c;by_cases c47:c=47
     . subst c47
       rw [wr_sl,decide_eq_true rfl];simp only [cond_true,ba_];exact ⟨by simp;omega,ih (i+1) (out++[now]) [] (by omega) (by omega) (by omega) (by simp;omega) (by simp)⟩
     . rw [decide_eq_false c47]
       simp only [cond_false];by_cases c126:c=126
       . subst c126
         rw [decide_eq_true rfl];simp only [cond_true];by_cases k:i+1<s.length
         . have S:=ds_ 0 k
           have p:(((i+1:Nat):Int) == (s.length:Int))=false:=beq_eq_false_iff_ne.2 (by omega);rw [S,wr_t];simp only [p,cond_false,bc_,ch_ k,true_and,Int.toNat_natCast];generalize s.getD (i+1) 0=e;have Y:((e.toNat:Int) == 48)=decide (e=48):=k8_ e 48 48 rfl;have V:((e.toNat:Int) == 49)=decide (e=49):=k8_ e 49 49 rfl;have n1:=ih (i+2) out (now++[126]) (by omega) (by omega) (by omega) (by omega) (by simp;omega);have n2:=ih (i+2) out (now++[47]) (by omega) (by omega) (by omega) (by omega) (by simp;omega);rw [<-pb_] at n1 n2;simp only [bne,Y,V];by_cases d48:e=48
           . subst d48
             simp only [decide_true,Bool.not_true,cond_false,cond_true,bc_,ch_ hi,ch_ k,true_and,ba_,if_true];exact ⟨by simp;omega,n1⟩
           . by_cases d49:e=49
             . subst d49
               simp only [d48,decide_true,decide_false,Bool.not_true,Bool.not_false,cond_false,cond_true,bc_,ch_ hi,ch_ k,true_and,ba_,if_true,if_false];exact ⟨by simp;omega,n2⟩
             . simp only [d48,d49,decide_false,Bool.not_false,cond_true,bc_,ch_ hi,ch_ k,true_and,ae_,if_false]
         . have p:(((i+1:Nat):Int) == (s.length:Int))=true:=by simp;omega
           have O:s.drop (i+1)=[]:=sz_ (by omega);rw [O];simp only [p,cond_true,bc_,ch_ hi,true_and,ae_];rfl
       . rw [wr_c c47 c126,decide_eq_false c126]
         have n1:=ih (i+1) out (now++[c]) (by omega) (by omega) (by omega) (by omega) (by simp;omega);rw [<-pb_] at n1;simp only [cond_false,bc_,ch_ hi,true_and,ba_];exact ⟨by simp;omega,n1⟩
   . have:i=s.length:=by omega
     subst this;rw [List.drop_length];refine a8_ ?_;simp only [a6_.turn6,a6_.step6,co_,cond_false];exact z out now (by omega) (fun e=>by rw [e] at u;simp at u)
 refine am_ ?_;simp only [a6_];cases s with
 |nil=>
  refine cX_ (f:=fun n N=>a6_.loop6 n (fun B1 B2 B3 B4=>(cond (!(B1 == [])) (bk_ (B3.length+([(hS_ B4)]:List Bs).length) 16 (cond (decide (((B3++([(hS_ B4)]:List Bs)).length:Int) > 6)) (some (B2,false)) (some ((B3++([(hS_ B4)]:List Bs)),true)))) (cond (decide ((B3.length:Int) > 6)) (some (B2,false)) (some (B3,true))))) N [] 0 [] [] []) (a8_ ?_);exact ⟨0,fun _ _ _ _=>rfl⟩
 |cons c l=>
  have z:∀ out now,out.length<=1000000->c::l≠[]->Ev (fun n (_:Nat)=>(cond (!(c::l == [])) (bk_ (out.length+([(hS_ (bi now))]:List Bs).length) 16 (cond (decide (((out++([(hS_ (bi now))]:List Bs)).length:Int) > 6)) (some (([]:List Bs),false)) (some ((out++([(hS_ (bi now))]:List Bs)),true)))) (cond (decide ((out.length:Int) > 6)) (some ([],false)) (some (out,true))))) (fin (out++[now])):=by
   intro out now u _;have e:(!(c::l == []))=true:=rfl;rw [e,kg_];simp only [cond_true,ba_,al_,ae_];unfold fin
   refine ⟨by simp;omega,fun h => ?_,fun h => ?_⟩
   . have h:=of_decide_eq_true h;rw [if_pos (by omega)]
   . have h:=of_decide_eq_false h;rw [if_neg (by omega)]
  refine cX_ (f:=fun n N=>a6_.loop6 n (fun B1 B2 B3 B4=>(cond (!(B1 == [])) (bk_ (B3.length+([(hS_ B4)]:List Bs).length) 16 (cond (decide (((B3++([(hS_ B4)]:List Bs)).length:Int) > 6)) (some (B2,false)) (some ((B3++([(hS_ B4)]:List Bs)),true)))) (cond (decide ((B3.length:Int) > 6)) (some (B2,false)) (some (B3,true))))) N (c::l) 0 [] [] []) (a8_ ?_);have Z:=I (fun _=>fun B1 B2 B3 B4=>(cond (!(B1 == [])) (bk_ (B3.length+([(hS_ B4)]:List Bs).length) 16 (cond (decide (((B3++([(hS_ B4)]:List Bs)).length:Int) > 6)) (some (B2,false)) (some ((B3++([(hS_ B4)]:List Bs)),true)))) (cond (decide ((B3.length:Int) > 6)) (some (B2,false)) (some (B3,true))))) z l.length 1 [] [] (by simp) (Nat.le_refl _) (by simp) (by simp) (by simp);have c0:decide ((0:Int)<(((c::l).length:Nat):Int))=true:=decide_eq_true (by simp);have cg:decide ((0:Int) > 0)=false:=rfl;have cz:((0:Int) == 0)=true:=rfl;have U:W ((0:Int)+1)=((1:Nat):Int):=rfl;have J:(c::l).getD (0:Int).toNat 0=c:=rfl;simp only [a6_.turn6,a6_.step6,c0,cond_true,bc_,J,byte47,cg,cz,cond_false,U];refine ⟨by simp,?_⟩;unfold FWr;by_cases c47:c=47
  . rw [decide_eq_true c47]
    simp only [c47,if_true,cond_true];rw [c47] at Z;exact Z
  . rw [decide_eq_false c47]
    simp only [c47,if_false,cond_false,ae_]
def FWi (s:Bs):List Bs × Bool:=if s=[] then ([],true) else
 if (((eR_ 47 s).drop 1).map fun p=>gZ_ 126 48 [126] (gZ_ 126 49 [47] p)).length > 6 then ([],false) else
 if FWay (((eR_ 47 s).drop 1).map fun p=>gZ_ 126 48 [126] (gZ_ 126 49 [47] p))=s then (((eR_ 47 s).drop 1).map fun p=>gZ_ 126 48 [126] (gZ_ 126 49 [47] p),true) else ([],false)
theorem i2_ {a b c:UInt8} {s:Bs} (hs:s.length<=1000000) (k:([a,b] == [c])=false):Ev (fun n _=>strings_ReplaceAll n s [a,b] [c]) (gZ_ a b [c] s):=by refine am_ ?_;have:=rq_ a b s;simp only [strings_ReplaceAll,gt_,count2,q0_ a b [c] s k,al_,ae_,dI_];refine ⟨fun _=>trivial,fun h => ?_⟩;have e1:decide (s.length<4294967281)=true:=decide_eq_true (by omega);have e2:decide (1<=[a,b].length)=true:=rfl;have e3:decide (s.length+cnt2 a b s*[c].length<=140737488355328)=true:=decide_eq_true (by simp only [List.length_cons,List.length_nil];omega);rw [e1,e2,e3] at h;cases h
theorem Split_ev {s:Bs} {b:UInt8} (hs:s.length<=1000000):Ev (fun n _=>strings_Split n s [b]) (eR_ b s):=by refine am_ ?_;have e1:decide (s.length<4294967281)=true:=decide_eq_true (by omega);have e2:decide (1<=[b].length)=true:=rfl;simp only [strings_Split,r6_,split_one,e1,e2,Bool.and_self,cond_true,ae_]
theorem if_ {s:Bs} (hs:s.length<=60):Ev (fun n _=>bG_ n s) (FWi s):=by
 refine am_ ?_;simp only [bG_,al_,ae_,ab_ (Split_ev (s:=s) (b:=47) (by omega))];unfold FWi;by_cases m:s=[]
 . rw [if_pos m,m]
   exact ⟨fun _=>rfl,fun h=>(by cases h)⟩
 . rw [if_neg m,beq_eq_false_iff_ne.2 m]
   refine ⟨fun h=>(by cases h),fun _ => ?_⟩;obtain ⟨hl,I⟩:=kk_ 47 s;obtain ⟨p,ps,e⟩:=kj_ 47 s;rw [e] at hl I ⊢;have e1:(((p::ps).length:Nat):Int).toNat=ps.length+1:=by simp
   have e2:((p::ps).take (ps.length+1)).drop 1=ps:=by rw [List.take_of_length_le (by simp)];rfl
   have e3:(ps.length+1 - 1:Nat)=ps.length:=rfl;have e4:(p::ps).drop 1=ps:=rfl;simp only [e1,e2,e3,e4,dQ_];refine ⟨by simp only [List.length_cons] at hl ⊢;omega,?_⟩;simp only [List.length_cons] at hl;have k:∀ q ∈ ps,q.length<=60:=fun q hq=>by have:=I q (List.mem_cons_of_mem _ hq);omega
   refine qn_ [] ps (fun p=>gZ_ 126 48 [126] (gZ_ 126 49 [47] p)) (fun n N i (o:List Bs)=>bG_.loop7 n (fun B4 B5=>(cond (decide ((B5.length:Int) > 6)) (some (([]:List Bs),false)) ((bW_ n B5).bind fun A6=>(cond (!(A6 == B4)) (some (([]:List Bs),false)) (some (B5,true)))))) N s ps (ps.length:Int) (i:Int) o) _ (fun i o hi U F T => ?_) ?_
   . have hq:=k _ (b2_ [] hi)
     have r1:=i2_ (a:=126) (b:=49) (c:=47) (s:=ps.getD i []) (by omega) rfl;have J:=hp_ 126 49 47 (ps.getD i []);have r2:=i2_ (a:=126) (b:=48) (c:=126) (s:=gZ_ 126 49 [47] (ps.getD i [])) (by omega) rfl;have S:=W_up hi (show ps.length<=cf_ by simp only [cf_];omega);simp only [bG_.turn7,bG_.step7,cE_ hi,cond_true,bc_,ch_ hi,true_and,Int.toNat_natCast,S,ab_ r1,ab_ r2,ba_];exact ⟨by simp;omega,T⟩
   . generalize O:ps.map (fun p=>gZ_ 126 48 [126] (gZ_ 126 49 [47] p))=w
     have u:∀ q ∈ w,q.length<=60:=by intro q hq;rw [<-O] at hq;obtain ⟨x,hx,rfl⟩:=List.mem_map.1 hq;have:=hp_ 126 49 47 x;have:=hp_ 126 48 126 (gZ_ 126 49 [47] x);have:=k x hx;omega
     simp only [bG_.turn7,bG_.step7,co_,cond_false,al_,ae_];refine ⟨fun h => ?_,fun h => ?_⟩
     . have h:=of_decide_eq_true h;rw [if_pos (by omega)]
     . have h:=of_decide_eq_false h
       rw [if_neg (by omega)];simp only [ab_ (ie_ (w:=w) (by omega) u),al_,ae_];by_cases z:FWay w=s
       . rw [z,if_pos rfl];simp
       . rw [if_neg z,beq_eq_false_iff_ne.2 z];simp
theorem FWi_enc {w:List Bs} (h:w.length<=6):FWi (FWay w)=(w,true):=by
 unfold FWi;cases w with
 |nil=>rfl
 |cons s w=>
  have e:FWay (s::w)≠[]:=by show 47::_≠[];intro e;cases e
  have e2:((eR_ 47 (FWay (s::w))).drop 1).map (fun p=>gZ_ 126 48 [126] (gZ_ 126 49 [47] p))=s::w:=by rw [pz_];show (((s::w).map fun s=>s.flatMap gG_).map fun p=>gZ_ 126 48 [126] (gZ_ 126 49 [47] p))=_;rw [List.map_map];refine (List.map_congr_left fun x _ => ?_).trans (List.map_id _);show gZ_ 126 48 [126] (gZ_ 126 49 [47] (x.flatMap gG_))=x;rw [unesc1,unesc2]
  rw [if_neg e,e2,if_neg (by omega),if_pos rfl]
theorem FWi_ok {s:Bs}:WrOk s.length (FWi s):=by
 unfold FWi;split
 . exact ⟨Nat.zero_le _,fun y h=>(by cases h)⟩
 . split
   . exact ⟨Nat.zero_le _,fun y h=>(by cases h)⟩
   . rename_i h
     split
     . refine ⟨by simp only;omega,fun y k => ?_⟩
       obtain ⟨x,hx,rfl⟩:=List.mem_map.1 k;have u:=hp_ 126 49 47 x;have p:=hp_ 126 48 126 (gZ_ 126 49 [47] x);have m:=(kk_ 47 s).2 x (List.mem_of_mem_drop hx);omega
     . exact ⟨Nat.zero_le _,fun y h=>(by cases h)⟩
theorem n6_:∀ (d:Nat) (j:aa_),e9_ d j j=true
 |0,_=>rfl
 |d+1,j=>by simp only [e9_,jn_,beq_self_eq_true,decide_true,Bool.true_and,Bool.and_eq_true];exact ⟨fc_.2 fun i _=>by simp,fc_.2 fun i _=>n6_ d _⟩
theorem pH_ {j:aa_} (h:bI_ 6 j<=400):gD_ j j=true:=by unfold gD_ cM_;rw [decide_eq_true h,n6_];rfl
theorem oi_ {j:aa_} (h:bI_ 6 j<=400):j.s.length<=60:=by
 have k:=ft_ (e6_ h);by_cases m:j.kind=3
 . exact ir_ (k.text m)
 . rw [k.s0 m];exact Nat.zero_le _
theorem oM_ {k:Int} {x:List Bs × Bool} {v:aa_} {s:Bs} (hs:s.length<=60) (m:WrOk s.length x) (u:bI_ 6 v<=400):fW_ (TOp.mk k x.1 v) :=
 ⟨⟨by have:=m.1;show x.1.length<=cf_;simp only [cf_];omega,fun y p=>by have:=m.2 y p;simp only [cf_];omega⟩,dl_ 6 v u⟩
theorem fg_:fW_ (TOp.mk 0 [] (aa_.mk 0 0 [] [] [])):=⟨⟨Nat.zero_le _,fun y h=>(by cases h)⟩,ev_ 6⟩
abbrev fn_:List Bs:=[[97,100,100],[114,101,109,111,118,101],[114,101,112,108,97,99,101],[116,101,115,116]]
theorem nL_:Ev (fun n _=>dp_ n ()) fn_:=am_ (by simp only [dp_,ae_])
theorem nO_:Ev (fun n _=>dn_ n ()) ([]::fn_):=am_ (by simp only [dn_,ae_])
theorem mD_ {p:aa_} (h:bI_ 6 p<=400):Ans (fun n _=>d6_ n p) fun x=>fW_ x.1:=by refine ci_ ?_;have hs:=oi_ (gu_ h fU_);have z:=gu_ h hr_;have u:=FWi_ok (s:=(gb_ p fU_).1.s);have I:=fun k=>oM_ (k:=k) hs u z;simp only [d6_,aY_,bg_ (jT_ h),bg_ (if_ hs),bg_ nL_,bg_ (gy_ (l:=fn_) (by decide)),bj_,aX_];refine ⟨fun _=>fg_,fun _=>⟨fun _=>fg_,fun _=>⟨fun _=>fg_,fun _ => ?_⟩⟩⟩;have m:=I (W (1+FIdx fn_ (gb_ p [111,112]).1.s));simp only [bg_ (ig_ m),bg_ (fQ_ m),bg_ (hM_ (jf_ m) (dl_ 6 p h)),bj_,aX_];exact ⟨fun _=>fg_,fun _=>⟨fun _=>fg_,fun _=>m⟩⟩
structure OpIn (o:TOp):Prop where
 ok:iQ_ o=true
 val:cK_ o=eD_ o
 size:bI_ 6 (eD_ o)<=400
theorem op_in {o:TOp} (h:(cK_ o).kind≠0):OpIn o:=by
 unfold cK_ at h;cases k:iQ_ o with
 |false=>rw [k] at h;exact absurd rfl h
 |true=>
  rw [k,cond_true] at h;unfold eV_ at h;cases m:cM_ (eD_ o) with
  |false=>rw [m] at h;exact absurd rfl h
  |true=>
   refine ⟨k,?_,of_decide_eq_true m⟩;unfold cK_ eV_;rw [k,m];rfl
theorem pn_ {j:aa_} (h:j6_ j=true):j=g8_:=by unfold j6_ at h;simp only [Bool.and_eq_true,beq_iff_eq,decide_eq_true_eq] at h;obtain ⟨I,z,u,p,m⟩:=h;obtain ⟨k,n,s,l,ns⟩:=j;simp only at I z u p m;rw [I,z,u,List.eq_nil_of_length_eq_zero p,List.eq_nil_of_length_eq_zero m];rfl
theorem val_of {o:TOp} (h:iQ_ o=true) (k:o.kind=2):o.value=g8_:=by
 unfold iQ_ at h;simp only [Bool.and_eq_true,Bool.or_eq_true] at h;rcases h.2.2.2.2 with h|h
 . rw [k] at h;exact absurd h (by decide)
 . exact pn_ h
theorem sv_ {o:TOp}:gb_ (eD_ o) tJ_=(sS_ (f8_ o.kind),true):=by unfold eD_;cases (o.kind == 2)<;>rfl
theorem kG_ {o:TOp}:gb_ (eD_ o) fU_=(sS_ (FWay o.way),true):=by unfold eD_;cases (o.kind == 2)<;>rfl
theorem mJ_ {o:TOp} (h:iQ_ o=true):(gb_ (eD_ o) hr_).1=o.value:=by
 unfold eD_;cases k:(o.kind == 2) with
 |false=>rfl
 |true=>rw [val_of h (by simpa using k)];rfl
theorem kind_back {o:TOp} (h:OpIs o):W (1+FIdx fn_ (f8_ o.kind))=o.kind:=by rcases h.kind with e|e|e|e<;>rw [e]<;>decide
theorem qM_ {o:TOp} (h:OpIn o):(FWay o.way).length<=60:=by have:=oi_ (gu_ h.size fU_);rw [kG_] at this;exact this
theorem mC_ {o:TOp} (h:OpIn o):Ev (fun n _=>d6_ n (eD_ o)) (o,true):=by
 have hi:=s4_ h.ok;have I:fW_ o:=oM_ (x:=(o.way,true)) (v:=o.value) (s:=FWay o.way) (qM_ h) ⟨hi.way,fun y p=>by
  have:y.length<=(y.flatMap gG_).length:=by
   clear p;induction y with
   |nil=>exact Nat.le_refl _
   |cons c y ih=>
    rw [List.flatMap_cons,List.length_append,List.length_cons];have:1<=(gG_ c).length:=by unfold gG_;split<;>(try split)<;>simp
    omega
  have:∀ w:List Bs,y ∈ w->(y.flatMap gG_).length<=(FWay w).length:=by
   intro w;induction w with
   |nil=>intro h;cases h
   |cons s w ih=>
    intro h;have e:FWay (s::w)=(47::s.flatMap gG_)++FWay w:=rfl;rw [e,List.length_append,List.length_cons];rcases List.mem_cons.1 h with rfl|h
    . omega
    . have:=ih h;omega
  have:=this o.way p;simp only at p;omega⟩ hi.val
 have m:=sv_ (o:=o);have k:=kG_ (o:=o);have u:=mJ_ h.ok;have hs:=qM_ h;have S:=kind_back hi;have O:Ev (fun n _=>bG_ n (FWay o.way)) (o.way,true):=by rw [<-FWi_enc hi.way];exact if_ hs
 have z:=hM_ (a:=eD_ o) (b:=eD_ o) (dl_ 6 _ h.size) (dl_ 6 _ h.size);rw [pH_ h.size] at z;have hJ:=fQ_ I;rw [h.val] at hJ;have J:=ig_ I;rw [h.ok] at J;unfold tJ_ at m;unfold fU_ at k;refine am_ ?_;simp only [d6_,aY_,ab_ (jT_ h.size),m,k,u,sS_,ab_ O,ab_ nL_,ab_ (gy_ (l:=fn_) (by decide)),S,Bool.not_true,cond_false,hK_,ab_ J,ab_ hJ,ab_ z,ae_]
def FK (k:Int) (s:Bs):Nat->Nat->Int->Int
 |0,_,t=>t
 |j+1,i,t=>FK k s j (i+1) (cond (k == 3) (cond (s == ([]::fn_).getD i []) (i:Int) t) t)
theorem mh_ {K:Nat->bh_.K7} {F:TOp × Bool} {a0 a1:Int} {a2:Bs} {a3:List aa_} {a4:List Bs} {b1 b2 b3:Int} {b4:Bs} {c2 c3:Int} {c4:Bs} {k d1:Int} {s:Bs} {e0 e1:Int} {e2:Bs} {f3:List aa_} {f4:List Bs} {g3:List aa_} {g4:List Bs} :
  ∀ (j i:Nat) (t:Int),i+j=5->Ev (fun n _=>K n a0 a1 a2 a3 a4 b1 b2 b3 b4 (FK k s j i t) c2 c3 c4 e0 e1 e2 g3 g4) F ->
    Ev (fun n N=>bh_.loop7 n (K n) N (i:Int) a0 a1 a2 a3 a4 b1 b2 b3 b4 t c2 c3 c4 k d1 s e0 e1 e2 ([]::fn_) f3 f4 g3 g4) F:=by
 have p:(([]:Bs)::fn_).length=5:=rfl;intro j;induction j with
 |zero=>
  intro i t hi m;obtain rfl:i=5:=by omega
  refine a8_ ?_;have:decide (((5:Nat):Int)<(((([]:Bs)::fn_).length:Nat):Int))=false:=by rw [p];exact decide_eq_false (by omega)
  simp only [bh_.turn7,bh_.step7,this,cond_false];exact m
 |succ j ih=>
  intro i t hi m;have u:i<(([]:Bs)::fn_).length:=by rw [p];omega
  have J:W ((i:Int)+1)=((i+1:Nat):Int):=by rw [W_id (by omega) (by omega)];omega
  refine a8_ ?_;simp only [bh_.turn7,bh_.step7,cE_ u,cond_true,Int.toNat_natCast,J,al_,bc_,ch_ u,true_and];unfold FK at m;refine ⟨fun I => ?_,fun I => ?_⟩
  . rw [I,cond_true] at m
    exact ⟨fun z=>by rw [z,cond_true] at m;exact ih (i+1) _ (by omega) m,fun z=>by rw [z,cond_false] at m;exact ih (i+1) _ (by omega) m⟩
  . rw [I,cond_false] at m
    exact ih (i+1) _ (by omega) m
theorem tail_any {p:aa_} (h:bI_ 6 p<=400) {t:Bool} {k:Int} {w:List Bs} {v:aa_} {b1 b2 b3:Int} {b4:Bs} (m:fW_ (TOp.mk k w v)) :
  Ans (fun n (_:Nat)=>bh_.tail15 n t p.kind p.n_ p.s p.list p.names b1 b2 b3 b4 k w v.kind v.n_ v.s v.list v.names) fun x=>fW_ x.1:=by
 simp only [bh_.tail15,aY_,ej_,bj_,aX_,bg_ (eG_ m),bg_ (f3_ (jf_ m) (dl_ 6 p h))];exact ⟨fun _=>fg_,fun _=>⟨fun _=>fg_,fun _=>⟨fun _=>fg_,fun _=>m⟩⟩⟩
theorem lY_ {p:aa_} (h:bI_ 6 p<=400):Ans (fun n _=>bh_ n p) fun x=>fW_ x.1:=by have hs:=oi_ (gu_ h fU_);have u:=gu_ h hr_;have m:=FWr_ok (gb_ p fU_).1.s;have z:=fun k=>oM_ (k:=k) hs m u;refine ci_ ?_;simp only [bh_,aY_,bg_ (gd_ h),bg_ nO_];obtain ⟨v,J,I⟩:=tail_any h (t:=(FWr (gb_ p fU_).1.s).2) (b1:=0) (b2:=0) (b3:=0) (b4:=[]) (z (FK (gb_ p tJ_).1.kind (gb_ p tJ_).1.s 4 1 0));refine ⟨v,?_,I⟩;refine cX_ (mh_ (K:=fun n=>fun B4 B5 B6 B7 B8 B9 B10 B11 B12 B13 B14 B15 B16 B17 B18 B19 B20 B21=>((a6_ n B19).bind fun A22=>((d0_ n (aa_.mk B4 B5 B6 B7 B8) [118,97,108,117,101]).bind fun A23=>(bh_.tail15 n A22.2 B4 B5 B6 B7 B8 B9 B10 B11 B12 B13 A22.1 A23.1.kind A23.1.n_ A23.1.s A23.1.list A23.1.names)))) 4 1 0 rfl ?_);simp only [ej_,ab_ (hZ_ (s:=(gb_ p fU_).1.s) (by omega)),ab_ (gd_ h)];exact J
theorem te_ {o:TOp} (h:OpIs o):FK 3 (f8_ o.kind) 4 1 0=o.kind:=by rcases h.kind with e|e|e|e<;>rw [e]<;>decide
theorem sg_ {o:TOp} (h:OpIn o):fW_ o:=by have hi:=s4_ h.ok;exact ⟨⟨by have:=hi.way;simp only [cf_];omega,fun y k=>by have:=hi.text y k;simp only [cf_];omega⟩,dl_ 6 _ hi.val⟩
theorem lX_ {o:TOp} (h:OpIn o):Ev (fun n _=>bh_ n (eD_ o)) (o,true):=by
 have hi:=s4_ h.ok;have O:=sg_ h;have m:=sv_ (o:=o);have k:=kG_ (o:=o);have p:=mJ_ h.ok;have hs:=qM_ h;have J:=te_ hi;have I:Ev (fun n _=>a6_ n (FWay o.way)) (o.way,true):=by rw [<-FWr_enc hi.way];exact hZ_ (by omega)
 have z:=f3_ (a:=eD_ o) (b:=eD_ o) (dl_ 6 _ h.size) (dl_ 6 _ h.size);rw [pH_ h.size] at z;have hJ:=eG_ O;rw [h.val] at hJ;have u:(o.kind == 0)=false:=beq_eq_false_iff_ne.2 (by rcases hi.kind with e|e|e|e<;>omega);unfold tJ_ at m;unfold fU_ at k;refine am_ ?_;simp only [bh_,aY_,ab_ (gd_ h.size),ab_ nO_,m,k,sS_];refine cX_ (mh_ (K:=fun n=>fun B4 B5 B6 B7 B8 B9 B10 B11 B12 B13 B14 B15 B16 B17 B18 B19 B20 B21=>((a6_ n B19).bind fun A22=>((d0_ n (aa_.mk B4 B5 B6 B7 B8) [118,97,108,117,101]).bind fun A23=>(bh_.tail15 n A22.2 B4 B5 B6 B7 B8 B9 B10 B11 B12 B13 A22.1 A23.1.kind A23.1.n_ A23.1.s A23.1.list A23.1.names)))) 4 1 0 rfl ?_);simp only [ej_,J,ab_ I,ab_ (gd_ h.size),p,bh_.tail15,aY_,Bool.not_true,u,cond_false,hK_,ab_ hJ,ab_ z,ae_]
def af_.size (s:af_):Nat:=(fS_ szI) s.b
def af_.len (s:af_):Prop:=(pV_ lenI) s.b
def aw_.size (s:aw_):Nat:=szB s.wait
def aw_.len (s:aw_):Prop:=lenB s.wait
mutual
def aa_.size:aa_->Nat
 |⟨_,_,s,l,ns⟩=>s.length+((l.length+aa_.sizes l)+fS_ szB ns)
def aa_.sizes:List aa_->Nat
 |[]=>0
 |x::l=>aa_.size x+aa_.sizes l
end
mutual
def aa_.len:aa_->Prop
 |⟨_,_,s,l,ns⟩=>s.length<=cf_/\(l.length<=cf_/\aa_.lens l)/\pV_ lenB ns
def aa_.lens:List aa_->Prop
 |[]=>True
 |x::l=>aa_.len x/\aa_.lens l
end
theorem aa_.sizes_eq:∀ l:List aa_,aa_.sizes l=eF_ aa_.size l
 |[]=>by simp only [aa_.sizes,eF_]
 |x::l=>by simp only [aa_.sizes,eF_,aa_.sizes_eq l]
theorem aa_.lens_iff:∀ l:List aa_,aa_.lens l↔∀ x ∈ l,aa_.len x
 |[]=>by simp [aa_.lens]
 |x::l=>by simp [aa_.lens,aa_.lens_iff l]
theorem aa_.size_eq (j:aa_):aa_.size j=j.s.length+(fS_ aa_.size j.list+fS_ szB j.names):=by cases j;simp only [aa_.size,aa_.sizes_eq,fS_]
theorem aa_.len_iff (j:aa_):aa_.len j↔j.s.length<=cf_/\pV_ aa_.len j.list/\pV_ lenB j.names:=by cases j;simp only [aa_.len,aa_.lens_iff,pV_]
theorem aa_.re_eq (j:aa_):aa_.re j=j:=by cases j;rfl
theorem aa_.dec {x:aa_} {a:List aa_} (h:x ∈ a):SizeOf.sizeOf x.list<SizeOf.sizeOf a:=by
 have m:=List.sizeOf_lt_of_mem h;have k:SizeOf.sizeOf x.list<SizeOf.sizeOf x:=by cases x;simp;omega
 omega
def TOp.size (s:TOp):Nat:=(fS_ szB) s.way+aa_.size s.value
def TOp.len (s:TOp):Prop:=(pV_ lenB) s.way/\aa_.len s.value
theorem TOp.eta (x:TOp):TOp.mk x.kind x.way x.value=x:=rfl
def aC_.size (s:aC_):Nat:=aa_.size s.doc+(fS_ TOp.size) s.ops
def aC_.len (s:aC_):Prop:=aa_.len s.doc/\(pV_ TOp.len) s.ops
theorem aC_.eta (x:aC_):aC_.mk x.kind x.version x.base x.doc x.ops=x:=rfl
def a1_.size (s:a1_):Nat:=(fS_ szI) s.cols
def a1_.len (s:a1_):Prop:=(pV_ lenI) s.cols
def TRow.size (s:TRow):Nat:=(fS_ szI) s.cells
def TRow.len (s:TRow):Prop:=(pV_ lenI) s.cells
def ax_.size (s:ax_):Nat:=a1_.size s.schema+(fS_ (fS_ TRow.size)) s.tables
def ax_.len (s:ax_):Prop:=a1_.len s.schema/\(pV_ (pV_ TRow.len)) s.tables
def ca_.size (s:ca_):Nat:=0
def ca_.len (s:ca_):Prop:=True
def ay_.size (s:ay_):Nat:=(fS_ ca_.size) s.where_+(fS_ szI) s.show_
def ay_.len (s:ay_):Prop:=(pV_ ca_.len) s.where_/\(pV_ lenI) s.show_
def TKid.size (s:TKid):Nat:=0
def TKid.len (s:TKid):Prop:=True
def bq_.size (s:bq_):Nat:=ay_.size s.q+(fS_ TRow.size) s.rows+(fS_ TKid.size) s.kids
def bq_.len (s:bq_):Prop:=ay_.len s.q/\(pV_ TRow.len) s.rows/\(pV_ TKid.len) s.kids
def cw_.size (s:cw_):Nat:=bq_.size s.view+bq_.size s.last
def cw_.len (s:cw_):Prop:=bq_.len s.view/\bq_.len s.last
def TMut.size (s:TMut):Nat:=TRow.size s.row
def TMut.len (s:TMut):Prop:=TRow.len s.row
def aZ_.size (s:aZ_):Nat:=TRow.size s.old+TRow.size s.new
def aZ_.len (s:aZ_):Prop:=TRow.len s.old/\TRow.len s.new
def aP_.size (s:aP_):Nat:=szB s.text
def aP_.len (s:aP_):Prop:=lenB s.text
def a7_.size (s:a7_):Nat:=szB s.s
def a7_.len (s:a7_):Prop:=lenB s.s
def fh_ (l:List TOp):Nat:=l.findIdx fun o=>(cK_ o).kind == 0
def et_ (l:List TOp):aa_:=aa_.mk 4 0 [] (l.map cK_) []
def ey_ (l:List TOp):Int:=cond (decide (fh_ l<l.length)) (-1) (cond (bC_ (et_ l) == []) (-1) ((bC_ (et_ l)).length:Int))
theorem kK_ {l:List TOp} {i:Nat} (hi:i<fh_ l):((cK_ (l.getD i TOp.dflt)).kind == 0)=false:=by have hl:fh_ l<=l.length:=List.findIdx_le_length;rw [List.getD_eq_getElem?_getD,List.getElem?_eq_getElem (by omega),Option.getD_some];have:=List.not_of_lt_findIdx (xs:=l) (p:=fun o=>(cK_ o).kind == 0) (i:=i) hi;simpa using this
theorem bad_at {l:List TOp} (h:fh_ l<l.length):((cK_ (l.getD (fh_ l) TOp.dflt)).kind == 0)=true:=by rw [List.getD_eq_getElem?_getD,List.getElem?_eq_getElem h,Option.getD_some];exact List.findIdx_getElem (xs:=l) (p:=fun o=>(cK_ o).kind == 0) (w:=h)
theorem oJ_ {α β:Type} (f:α->β) (d:α) {a:List α} {i:Nat} (h:i<a.length):(a.take (i+1)).map f=(a.take i).map f++[f (a.getD i d)]:=by rw [cH_ d h,List.map_append];rfl
def kY_ (l:List TOp):Prop:=l.length<=4000000/\∀ o ∈ l,fW_ o
theorem jP_ {l:List TOp} (h:kY_ l):fx_ 6 (et_ l):=by refine ⟨⟨Nat.zero_le _,Nat.zero_le _,fun x hx=>(by cases hx)⟩,by have:=h.1;simp [et_,cf_];omega,fun x hx => ?_⟩;obtain ⟨o,k,e⟩:=List.mem_map.1 hx;rw [<-e];exact q5_ 5 _ (jf_ (h.2 o k))
theorem ic_ {l:List TOp} (h:kY_ l):Ev (fun n _=>bw_ n l) (cond (decide (fh_ l<l.length)) (g8_,false) (et_ l,true)):=by
 refine am_ ?_;have hl:=h.1;have ht:l.length<=cf_:=by simp only [cf_];omega
 have hb:fh_ l<=l.length:=List.findIdx_le_length;simp only [bw_];have:=eO_ (fun i=>(l.take i).map cK_) (fh_ l) (fun n N i (o:List aa_)=>bw_.loop4 n (fun B2 B3 B4 B5 B6 B7 B8=>(some ((aa_.mk B5 B6 B7 B8 ([]:List Bs)),true))) N l (l.length:Int) (i:Int) 0 0 [] 4 0 [] o) (cond (decide (fh_ l<l.length)) (g8_,false) (et_ l,true)) (fun i hi F u => ?_) ?_
 . exact this
 . have k:i<l.length:=by omega
   have hx:=fQ_ (h.2 _ (b2_ TOp.dflt k));rw [oJ_ cK_ TOp.dflt k] at u;have p:((l.take i).map cK_).length<=i:=by simp;omega
   generalize (l.take i).map cK_=o at u p ⊢;simp only [bw_.turn4,bw_.step4,aY_,hK_,Int.toNat_natCast,W_up k ht,cE_ k,ch_ k,kK_ hi,cond_true,cond_false,bc_,ba_,ab_ hx];exact ⟨trivial,by simp;omega,u⟩
 . by_cases m:fh_ l<l.length
   . have hx:=fQ_ (h.2 _ (b2_ TOp.dflt m))
     simp only [bw_.turn4,bw_.step4,aY_,hK_,Int.toNat_natCast,cE_ m,ch_ m,bad_at m,cond_true,bc_,ab_ hx,ae_];rw [decide_eq_true m];exact ⟨trivial,rfl⟩
   . have e:fh_ l=l.length:=by omega
     rw [decide_eq_false m,cond_false];unfold et_;rw [e,List.take_length];simp only [bw_.turn4,bw_.step4,co_,cond_false,ae_]
theorem kD_ {l:List TOp} (h:kY_ l):Ev (fun n _=>dF_ n l) (ey_ l):=by
 refine am_ ?_;simp only [dF_,aY_,ab_ (ic_ h)];unfold ey_;cases k:decide (fh_ l<l.length) with
 |true=>
  simp only [cond_true,ab_ (ep_ (ev_ 6)),al_,ae_];simp
 |false=>
  simp only [cond_false,ab_ (ep_ (jP_ h)),al_,ae_];generalize bC_ (et_ l)=s;cases (s == [])<;>simp
theorem sf_:∀ (d:Nat) (j:aa_),aa_.len j->fx_ d j
 |0,_,_=>trivial
 |d+1,j,h=>by have hq:=(aa_.len_iff j).1 h;exact ⟨⟨hq.1,hq.2.2.1,hq.2.2.2⟩,hq.2.1.1,fun x hx=>sf_ d x (hq.2.1.2 x hx)⟩
theorem lg_ {j:aa_}:Ev (fun n _=>aq_ n j (aa_.mk 0 0 [] [] [])) (j6_ j):=by
 refine am_ ?_;simp only [aq_,al_,ae_,j6_];by_cases k:j.list=[]
 . by_cases m:j.names=[]
   . have p:Ev (fun n _=>aq_.loop6 n (aq_ n) (fun B2 B3 B4 B5 B6 B7 B8 B9 B10 B11=>(aq_.loop14 n (aq_ n) (some true) n 0 B2 B3 B4 B5 B6 B7 B8 B9 B10 B11)) n 0 j.kind j.n_ j.s [] [] 0 0 [] [] []) true :=
      cX_ (f:=fun n N=>aq_.loop6 n (aq_ n) (fun B2 B3 B4 B5 B6 B7 B8 B9 B10 B11=>(aq_.loop14 n (aq_ n) (some true) n 0 B2 B3 B4 B5 B6 B7 B8 B9 B10 B11)) N 0 j.kind j.n_ j.s [] [] 0 0 [] [] []) (a8_ (cX_ (f:=fun n N=>aq_.loop14 n (aq_ n) (some true) N 0 j.kind j.n_ j.s [] [] 0 0 [] [] []) (a8_ ⟨0,fun _ _ _ _=>rfl⟩)))
     rw [k,m];simp only [dK_ p,bne];cases (j.kind == 0)<;>cases (j.n_ == 0)<;>cases (j.s == [])<;>simp
   . simp only [bne]
     rw [k];have e:((j.names.length:Int) == (([]:List Bs).length:Int))=false:=by simp only [List.length_nil];rw [beq_eq_false_iff_ne];intro e;exact m (List.eq_nil_of_length_eq_zero (by omega))
     have e2:decide (j.names.length=0)=false:=decide_eq_false fun e=>m (List.eq_nil_of_length_eq_zero e);rw [e,e2];cases (j.kind == 0)<;>cases (j.n_ == 0)<;>cases (j.s == [])<;>simp
 . simp only [bne]
   have e:((j.list.length:Int) == (([]:List aa_).length:Int))=false:=by simp only [List.length_nil];rw [beq_eq_false_iff_ne];intro e;exact k (List.eq_nil_of_length_eq_zero (by omega))
   have e2:decide (j.list.length=0)=false:=decide_eq_false fun e=>k (List.eq_nil_of_length_eq_zero e);rw [e,e2];cases (j.kind == 0)<;>cases (j.n_ == 0)<;>cases (j.s == [])<;>simp
theorem iS_ {l:List TOp} (h:kY_ l):Ev (fun n _=>bR_ n l) (cond (decide (fh_ l<l.length)) (aa_.mk 4 0 [] ((l.take (fh_ l)).map cK_) [],false) (et_ l,decide ((l.length:Int)<=40) && !(bC_ (et_ l) == []))):=by
 refine am_ ?_;have hl:=h.1;have ht:l.length<=cf_:=by simp only [cf_];omega
 have hb:fh_ l<=l.length:=List.findIdx_le_length;simp only [bR_];have:=eO_ (fun i=>(l.take i).map cK_) (fh_ l) (fun n N i (o:List aa_)=>bR_.loop4 n (fun B2 B3 B4 B5 B6 B7 B8 B9=>(cond (decide ((B2.length:Int)<=40)) ((c3_ n (aa_.mk B6 B7 B8 B9 [])).bind fun A10=>(some ((aa_.mk B6 B7 B8 B9 ([]:List Bs)),(!(A10 == []))))) (some ((aa_.mk B6 B7 B8 B9 ([]:List Bs)),false)))) N l (i:Int) 0 0 [] 4 0 [] o) (cond (decide (fh_ l<l.length)) (aa_.mk 4 0 [] ((l.take (fh_ l)).map cK_) [],false) (et_ l,decide ((l.length:Int)<=40) && !(bC_ (et_ l) == []))) (fun i hi F u => ?_) ?_
 . exact this
 . have k:i<l.length:=by omega
   have hx:=eG_ (h.2 _ (b2_ TOp.dflt k));rw [oJ_ cK_ TOp.dflt k] at u;have p:((l.take i).map cK_).length<=i:=by simp;omega
   generalize (l.take i).map cK_=o at u p ⊢;simp only [bR_.turn4,bR_.step4,aY_,hK_,Int.toNat_natCast,W_up k ht,cE_ k,ch_ k,kK_ hi,cond_true,cond_false,bc_,ba_,ab_ hx];exact ⟨trivial,by simp;omega,u⟩
 . by_cases m:fh_ l<l.length
   . have hx:=eG_ (h.2 _ (b2_ TOp.dflt m))
     simp only [bR_.turn4,bR_.step4,aY_,hK_,Int.toNat_natCast,cE_ m,ch_ m,bad_at m,cond_true,bc_,ab_ hx,ae_];rw [decide_eq_true m];exact ⟨trivial,rfl⟩
   . have e:fh_ l=l.length:=by omega
     have z:=dY_ (jP_ h);rw [decide_eq_false m,cond_false];unfold et_ at z ⊢;rw [e,List.take_length];simp only [bR_.turn4,bR_.step4,co_,cond_false,al_,ab_ z,ae_];cases decide ((l.length:Int)<=40)<;>simp
def qF_ (l:List TOp):Bool:=(!decide (fh_ l<l.length))&&(decide ((l.length:Int)<=40) && !(bC_ (et_ l) == []))
def c9_ (e:aC_):Bool:=inn e.version 0 100000&&cond (e.kind == 1) ((e.base == 0)&&(decide (e.ops.length=0) && !(bC_ e.doc == []))) (cond (e.kind == 2) (qF_ e.ops&&(inn e.base 0 (W (e.version - 1))&&j6_ e.doc)) false)
def oO_ (e:aC_):Prop:=fx_ 6 e.doc/\kY_ e.ops
theorem mL_ (e:aC_):aC_.mk e.kind e.version e.base e.doc e.ops=e:=rfl
theorem size_ok (l:List TOp):decide (ey_ l>=0)=((!decide (fh_ l<l.length)) && !(bC_ (et_ l) == [])):=by
 unfold ey_;cases decide (fh_ l<l.length) with
 |true=>rfl
 |false=>
  cases hs:(bC_ (et_ l) == []) with
  |true=>rfl
  |false=>simp only [cond_false,Bool.not_false,Bool.and_true];exact decide_eq_true (by omega)
theorem lZ_ {e:aC_} (h:oO_ e):Ev (fun n _=>ei_ n e) (c9_ e):=by refine am_ ?_;simp only [ei_,aY_,fX_,al_,ab_ (dY_ h.1),ab_ (iS_ h.2),ab_ lg_,ae_,oK_,c9_,qF_];generalize inn e.version 0 100000=a1;generalize (e.kind == 1)=a2;generalize (e.kind == 2)=a3;generalize (e.base == 0)=a4;generalize decide (e.ops.length=0)=a5;generalize decide (fh_ e.ops<e.ops.length)=a6;generalize decide ((e.ops.length:Int)<=40)=a7;generalize (bC_ (et_ e.ops) == [])=a8;generalize (bC_ e.doc == [])=a9;generalize inn e.base 0 (W (e.version - 1))=b1;generalize j6_ e.doc=b2;cases a1<;>cases a2<;>cases a3<;>cases a4<;>simp only [cond_true,cond_false,Bool.not_true,Bool.not_false,Bool.false_and,Bool.true_and,reduceCtorEq,false_implies,true_implies,true_and,and_true,implies_true];all_goals (cases a5<;>cases a6<;>cases a7<;>cases a8<;>cases a9<;>cases b1<;>cases b2<;>simp)
theorem kC_ {n:Int}:Ev (fun m _=>df_ m n) (inn n 0 100000):=am_ (by simp only [df_,gI_,ae_])
theorem mE_ {e:aC_} (h:oO_ e):Ev (fun n _=>ek_ n e) (c9_ e):=by refine am_ ?_;simp only [ek_,aY_,gI_,al_,ab_ kC_,ab_ (ep_ h.1),ab_ iZ_,ab_ (kD_ h.2),ae_,oK_,size_ok,c9_,qF_];generalize inn e.version 0 100000=a1;generalize (e.kind == 1)=a2;generalize (e.kind == 2)=a3;generalize (e.base == 0)=a4;generalize decide (e.ops.length=0)=a5;generalize decide (fh_ e.ops<e.ops.length)=a6;generalize decide ((e.ops.length:Int)<=40)=a7;generalize (bC_ (et_ e.ops) == [])=a8;generalize (bC_ e.doc == [])=a9;generalize inn e.base 0 (W (e.version - 1))=b1;generalize j6_ e.doc=b2;cases a1<;>cases a2<;>cases a3<;>cases a4<;>simp only [cond_true,cond_false,Bool.not_true,Bool.not_false,Bool.false_and,Bool.true_and,reduceCtorEq,false_implies,true_implies,true_and,and_true,implies_true];all_goals (cases a5<;>cases a6<;>cases a7<;>cases a8<;>cases a9<;>cases b1<;>cases b2<;>simp)
theorem g4_ {x:Int} (m : -9223372036854775808<=x) (k:x<=9223372036854775807):Ev (fun n _=>en_ n x) (Lib.itoa x):=by refine am_ ?_;have:=Itoa_ev m k;simp only [en_,ab_ this,ae_]
def nu_ (v:Int):Bs:=([105,100,58,32]++Lib.itoa v)++[10]
def fs_ (v:Int) (d:Bs):Bs:=((([101,118,101,110,116,58,32,115,110,97,112,10]++nu_ v)++[100,97,116,97,58,32])++d)++[10,10]
def e1_ (v b:Int) (d:Bs):Bs:=((((([101,118,101,110,116,58,32,112,97,116,99,104,10]++nu_ v)++[98,97,115,101,58,32])++Lib.itoa b)++[10,100,97,116,97,58,32])++d)++[10,10]
def cQ_ (e:aC_):Bs:=cond (c9_ e) (cond (e.kind == 1) (fs_ e.version (bC_ e.doc)) (e1_ e.version e.base (bC_ (et_ e.ops)))) []
theorem fM_ (j:aa_):(bC_ j).length<=6000:=by
 unfold bC_;cases cM_ j with
 |false=>exact Nat.zero_le _
 |true=>
  simp only [cond_true];cases h:decide (((FEnc 6 j).length:Int) > 6000) with
  |true=>exact Nat.zero_le _
  |false=>have:=of_decide_eq_false h;simp only [cond_false];omega
structure EvIs (e:aC_):Prop where
 ver:0<=e.version/\e.version<=100000
 base:(e.kind == 1)=false->0<=e.base/\e.base<=100000
 ops:(e.kind == 1)=false->decide (fh_ e.ops<e.ops.length)=false
theorem ev_is {e:aC_} (h:c9_ e=true):EvIs e:=by
 unfold c9_ at h;rw [Bool.and_eq_true] at h;have u:=gP_ h.1;refine ⟨by omega,fun p => ?_,fun p => ?_⟩;all_goals (
  have k:=h.2;rw [p,cond_false] at k;cases m:(e.kind == 2) with
  |false=>rw [m] at k;cases k
  |true=>
   rw [m,cond_true,Bool.and_eq_true,Bool.and_eq_true] at k;have hb:=gP_ k.2.1;rw [W_id (by omega) (by omega)] at hb;unfold qF_ at k;rw [Bool.and_eq_true] at k
   first|(have:=k.1.1;simpa using this)|omega)
theorem fD_ {e:aC_} (h:oO_ e):Ev (fun n _=>de_ n e) (cQ_ e):=by
 refine am_ ?_;simp only [de_,aY_,mL_,ab_ (lZ_ h),al_,ae_,cQ_];cases J:c9_ e with
 |false=>exact ⟨fun _=>rfl,fun h=>(by cases h)⟩
 |true=>
  refine ⟨fun h=>(by cases h),fun _ => ?_⟩;have hi:=ev_is J;have hd:=hi.ver;have m:=Lib.itoa_length_le e.version (by omega) (by omega);cases z:(e.kind == 1) with
  |true=>
   have u:=dY_ h.1;have k:=fM_ e.doc;simp only [ab_ (c4_ (x:=e.version) (by omega) (by omega)),cond_true,al_,dI_,ab_ u,ae_,fs_,nu_];generalize Lib.itoa e.version=a at m ⊢;generalize bC_ e.doc=b at k ⊢
   repeat' (first|apply And.intro|intro _)
   all_goals (first|trivial|rfl|(rename_i hc;have hc:=of_decide_eq_false hc;simp only [List.length_append,List.length_cons,List.length_nil] at hc;omega))
  |false=>
   have hb:=hi.base z;have p:=Lib.itoa_length_le e.base (by omega) (by omega);have I:=iS_ h.2;rw [hi.ops z,cond_false] at I;have u:=dY_ (jP_ h.2);have k:=fM_ (et_ e.ops);simp only [ab_ (c4_ (x:=e.version) (by omega) (by omega)),ab_ (c4_ (x:=e.base) (by omega) (by omega)),ab_ I,cond_true,cond_false,al_,dI_,ab_ u,ae_,e1_,nu_];generalize Lib.itoa e.version=a at m ⊢;generalize Lib.itoa e.base=c at p ⊢;generalize bC_ (et_ e.ops)=b at k ⊢
   repeat' (first|apply And.intro|intro _)
   all_goals (first|trivial|rfl|(rename_i hc;have hc:=of_decide_eq_false hc;simp only [List.length_append,List.length_cons,List.length_nil] at hc;omega))
theorem hb_ {e:aC_} (h:oO_ e):Ev (fun n _=>dG_ n e) (cQ_ e):=by
 refine am_ ?_;simp only [dG_,aY_,mL_,ab_ (mE_ h),al_,ae_,cQ_];cases J:c9_ e with
 |false=>exact ⟨fun _=>rfl,fun h=>(by cases h)⟩
 |true=>
  refine ⟨fun h=>(by cases h),fun _ => ?_⟩;have hi:=ev_is J;have hd:=hi.ver;have m:=Lib.itoa_length_le e.version (by omega) (by omega);cases z:(e.kind == 1) with
  |true=>
   have u:=ep_ h.1;have k:=fM_ e.doc;simp only [ab_ (g4_ (x:=e.version) (by omega) (by omega)),cond_true,al_,dI_,ab_ u,ae_,fs_,nu_];generalize Lib.itoa e.version=a at m ⊢;generalize bC_ e.doc=b at k ⊢
   repeat' (first|apply And.intro|intro _)
   all_goals (first|trivial|rfl|(rename_i hc;have hc:=of_decide_eq_false hc;simp only [List.length_append,List.length_cons,List.length_nil] at hc;omega))
  |false=>
   have hb:=hi.base z;have p:=Lib.itoa_length_le e.base (by omega) (by omega);have I:=ic_ h.2;rw [hi.ops z,cond_false] at I;have u:=ep_ (jP_ h.2);have k:=fM_ (et_ e.ops);simp only [ab_ (g4_ (x:=e.version) (by omega) (by omega)),ab_ (g4_ (x:=e.base) (by omega) (by omega)),ab_ I,cond_true,cond_false,al_,dI_,ab_ u,ae_,e1_,nu_];generalize Lib.itoa e.version=a at m ⊢;generalize Lib.itoa e.base=c at p ⊢;generalize bC_ (et_ e.ops)=b at k ⊢
   repeat' (first|apply And.intro|intro _)
   all_goals (first|trivial|rfl|(rename_i hc;have hc:=of_decide_eq_false hc;simp only [List.length_append,List.length_cons,List.length_nil] at hc;omega))
theorem r4_ {l:List TOp} {o:TOp} (h:∀ x ∈ l,fW_ x) (k:fW_ o):∀ x ∈ l++[o],fW_ x:=by
 intro x hx;rcases List.mem_append.1 hx with hx|hx
 . exact h x hx
 . obtain rfl:=List.mem_singleton.1 hx;exact k
theorem no_ {j:aa_} (h:bI_ 6 j<=400):Ans (fun n _=>b3_ n j) fun x=>kY_ x.1:=by
 have u:=eZ_ h;refine ci_ ?_;simp only [b3_];refine gk_ (σ:=Nat × List TOp) (fun n N st=>b3_.loop4 n (fun B2 B3 B4 B5 B6 B7=>(some (B7,(B2 == 4)))) N j.list (j.list.length:Int) (st.1:Int) j.kind j.n_ j.s j.list j.names st.2) (fun st=>j.list.length - st.1) (fun st=>st.1<=j.list.length/\st.2.length<=st.1/\∀ o ∈ st.2,fW_ o) _ (fun st k ih => ?_) (0,[]) ⟨Nat.zero_le _,Nat.zero_le _,fun y h=>(by cases h)⟩;obtain ⟨i,ops⟩:=st;simp only at k ih ⊢;obtain ⟨I,z,m⟩:=k;simp only [b3_.turn4,b3_.step4,aY_,Int.toNat_natCast];by_cases hi:i<j.list.length
 . have hx:bI_ 6 (j.list.getD i aa_.dflt)<=400:=by
    have:=iz_ h (b2_ aa_.dflt hi);rw [lD_ 5 _ this];exact this
   simp only [cE_ hi,cond_true,eN_,ch_ hi,true_and,W_up hi (show j.list.length<=cf_ by simp only [cf_];omega)];refine az_ (mD_ hx) fun v p => ?_;simp only [bj_,aX_,d7_];exact ⟨fun _=>⟨Nat.zero_le _,fun y h=>(by cases h)⟩,fun _=>⟨by simp;omega,ih (i+1,_) ⟨hi,by simp;omega,r4_ m p⟩ (by simp only;omega)⟩⟩
 . have e:i=j.list.length:=by omega
   subst e;simp only [co_,cond_false,aX_];exact ⟨by show ops.length<=4000000;omega,m⟩
theorem ops_right {l:List TOp} (h:bI_ 6 (et_ l)<=400):l.length<=400:=by have:=eZ_ h;simpa [et_] using this
theorem nn_ {l:List TOp} (h:∀ o ∈ l,OpIn o) (hl:l.length<=400):Ev (fun n _=>b3_ n (et_ l)) (l,true):=by
 refine am_ ?_;simp only [b3_,et_];have:=eO_ (fun i=>l.take i) l.length (fun n N i (o:List TOp)=>b3_.loop4 n (fun B2 B3 B4 B5 B6 B7=>(some (B7,(B2 == 4)))) N (l.map cK_) ((l.map cK_).length:Int) (i:Int) 4 0 [] (l.map cK_) [] o) (l,true) (fun i hi F p => ?_) ?_
 . exact this
 . have m:=h _ (b2_ TOp.dflt hi)
   have k:i<(l.map cK_).length:=by simpa using hi
   have e:(l.map cK_).getD i aa_.dflt=eD_ (l.getD i TOp.dflt):=by rw [<-m.val,List.getD_eq_getElem?_getD,List.getElem?_map,List.getD_eq_getElem?_getD,List.getElem?_eq_getElem hi];rfl
   rw [cH_ TOp.dflt hi] at p;simp only [b3_.turn4,b3_.step4,aY_,Int.toNat_natCast,cE_ k,cond_true,bc_,ch_ k,true_and,e,ab_ (mC_ m),Bool.not_true,cond_false,ba_,W_up hi (show l.length<=cf_ by simp only [cf_];omega)];exact ⟨by simp;omega,p⟩
 . have e:decide ((l.length:Int)<((l.map cK_).length:Int))=false:=by simp
   simp only [List.take_length,b3_.turn4,b3_.step4,e,cond_false,ae_];rfl
def FCut (s:Bs):Bs × Bs:=if Lib.indexByte s 10<0 then (s,[]) else (s.take (Lib.indexByte s 10).toNat,s.drop ((Lib.indexByte s 10).toNat+1))
theorem idx_le:∀ (s:Bs),Lib.indexByte s 10<(s.length:Int)\/s=[]
 |[]=>.inr rfl
 |b::l=>by
  left;unfold Lib.indexByte;split
  . simp only [List.length_cons];omega
  . split
    . simp only [List.length_cons];omega
    . rcases idx_le l with h|h
      . simp only [List.length_cons];omega
      . subst h;rename_i m k;exact absurd (by rfl) k
theorem Cut_ev {s:Bs} (hs:s.length<=4194304):Ev (fun n _=>(eB_ n s [10])) ((FCut s).1,(FCut s).2,decide (0<=Lib.indexByte s 10)):=by
 have m:=Lib.indexByte_ge s 10;have p:Ev (fun n _=>ce_ n s [10]) (Lib.indexByte s 10):=am_ (by simp only [ce_,r7_,ae_]);have z:Ev (fun n _=>cr_ n s [10]) ((FCut s).1,(FCut s).2,decide (0<=Lib.indexByte s 10)):=by
  refine am_ ?_;simp only [cr_,ab_ p,al_,dQ_,ae_];unfold FCut;refine ⟨fun h => ?_,fun h => ?_⟩
  . have h:=of_decide_eq_true h
    have k:Lib.indexByte s 10<(s.length:Int):=by
     rcases idx_le s with h|h
     . exact h
     . subst h;rename_i I;exact absurd I (by decide)
    have u:W (Lib.indexByte s 10+(([10]:Bs).length:Int))=Lib.indexByte s 10+1:=W_id (by show _<=Lib.indexByte s 10+1;omega) (by show Lib.indexByte s 10+1<_;omega);rw [u,if_neg (by omega),decide_eq_true (show 0<=Lib.indexByte s 10 by omega)];have e1:(Lib.indexByte s 10+1).toNat=(Lib.indexByte s 10).toNat+1:=by omega
    rw [e1];simp only [Int.toNat_natCast,List.take_length,List.drop_zero];exact ⟨by omega,by omega,trivial⟩
  . have h:=of_decide_eq_false h
    rw [if_pos (by omega),decide_eq_false (show ¬ 0<=Lib.indexByte s 10 by omega)]
 exact am_ (by simp only [eB_,ab_ z,ae_])
theorem sC_ (s:Bs):(FCut s).1.length<=s.length/\(FCut s).2.length<=s.length:=by
 unfold FCut;split
 . exact ⟨Nat.le_refl _,Nat.zero_le _⟩
 . simp;omega
theorem idx_app:∀ {a:Bs} (b:Bs),(∀ c ∈ a,c≠10)->Lib.indexByte (a++10::b) 10=(a.length:Int)
 |[],b,_=>rfl
 |c::a,b,h=>by have hc:=h c (List.mem_cons_self ..);have ih:=idx_app b fun x hx=>h x (List.mem_cons_of_mem _ hx);have e:(c == 10)=false:=beq_eq_false_iff_ne.2 hc;rw [List.cons_append,Lib.indexByte,e,ih,if_neg (by simp),if_neg (by simp<;>omega),List.length_cons];omega
theorem cut_app {a:Bs} (b:Bs) (h:∀ c ∈ a,c≠10):FCut (a++10::b)=(a,b):=by
 unfold FCut;rw [idx_app b h,if_neg (by omega),Int.toNat_natCast,List.take_left];have:(a++10::b).drop (a.length+1)=b:=by rw [<-List.drop_drop,List.drop_left];rfl
 rw [this]
def j7_ (p s:Bs):Bs:=cond (pfx p s) (s.drop p.length) s
theorem trim_le (p s:Bs):(j7_ p s).length<=s.length:=by unfold j7_;cases pfx p s<;>simp
theorem rP_ (p s:Bs):j7_ p (p++s)=s:=by unfold j7_;rw [jc_,List.drop_left];rfl
theorem iI_ {s p:Bs} (hs:s.length<=4194304):Ev (fun n _=>dv_ n s p) (j7_ p (FCut s).1,(FCut s).2):=by refine am_ ?_;simp only [dv_,ab_ (Cut_ev hs),ab_ hD_,ae_,j7_]
theorem ij_ {p a b:Bs} (k:∀ c ∈ p,c≠10) (ha:∀ c ∈ a,c≠10) (hs:(p++(a++10::b)).length<=4194304):Ev (fun n _=>dv_ n (p++(a++10::b)) p) (a,b):=by
 have e:p++(a++10::b)=(p++a)++10::b:=by simp
 have h:=iI_ (p:=p) hs;rw [e] at h ⊢;rw [cut_app b (fun c hc=>by rcases List.mem_append.1 hc with h|h;exact k c h;exact ha c h),rP_] at h;exact h
abbrev tSnap:Bs:=[101,118,101,110,116,58,32,115,110,97,112,10]
abbrev jx_:Bs:=[101,118,101,110,116,58,32,112,97,116,99,104,10]
abbrev tId:Bs:=[105,100,58,32]
abbrev le_:Bs:=[98,97,115,101,58,32]
abbrev fB_:Bs:=[100,97,116,97,58,32]
theorem l2_ (v:Int) (d:Bs):fs_ v d=tSnap++(tId++(Lib.itoa v++10::(fB_++(d++10::[10])))):=by simp [fs_,nu_]
theorem kt_ (v b:Int) (d:Bs):e1_ v b d=jx_++(tId++(Lib.itoa v++10::(le_++(Lib.itoa b++10::(fB_++(d++10::[10])))))):=by simp [e1_,nu_]
theorem ln_ {s:Bs} (hs:s.length<=4194304):Ans (fun n _=>dq_ n s) fun e=>oO_ e:=by
 have m:∀ {t:Bs},t.length<=4194304->Ev (fun n _=>cV_ n t) (endOf t (Lib.atoiAll t)):=fun h=>nb_ (by omega);have fl:∀ (p t:Bs),(j7_ p (FCut t).1).length<=t.length:=fun p t=>Nat.le_trans (trim_le _ _) (sC_ t).1;refine ci_ ?_;simp only [dq_,aY_,bg_ gV_];cases S:pfx [101,118,101,110,116,58,32,115,110,97,112,10] s with
 |true=>
  simp only [cond_true];have u:(s.drop tSnap.length).length<=s.length:=by simp
  generalize s.drop tSnap.length=t at u ⊢;have O:=(sC_ t).2;have J:=fl [100,97,116,97,58,32] (FCut t).2;have I:=fl [105,100,58,32] t;simp only [bg_ (iI_ (s:=t) (p:=[105,100,58,32]) (by omega)),bg_ (iI_ (s:=(FCut t).2) (p:=[100,97,116,97,58,32]) (by omega)),bg_ (m (t:=j7_ [105,100,58,32] (FCut t).1) (by omega))];refine az_ (ii_ (s:=j7_ [100,97,116,97,58,32] (FCut (FCut t).2).1) (by omega)) fun v k => ?_;simp only [aX_];exact ⟨dl_ 6 _ k,Nat.zero_le _,fun o h=>(by cases h)⟩
 |false=>
  simp only [cond_false,bg_ hD_];have u:=trim_le jx_ s;show Ans (fun n N=>(dv_ n (j7_ jx_ s) [105,100,58,32]).bind _) _;generalize j7_ jx_ s=t at u ⊢;have O:=(sC_ t).2;have J:=(sC_ (FCut t).2).2;have I:=fl [105,100,58,32] t;have U:=fl [98,97,115,101,58,32] (FCut t).2;have T:=fl [100,97,116,97,58,32] (FCut (FCut t).2).2;simp only [bg_ (iI_ (s:=t) (p:=[105,100,58,32]) (by omega)),bg_ (iI_ (s:=(FCut t).2) (p:=[98,97,115,101,58,32]) (by omega)),bg_ (iI_ (s:=(FCut (FCut t).2).2) (p:=[100,97,116,97,58,32]) (by omega)),bg_ (m (t:=j7_ [105,100,58,32] (FCut t).1) (by omega)),bg_ (m (t:=j7_ [98,97,115,101,58,32] (FCut (FCut t).2).1) (by omega))];refine az_ (ii_ (s:=j7_ [100,97,116,97,58,32] (FCut (FCut (FCut t).2).2).1) (by omega)) fun v k => ?_;refine az_ (no_ k) fun w z => ?_;simp only [aX_];exact ⟨ev_ 6,z⟩
structure SnapIs (e:aC_):Prop where
 ver:0<=e.version/\e.version<=100000
 base:e.base=0
 ops:e.ops=[]
 doc:bC_ e.doc≠[]
structure PatchIs (e:aC_):Prop where
 ver:0<=e.version/\e.version<=100000
 base:0<=e.base/\e.base<=100000
 doc:e.doc=g8_
 ops:∀ o ∈ e.ops,OpIn o
 enc:bC_ (et_ e.ops)≠[]
 len:e.ops.length<=400
theorem jY_ {e:aC_} (h:c9_ e=true):(e.kind=1/\SnapIs e)\/(e.kind=2/\PatchIs e):=by
 have hi:=ev_is h;unfold c9_ at h;rw [Bool.and_eq_true] at h;have k:=h.2;cases u:(e.kind == 1) with
 |true=>
  rw [u,cond_true] at k;simp only [Bool.and_eq_true,Bool.not_eq_true',beq_iff_eq,decide_eq_true_eq,beq_eq_false_iff_ne] at k;exact .inl ⟨by simpa using u,hi.ver,k.1,List.eq_nil_of_length_eq_zero k.2.1,k.2.2⟩
 |false=>
  rw [u,cond_false] at k;cases m:(e.kind == 2) with
  |false=>rw [m] at k;cases k
  |true=>
   rw [m,cond_true] at k;unfold qF_ at k;simp only [Bool.and_eq_true,Bool.not_eq_true',decide_eq_true_eq,decide_eq_false_iff_not,beq_eq_false_iff_ne] at k;obtain ⟨⟨b1,b2,b3⟩,b4,b5⟩:=k;have p:=mN_ b3;refine .inr ⟨by simpa using m,hi.ver,hi.base u,pn_ b5,fun o z=>op_in ?_,b3,ops_right p.1⟩;intro hz;have:e.ops.findIdx (fun o=>(cK_ o).kind == 0)<e.ops.length:=List.findIdx_lt_length_of_exists ⟨o,z,by rw [hz];rfl⟩;exact b1 this
theorem hw_ {e:aC_} (h:c9_ e=true) (k:e.kind=1):cQ_ e=fs_ e.version (bC_ e.doc):=by unfold cQ_;rw [h,k];rfl
theorem gS_ {e:aC_} (h:c9_ e=true) (k:e.kind=2):cQ_ e=e1_ e.version e.base (bC_ (et_ e.ops)):=by unfold cQ_;rw [h,k];rfl
theorem o4_ {j:aa_} (h:bC_ j≠[]):∀ c ∈ bC_ j,c≠10:=by obtain ⟨m,k,_⟩:=mN_ h;rw [k];exact enc_nl 6 j m
theorem kH_ {e:aC_} (h:c9_ e=true):(cQ_ e).length<=10000:=by
 rcases jY_ h with ⟨k,hs⟩|⟨k,hs⟩
 . rw [hw_ h k,l2_]
   have:=fM_ e.doc;have:=Lib.itoa_length_le e.version (by have:=hs.ver;omega) (by have:=hs.ver;omega);simp only [List.length_append,List.length_cons,List.length_nil];omega
 . rw [gS_ h k,kt_]
   have:=fM_ (et_ e.ops);have:=Lib.itoa_length_le e.version (by have:=hs.ver;omega) (by have:=hs.ver;omega);have:=Lib.itoa_length_le e.base (by have:=hs.base;omega) (by have:=hs.base;omega);simp only [List.length_append,List.length_cons,List.length_nil];omega
theorem qo_ {e:aC_} (h:c9_ e=true):cQ_ e≠[]:=by
 rcases jY_ h with ⟨k,hs⟩|⟨k,hs⟩
 . rw [hw_ h k,l2_];intro e;cases e
 . rw [gS_ h k,kt_];intro e;cases e
theorem pc_ {n:Int} (p:0<=n) (k:n<=100000):Ev (fun m _=>cV_ m (Lib.itoa n)) (n,true):=by have hl:=Lib.itoa_length_le n (by omega) (by omega);have:=nb_ (s:=Lib.itoa n) (by omega);rw [qx_ (by omega) (by omega)] at this;exact this
theorem lm_ {e:aC_} (h:c9_ e=true):Ev (fun n _=>dq_ n (cQ_ e)) e:=by
 have m:=kH_ h;refine am_ ?_;rcases jY_ h with ⟨u,hs⟩|⟨u,hs⟩
 . rw [hw_ h u,l2_] at m ⊢
   simp only [List.length_append] at m;have z:=hs.ver;have f1:=ij_ (p:=tId) (a:=Lib.itoa e.version) (b:=fB_++(bC_ e.doc++10::[10])) (by decide) (jg_ _) (by simp only [List.length_append];omega);have f2:=ij_ (p:=fB_) (a:=bC_ e.doc) (b:=[10]) (by decide) (o4_ hs.doc) (by simp only [List.length_append,List.length_cons] at m ⊢;omega);simp only [dq_,aY_,ab_ gV_,jc_,cond_true,List.drop_left,ab_ f1,ab_ f2,ab_ (pc_ z.1 z.2),ab_ (ih_ hs.doc),ae_];obtain ⟨k,v,b,d,o⟩:=e;have e1:=hs.base;have e2:=hs.ops;simp only at e1 e2 u;rw [e1,e2,u]
 . rw [gS_ h u,kt_] at m ⊢
   simp only [List.length_append] at m;have z:=hs.ver;have hb:=hs.base;have f1:=ij_ (p:=tId) (a:=Lib.itoa e.version) (b:=le_++(Lib.itoa e.base++10::(fB_++(bC_ (et_ e.ops)++10::[10])))) (by decide) (jg_ _) (by simp only [List.length_append];omega);have f2:=ij_ (p:=le_) (a:=Lib.itoa e.base) (b:=fB_++(bC_ (et_ e.ops)++10::[10])) (by decide) (jg_ _) (by simp only [List.length_append,List.length_cons] at m ⊢;omega);have f3:=ij_ (p:=fB_) (a:=bC_ (et_ e.ops)) (b:=[10]) (by decide) (o4_ hs.enc) (by simp only [List.length_append,List.length_cons] at m ⊢;omega);have I:∀ t,pfx [101,118,101,110,116,58,32,115,110,97,112,10] (jx_++t)=false:=fun t=>rfl;have ht:∀ t,cond (pfx [101,118,101,110,116,58,32,112,97,116,99,104,10] (jx_++t)) ((jx_++t).drop ([101,118,101,110,116,58,32,112,97,116,99,104,10]:Bs).length) (jx_++t)=t:=fun t=>rP_ jx_ t;simp only [dq_,aY_,ab_ gV_,I,cond_false,ab_ hD_,ht,ab_ f1,ab_ f2,ab_ f3,ab_ (pc_ z.1 z.2),ab_ (pc_ hb.1 hb.2),ab_ (ih_ hs.enc),ab_ (nn_ hs.ops hs.len),ae_];obtain ⟨k,v,b,d,o⟩:=e;have e1:=hs.doc;simp only at e1 u;rw [e1,u];rfl
abbrev zeroE:aC_:=aC_.mk 0 0 0 (aa_.mk 0 0 [] [] []) []
def sM_ (s:Bs) (x:aC_ × Bool):Prop:=x=(zeroE,false)\/(x.2=true/\c9_ x.1=true/\cQ_ x.1=s)
theorem text_ok {e:aC_} (h:cQ_ e≠[]):c9_ e=true:=by
 unfold cQ_ at h;cases k:c9_ e with
 |true=>rfl
 |false=>rw [k] at h;exact absurd rfl h
theorem jV_ {s:Bs} (hs:s.length<=4194304):Ans (fun n _=>cU_ n s) (sM_ s):=by refine ci_ ?_;simp only [cU_,aY_,mL_];refine az_ (ln_ hs) fun e m => ?_;simp only [bg_ (hb_ m),bj_,aX_];refine ⟨fun _=>.inl rfl,fun k=>⟨fun _=>.inl rfl,fun p=>.inr ⟨rfl,text_ok ?_,by simpa using p⟩⟩⟩;exact fun e=>by rw [e] at k;cases k
theorem si_ {e:aC_} (h:c9_ e=true):oO_ e:=by
 rcases jY_ h with ⟨m,hs⟩|⟨m,hs⟩
 . refine ⟨dl_ 6 _ (mN_ hs.doc).1,?_⟩
   rw [hs.ops];exact ⟨Nat.zero_le _,fun o h=>(by cases h)⟩
 . refine ⟨?_,by have:=hs.len;omega,fun o k=>sg_ (hs.ops o k)⟩
   rw [hs.doc];exact ev_ 6
theorem jU_ {e:aC_} (h:c9_ e=true):Ev (fun n _=>cU_ n (cQ_ e)) (e,true):=by have k:(cQ_ e == [])=false:=beq_eq_false_iff_ne.2 (qo_ h);refine am_ ?_;simp only [cU_,aY_,mL_,ab_ (lm_ h),ab_ (hb_ (si_ h)),k,beq_self_eq_true,Bool.not_true,cond_false,ae_]
def e2_ (cur:Bs):Bs->List Bs
 |[]=>[]
 |c::l=>if c=10 then cur::e2_ [] l else e2_ (cur++[c]) l
theorem fp_ (cur b:Bs):∀ (a:Bs),(∀ c ∈ a,c≠10)->e2_ cur (a++10::b)=(cur++a)::e2_ [] b:=by
 intro a;induction a generalizing cur with
 |nil=>intro _;rw [List.nil_append,e2_,if_pos rfl,List.append_nil]
 |cons c a ih=>
  intro h;rw [List.cons_append,e2_,if_neg (h c (List.mem_cons_self ..)),ih _ fun x hx=>h x (List.mem_cons_of_mem _ hx)];simp
theorem mj_:∀ (s cur:Bs) (B:Nat),cur.length+s.length<=B->(e2_ cur s).length<=s.length/\∀ y ∈ e2_ cur s,y.length<=B
 |[],_,_,_=>⟨Nat.le_refl _,fun y h=>(by cases h)⟩
 |c::l,cur,B,h=>by
  unfold e2_;simp only [List.length_cons] at h;split
  . obtain ⟨p,m⟩:=mj_ l [] B (by simp;omega)
    refine ⟨by simp;omega,fun y k => ?_⟩;rcases List.mem_cons.1 k with rfl|k
    . omega
    . exact m y k
  . obtain ⟨p,m⟩:=mj_ l (cur++[c]) B (by simp;omega)
    exact ⟨by simp;omega,m⟩
theorem hI_ {s:Bs} (hs:s.length<=4194304):Ev (fun n _=>bo_ n s) (e2_ [] s):=by
 refine am_ ?_;simp only [bo_];have z:∀ (m i f:Nat) (out:List Bs),i+m=s.length->f<=i->out.length<=i->Ev (fun n N=>bo_.loop5 n (fun B1=>(some B1)) N s (f:Int) (i:Int) out) (out++e2_ ((s.take i).drop f) (s.drop i)):=by
  intro m;induction m with
  |zero=>
   intro i f out hi _ _;have:i=s.length:=by omega
   subst this;refine a8_ ?_;simp only [bo_.turn5,bo_.step5,co_,cond_false,List.drop_length,e2_,List.append_nil,ae_]
  |succ m ih=>
   intro i f out hi O J;have k:i<s.length:=by omega
   have I:=W_up k (show s.length<=cf_ by simp only [cf_];omega);have hd:=ds_ 0 k;refine a8_ ?_;simp only [bo_.turn5,bo_.step5,cE_ k,cond_true,bc_,ch_ k,true_and,Int.toNat_natCast,I,al_,dQ_,ba_];have u:((s.getD i 0).toNat:Int)=10↔s.getD i 0=10:=by
    have:=k8_ (s.getD i 0) 10 10 rfl;constructor
    . intro h;rw [show (((s.getD i 0).toNat:Nat):Int)=((10:Nat):Int) from h] at this;simpa using this
    . intro h;rw [h];rfl
   rw [hd];refine ⟨fun h => ?_,fun h => ?_⟩
   . have h:s.getD i 0=10:=u.1 (by simpa using h)
     have p:=ih (i+1) (i+1) (out++[(s.take i).drop f]) (by omega) (Nat.le_refl _) (by simp;omega);rw [sz_ (show (s.take (i+1)).length<=i+1 by simp;omega)] at p;rw [e2_,if_pos h];rw [List.append_assoc] at p;exact ⟨by omega,by simp;omega,p⟩
   . have h:¬ s.getD i 0=10:=fun e=>by rw [u.2 e] at h;cases h
     have p:=ih (i+1) f out (by omega) (by omega) (by omega);rw [cH_ 0 k,List.drop_append_of_le_length (by simp;omega)] at p;rw [e2_,if_neg h];exact p
 have:=z s.length 0 0 [] (by omega) (Nat.le_refl _) (Nat.le_refl _);rw [List.nil_append] at this;exact cX_ (f:=fun n N=>bo_.loop5 n (fun B1=>(some B1)) N s 0 0 []) this
def d9_ (l h:Bs):Bs:=cond (pfx h l) (l.drop h.length) []
theorem hc_ {l h:Bs}:Ev (fun n _=>cO_ n l h) (d9_ l h):=by
 refine am_ ?_;simp only [cO_,al_,dQ_,ae_,Int.toNat_natCast,List.take_length,d9_,lw_];refine ⟨fun hc => ?_,fun hc => ?_⟩
 . have hc:=of_decide_eq_true hc
   cases e:((l.take h.length).drop 0 == h) with
   |false=>rfl
   |true=>rw [<-lw_] at e;have:=jb_ e;omega
 . have hc:=of_decide_eq_false hc
   refine ⟨by omega,?_⟩;cases ((l.take h.length).drop 0 == h) with
   |false=>exact ⟨fun _=>rfl,fun h=>(by cases h)⟩
   |true=>exact ⟨fun h=>(by cases h),fun _=>⟨by omega,rfl⟩⟩
theorem mV_ (l h:Bs):(d9_ l h).length<=l.length:=by unfold d9_;cases pfx h l<;>simp
theorem iL_ (h l:Bs):d9_ (h++l) h=l:=by unfold d9_;rw [jc_,List.drop_left];rfl
theorem nQ_ {s:Bs} (hs:s.length<=4194304):Ans (fun n _=>dM_ n s) fun _=>True:=by refine ci_ ?_;simp only [dM_];refine az_ (k2_ (s:=s) (p:=0) (ok:=true) (left:=0) hs (Nat.zero_le _)) fun v k => ?_;obtain ⟨p',ok',e1,e2,e3,e4,e5⟩:=k;simp only [bj_,aX_,bg_ (c4_ (x:=v.1) e4 e5),implies_true,and_self]
theorem nP_ {n:Int} (z:0<=n) (u:n<=100000):Ev (fun m _=>dM_ m (Lib.itoa n)) (n,true):=by have hl:=Lib.itoa_length_le n (by omega) (by omega);have k:=k1_ (s:=Lib.itoa n) (p:=0) (left:=0) (r:=[]) (n:=n) (by simp only [j1_];omega) (by omega) (by omega) ok_ ⟨Nat.zero_le _,by simp⟩;have k:Ev (fun m _=>aE_ m ⟨Lib.itoa n,0,true,0⟩) (n,⟨Lib.itoa n,((0+(Lib.itoa n).length:Nat):Int),true,0⟩):=k;refine am_ ?_;simp only [dM_,ab_ k,cond_true,ab_ (c4_ (x:=n) (by omega) (by omega)),beq_self_eq_true,ae_]
end Go.Pi
