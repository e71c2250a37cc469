/- FeedAll of the program returns what FeedAll of the reference returns, for all arguments. Text 6 of 7. -/
import Derived.Test.YtccdklkcfjmchaaGreatDoorFaE
import Derived.Lib.ItoaLen
import Derived.Lib.AtoiAllCases
set_option linter.unusedVariables false
set_option maxRecDepth 100000
set_option linter.unusedSimpArgs false
section
namespace Go.Pi
def digs (u:Nat):Bs:=if u=0 then [] else Lib.decDigits u
theorem digs_step {u:Nat} (h:u≠0):digs u=digs (u / 10)++[UInt8.ofNat (48+u % 10)]:=by
 unfold digs
 rw [if_neg h,Lib.decDigits]
 by_cases h1:u<10
 · rw [dif_pos h1,if_pos (by omega),Nat.mod_eq_of_lt h1];rfl
 · rw [dif_neg h1,if_neg (by omega)]
theorem nc_ {d:Nat} (h:d<10):eY_ ([(IntKind.u8.wrap (W (48+(d:Int))))]:List Int)=[UInt8.ofNat (48+d)]:=by
 have e1:W (48+(d:Int))=((48+d:Nat):Int):=by rw [W_id (by omega) (by omega)];omega
 rw [e1]
 have e2:IntKind.u8.wrap (((48+d:Nat):Int))=((48+d:Nat):Int):=by
  have:d=0∨d=1∨d=2∨d=3∨d=4∨d=5∨d=6∨d=7∨d=8∨d=9:=by omega
  rcases this with rfl|rfl|rfl|rfl|rfl|rfl|rfl|rfl|rfl|rfl<;>rfl
 rw [e2]
 rfl
theorem c5_ {x:Int} (h0 : -9223372036854775808≤x) (h1:x≤9223372036854775807):Ev (fun n _=>aO_ n x) (Lib.itoa x):=by
 refine aT_ ?_
 simp only [aO_,aI_,ak_]
 refine ⟨fun h => ?_,fun h => ?_⟩
 · have:x=0:=by simpa using h
   subst this
   unfold Lib.itoa
   rw [if_neg (by decide)]
   show _=Lib.decDigits 0
   rw [Lib.decDigits_one (by decide)];rfl
 have hx0:x≠0:=by simpa using h
 have key:∀ (k:Nat) (y:Int) (out:Bs),y.natAbs<10 ^ k → -9223372036854775808≤y→y≤9223372036854775807→out.length+k≤100 →
   Ev (fun n N=>aO_.loop7 n (fun xy3 xy4=>(cond xy3 (cond (decide ([45].length+xy4.length≤9223372036854775807)) (some (([45]:Bs)++xy4)) none) (some xy4))) N y (decide (x<0)) out) (cond (decide (x<0)) ([45]++(digs y.natAbs++out)) (digs y.natAbs++out)):=by
  intro k
  induction k with
  |zero=>
   intro y out hy _ _ ho
   have:y=0:=by simp at hy;omega
   subst this
   refine bo_ ?_
   simp only [aO_.turn7,aO_.step7,bne_self_eq_false,cond_false,aI_,ak_,cW_]
   refine ⟨fun hb=>⟨fun _=>by rw [hb];rfl,fun hc=>by have:=of_decide_eq_false hc;simp at this;omega⟩,fun hb=>by rw [hb];rfl⟩
  |succ k ih=>
   intro y out hy hy0 hy1 ho
   by_cases hz:y=0
   · subst hz
     refine bo_ ?_
     simp only [aO_.turn7,aO_.step7,bne_self_eq_false,cond_false,aI_,ak_,cW_]
     refine ⟨fun hb=>⟨fun _=>by rw [hb];rfl,fun hc=>by have:=of_decide_eq_false hc;simp at this;omega⟩,fun hb=>by rw [hb];rfl⟩
   · have hm:(Int.tmod y 10).natAbs=y.natAbs % 10:=by rw [Int.natAbs_tmod];rfl
     have hd:(Int.tdiv y 10).natAbs=y.natAbs / 10:=by rw [Int.natAbs_tdiv];rfl
     have hW:W (Int.tdiv y 10)=Int.tdiv y 10:=W_id (by omega) (by omega)
     have hlt:y.natAbs % 10<10:=Nat.mod_lt _ (by decide)
     have hdl:(Int.tdiv y 10).natAbs<10 ^ k:=by rw [hd];rw [Nat.pow_succ] at hy;omega
     have hrec:=ih (Int.tdiv y 10) ([UInt8.ofNat (48+y.natAbs % 10)]++out) hdl (by omega) (by omega) (by simp;omega)
     have hdig:digs (Int.tdiv y 10).natAbs++([UInt8.ofNat (48+y.natAbs % 10)]++out)=digs y.natAbs++out:=by rw [hd,digs_step (show y.natAbs≠0 by omega),List.append_assoc]
     rw [hdig] at hrec
     have hne:(y != 0)=true:=by simpa using hz
     refine bo_ ?_
     simp only [aO_.turn7,aO_.step7,hne,cond_true,aI_,cW_,hW]
     refine ⟨fun hneg => ?_,fun hneg => ?_⟩
     · have hneg:=of_decide_eq_true hneg
       have e:W (0 - Int.tmod y 10)=((y.natAbs % 10:Nat):Int):=by rw [W_id (by omega) (by omega)];omega
       rw [e,nc_ hlt]
       exact ⟨fun _=>hrec,fun hc=>by have:=of_decide_eq_false hc;simp at this;omega⟩
     · have hneg:=of_decide_eq_false hneg
       have e:Int.tmod y 10=((y.natAbs % 10:Nat):Int):=by omega
       rw [e,nc_ hlt]
       exact ⟨fun _=>hrec,fun hc=>by have:=of_decide_eq_false hc;simp at this;omega⟩
 have hfin:=key 19 x [] (by omega) h0 h1 (by simp)
 have hv:Lib.itoa x=cond (decide (x<0)) ([45]++(digs x.natAbs++[])) (digs x.natAbs++[]):=by
  unfold Lib.itoa digs
  rw [if_neg (show x.natAbs≠0 by omega)]
  by_cases hn:x<0
  · rw [if_pos hn,decide_eq_true hn];simp
  · rw [if_neg hn,decide_eq_false hn,cond_false,List.append_nil,show x.toNat=x.natAbs by omega]
 rw [hv]
 exact cF_ hfin
theorem Itoa_ev {x:Int} (h0 : -9223372036854775808≤x) (h1:x≤9223372036854775807):Ev (fun n _=>strconv_Itoa n x) (Lib.itoa x) :=
 aT_ (by simp only [strconv_Itoa,nItoa,aI_,ak_,cW_];exact ⟨fun _=>trivial,fun h=>by simp at h;omega⟩)
end Go.Pi
end
section
namespace Go.Pi
theorem join_snoc (x sep:Bs):∀ l:List Bs,Lib.join (l++[x]) sep=if l=[] then x else Lib.join l sep++sep++x
 |[]=>by rw [if_pos rfl];exact Lib.join_one x sep
 |y::l=>by
  rw [if_neg (by simp),List.cons_append,Lib.join_cons,Lib.join_cons]
  simp [Lib.joinTail]
theorem mx_ {α:Type} (f:α→Nat):∀ a b:List α,dx_ f (a++b)=dx_ f a+dx_ f b
 |[],b=>by simp [dx_]
 |x::a,b=>by simp only [List.cons_append,dx_,mx_ f a b];omega
theorem mw_ {α:Type} (f:α→Nat) (h:∀ x,1≤f x):∀ a:List α,a.length≤dx_ f a
 |[]=>Nat.le_refl _
 |x::a=>by have:=mw_ f h a;have:=h x;simp only [dx_,List.length_cons];omega
theorem lA_:∀ (d:Nat) (j:aa_),1≤bH_ d j
 |0,_=>by simp only [bH_];omega
 |d+1,j=>by
  simp only [bH_]
  cases FOwn j<;>simp only [cond_true,cond_false]<;>omega
theorem fV_ {s:Bs} (h:gE_ s=true):s.length≤60:=by
 unfold gE_ at h
 rw [Bool.and_eq_true] at h
 have:=of_decide_eq_true h.2;omega
theorem gd_ {l:List Bs} (h:hS_ l=true) {i:Nat} (hi:i<l.length):(l.getD i []).length≤60:=by
 have:=ga_.1 h i hi
 rw [Bool.and_eq_true] at this
 exact fV_ this.1
structure Own (j:aa_):Prop where
 kind:j.kind=0∨j.kind=1∨j.kind=2∨j.kind=3∨j.kind=4∨j.kind=5
 list:j.kind≠4→j.kind≠5→j.list=[]
 bool:j.kind=1→0≤j.n_∧j.n_≤1
 num:j.kind=2 → -1000000000≤j.n_∧j.n_≤1000000000
 text:j.kind=3→j.s.length≤60
 obj:j.kind=5→j.names.length=j.list.length∧hS_ j.names=true
theorem FOwn_own {j:aa_} (h:FOwn j=true):Own j:=by
 unfold FOwn FOwnK at h
 simp only [Bool.and_eq_true,Bool.or_eq_true] at h
 obtain ⟨h1,h2,h3,h4,h5⟩:=h
 refine ⟨?_,fun k4 k5 => ?_,fun hk => ?_,fun hk => ?_,fun hk => ?_,fun hk => ?_⟩
 · rcases iB_ j.kind with hk|hk|hk|hk|hk|hk|⟨k0,k1,k2,k3,k4,k5⟩
   · exact .inl hk
   · exact .inr (.inl hk)
   · exact .inr (.inr (.inl hk))
   · exact .inr (.inr (.inr (.inl hk)))
   · exact .inr (.inr (.inr (.inr (.inl hk))))
   · exact .inr (.inr (.inr (.inr (.inr hk))))
   · simp only [beq_eq_false_iff_ne.2 k0,beq_eq_false_iff_ne.2 k1,beq_eq_false_iff_ne.2 k2,beq_eq_false_iff_ne.2 k3,beq_eq_false_iff_ne.2 k4,beq_eq_false_iff_ne.2 k5,cond_false,Bool.or_false] at h5
     cases h5
 · rcases h1 with h1|h1|h1
   · exact List.eq_nil_of_length_eq_zero (of_decide_eq_true h1)
   · exact absurd (by simpa using h1) k4
   · exact absurd (by simpa using h1) k5
 · simp only [hk,Int.reduceBEq,cond_true,cond_false] at h5;exact f0_ h5
 · simp only [hk,Int.reduceBEq,cond_true,cond_false] at h5;exact f0_ h5
 · simp only [hk,Int.reduceBEq,cond_true,cond_false] at h5;exact fV_ h5
 · simp only [hk,Int.reduceBEq,cond_true,cond_false,Bool.and_eq_true] at h5
   exact ⟨by have:=h5.1;simp at this;omega,h5.2⟩
def cZ_ (enc:aa_→Bs) (j:aa_) (i:Nat):Bs:=cond (j.kind == 5) (cS_ (j.names.getD i [])++([58]++enc (j.list.getD i aa_.dflt))) (enc (j.list.getD i aa_.dflt))
def da_ (enc:aa_→Bs) (j:aa_) (m:Nat):Bs:=Lib.join ((List.range m).map (cZ_ enc j)) [44]
def FEnc:Nat→aa_→Bs
 |0,_=>[]
 |d+1,j=>cond (j.kind == 0) [110,117,108,108] (cond (j.kind == 1) (cond (j.n_ == 1) [116,114,117,101] [102,97,108,115,101]) (cond (j.kind == 2) (Lib.itoa j.n_) (cond (j.kind == 3) (cS_ j.s)
   (cond (j.kind == 5) ([123]++da_ (FEnc d) j j.list.length++[125]) ([91]++da_ (FEnc d) j j.list.length++[93])))))
theorem jM_ (enc:aa_→Bs) (j:aa_):da_ enc j 0=[]:=rfl
theorem fX_ (enc:aa_→Bs) (j:aa_):da_ enc j 1=cZ_ enc j 0:=Lib.join_one _ _
theorem eW_ (enc:aa_→Bs) (j:aa_) {m:Nat} (h:0<m):da_ enc j (m+1)=da_ enc j m++[44]++cZ_ enc j m:=by
 unfold da_
 rw [List.range_succ,List.map_append,List.map_cons,List.map_nil,join_snoc,if_neg]
 intro e
 have:=congrArg List.length e
 simp at this;omega
theorem c4_ {d:Nat} {j:aa_} (h:bH_ (d+1) j≤400):Own j∧bH_ (d+1) j=1+dx_ (bH_ d) j.list:=by
 simp only [bH_] at h ⊢
 cases ho:FOwn j with
 |false=>rw [ho,cond_false] at h;omega
 |true=>
  rw [ho,cond_true] at h
  exact ⟨FOwn_own ho,by rw [cond_true];omega⟩
theorem enc_len:∀ (d:Nat) (j:aa_),bH_ d j≤400→(FEnc d j).length+150≤300*bH_ d j
 |0,j,h=>by simp only [bH_] at h;omega
 |d+1,j,h=>by
  obtain ⟨ho,hs⟩:=c4_ h
  have hJ:∀ m,m≤j.list.length→(da_ (FEnc d) j m).length≤300*dx_ (bH_ d) (j.list.take m):=by
   intro m
   induction m with
   |zero=>intro _;exact Nat.zero_le _
   |succ m ih=>
    intro hm
    have hi:m<j.list.length:=by omega
    have h1:=ih (by omega)
    have h2:=hk_ (bH_ d) (cG_ aa_.dflt hi)
    have h3:=enc_len d (j.list.getD m aa_.dflt) (by omega)
    have h4:(cZ_ (FEnc d) j m).length≤123+(FEnc d (j.list.getD m aa_.dflt)).length:=by
     unfold cZ_
     cases hk:(j.kind == 5) with
     |false=>rw [cond_false];omega
     |true=>
      obtain ⟨e1,e2⟩:=ho.obj (by simpa using hk)
      have:=gd_ e2 (i:=m) (by omega)
      have:=el_ (j.names.getD m [])
      rw [cond_true];simp only [List.length_append,List.length_cons,List.length_nil];omega
    rw [cO_ aa_.dflt hi,mx_]
    simp only [dx_,Nat.mul_add]
    by_cases h0:m=0
    · subst h0;rw [fX_];omega
    · rw [eW_ _ _ (by omega)];simp only [List.length_append,List.length_cons,List.length_nil];omega
  have hL:=hJ j.list.length (Nat.le_refl _)
  rw [List.take_length] at hL
  rw [hs]
  rcases ho.kind with hk|hk|hk|hk|hk|hk
  · simp only [FEnc,hk,Int.reduceBEq,cond_true,cond_false,List.length_cons,List.length_nil];omega
  · simp only [FEnc,hk,Int.reduceBEq,cond_true,cond_false]
    cases (j.n_ == 1)<;>simp only [cond_true,cond_false,List.length_cons,List.length_nil]<;>omega
  · have:=ho.num hk
    have:=Lib.itoa_length_le j.n_ (by omega) (by omega)
    simp only [FEnc,hk,Int.reduceBEq,cond_true,cond_false];omega
  · have:=ho.text hk
    have:=el_ j.s
    simp only [FEnc,hk,Int.reduceBEq,cond_true,cond_false];omega
  · simp only [FEnc,hk,Int.reduceBEq,cond_true,cond_false,List.length_append,List.length_cons,List.length_nil];omega
  · simp only [FEnc,hk,Int.reduceBEq,cond_true,cond_false,List.length_append,List.length_cons,List.length_nil];omega
structure Part (d:Nat) (j:aa_) (i:Nat):Prop where
 size:bH_ d (j.list.getD i aa_.dflt)≤400
 enc:(FEnc d (j.list.getD i aa_.dflt)).length≤120000
 name:j.kind=5→i<j.names.length∧(j.names.getD i []).length≤60
theorem dV_ {d:Nat} {j:aa_} (h:bH_ (d+1) j≤400) {i:Nat} (hi:i<j.list.length):Part d j i:=by
 obtain ⟨ho,hs⟩:=c4_ h
 have h2:=hk_ (bH_ d) (cG_ aa_.dflt hi)
 have h3:=enc_len d (j.list.getD i aa_.dflt) (by omega)
 exact ⟨by omega,by omega,fun hk=>⟨by have:=(ho.obj hk).1;omega,gd_ (ho.obj hk).2 (by have:=(ho.obj hk).1;omega)⟩⟩
theorem kf_ {d:Nat} {j:aa_} (h:bH_ (d+1) j≤400):∀ m,m≤j.list.length→(da_ (FEnc d) j m).length≤m*120200:=by
 intro m
 induction m with
 |zero=>intro _;exact Nat.zero_le _
 |succ m ih=>
  intro hm
  have hp:=dV_ h (i:=m) (by omega)
  have h1:=ih (by omega)
  have h4:(cZ_ (FEnc d) j m).length≤123+120000:=by
   have:=hp.enc
   unfold cZ_
   cases hk:(j.kind == 5) with
   |false=>rw [cond_false];omega
   |true=>
    have:=(hp.name (by simpa using hk)).2
    have:=el_ (j.names.getD m [])
    rw [cond_true];simp only [List.length_append,List.length_cons,List.length_nil];omega
  by_cases h0:m=0
  · subst h0;rw [fX_];omega
  · rw [eW_ _ _ (by omega)];simp only [List.length_append,List.length_cons,List.length_nil];omega
theorem dy_ {d:Nat} {j:aa_} (h:bH_ (d+1) j≤400):j.list.length≤400:=by
 have:=(c4_ h).2
 have:=mw_ (bH_ d) (lA_ d) j.list
 omega
end Go.Pi
end
section
namespace Go.Pi
def dW_ (c:UInt8):Prop:=48≤c.toNat∧c.toNat≤57
theorem g8_ {d:Nat} (h:d<10):(UInt8.ofNat (48+d)).toNat=48+d:=by
 rw [UInt8.toNat_ofNat'];omega
theorem fQ_:∀ (u:Nat),∀ c ∈ Lib.decDigits u,dW_ c:=by
 intro u
 induction u using Nat.strongRecOn with
 |ind u ih=>
  intro c hc
  rw [Lib.decDigits] at hc
  by_cases h:u<10
  · rw [dif_pos h] at hc
    obtain rfl:=List.mem_singleton.1 hc
    unfold dW_;rw [g8_ h];omega
  · rw [dif_neg h] at hc
    rcases List.mem_append.1 hc with hc|hc
    · exact ih (u / 10) (by omega) c hc
    · obtain rfl:=List.mem_singleton.1 hc
      unfold dW_;rw [g8_ (by omega)];omega
theorem iL_ (u:Nat):1≤(Lib.decDigits u).length:=by
 rw [Lib.decDigits]
 by_cases h:u<10
 · rw [dif_pos h];simp
 · rw [dif_neg h];simp
theorem l7_:∀ (k u:Nat),u<10 ^ (k+1)→(Lib.decDigits u).length≤k+1
 |0,u,h=>by rw [Lib.decDigits,dif_pos (by simpa using h)];simp
 |k+1,u,h=>by
  rw [Lib.decDigits]
  by_cases h1:u<10
  · rw [dif_pos h1];simp
  · rw [dif_neg h1,List.length_append]
    have:=l7_ k (u / 10) (by rw [Nat.pow_succ] at h;omega)
    simp;omega
def hg_ (x:Nat) (l:Bs):Nat:=l.foldl (fun x c=>10*x+(c.toNat - 48)) x
theorem val_nil (x:Nat):hg_ x []=x:=rfl
theorem gG_ (x:Nat) (c:UInt8) (l:Bs):hg_ x (c::l)=hg_ (10*x+(c.toNat - 48)) l:=by unfold hg_;rw [List.foldl_cons]
theorem val_app (x:Nat) (a b:Bs):hg_ x (a++b)=hg_ (hg_ x a) b:=List.foldl_append
theorem jO_:∀ (u:Nat),hg_ 0 (Lib.decDigits u)=u:=by
 intro u
 induction u using Nat.strongRecOn with
 |ind u ih=>
  rw [Lib.decDigits]
  by_cases h:u<10
  · rw [dif_pos h,gG_,val_nil,g8_ h];omega
  · rw [dif_neg h,val_app,ih (u / 10) (by omega)]
    have e:=g8_ (d:=u % 10) (by omega)
    rw [gG_,val_nil,e]
    omega
theorem val_le:∀ (x:Nat) (l:Bs),x≤hg_ x l
 |_,[]=>Nat.le_refl _
 |x,c::l=>by rw [gG_];exact Nat.le_trans (by omega) (val_le _ l)
theorem pu_val:∀ (x:Nat) (l:Bs),(∀ c ∈ l,dW_ c)→hg_ x l≤1000000000000000000→Lib.parseUint10 x l = .ok (hg_ x l)
 |_,[],_,_=>rfl
 |x,c::l,h,hv=>by
  have hc:=h c (List.mem_cons_self ..)
  have h1:=val_le (10*x+(c.toNat - 48)) l
  rw [gG_] at hv ⊢
  unfold dW_ at hc
  rw [Lib.parseUint10,if_pos hc,if_neg (by omega),if_neg (by omega),show x*10+(c.toNat - 48)=10*x+(c.toNat - 48) by omega]
  exact pu_val _ l (fun c hc=>h c (List.mem_cons_of_mem _ hc)) hv
theorem lt_ {n:Int} (h0 : -1000000000≤n) (h1:n≤1000000000):Lib.atoiAll (Lib.itoa n) = .ok n:=by
 unfold Lib.itoa
 have key:∀ u:Nat,u≤1000000000→Lib.parseMag (Lib.decDigits u) = .ok u:=by
  intro u hu
  have:=iL_ u
  unfold Lib.parseMag
  rw [if_neg (fun e=>by rw [e] at this;simp at this),pu_val 0 _ (fQ_ u) (by rw [jO_];omega),jO_]
 by_cases hn:n<0
 · rw [if_pos hn,Lib.atoiAll_minus,key n.natAbs (by omega)]
   show (if 9223372036854775808<n.natAbs then Lib.NumEnd.range else .ok (-(n.natAbs:Int)))=_
   rw [if_neg (by omega),show (-(n.natAbs:Int))=n by omega]
 · rw [if_neg hn]
   have e:=key n.toNat (by omega)
   have hp:=iL_ n.toNat
   have hd:=fQ_ n.toNat
   generalize Lib.decDigits n.toNat=l at e hp hd ⊢
   cases l with
   |nil=>simp at hp
   |cons c r=>
    have hc:=hd c (List.mem_cons_self ..)
    unfold dW_ at hc
    rw [Lib.atoiAll_plain c r (by omega) (by omega),e]
    show (if 9223372036854775808≤n.toNat then Lib.NumEnd.range else .ok (n.toNat:Int))=_
    rw [if_neg (by omega),show (n.toNat:Int)=n by omega]
def c1_ (enc:aa_→Bs) (j:aa_):Nat→Nat→Bs
 |0,_=>[]
 |k+1,i=>(if i=0 then [] else [44])++(cZ_ enc j i++c1_ enc j k (i+1))
theorem jN_ (enc:aa_→Bs) (j:aa_):∀ k i,da_ enc j i++c1_ enc j k i=da_ enc j (i+k)
 |0,i=>by rw [c1_,List.append_nil];rfl
 |k+1,i=>by
  rw [c1_,show i+(k+1)=i+1+k by omega,←jN_ enc j k (i+1)]
  by_cases h:i=0
  · subst h;rw [jM_,fX_,if_pos rfl];simp
  · rw [if_neg h,eW_ enc j (by omega)];simp
theorem iZ_ (enc:aa_→Bs) (j:aa_) (m:Nat):da_ enc j m=c1_ enc j m 0:=by
 have:=jN_ enc j m 0
 rw [jM_,List.nil_append,Nat.zero_add] at this
 exact this.symm
def Stop (r:Bs):Prop:=∀ c t,r=c::t→¬ dW_ c
theorem jT_:Stop []:=fun c t h=>(by cases h)
theorem ib_ {c:UInt8} {t:Bs} (h:¬ dW_ c):Stop (c::t):=fun d u e=>by cases e;exact h
theorem fC_ (n:Int):∃ c t,Lib.itoa n=c::t∧(c=45∨dW_ c):=by
 unfold Lib.itoa
 by_cases h:n<0
 · rw [if_pos h];exact ⟨45,_,rfl,.inl rfl⟩
 · rw [if_neg h]
   have hp:=iL_ n.toNat
   have hd:=fQ_ n.toNat
   generalize Lib.decDigits n.toNat=l at hp hd ⊢
   cases l with
   |nil=>simp at hp
   |cons c r=>exact ⟨c,r,rfl,.inr (hd c (List.mem_cons_self ..))⟩
theorem enc_head {d:Nat} {j:aa_} (h:bH_ d j≤400):∃ c t,FEnc d j=c::t∧c.toNat≠93∧c.toNat≠125∧c.toNat≠44:=by
 cases d with
 |zero=>simp only [bH_] at h;omega
 |succ d=>
  have ho:=(c4_ h).1
  rcases ho.kind with hk|hk|hk|hk|hk|hk
  · exact ⟨110,[117,108,108],by simp only [FEnc,hk,Int.reduceBEq,cond_true],by decide⟩
  · cases hb:(j.n_ == 1) with
    |true=>exact ⟨116,[114,117,101],by simp only [FEnc,hk,hb,Int.reduceBEq,cond_true,cond_false],by decide⟩
    |false=>exact ⟨102,[97,108,115,101],by simp only [FEnc,hk,hb,Int.reduceBEq,cond_true,cond_false],by decide⟩
  · obtain ⟨c,t,e,hc⟩:=fC_ j.n_
    refine ⟨c,t,by simp only [FEnc,hk,Int.reduceBEq,cond_true,cond_false,e],?_⟩
    rcases hc with rfl|hc
    · decide
    · unfold dW_ at hc;omega
  · exact ⟨34,j.s.flatMap d4_++[34],by simp only [FEnc,hk,Int.reduceBEq,cond_true,cond_false,cS_];rfl,by decide⟩
  · exact ⟨91,da_ (FEnc d) j j.list.length++[93],by simp only [FEnc,hk,Int.reduceBEq,cond_true,cond_false];rfl,by decide⟩
  · exact ⟨123,da_ (FEnc d) j j.list.length++[125],by simp only [FEnc,hk,Int.reduceBEq,cond_true,cond_false];rfl,by decide⟩
theorem jL_ {d:Nat} {j:aa_} (h:bH_ (d+1) j≤400) {i:Nat} (hi:i<j.list.length):∃ c t,cZ_ (FEnc d) j i=c::t∧c.toNat≠93∧c.toNat≠125∧c.toNat≠44:=by
 unfold cZ_
 cases (j.kind == 5) with
 |true=>exact ⟨34,(j.names.getD i []).flatMap d4_++[34]++([58]++FEnc d (j.list.getD i aa_.dflt)),by simp only [cond_true,cS_];rfl,by decide⟩
 |false=>exact enc_head (dV_ h hi).size
theorem qesc_nl {s:Bs} (h:∀ c ∈ s,c≠10):∀ c ∈ cS_ s,c≠10:=by
 intro c hc
 unfold cS_ at hc
 simp only [List.cons_append,List.mem_cons,List.mem_append,List.mem_flatMap,List.not_mem_nil,or_false] at hc
 rcases hc with rfl|⟨b,hb,hc⟩|rfl
 · decide
 · have:=h b hb
   unfold d4_ at hc
   split at hc
   · simp only [List.mem_cons,List.not_mem_nil,or_false] at hc
     rcases hc with rfl|rfl
     · decide
     · exact this
   · obtain rfl:=List.mem_singleton.1 hc;exact this
 · decide
theorem text_nl {s:Bs} (h:gE_ s=true):∀ c ∈ s,c≠10:=by
 intro c hc e
 subst e
 unfold gE_ at h
 rw [Bool.and_eq_true] at h
 obtain ⟨i,hi,e⟩:=List.getElem_of_mem hc
 have:=ga_.1 h.1 i hi
 rw [List.getD_eq_getElem?_getD,List.getElem?_eq_getElem hi,Option.getD_some,e] at this
 revert this;decide
theorem gx_ (n:Int):∀ c ∈ Lib.itoa n,c≠10:=by
 intro c hc e
 subst e
 unfold Lib.itoa at hc
 have key:∀ u,(10:UInt8) ∈ Lib.decDigits u→False:=fun u h=>by have:=fQ_ u 10 h;unfold dW_ at this;revert this;decide
 split at hc
 · rcases List.mem_cons.1 hc with h|h
   · revert h;decide
   · exact key _ h
 · exact key _ hc
structure Own2 (j:aa_):Prop where
 text:j.kind=3→gE_ j.s=true
 n0:j.kind≠1→j.kind≠2→j.n_=0
 s0:j.kind≠3→j.s=[]
 ns0:j.kind≠5→j.names=[]
theorem dP_ {j:aa_} (h:FOwn j=true):Own2 j:=by
 unfold FOwn FOwnK at h
 simp only [Bool.and_eq_true,Bool.or_eq_true] at h
 obtain ⟨h1,h2,h3,h4,h5⟩:=h
 refine ⟨fun hk => ?_,fun k1 k2 => ?_,fun k3 => ?_,fun k5 => ?_⟩
 · simpa only [hk,Int.reduceBEq,cond_true,cond_false] using h5
 · rcases h3 with h|h|h
   · simpa using h
   · exact absurd (by simpa using h) k1
   · exact absurd (by simpa using h) k2
 · rcases h4 with h|h
   · simpa using h
   · exact absurd (by simpa using h) k3
 · rcases h2 with h|h
   · exact List.eq_nil_of_length_eq_zero (of_decide_eq_true h)
   · exact absurd (by simpa using h) k5
theorem dD_ {d:Nat} {j:aa_} (h:bH_ (d+1) j≤400):FOwn j=true:=by
 simp only [bH_] at h
 cases ho:FOwn j with
 |false=>rw [ho,cond_false] at h;omega
 |true=>rfl
theorem enc_nl:∀ (d:Nat) (j:aa_),bH_ d j≤400→∀ c ∈ FEnc d j,c≠10
 |0,j,h=>by simp only [bH_] at h;omega
 |d+1,j,h=>by
  have ho:=(c4_ h).1
  have ho2:=dP_ (dD_ h)
  have hJ:∀ k i,i+k≤j.list.length→∀ c ∈ c1_ (FEnc d) j k i,c≠10:=by
   intro k
   induction k with
   |zero=>intro i _ c hc;cases hc
   |succ k ih=>
    intro i hi c hc
    have hp:=dV_ h (i:=i) (by omega)
    simp only [c1_,List.mem_append] at hc
    rcases hc with hc|hc|hc
    · split at hc
      · cases hc
      · obtain rfl:=List.mem_singleton.1 hc;decide
    · have he:=enc_nl d _ hp.size
      unfold cZ_ at hc
      cases hk:(j.kind == 5) with
      |false=>rw [hk,cond_false] at hc;exact he c hc
      |true=>
       obtain ⟨e1,e2⟩:=ho.obj (by simpa using hk)
       have hn:=ga_.1 e2 i (by omega)
       rw [Bool.and_eq_true] at hn
       rw [hk,cond_true] at hc
       simp only [List.mem_append] at hc
       rcases hc with hc|hc|hc
       · exact qesc_nl (text_nl hn.1) c hc
       · obtain rfl:=List.mem_singleton.1 hc;decide
       · exact he c hc
    · exact ih (i+1) (by omega) c hc
  have hA:=hJ j.list.length 0 (by omega)
  rw [←iZ_] at hA
  intro c hc
  rcases ho.kind with hk|hk|hk|hk|hk|hk
  · simp only [FEnc,hk,Int.reduceBEq,cond_true] at hc
    intro e;subst e;revert hc;decide
  · simp only [FEnc,hk,Int.reduceBEq,cond_true,cond_false] at hc
    intro e;subst e;revert hc;cases (j.n_ == 1)<;>decide
  · simp only [FEnc,hk,Int.reduceBEq,cond_true,cond_false] at hc
    exact gx_ _ c hc
  · simp only [FEnc,hk,Int.reduceBEq,cond_true,cond_false] at hc
    exact qesc_nl (text_nl (ho2.text hk)) c hc
  all_goals (
   simp only [FEnc,hk,Int.reduceBEq,cond_true,cond_false,List.mem_append,List.mem_singleton] at hc
   rcases hc with (rfl|hc)|rfl
   · decide
   · exact hA c hc
   · decide)
end Go.Pi
end
section
namespace Go.Pi
def dt_ (b:UInt8):Bs→List Bs
 |[]=>[[]]
 |c::l=>if c=b then []::dt_ b l else match dt_ b l with
  |[]=>[[c]]
  |p::ps=>(c::p)::ps
theorem hm_ (b:UInt8):∀ l,∃ p ps,dt_ b l=p::ps
 |[]=>⟨[],[],rfl⟩
 |c::l=>by
  obtain ⟨p,ps,e⟩:=hm_ b l
  unfold dt_
  by_cases h:c=b
  · rw [if_pos h];exact ⟨_,_,rfl⟩
  · rw [if_neg h,e];exact ⟨_,_,rfl⟩
theorem hl_ (b:UInt8):∀ (s:Bs) (k:Nat),s.count b≤k→Lib.splitK [b] 0 k s=dt_ b s
 |[],0,_=>rfl
 |[],k+1,_=>by
  rw [Lib.splitK]
  have:Lib.index [] [b] = -1:=rfl
  rw [this,if_pos (by decide)];rfl
 |c::l,k,h=>by
  unfold dt_
  by_cases e:c=b
  · subst e
    rw [List.count_cons_self] at h
    obtain ⟨k,rfl⟩:∃ m,k=m+1:=⟨k - 1,by omega⟩
    rw [Lib.splitK,ek_,if_pos rfl,if_neg (by decide),if_pos rfl]
    show []::Lib.splitK [c] 0 k l=_
    rw [hl_ c l k (by omega)]
  · rw [List.count_cons_of_ne e] at h
    have ih:=hl_ b l k h
    rw [if_neg e,←ih]
    cases k with
    |zero=>rfl
    |succ k=>
     have hx:Lib.index (c::l) [b]=if Lib.index l [b] = -1 then -1 else Lib.index l [b]+1:=by rw [ek_,if_neg (show ¬ b=c from fun h=>e h.symm)]
     rw [Lib.splitK,Lib.splitK,hx]
     by_cases h2:Lib.index l [b] = -1
     · rw [if_pos h2,if_pos (by decide),h2,if_pos (by decide)]
     · have:=Lib.index_ge l [b]
       obtain ⟨i,hi⟩:∃ i:Nat,Lib.index l [b]=i:=⟨(Lib.index l [b]).toNat,by omega⟩
       rw [if_neg h2,if_neg (by rw [hi];simp<;>omega),if_neg (by rw [hi];simp<;>omega),hi,show ((i:Int)+1).toNat=i+1 by omega,show ((i:Int)).toNat=i by omega]
       rfl
theorem split_one (b:UInt8) (s:Bs):Lib.split s [b]=dt_ b s:=by
 unfold Lib.split
 rw [iM_]
 exact hl_ b s _ (Nat.le_refl _)
theorem hn_ (b:UInt8):∀ (s:Bs),(dt_ b s).length≤s.length+1∧∀ p ∈ dt_ b s,p.length≤s.length
 |[]=>⟨Nat.le_refl _,fun p hp=>by obtain rfl:=List.mem_singleton.1 hp;exact Nat.le_refl _⟩
 |c::l=>by
  obtain ⟨h1,h2⟩:=hn_ b l
  obtain ⟨p,ps,e⟩:=hm_ b l
  unfold dt_
  by_cases h:c=b
  · rw [if_pos h]
    refine ⟨by simp;omega,fun q hq => ?_⟩
    rcases List.mem_cons.1 hq with rfl|hq
    · simp
    · have:=h2 q hq;simp;omega
  · rw [if_neg h,e]
    rw [e] at h1 h2
    refine ⟨by simp at h1 ⊢;omega,fun q hq => ?_⟩
    rcases List.mem_cons.1 hq with rfl|hq
    · have:=h2 p (List.mem_cons_self ..);simp;omega
    · have:=h2 q (List.mem_cons_of_mem _ hq);simp;omega
theorem ho_ (b:UInt8) (r:Bs):∀ (a:Bs),(∀ c ∈ a,c≠b)→dt_ b (a++b::r)=a::dt_ b r
 |[],_=>by rw [List.nil_append,dt_,if_pos rfl]
 |c::a,h=>by
  rw [List.cons_append,dt_,if_neg (h c (List.mem_cons_self ..)),ho_ b r a fun x hx=>h x (List.mem_cons_of_mem _ hx)]
theorem jf_ (b:UInt8):∀ (a:Bs),(∀ c ∈ a,c≠b)→dt_ b a=[a]
 |[],_=>rfl
 |c::a,h=>by rw [dt_,if_neg (h c (List.mem_cons_self ..)),jf_ b a fun x hx=>h x (List.mem_cons_of_mem _ hx)]
theorem wesc_sl (s:Bs):∀ c ∈ s.flatMap ex_,c≠47:=by
 intro c hc
 obtain ⟨b,_,hc⟩:=List.mem_flatMap.1 hc
 unfold ex_ at hc
 split at hc
 · intro e;subst e;revert hc;decide
 · split at hc
   · intro e;subst e;revert hc;decide
   · obtain rfl:=List.mem_singleton.1 hc;assumption
theorem kL_:∀ (w:List Bs),dt_ 47 (FWay w)=[]::w.map fun s=>s.flatMap ex_
 |[]=>rfl
 |s::w=>by
  have e:FWay (s::w)=[]++47::(s.flatMap ex_++FWay w):=rfl
  rw [e,ho_ 47 _ [] (fun c h=>by cases h)]
  congr 1
  cases w with
  |nil=>
   have:FWay ([]:List Bs)=[]:=rfl
   rw [this,List.append_nil,jf_ 47 _ (wesc_sl s)];rfl
  |cons t w=>
   have ih:=kL_ (t::w)
   have e2:FWay (t::w)=47::(t.flatMap ex_++FWay w):=rfl
   rw [e2,dt_,if_pos rfl] at ih
   rw [e2,ho_ 47 _ _ (wesc_sl s),List.map_cons,List.cons.inj ih |>.2]
def eL_ (a b:UInt8) (new:Bs):Bs→Bs
 |[]=>[]
 |[x]=>[x]
 |x::y::l=>if x=a∧y=b then new++eL_ a b new l else x::eL_ a b new (y::l)
theorem hK_ (a b x:UInt8) (l:Bs):Lib.index (x::l) [a,b]=if x=a∧l.head?=some b then 0 else if Lib.index l [a,b] = -1 then -1 else Lib.index l [a,b]+1:=by
 rw [Lib.index]
 have:List.isPrefixOf [a,b] (x::l)=decide (x=a∧l.head?=some b):=by
  refine Bool.eq_iff_iff.2 ?_
  cases l with
  |nil=>simp [List.isPrefixOf]
  |cons y l=>
   simp only [List.isPrefixOf,List.head?_cons,Option.some.injEq,decide_eq_true_eq,Bool.and_true,Bool.and_eq_true,beq_iff_eq]
   exact ⟨fun ⟨h1,h2⟩=>⟨h1.symm,h2.symm⟩,fun ⟨h1,h2⟩=>⟨h1.symm,h2.symm⟩⟩
 rw [this]
 by_cases h:x=a∧l.head?=some b
 · rw [decide_eq_true h,if_pos rfl,if_pos h]
 · rw [decide_eq_false h,if_neg (by simp),if_neg h]
   by_cases h2:Lib.index l [a,b] = -1
   · rw [h2,if_pos rfl,if_pos (by decide)]
   · rw [if_neg h2,if_neg (by simpa using h2)]
def cnt2 (a b:UInt8):Bs→Nat
 |[]=>0
 |[_]=>0
 |x::y::l=>if x=a∧y=b then 1+cnt2 a b l else cnt2 a b (y::l)
theorem mb_ (a b:UInt8):∀ l:Bs,cnt2 a b l≤l.length
 |[]=>Nat.le_refl _
 |[_]=>by simp [cnt2]
 |x::y::l=>by
  unfold cnt2
  have h1:=mb_ a b l
  have h2:=mb_ a b (y::l)
  split
  · simp;omega
  · simp at h2 ⊢;omega
theorem hz_ (a b:UInt8):∀ (s:Bs) (f:Nat),s.length<f→Lib.countFrom [a,b] f s=cnt2 a b s
 |[],f+1,_=>by
  rw [Lib.countFrom]
  have:Lib.index [] [a,b] = -1:=rfl
  rw [this,if_pos (by decide)];rfl
 |[x],f+1,_=>by
  rw [Lib.countFrom]
  have:Lib.index [x] [a,b] = -1:=by
   rw [hK_,if_neg (by simp)];rfl
  rw [this,if_pos (by decide)];rfl
 |x::y::l,f+1,h=>by
  have hl:l.length+1<f:=by simpa using h
  unfold cnt2
  by_cases e:x=a∧y=b
  · have hx:Lib.index (x::y::l) [a,b]=0:=by rw [hK_,if_pos (show x=a∧(y::l).head?=some b by simpa using e)]
    rw [if_pos e,Lib.countFrom,hx,if_neg (by decide)]
    show 1+Lib.countFrom [a,b] f l=_
    rw [hz_ a b l f (by omega)]
  · have hx:Lib.index (x::y::l) [a,b]=if Lib.index (y::l) [a,b] = -1 then -1 else Lib.index (y::l) [a,b]+1:=by rw [hK_,if_neg (show ¬ (x=a∧(y::l).head?=some b) by simpa using e)]
    rw [if_neg e,←hz_ a b (y::l) (f+1) (by simp;omega),Lib.countFrom,Lib.countFrom,hx]
    by_cases h2:Lib.index (y::l) [a,b] = -1
    · rw [if_pos h2,if_pos (by decide),h2,if_pos (by decide)]
    · have:=Lib.index_ge (y::l) [a,b]
      obtain ⟨i,hi⟩:∃ i:Nat,Lib.index (y::l) [a,b]=i:=⟨(Lib.index (y::l) [a,b]).toNat,by omega⟩
      rw [if_neg h2,if_neg (by rw [hi];simp<;>omega),if_neg (by rw [hi];simp<;>omega),hi,show ((i:Int)+1).toNat=i+1 by omega,show ((i:Int)).toNat=i by omega]
      rfl
theorem count2 (a b:UInt8) (s:Bs):Lib.count s [a,b]=cnt2 a b s:=hz_ a b s _ (Nat.lt_succ_self _)
theorem iq_ (a b:UInt8) (new:Bs):∀ (s:Bs) (k:Nat),cnt2 a b s≤k→Lib.replaceK [a,b] new k s=eL_ a b new s
 |[],0,_=>rfl
 |[],k+1,_=>by
  rw [Lib.replaceK]
  have:Lib.index [] [a,b] = -1:=rfl
  rw [this,if_pos (by decide)];rfl
 |[x],0,_=>rfl
 |[x],k+1,_=>by
  rw [Lib.replaceK]
  have:Lib.index [x] [a,b] = -1:=by rw [hK_,if_neg (by simp)];rfl
  rw [this,if_pos (by decide)];rfl
 |x::y::l,k,h=>by
  unfold cnt2 at h
  unfold eL_
  by_cases e:x=a∧y=b
  · rw [if_pos e] at h ⊢
    obtain ⟨k,rfl⟩:∃ m,k=m+1:=⟨k - 1,by omega⟩
    have hx:Lib.index (x::y::l) [a,b]=0:=by rw [hK_,if_pos (show x=a∧(y::l).head?=some b by simpa using e)]
    rw [Lib.replaceK,hx,if_neg (by decide)]
    show []++new++Lib.replaceK [a,b] new k l=_
    rw [iq_ a b new l k (by omega)];rfl
  · rw [if_neg e] at h ⊢
    have ih:=iq_ a b new (y::l) k h
    rw [←ih]
    cases k with
    |zero=>rfl
    |succ k=>
     have hx:Lib.index (x::y::l) [a,b]=if Lib.index (y::l) [a,b] = -1 then -1 else Lib.index (y::l) [a,b]+1:=by rw [hK_,if_neg (show ¬ (x=a∧(y::l).head?=some b) by simpa using e)]
     rw [Lib.replaceK,Lib.replaceK,hx]
     by_cases h2:Lib.index (y::l) [a,b] = -1
     · rw [if_pos h2,if_pos (by decide),h2,if_pos (by decide)]
     · have:=Lib.index_ge (y::l) [a,b]
       obtain ⟨i,hi⟩:∃ i:Nat,Lib.index (y::l) [a,b]=i:=⟨(Lib.index (y::l) [a,b]).toNat,by omega⟩
       rw [if_neg h2,if_neg (by rw [hi];simp<;>omega),if_neg (by rw [hi];simp<;>omega),hi,show ((i:Int)+1).toNat=i+1 by omega,show ((i:Int)).toNat=i by omega]
       rfl
theorem lQ_ (a b:UInt8) (new s:Bs) (hne:([a,b] == new)=false):Lib.replaceAll s [a,b] new=eL_ a b new s:=by
 unfold Lib.replaceAll Lib.replace Lib.replaceNum
 rw [hne,if_neg (by simp),if_pos (.inl (by decide)),count2]
 exact iq_ a b new s _ (Nat.le_refl _)
theorem e2_ (a b c:UInt8):∀ l:Bs,(eL_ a b [c] l).length≤l.length
 |[]=>Nat.le_refl _
 |[_]=>Nat.le_refl _
 |x::y::l=>by
  unfold eL_
  have h1:=e2_ a b c l
  have h2:=e2_ a b c (y::l)
  split
  · simp;omega
  · simp at h2 ⊢;omega
theorem mE_ (a b:UInt8) (new l:Bs):eL_ a b new (a::b::l)=new++eL_ a b new l:=by rw [eL_,if_pos ⟨rfl,rfl⟩]
theorem ir_ {a b x:UInt8} (h:x≠a) (new l:Bs):eL_ a b new (x::l)=x::eL_ a b new l:=by
 cases l with
 |nil=>rfl
 |cons y l=>rw [eL_,if_neg fun e=>h e.1]
theorem nw_ {a b y:UInt8} (h:y≠b) (new l:Bs) (h2:y≠a):eL_ a b new (a::y::l)=a::y::eL_ a b new l:=by
 rw [eL_,if_neg fun e=>h e.2,ir_ h2]
def kz_ (c:UInt8):Bs:=if c=126 then [126,48] else [c]
theorem unesc1:∀ (s:Bs),eL_ 126 49 [47] (s.flatMap ex_)=s.flatMap kz_
 |[]=>rfl
 |c::s=>by
  have ih:=unesc1 s
  rw [List.flatMap_cons,List.flatMap_cons]
  generalize s.flatMap ex_=x at ih ⊢
  generalize s.flatMap kz_=y at ih ⊢
  by_cases h1:c=126
  · have e1:ex_ c=[126,48]:=if_pos h1
    have e2:kz_ c=[126,48]:=if_pos h1
    rw [e1,e2]
    show eL_ 126 49 [47] (126::48::x)=126::48::y
    rw [nw_ (by decide) _ _ (by decide),ih]
  · have e2:kz_ c=[c]:=if_neg h1
    by_cases h2:c=47
    · have e1:ex_ c=[126,49]:=by unfold ex_;rw [if_neg h1,if_pos h2]
      rw [e1,e2]
      show eL_ 126 49 [47] (126::49::x)=c::y
      rw [mE_,ih,h2];rfl
    · have e1:ex_ c=[c]:=by unfold ex_;rw [if_neg h1,if_neg h2]
      rw [e1,e2]
      show eL_ 126 49 [47] (c::x)=c::y
      rw [ir_ h1,ih]
theorem unesc2:∀ (s:Bs),eL_ 126 48 [126] (s.flatMap kz_)=s
 |[]=>rfl
 |c::s=>by
  have ih:=unesc2 s
  rw [List.flatMap_cons]
  generalize s.flatMap kz_=y at ih ⊢
  by_cases h1:c=126
  · have e2:kz_ c=[126,48]:=if_pos h1
    rw [e2]
    show eL_ 126 48 [126] (126::48::y)=_
    rw [mE_,ih,h1];rfl
  · have e2:kz_ c=[c]:=if_neg h1
    rw [e2]
    show eL_ 126 48 [126] (c::y)=_
    rw [ir_ h1,ih]
end Go.Pi
end
section
namespace Go.Pi
theorem fi_:∀ (d:Nat) (j:aa_),bH_ d j≤400→Ev (fun n _=>aD_ n j) (FEnc d j)
 |0,j,h=>by simp only [bH_] at h;omega
 |d+1,j,h=>by
  have ho:=(c4_ h).1
  have hll:=dy_ h
  refine aT_ ?_
  have hloop:(j.kind=4∨j.kind=5)→∀ (K:Nat→Bs→Int→Int→Bs→List aa_→List Bs→Option Bs) (v:Bs),Ev (fun n N=>K n (da_ (FEnc d) j j.list.length) j.kind j.n_ j.s j.list j.names) v→Ev (fun n _=>aD_.loop17 n (aD_ n) (K n) n [] 0 j.kind j.n_ j.s j.list j.names) v:=by
   intro hk45 K v hK
   refine eB_ (fun i=>da_ (FEnc d) j i) j.list.length (fun n N i (o:Bs)=>aD_.loop17 n (aD_ n) (K n) N o (i:Int) j.kind j.n_ j.s j.list j.names) v (fun i hi F hF => ?_) ?_
   · have hp:=dV_ h hi
     have hx:=fi_ d (j.list.getD i aa_.dflt) hp.size
     have hjl:=kf_ h i (by omega)
     have he:=hp.enc
     have hW:=W_up hi (show j.list.length≤cD_ by simp only [cD_];omega)
     rcases hk45 with hk|hk
     · have h5:(j.kind == 5)=false:=by rw [hk];rfl
       by_cases h0:i=0
       · have hg:decide ((i:Int) > 0)=false:=decide_eq_false (by omega)
         have e0:da_ (FEnc d) j i=[]:=by rw [h0];rfl
         have e1:da_ (FEnc d) j (i+1)=cZ_ (FEnc d) j i:=by rw [h0];exact fX_ _ _
         rw [e1] at hF
         unfold cZ_ at hF
         rw [h5,cond_false] at hF
         simp only [e0,aD_.turn17,aD_.step17,bC_,Int.toNat_natCast,hW,h5,hg,reduceCtorEq,false_implies,true_implies,true_and,and_true,aI_,bR_,cW_,cV_ hi,cK_ hi,ad_ hx,List.nil_append]
         generalize FEnc d (j.list.getD i aa_.dflt)=x at hF he ⊢
         repeat' (first|apply And.intro|intro _)
         all_goals (first|contradiction|exact hF|trivial|(rename_i hc;have hc:=of_decide_eq_false hc;simp only [List.length_append,List.length_cons,List.length_nil] at hc;omega))
       · rw [eW_ _ _ (by omega)] at hF
         unfold cZ_ at hF
         rw [h5,cond_false] at hF
         have hg:decide ((i:Int) > 0)=true:=decide_eq_true (by omega)
         simp only [aD_.turn17,aD_.step17,bC_,Int.toNat_natCast,hW,h5,hg,aI_,bR_,cW_,cV_ hi,cK_ hi,ad_ hx]
         generalize FEnc d (j.list.getD i aa_.dflt)=x at hF he ⊢
         generalize da_ (FEnc d) j i=o at hF hjl ⊢
         repeat' (first|apply And.intro|intro _)
         all_goals (first|contradiction|exact hF|trivial|(rename_i hc;have hc:=of_decide_eq_false hc;simp only [List.length_append,List.length_cons,List.length_nil] at hc;omega))
     · have h5:(j.kind == 5)=true:=by rw [hk];rfl
       have hn:=hp.name hk
       have hq:=fu_ (s:=j.names.getD i []) (by omega)
       have hql:=el_ (j.names.getD i [])
       by_cases h0:i=0
       · have hg:decide ((i:Int) > 0)=false:=decide_eq_false (by omega)
         have e0:da_ (FEnc d) j i=[]:=by rw [h0];rfl
         have e1:da_ (FEnc d) j (i+1)=cZ_ (FEnc d) j i:=by rw [h0];exact fX_ _ _
         rw [e1] at hF
         unfold cZ_ at hF
         rw [h5,cond_true] at hF
         simp only [e0,aD_.turn17,aD_.step17,bC_,Int.toNat_natCast,hW,h5,hg,reduceCtorEq,false_implies,true_implies,true_and,and_true,aI_,bR_,cW_,cV_ hi,cK_ hi,cK_ hn.1,ad_ hx,ad_ hq,List.nil_append]
         generalize FEnc d (j.list.getD i aa_.dflt)=x at hF he ⊢
         generalize cS_ (j.names.getD i [])=y at hF hql ⊢
         rw [←List.append_assoc] at hF
         repeat' (first|apply And.intro|intro _)
         all_goals (first|contradiction|exact hF|trivial|(rename_i hc;have hc:=of_decide_eq_false hc;simp only [List.length_append,List.length_cons,List.length_nil] at hc;omega))
       · rw [eW_ _ _ (by omega)] at hF
         unfold cZ_ at hF
         rw [h5,cond_true] at hF
         have hg:decide ((i:Int) > 0)=true:=decide_eq_true (by omega)
         simp only [aD_.turn17,aD_.step17,bC_,Int.toNat_natCast,hW,h5,hg,aI_,bR_,cW_,cV_ hi,cK_ hi,cK_ hn.1,ad_ hx,ad_ hq]
         generalize FEnc d (j.list.getD i aa_.dflt)=x at hF he ⊢
         generalize cS_ (j.names.getD i [])=y at hF hql ⊢
         generalize da_ (FEnc d) j i=o at hF hjl ⊢
         rw [←List.append_assoc,←List.append_assoc] at hF
         repeat' (first|apply And.intro|intro _)
         all_goals (first|contradiction|exact hF|trivial|(rename_i hc;have hc:=of_decide_eq_false hc;simp only [List.length_append,List.length_cons,List.length_nil] at hc;omega))
   · simp only [aD_.turn17,aD_.step17,cR_,cond_false]
     exact hK
  have hjl:=kf_ h j.list.length (Nat.le_refl _)
  simp only [aD_,bC_]
  rcases ho.kind with hk|hk|hk|hk|hk|hk
  · simp only [FEnc,hk,Int.reduceBEq,cond_true,ak_]
  · simp only [FEnc,hk,Int.reduceBEq,cond_true,cond_false,aI_,ak_]
    cases (j.n_ == 1)<;>simp
  · have hn:=ho.num hk
    simp only [FEnc,hk,Int.reduceBEq,cond_true,cond_false,ad_ (c5_ (x:=j.n_) (by omega) (by omega)),ak_]
  · have hs:=ho.text hk
    simp only [FEnc,hk,Int.reduceBEq,cond_true,cond_false,ad_ (fu_ (s:=j.s) (by omega)),ak_]
  all_goals (
   have e0:(j.kind == 0)=false:=by rw [hk];rfl
   have e1:(j.kind == 1)=false:=by rw [hk];rfl
   have e2:(j.kind == 2)=false:=by rw [hk];rfl
   have e3:(j.kind == 3)=false:=by rw [hk];rfl
   simp only [FEnc,e0,e1,e2,e3,cond_false]
   refine hloop (by omega) _ _ ?_
   generalize da_ (FEnc d) j j.list.length=o at hjl ⊢
   simp only [hk,Int.reduceBEq,cond_true,cond_false,aI_,ak_,cW_]
   refine ⟨fun _=>⟨fun _=>trivial,fun hc => ?_⟩,fun hc => ?_⟩
   · have hc:=of_decide_eq_false hc
     simp only [List.length_append,List.length_cons,List.length_nil] at hc;omega
   · have hc:=of_decide_eq_false hc
     simp only [List.length_append,List.length_cons,List.length_nil] at hc;omega)
theorem Join_ev {l:List Bs} {sep:Bs} (hl:l.length≤1000000) (hj:(Lib.join l sep).length≤1000000000):Ev (fun n _=>strings_Join n l sep) (Lib.join l sep):=by
 refine aT_ ?_
 simp only [strings_Join,nJoin,aI_,ak_,cW_]
 refine ⟨fun _=>trivial,fun h => ?_⟩
 rw [decide_eq_true (by omega),decide_eq_true (by omega)] at h;cases h
theorem fD_:∀ (d:Nat) (j:aa_),bH_ d j≤400→Ev (fun n _=>aU_ n j) (FEnc d j)
 |0,j,h=>by simp only [bH_] at h;omega
 |d+1,j,h=>by
  have ho:=(c4_ h).1
  have hll:=dy_ h
  refine aT_ ?_
  have hloop:∀ (K:Nat→Int→Int→Bs→List aa_→List Bs→List Bs→Option Bs) (v:Bs),Ev (fun n N=>K n j.kind j.n_ j.s j.list j.names ((List.range j.list.length).map (cZ_ (FEnc d) j))) v→Ev (fun n _=>aU_.loop4 n (aU_ n) (K n) n j.list (j.list.length:Int) 0 j.kind j.n_ j.s j.list j.names []) v:=by
   intro K v hK
   refine eB_ (fun i=>(List.range i).map (cZ_ (FEnc d) j)) j.list.length (fun n N i (o:List Bs)=>aU_.loop4 n (aU_ n) (K n) N j.list (j.list.length:Int) (i:Int) j.kind j.n_ j.s j.list j.names o) v (fun i hi F hF => ?_) ?_
   · have hp:=dV_ h hi
     have hx:=fD_ d (j.list.getD i aa_.dflt) hp.size
     have he:=hp.enc
     have hW:=W_up hi (show j.list.length≤cD_ by simp only [cD_];omega)
     have hol:((List.range i).map (cZ_ (FEnc d) j)).length=i:=by simp
     rw [List.range_succ,List.map_append,List.map_cons,List.map_nil] at hF
     unfold cZ_ at hF
     cases h5:(j.kind == 5) with
     |false=>
      simp only [h5,cond_false] at hF
      unfold cZ_ at hol ⊢
      simp only [h5,cond_false] at hol ⊢
      simp only [aU_.turn4,aU_.step4,bC_,Int.toNat_natCast,hW,h5,cond_false,aI_,bR_,cW_,cc_,cV_ hi,cK_ hi,ad_ hx]
      generalize FEnc d (j.list.getD i aa_.dflt)=x at hF he ⊢
      generalize (List.range i).map _=o at hF hol ⊢
      exact ⟨fun _=>⟨trivial,by simp;omega,hF⟩,fun h=>(by cases h)⟩
     |true=>
      have hn:=hp.name (by simpa using h5)
      have hq:=gl_ (s:=j.names.getD i []) (by omega)
      have hql:=el_ (j.names.getD i [])
      simp only [h5,cond_true] at hF
      unfold cZ_ at hol ⊢
      simp only [h5,cond_true] at hol ⊢
      simp only [aU_.turn4,aU_.step4,bC_,Int.toNat_natCast,hW,h5,cond_true,aI_,bR_,cW_,cc_,cV_ hi,cK_ hi,cK_ hn.1,ad_ hx,ad_ hq]
      generalize FEnc d (j.list.getD i aa_.dflt)=x at hF he ⊢
      generalize cS_ (j.names.getD i [])=y at hF hql ⊢
      generalize (List.range i).map _=o at hF hol ⊢
      rw [←List.append_assoc] at hF
      repeat' (first|apply And.intro|intro _)
      all_goals (first|contradiction|exact hF|trivial|(rename_i hc;have hc:=of_decide_eq_false hc;simp only [List.length_append,List.length_cons,List.length_nil] at hc;omega)|(simp;omega))
   · simp only [aU_.turn4,aU_.step4,cR_,cond_false]
     exact hK
  have hjl:=kf_ h j.list.length (Nat.le_refl _)
  have hJ:=Join_ev (l:=(List.range j.list.length).map (cZ_ (FEnc d) j)) (sep:=[44]) (by simp;omega) (by unfold da_ at hjl;omega)
  simp only [aU_,bC_]
  refine hloop _ _ ?_
  rcases ho.kind with hk|hk|hk|hk|hk|hk
  · simp only [FEnc,hk,Int.reduceBEq,cond_true,ak_]
  · have hb:=ho.bool hk
    simp only [FEnc,hk,Int.reduceBEq,cond_true,cond_false,bR_,ak_]
    have:j.n_=0∨j.n_=1:=by omega
    rcases this with e|e<;>rw [e]<;>exact ⟨⟨by decide,by decide⟩,rfl⟩
  · have hn:=ho.num hk
    simp only [FEnc,hk,Int.reduceBEq,cond_true,cond_false,ad_ (Itoa_ev (x:=j.n_) (by omega) (by omega)),ak_]
  · have hs:=ho.text hk
    simp only [FEnc,hk,Int.reduceBEq,cond_true,cond_false,ad_ (gl_ (s:=j.s) (by omega)),ak_]
  all_goals (
   simp only [FEnc,hk,Int.reduceBEq,cond_true,cond_false,ad_ hJ]
   unfold da_ at hjl ⊢
   generalize Lib.join ((List.range j.list.length).map (cZ_ (FEnc d) j)) [44]=o at hjl ⊢
   simp only [aI_,ak_,cW_]
   refine ⟨fun _=>⟨fun _=>trivial,fun hc => ?_⟩,fun hc => ?_⟩
   · have hc:=of_decide_eq_false hc
     simp only [List.length_append,List.length_cons,List.length_nil] at hc;omega
   · have hc:=of_decide_eq_false hc
     simp only [List.length_append,List.length_cons,List.length_nil] at hc;omega)
def bG_ (j:aa_):Bs:=cond (cT_ j) (cond (decide (((FEnc 6 j).length:Int) > 6000)) [] (FEnc 6 j)) []
theorem dj_ {j:aa_} (h:fl_ 6 j):Ev (fun n _=>b4_ n j) (bG_ j):=by
 refine aT_ ?_
 simp only [b4_,bC_,ad_ (di_ h),aI_,ak_,bG_]
 cases hj:cT_ j with
 |false=>simp
 |true=>
  simp only [ad_ (fi_ 6 j (of_decide_eq_true hj)),aI_,ak_]
  cases decide (((FEnc 6 j).length:Int) > 6000)<;>simp
theorem c9_ {j:aa_} (h:fl_ 6 j):Ev (fun n _=>b6_ n j) (bG_ j):=by
 refine aT_ ?_
 simp only [b6_,bC_,ad_ (dl_ h),aI_,ak_,bG_]
 cases hj:cT_ j with
 |false=>simp
 |true=>
  simp only [ad_ (fD_ 6 j (of_decide_eq_true hj)),aI_,ak_]
  cases decide (((FEnc 6 j).length:Int) > 6000)<;>simp
end Go.Pi
end
section
namespace Go.Pi
def nW_:Nat→aa_→Prop
 |0,_=>False
 |d+1,j=>∀ x ∈ j.list,nW_ d x
theorem gb_:∀ (d:Nat) (j:aa_),bH_ d j≤400→nW_ d j
 |0,j,h=>by simp only [bH_] at h;omega
 |d+1,j,h=>fun x hx=>by
  refine gb_ d x ?_
  simp only [bH_] at h
  have:=hk_ (bH_ d) hx
  cases ho:FOwn j with
  |false=>rw [ho] at h;simp only [cond_false] at h;omega
  |true=>rw [ho] at h;simp only [cond_true] at h;omega
def gD_ (a b:List Bs):Bool:=decide (a.length=b.length)&&mh_ (fun i=>a.getD i [] == b.getD i []) a.length
def ef_:Nat→aa_→aa_→Bool
 |0,_,_=>true
 |d+1,a,b=>(a.kind == b.kind)&&((a.n_ == b.n_)&&((a.s == b.s)&&(gD_ a.names b.names&&(decide (a.list.length=b.list.length)&&mh_ (fun i=>ef_ d (a.list.getD i aa_.dflt) (b.list.getD i aa_.dflt)) a.list.length))))
theorem ne_len {n m:Nat}:((n:Int) != (m:Int)) = !decide (n=m):=by
 by_cases h:n=m
 · rw [h,decide_eq_true rfl];simp
 · rw [decide_eq_false h];simp;omega
theorem eH_:∀ (d:Nat) (a b:aa_),nW_ d a→fl_ d a→Ev (fun n _=>ai_ n a b) (ef_ d a b)
 |0,a,b,h,_=>h.elim
 |d+1,a,b,h,hl=>by
  refine aT_ ?_
  simp only [ai_,ne_len,aI_,ak_,ef_,gD_]
  by_cases hq:a.list.length=b.list.length
  · by_cases hq2:a.names.length=b.names.length
    · have hN:Ev (fun n _=>ai_.loop14 n (ai_ n) (some true) n 0 a.kind a.n_ a.s a.list a.names b.kind b.n_ b.s b.list b.names) (mh_ (fun i=>a.names.getD i [] == b.names.getD i []) a.names.length):=by
       refine h5_ (gn_ (fun n N i=>ai_.loop14 n (ai_ n) (some true) N (i:Int) a.kind a.n_ a.s a.list a.names b.kind b.n_ b.s b.list b.names) (fun i=>a.names.getD i [] == b.names.getD i []) (len:=a.names.length) (v:=true) (fun i w hi ih => ?_) ?_) (by rw [Bool.and_true])
       · simp only [ai_.turn14,ai_.step14,Int.toNat_natCast,W_up hi hl.1.2.1,aI_,bR_,ak_,dS_ ih,cV_ hi,cK_ hi,cK_ (hq2 ▸ hi)]
         cases (a.names.getD i [] == b.names.getD i [])<;>simp
       · simp only [ai_.turn14,ai_.step14,cR_,cond_false,ak_]
      have hL:Ev (fun n _=>ai_.loop6 n (ai_ n) (fun xy2 xy3 xy4 xy5 xy6 xy7 xy8 xy9 xy10 xy11=>(ai_.loop14 n (ai_ n) (some true) n 0 xy2 xy3 xy4 xy5 xy6 xy7 xy8 xy9 xy10 xy11)) n 0 a.kind a.n_ a.s a.list a.names b.kind b.n_ b.s b.list b.names) (mh_ (fun i=>ef_ d (a.list.getD i aa_.dflt) (b.list.getD i aa_.dflt)) a.list.length&&mh_ (fun i=>a.names.getD i [] == b.names.getD i []) a.names.length):=by
       refine gn_ (fun n N i=>ai_.loop6 n (ai_ n) (fun xy2 xy3 xy4 xy5 xy6 xy7 xy8 xy9 xy10 xy11=>(ai_.loop14 n (ai_ n) (some true) n 0 xy2 xy3 xy4 xy5 xy6 xy7 xy8 xy9 xy10 xy11)) N (i:Int) a.kind a.n_ a.s a.list a.names b.kind b.n_ b.s b.list b.names) _ (fun i w hi ih => ?_) ?_
       · have hx:=eH_ d (a.list.getD i aa_.dflt) (b.list.getD i aa_.dflt) (h _ (cG_ _ hi)) (hl.2.2 _ (cG_ _ hi))
         simp only [ai_.turn6,ai_.step6,bC_,Int.toNat_natCast,W_up hi hl.2.1,aI_,bR_,ad_ hx,ak_,dS_ ih,cV_ hi,cK_ hi,cK_ (hq ▸ hi)]
         cases ef_ d (a.list.getD i aa_.dflt) (b.list.getD i aa_.dflt)<;>simp
       · simp only [ai_.turn6,ai_.step6,cR_,cond_false]
         exact hN
      rw [decide_eq_true hq,decide_eq_true hq2]
      simp only [dS_ hL,bne]
      generalize mh_ (fun i=>ef_ d (a.list.getD i aa_.dflt) (b.list.getD i aa_.dflt)) a.list.length=u
      generalize mh_ (fun i=>a.names.getD i [] == b.names.getD i []) a.names.length=w
      cases (a.kind == b.kind)<;>cases (a.n_ == b.n_)<;>cases (a.s == b.s)<;>cases u<;>cases w<;>simp
    · rw [decide_eq_false hq2]
      simp only [bne]
      cases (a.kind == b.kind)<;>cases (a.n_ == b.n_)<;>cases (a.s == b.s)<;>cases decide (a.list.length=b.list.length)<;>simp
  · rw [decide_eq_false hq]
    simp only [bne]
    cases (a.kind == b.kind)<;>cases (a.n_ == b.n_)<;>cases (a.s == b.s)<;>simp
end Go.Pi
end
section
namespace Go.Pi
def jY_ (ns:List Bs) (x:Bs):Nat:=ns.findIdx (fun y => !Op.bytesLess y x)
def jX_ (ns:List Bs) (x:Bs):Nat:=if ns.getD (jY_ ns x) []=x∧jY_ ns x<ns.length then jY_ ns x+1 else jY_ ns x
def putL {α:Type} (ns:List Bs) (x:Bs) (l:List α) (y:α):List α:=l.take (jY_ ns x)++[y]++l.drop (jX_ ns x)
theorem fY_ {α:Type} (d:α) {a m:List α} {i q:Nat} (p:Nat) (hi:i<a.length) (h:q≤i):a.take p++m++(a.take (i+1)).drop q=a.take p++m++(a.take i).drop q++[a.getD i d]:=by
 rw [cO_ d hi,List.drop_append_of_le_length (by simp;omega)]
 simp
theorem put_idx {ns:List Bs} {x:Bs} {i:Nat} (hi:i<ns.length) (hle:i≤jY_ ns x):(!Op.bytesLess (ns.getD i []) x)=decide (i=jY_ ns x):=by
 rw [List.getD_eq_getElem?_getD,List.getElem?_eq_getElem hi,Option.getD_some]
 unfold jY_ at hle ⊢
 by_cases h:i=ns.findIdx (fun y => !Op.bytesLess y x)
 · rw [decide_eq_true h]
   have:=List.findIdx_getElem (xs:=ns) (p:=fun y => !Op.bytesLess y x) (w:=by omega)
   simp only [←h] at this
   exact this
 · rw [decide_eq_false h]
   exact List.not_of_lt_findIdx (xs:=ns) (p:=fun y => !Op.bytesLess y x) (i:=i) (by omega)
theorem jU_ {o j:aa_} {x:Bs} (hk:o.names.length≤2000000) (he:o.list.length=o.names.length) (hlt:∀ y,Op.bytesLess y x=true→(y == x)=false) (hne:∀ i,jX_ o.names x≤i→i<o.names.length→(o.names.getD i [] == x)=false) :
  Ev (fun n _=>bp_ n o x j) (aa_.mk 5 0 [] (putL o.names x o.list j) (putL o.names x o.names x)):=by
 refine aT_ ?_
 have ht:o.names.length≤cD_:=by simp only [cD_];omega
 obtain ⟨p,hp⟩:∃ p,p=jY_ o.names x:=⟨_,rfl⟩
 have hpl:p≤o.names.length:=by rw [hp];exact List.findIdx_le_length
 obtain ⟨q,hq⟩:∃ q,q=jX_ o.names x:=⟨_,rfl⟩
 have hqp:p≤q∧q≤p+1:=by rw [hq,hp];unfold jX_;split<;>omega
 have hT:o.list.take o.names.length=o.list:=List.take_of_length_le (by omega)
 let S:Nat→Bool × List aa_ × List Bs:=fun i=>if i≤p then (false,o.list.take i,o.names.take i) else (true,o.list.take p++[j]++(o.list.take i).drop q,o.names.take p++[x]++(o.names.take i).drop q)
 have hS0:S 0=(false,[],[]):=by simp [S]
 simp only [bp_]
 have:=eB_ S o.names.length (fun n N i (s:Bool × List aa_ × List Bs)=>bp_.loop5 n (fun xy1 xy2 xy3 xy4 xy5 xy6 xy7 xy8 xy9 xy10 xy11 xy12 xy13 xy14 xy15=>(cond (!xy2) (cs_ (xy15.length+([xy1]:List Bs).length) 16 (cs_ (xy14.length+([(aa_.mk xy3 xy4 xy5 xy6 xy7)]:List aa_).length) 80 (some (aa_.mk xy11 xy12 xy13 (xy14++([(aa_.mk xy3 xy4 xy5 xy6 xy7)]:List aa_)) (xy15++([xy1]:List Bs)))))) (some (aa_.mk xy11 xy12 xy13 xy14 xy15)))) N x s.1 (i:Int) o.kind o.n_ o.s o.list o.names j.kind j.n_ j.s j.list j.names 0 0 [] 5 0 [] s.2.1 s.2.2)
  (aa_.mk 5 0 [] (putL o.names x o.list j) (putL o.names x o.names x)) (fun i hi F hF => ?_) ?_
 · rw [hS0] at this;exact this
 · have hx:=put_idx (ns:=o.names) (x:=x) hi
   rw [←hp] at hx
   have hln:(S i).2.2.length≤o.names.length+1:=by simp only [S];split<;>simp<;>omega
   have hll:(S i).2.1.length≤o.names.length+1:=by simp only [S];split<;>simp<;>omega
   have hil:i<o.list.length:=by omega
   simp only [bp_.turn5,bp_.step5,dA_,bC_,Int.toNat_natCast,W_up hi ht,aI_,bR_,cc_,cV_ hi,cK_ hi,cK_ hil]
   by_cases hle:i≤p
   · have s1:S i=(false,o.list.take i,o.names.take i):=by simp only [S,if_pos hle]
     rw [s1] at hln hll ⊢
     by_cases e:i=p
     · have hb:(!Op.bytesLess (o.names.getD i []) x)=true:=by rw [hx hle];exact decide_eq_true e
       subst e
       by_cases hs:o.names.getD i []=x
       · have hqv:q=i+1:=by rw [hq];unfold jX_;rw [←hp,if_pos ⟨hs,hi⟩]
         have s2:S (i+1)=(true,o.list.take i++[j],o.names.take i++[x]):=by
          simp only [S,if_neg (show ¬ i+1≤i by omega)]
          rw [List.drop_eq_nil_of_le (by simp;omega),List.drop_eq_nil_of_le (by simp;omega),List.append_nil,List.append_nil]
         rw [s2] at hF
         have hs':(o.names.getD i [] == x)=true:=by simpa using hs
         simp only [hb,hs',cond_true,cond_false,Bool.not_true,Bool.not_false]
         repeat' (first|apply And.intro|intro _)
         all_goals (first|contradiction|exact hF|trivial|(simp;omega))
       · have hqv:q=i:=by rw [hq];unfold jX_;rw [←hp,if_neg (fun h=>hs h.1)]
         have s2:S (i+1)=(true,o.list.take i++[j]++[o.list.getD i aa_.dflt],o.names.take i++[x]++[o.names.getD i []]):=by
          simp only [S,if_neg (show ¬ i+1≤i by omega),hqv]
          rw [fY_ aa_.dflt i hil (Nat.le_refl _),fY_ [] i hi (Nat.le_refl _),List.drop_eq_nil_of_le (by simp;omega),List.drop_eq_nil_of_le (by simp;omega),List.append_nil,List.append_nil]
         rw [s2] at hF
         have hs':(o.names.getD i [] == x)=false:=by simpa using hs
         simp only [hb,hs',cond_true,cond_false,Bool.not_true,Bool.not_false]
         repeat' (first|apply And.intro|intro _)
         all_goals (first|contradiction|exact hF|trivial|(simp;omega))
     · have hb:(!Op.bytesLess (o.names.getD i []) x)=false:=by rw [hx hle];exact decide_eq_false e
       have hs':(o.names.getD i [] == x)=false:=hlt (o.names.getD i []) (by rw [Bool.not_eq_false'] at hb;exact hb)
       have s2:S (i+1)=(false,o.list.take i++[o.list.getD i aa_.dflt],o.names.take i++[o.names.getD i []]):=by
        simp only [S,if_pos (show i+1≤p by omega),cO_ aa_.dflt hil,cO_ [] hi]
       rw [s2] at hF
       simp only [hb,hs',cond_true,cond_false,Bool.not_true,Bool.not_false]
       repeat' (first|apply And.intro|intro _)
       all_goals (first|contradiction|exact hF|trivial|(simp;omega))
   · have s1:S i=(true,o.list.take p++[j]++(o.list.take i).drop q,o.names.take p++[x]++(o.names.take i).drop q):=by simp only [S,if_neg hle]
     have s2:S (i+1)=(true,o.list.take p++[j]++(o.list.take i).drop q++[o.list.getD i aa_.dflt],o.names.take p++[x]++(o.names.take i).drop q++[o.names.getD i []]):=by
      simp only [S,if_neg (show ¬ i+1≤p by omega)]
      rw [fY_ aa_.dflt p hil (by omega),fY_ [] p hi (by omega)]
     have hs':=hne i (by omega) hi
     rw [s1] at hln hll ⊢
     rw [s2] at hF
     simp only [hs',cond_true,cond_false,Bool.not_true,Bool.not_false]
     repeat' (first|apply And.intro|intro _)
     all_goals (first|contradiction|exact hF|trivial|(simp at hln hll ⊢;omega))
 · simp only [bp_.turn5,bp_.step5,dA_,cR_,cond_false,aI_,cc_,ak_]
   unfold putL
   rw [←hp,←hq]
   by_cases hle:o.names.length≤p
   · have e:p=o.names.length:=by omega
     have hqv:q=p:=by rw [hq];unfold jX_;rw [←hp,if_neg (fun h=>by omega)]
     have s1:S o.names.length=(false,o.list,o.names):=by simp only [S,if_pos hle,List.take_length];rw [List.take_of_length_le (by omega)]
     rw [s1,hqv,e,List.take_of_length_le (l:=o.list) (by omega),List.drop_eq_nil_of_le (show o.list.length≤o.names.length by omega),List.take_length,List.drop_length]
     refine ⟨fun _=>⟨by simp;omega,by simp;omega,by simp⟩,fun h=>(by cases h)⟩
   · have s1:S o.names.length=(true,o.list.take p++[j]++o.list.drop q,o.names.take p++[x]++o.names.drop q):=by simp only [S,if_neg hle,List.take_length];rw [hT]
     rw [s1]
     exact ⟨fun h=>(by cases h),fun _=>rfl⟩
end Go.Pi
end
section
namespace Go.Pi
theorem bytesLt:∀ (x y:Bs),Op.bytesLess x y=decide (x<y)
 |[],[]=>by simp [Op.bytesLess]
 |_::_,[]=>by simp [Op.bytesLess]
 |[],_::_=>by simp [Op.bytesLess]
 |a::x,b::y=>by
  rw [Op.bytesLess,bytesLt x y]
  simp only [List.cons_lt_cons_iff]
  by_cases h1:a<b<;>by_cases h2:a=b<;>by_cases h3:x<y<;>simp [h1,h2,h3]
theorem less_ne {x y:Bs} (h:Op.bytesLess y x=true):(y == x)=false:=by
 rw [bytesLt] at h
 exact beq_eq_false_iff_ne.2 fun e=>by subst e;exact List.lt_irrefl y (of_decide_eq_true h)
end Go.Pi
end
section
namespace Go.Pi
def fq_:aa_:=aa_.mk 0 0 [] [] []
def iY_ (j:aa_):aa_:=cond (cT_ j) j fq_
theorem orNull_ev {j:aa_} (h:fl_ 6 j):Ev (fun n _=>cl_ n j) (iY_ j):=by
 refine aT_ ?_
 simp only [cl_,bC_,ad_ (dl_ h),aI_,ak_,iY_,fq_]
 cases cT_ j<;>simp
end Go.Pi
end
section
namespace Go.Pi
theorem d6_ {d:Nat} {j:aa_} (h:bH_ (d+1) j≤400):j.names.length≤400:=by
 have h1:=dy_ h
 have ho:=(c4_ h).1
 by_cases hk:j.kind=5
 · have:=(ho.obj hk).1;omega
 · have:FOwn j=true:=by
    simp only [bH_] at h
    cases hf:FOwn j with
    |true=>rfl
    |false=>rw [hf,cond_false] at h;omega
   unfold FOwn at this
   simp only [Bool.and_eq_true,Bool.or_eq_true] at this
   rcases this.2.1 with h2|h2
   · have:=of_decide_eq_true h2;omega
   · exact absurd (by simpa using h2) hk
theorem eb_:∀ (d:Nat) (j:aa_),bH_ d j≤400→Ev (fun n _=>aP_ n j) j
 |0,j,h=>by simp only [bH_] at h;omega
 |d+1,j,h=>by
  have hll:=dy_ h
  have hnl:=d6_ h
  refine aT_ ?_
  have hc:Ev (fun n _=>bM_ n j.names) j.names:=aT_ (by simp only [bM_,cc_,ak_,List.nil_append,List.length_nil,and_true];omega)
  simp only [aP_,ad_ hc]
  have:=eB_ (fun i=>j.list.take i) j.list.length (fun n N i (o:List aa_)=>aP_.loop4 n (aP_ n) (fun xy3 xy4 xy5 xy6 xy7 xy8 xy9 xy10=>(some (aa_.mk xy6 xy7 xy8 xy9 xy10))) N j.list (j.list.length:Int) (i:Int) 0 0 [] j.kind j.n_ j.s o j.names) j (fun i hi F hF => ?_) ?_
  · exact this
  · have hp:=dV_ h hi
    have hx:=eb_ d (j.list.getD i aa_.dflt) hp.size
    rw [cO_ aa_.dflt hi] at hF
    simp only [aP_.turn4,aP_.step4,bC_,Int.toNat_natCast,W_up hi (show j.list.length≤cD_ by simp only [cD_];omega),aI_,bR_,cc_,cV_ hi,cK_ hi,ad_ hx]
    exact ⟨fun _=>⟨trivial,by simp;omega,hF⟩,fun h=>(by cases h)⟩
  · simp only [aP_.turn4,aP_.step4,cR_,cond_false,List.take_length,ak_,dA_]
theorem eI_:∀ (d:Nat) (j:aa_),bH_ d j≤400→Ev (fun n _=>be_ n j) j
 |0,j,h=>by simp only [bH_] at h;omega
 |d+1,j,h=>by
  have hll:=dy_ h
  have hnl:=d6_ h
  refine aT_ ?_
  simp only [be_,cc_,List.nil_append,List.length_nil]
  refine ⟨by omega,?_⟩
  have:=eB_ (fun i=>j.list.take i) j.list.length (fun n N i (o:List aa_)=>be_.loop4 n (be_ n) (fun xy2 xy3 xy4 xy5 xy6 xy7 xy8 xy9=>(some (aa_.mk xy5 xy6 xy7 xy8 xy9))) N (i:Int) j.kind j.n_ j.s j.list j.names 0 0 [] j.kind j.n_ j.s o j.names) j (fun i hi F hF => ?_) ?_
  · exact this
  · have hp:=dV_ h hi
    have hx:=eI_ d (j.list.getD i aa_.dflt) hp.size
    rw [cO_ aa_.dflt hi] at hF
    simp only [be_.turn4,be_.step4,bC_,Int.toNat_natCast,W_up hi (show j.list.length≤cD_ by simp only [cD_];omega),aI_,bR_,cc_,cV_ hi,cK_ hi,ad_ hx]
    exact ⟨fun _=>⟨trivial,by simp;omega,hF⟩,fun h=>(by cases h)⟩
  · simp only [be_.turn4,be_.step4,cR_,cond_false,List.take_length,ak_,dA_]
def he_ (j:aa_):Bool:=(j.kind == 0)&&((j.n_ == 0)&&((j.s == [])&&(decide (j.list.length=0)&&decide (j.names.length=0))))
theorem j9_ {α:Type} (l:List α):((l.length:Int) == 0)=decide (l.length=0):=by
 by_cases h:l.length=0
 · rw [h];rfl
 · rw [decide_eq_false h];simp;intro e;exact h (by rw [e];rfl)
theorem gm_ {j:aa_}:Ev (fun n _=>cf_ n j) (he_ j):=by
 refine aT_ ?_
 simp only [cf_,aI_,ak_,he_,j9_]
 cases (j.kind == 0)<;>cases (j.n_ == 0)<;>cases (j.s == [])<;>cases decide (j.list.length=0)<;>simp
theorem n0_ (d:Nat) (j:aa_):ef_ (d+1) j fq_=he_ j:=by
 simp only [ef_,fq_,gD_,he_,List.length_nil]
 by_cases h1:j.names.length=0
 · by_cases h2:j.list.length=0
   · rw [h1,h2];simp [mh_,fS_]
   · have h2:j.list≠[]:=fun e=>h2 (by rw [e];rfl)
     simp [h2]
 · have h1:j.names≠[]:=fun e=>h1 (by rw [e];rfl)
   simp [h1]
def no_ (w:List Bs):Bool:=mh_ (fun i=>gE_ (w.getD i [])) w.length
def gg_ (o:TOp):Bool:=inn o.kind 1 4&&(decide (o.way.length≤6)&&(cT_ o.value&&(no_ o.way&&((o.kind != 2)||he_ o.value))))
def d7_ (o:TOp):Prop:=lenNs cD_ o.way∧fl_ 6 o.value
theorem gj_ (o:TOp):TOp.mk o.kind o.way o.value=o:=rfl
theorem gt_le {n:Nat}:decide ((n:Int) > 6) = !decide (n≤6):=by
 by_cases h:n≤6
 · rw [decide_eq_true h,decide_eq_false (by omega)];rfl
 · rw [decide_eq_false h,decide_eq_true (by omega)];rfl
theorem le_le {n:Nat}:decide ((n:Int)≤6)=decide (n≤6):=by
 by_cases h:n≤6
 · rw [decide_eq_true h,decide_eq_true (by omega)]
 · rw [decide_eq_false h,decide_eq_false (by omega)]
theorem kN_ {o:TOp} (h:d7_ o):Ev (fun n _=>bx_ n o) (gg_ o):=by
 refine aT_ ?_
 simp only [bx_,bC_,l1In_b,ad_ (di_ h.2),aI_,ak_,gt_le,gg_]
 cases hj:cT_ o.value with
 |false=>cases inn o.kind 1 4<;>cases decide (o.way.length≤6)<;>simp
 |true=>
  have hS:=eH_ 6 o.value fq_ (gb_ 6 o.value (of_decide_eq_true hj)) h.2
  rw [n0_] at hS
  unfold fq_ at hS
  have hl:Ev (fun n _=>bx_.loop6 n (fun xy4 xy5 xy6 xy7 xy8 xy9 xy10=>(cond (xy4 != 2) (some true) ((ai_ n (aa_.mk xy6 xy7 xy8 xy9 xy10) (aa_.mk 0 0 [] [] [])).bind fun xr11=>(some xr11)))) n 0 o.kind o.way o.value.kind o.value.n_ o.value.s o.value.list o.value.names) (no_ o.way&&((o.kind != 2)||he_ o.value)):=by
   refine gn_ (fun n N i=>bx_.loop6 n (fun xy4 xy5 xy6 xy7 xy8 xy9 xy10=>(cond (xy4 != 2) (some true) ((ai_ n (aa_.mk xy6 xy7 xy8 xy9 xy10) (aa_.mk 0 0 [] [] [])).bind fun xr11=>(some xr11)))) N (i:Int) o.kind o.way o.value.kind o.value.n_ o.value.s o.value.list o.value.names) _ (fun i w hi ih => ?_) ?_
   · simp only [bx_.turn6,bx_.step6,Int.toNat_natCast,W_up hi h.1.1,aI_,bR_,ad_ (eG_ (g4_ h.1 i)),ak_,dS_ ih,cV_ hi,cK_ hi]
     cases gE_ (o.way.getD i [])<;>simp
   · simp only [bx_.turn6,bx_.step6,cR_,cond_false,dA_,aI_,ad_ hS,ak_]
     cases (o.kind != 2)<;>simp
  simp only [dS_ hl]
  cases inn o.kind 1 4<;>cases decide (o.way.length≤6)<;>simp
theorem fH_ {o:TOp} (h:d7_ o):Ev (fun n _=>by_ n o) (gg_ o):=by
 refine aT_ ?_
 simp only [by_]
 have e:gg_ o=(no_ o.way&&(inn o.kind 1 4&&(decide (o.way.length≤6)&&(cT_ o.value&&((o.kind != 2)||he_ o.value))))):=by
  unfold gg_
  cases inn o.kind 1 4<;>cases decide (o.way.length≤6)<;>cases cT_ o.value<;>cases no_ o.way<;>simp
 rw [e]
 refine gn_ (fun n N i=>by_.loop3 n (fun xy2 xy3 xy4 xy5 xy6 xy7 xy8=>((aW_ n xy2 1 4).bind fun xr9=>(cond xr9 (cond (decide ((xy3.length:Int)≤6)) ((b0_ n (aa_.mk xy4 xy5 xy6 xy7 xy8)).bind fun xr10=>(cond xr10 (cond (xy2 != 2) (some true) ((cf_ n (aa_.mk xy4 xy5 xy6 xy7 xy8)).bind fun xr11=>(some xr11))) (some false))) (some false)) (some false)))) N o.way (o.way.length:Int) (i:Int) o.kind o.way o.value.kind o.value.n_ o.value.s o.value.list o.value.names) _ (fun i w hi ih => ?_) ?_
 · simp only [by_.turn3,by_.step3,Int.toNat_natCast,W_up hi h.1.1,aI_,bR_,ad_ (eM_ (g4_ h.1 i)),ak_,dS_ ih,cV_ hi,cK_ hi]
   cases gE_ (o.way.getD i [])<;>simp
 · simp only [by_.turn3,by_.step3,cR_,cond_false,dA_,aI_,ez_,le_le,ad_ (dl_ h.2),ad_ gm_,ak_]
   cases inn o.kind 1 4<;>cases decide (o.way.length≤6)<;>cases cT_ o.value<;>cases (o.kind != 2)<;>simp
def ed_ (k:Int):Bs:=cond (k == 1) [97,100,100] (cond (k == 2) [114,101,109,111,118,101] (cond (k == 3) [114,101,112,108,97,99,101] [116,101,115,116]))
def nq_ (s:Bs):aa_:=aa_.mk 3 0 s [] []
abbrev n6_:Bs:=[111,112]
abbrev d5_:Bs:=[112,97,116,104]
abbrev e5_:Bs:=[118,97,108,117,101]
def dh_ (o:TOp):aa_:=cond (o.kind == 2) (aa_.mk 5 0 [] [nq_ (ed_ o.kind),nq_ (FWay o.way)] [n6_,d5_]) (aa_.mk 5 0 [] [nq_ (ed_ o.kind),nq_ (FWay o.way),o.value] [n6_,d5_,e5_])
def cC_ (o:TOp):aa_:=cond (gg_ o) (iY_ (dh_ o)) fq_
theorem lU_:∀ (d:Nat) (j:aa_),fl_ (d+1) j→fl_ d j
 |0,_,_=>trivial
 |d+1,j,h=>⟨h.1,h.2.1,fun x hx=>lU_ d x (h.2.2 x hx)⟩
theorem h2_ {s:Bs} (h:s.length≤cD_):∀ d,fl_ d (nq_ s)
 |0=>trivial
 |d+1=>⟨⟨h,Nat.zero_le _,fun x hx=>(by cases hx)⟩,Nat.zero_le _,fun x hx=>(by cases hx)⟩
theorem eo_:∀ d,fl_ d fq_
 |0=>trivial
 |d+1=>⟨⟨Nat.zero_le _,Nat.zero_le _,fun x hx=>(by cases hx)⟩,Nat.zero_le _,fun x hx=>(by cases hx)⟩
structure OpIs (o:TOp):Prop where
 kind:o.kind=1∨o.kind=2∨o.kind=3∨o.kind=4
 way:o.way.length≤6
 text:∀ s ∈ o.way,s.length≤60
 val:bH_ 6 o.value≤400
theorem lR_ {o:TOp} (h:gg_ o=true):OpIs o:=by
 unfold gg_ at h
 simp only [Bool.and_eq_true] at h
 obtain ⟨h1,h2,h3,h4,_⟩:=h
 have hk:=f0_ h1
 refine ⟨by omega,of_decide_eq_true h2,fun s hs => ?_,of_decide_eq_true h3⟩
 obtain ⟨i,hi,e⟩:=List.mem_iff_getElem.1 hs
 have:=ga_.1 h4 i hi
 rw [List.getD_eq_getElem?_getD,List.getElem?_eq_getElem hi,Option.getD_some,e] at this
 exact fV_ this
theorem name_len (k:Int):(ed_ k).length≤60:=by
 unfold ed_
 cases (k == 1)<;>cases (k == 2)<;>cases (k == 3)<;>simp
theorem hs_ {o:TOp} (h:d7_ o) (ho:OpIs o):fl_ 6 (dh_ o):=by
 have hw:=kv_ ho.text
 have hwl:=ho.way
 have hw2:(FWay o.way).length≤cD_:=by simp only [cD_];omega
 have hn:(ed_ o.kind).length≤cD_:=by have:=name_len o.kind;simp only [cD_];omega
 have hv:=lU_ 5 _ h.2
 unfold dh_
 cases (o.kind == 2) with
 |true=>
  refine ⟨⟨Nat.zero_le _,by show 2≤cD_;decide,fun x hx => ?_⟩,by show 2≤cD_;decide,fun x hx => ?_⟩
  · simp at hx;rcases hx with e|e<;>(rw [e];decide)
  · simp at hx;rcases hx with e|e
    · rw [e];exact h2_ hn 5
    · rw [e];exact h2_ hw2 5
 |false=>
  refine ⟨⟨Nat.zero_le _,by show 3≤cD_;decide,fun x hx => ?_⟩,by show 3≤cD_;decide,fun x hx => ?_⟩
  · simp at hx;rcases hx with e|e|e<;>(rw [e];decide)
  · simp at hx;rcases hx with e|e|e
    · rw [e];exact h2_ hn 5
    · rw [e];exact h2_ hw2 5
    · rw [e];exact hv
theorem gw_ {o:TOp} (h:d7_ o):fl_ 6 (cC_ o):=by
 unfold cC_
 cases ho:gg_ o with
 |false=>exact eo_ 6
 |true=>
  unfold iY_
  cases cT_ (dh_ o) with
  |false=>exact eo_ 6
  |true=>exact hs_ h (lR_ ho)
theorem put_value (a b v:aa_):Ev (fun n _=>bp_ n (aa_.mk 5 0 [] [a,b] [n6_,d5_]) e5_ v) (aa_.mk 5 0 [] [a,b,v] [n6_,d5_,e5_]) :=
 jU_ (o:=aa_.mk 5 0 [] [a,b] [n6_,d5_]) (j:=v) (x:=e5_) (by show 2≤2000000;decide) rfl (fun _=>less_ne) (fun i h1 h2=>by
  have:jX_ [n6_,d5_] e5_=2:=by decide
  have h2:i<2:=h2
  have h1:jX_ [n6_,d5_] e5_≤i:=h1
  omega)
theorem d1_ {o:TOp} (h:d7_ o):Ev (fun n _=>ck_ n o) (cC_ o):=by
 refine aT_ ?_
 have hN:Ev (fun n _=>bW_ n ()) [[],[97,100,100],[114,101,109,111,118,101],[114,101,112,108,97,99,101],[116,101,115,116]]:=aT_ (by simp only [bW_,ak_])
 simp only [ck_,bC_,gj_,ad_ (kN_ h),aI_,ak_]
 unfold cC_
 cases ho:gg_ o with
 |false=>exact ⟨fun _=>rfl,fun h=>(by cases h)⟩
 |true=>
  refine ⟨fun h=>(by cases h),fun _ => ?_⟩
  have hi:=lR_ ho
  have hV:=di_ (hs_ h hi)
  have hCp:=eI_ 6 o.value hi.val
  simp only [ad_ hN,bR_,ad_ (if_ hi.way hi.text)]
  unfold iY_ fq_ dh_ nq_ ed_
  unfold dh_ nq_ ed_ at hV
  rcases hi.kind with hk|hk|hk|hk
  all_goals (
   simp only [hk,Int.reduceBEq,cond_true,cond_false] at hV
   simp only [hk,Int.reduceBEq,cond_true,cond_false,bne,Bool.not_false,Bool.not_true,Int.reduceToNat,List.getD_cons_succ,List.getD_cons_zero,aI_,ad_ hCp,ad_ (put_value _ _ _),ad_ hV,ak_]
   refine ⟨⟨by decide,by decide⟩,?_⟩
   generalize cT_ _=q
   cases q<;>simp)
theorem d2_ {o:TOp} (h:d7_ o):Ev (fun n _=>cn_ n o) (cC_ o):=by
 refine aT_ ?_
 have hN:Ev (fun n _=>bX_ n ()) [[97,100,100],[114,101,109,111,118,101],[114,101,112,108,97,99,101],[116,101,115,116]]:=aT_ (by simp only [bX_,ak_])
 simp only [cn_,bC_,gj_,ad_ (fH_ h),aI_,ak_]
 unfold cC_
 cases ho:gg_ o with
 |false=>exact ⟨fun _=>rfl,fun h=>(by cases h)⟩
 |true=>
  refine ⟨fun h=>(by cases h),fun _ => ?_⟩
  have hi:=lR_ ho
  have hV:=orNull_ev (hs_ h hi)
  have hCp:=eb_ 6 o.value hi.val
  simp only [ad_ hN,bR_,ad_ (fF_ hi.way hi.text)]
  simp only [cond_true]
  unfold dh_ nq_ ed_
  unfold dh_ nq_ ed_ at hV
  have w1:W ((1:Int) - 1)=0:=by rw [W_id (by decide) (by decide)];rfl
  have w2:W ((2:Int) - 1)=1:=by rw [W_id (by decide) (by decide)];rfl
  have w3:W ((3:Int) - 1)=2:=by rw [W_id (by decide) (by decide)];rfl
  have w4:W ((4:Int) - 1)=3:=by rw [W_id (by decide) (by decide)];rfl
  rcases hi.kind with hk|hk|hk|hk
  all_goals (
   simp only [hk,Int.reduceBEq,cond_true,cond_false] at hV
   simp only [hk,w1,w2,w3,w4,Int.reduceBEq,cond_true,cond_false,bne,Bool.not_false,Bool.not_true,Int.reduceToNat,List.getD_cons_succ,List.getD_cons_zero,List.cons_append,List.nil_append,aI_,cc_,ad_ hCp,ad_ hV,ak_,true_implies,false_implies,reduceCtorEq,and_true,true_and]
   simp only [List.length_cons,List.length_nil]
   decide)
end Go.Pi
end
section
namespace Go.Pi
def pfx (p s:Bs):Bool:=p.isPrefixOf s
theorem kY_ {a c:UInt8} (h:c≠a) (p t:Bs):pfx (a::p) (c::t)=false:=by
 have e:(a == c)=false:=beq_eq_false_iff_ne.2 fun e=>h e.symm
 show (a == c&&List.isPrefixOf p t)=false
 rw [e];rfl
theorem pfx_nil (a:UInt8) (p:Bs):pfx (a::p) []=false:=rfl
theorem gv_ (p t:Bs):pfx p (p++t)=true:=List.isPrefixOf_iff_prefix.2 (List.prefix_append p t)
theorem gu_ {p t:Bs} (h:pfx p t=true):p.length≤t.length:=(List.isPrefixOf_iff_prefix.1 h).length_le
theorem h1_ (p s:Bs):pfx p s=((s.take p.length).drop 0 == p):=by
 rw [List.drop_zero]
 refine Bool.eq_iff_iff.2 ?_
 rw [beq_iff_eq]
 exact ⟨fun h=>(List.prefix_iff_eq_take.1 (List.isPrefixOf_iff_prefix.1 h)).symm,fun h=>List.isPrefixOf_iff_prefix.2 (List.prefix_iff_eq_take.2 h.symm)⟩
section
variable {β:Type} {g:Nat→Nat→Bool→Option β} {v:β}
theorem fU_ {s p:Bs}:Ev (fun n _=>ay_ n s p) (pfx p s):=by
 refine aT_ ?_
 simp only [ay_,aI_,dv_,ak_,Int.toNat_natCast]
 refine ⟨fun h => ?_,fun h => ?_⟩
 · have h:=of_decide_eq_true h
   exact ⟨⟨by omega,by omega,by omega⟩,(h1_ p s).symm⟩
 · have h:=of_decide_eq_false h
   cases e:pfx p s with
   |false=>rfl
   |true=>have:=gu_ e;omega
theorem eF_ {s p:Bs}:Ev (fun n _=>bt_ n s p) (cond (pfx p s) (s.drop p.length,true) (s,false)):=by
 have:Ev (fun n _=>aF_ n s p) (cond (pfx p s) (s.drop p.length,true) (s,false)):=by
  refine aT_ ?_
  simp only [aF_,ad_ fU_,aI_,dv_,ak_,Int.toNat_natCast,List.take_length]
  cases e:pfx p s with
  |false=>exact ⟨fun _=>rfl,fun h=>(by cases h)⟩
  |true=>exact ⟨fun h=>(by cases h),fun _=>⟨⟨by omega,by have:=gu_ e;omega,by omega⟩,rfl⟩⟩
 exact aT_ (by simp only [bt_,ad_ this,ak_])
theorem fg_ {s p:Bs}:Ev (fun n _=>bq_ n s p) (cond (pfx p s) (s.drop p.length) s):=by
 have:Ev (fun n _=>aB_ n s p) (cond (pfx p s) (s.drop p.length) s):=by
  refine aT_ ?_
  simp only [aB_,ad_ fU_,aI_,dv_,ak_,Int.toNat_natCast,List.take_length]
  cases e:pfx p s with
  |false=>exact ⟨fun h=>(by cases h),fun _=>rfl⟩
  |true=>exact ⟨fun _=>⟨⟨by omega,by have:=gu_ e;omega,by omega⟩,rfl⟩,fun h=>(by cases h)⟩
 exact aT_ (by simp only [bq_,ad_ this,ak_])
end
def dw_ (r:aS_) (p:Bs):Bool × aS_:=cond (pfx p r.text) (!r.bad,⟨r.text.drop p.length,r.bad⟩) (false,⟨r.text,r.bad⟩)
def iX_ (r:aS_) (p:Bs):aS_:=cond (pfx p r.text) ⟨r.text.drop p.length,r.bad⟩ ⟨r.text,true⟩
theorem lH_ {r:aS_} {p:Bs}:Ev (fun n _=>a7_ n r p) (dw_ r p):=by
 refine aT_ ?_
 simp only [a7_,ad_ eF_,aI_,ak_,dw_]
 cases pfx p r.text<;>simp
theorem want_ev {r:aS_} {p:Bs}:Ev (fun n _=>bm_ n r p) (iX_ r p):=by
 refine aT_ ?_
 simp only [bm_,ad_ lH_,aI_,ak_,dw_,iX_]
 cases pfx p r.text<;>cases r.bad<;>simp
theorem eZ_ (r:aS_) (p:Bs):(dw_ r p).2.text.length≤r.text.length:=by
 unfold dw_
 cases pfx p r.text<;>simp
theorem take_less {r:aS_} {p:Bs} (h:(dw_ r p).1=true):(dw_ r p).2.text.length+p.length≤r.text.length:=by
 unfold dw_ at h ⊢
 cases e:pfx p r.text with
 |false=>rw [e] at h;cases h
 |true=>have:=gu_ e;simp;omega
theorem lE_ (r:aS_) (p:Bs):(iX_ r p).text.length≤r.text.length:=by
 unfold iX_
 cases pfx p r.text<;>simp
section
variable {β:Type} {Q:β→Prop} {v:β}
theorem mv_ {r:aS_} {p:Bs} {g:Nat→Nat→Bool × aS_→Option β}:Ans (fun n N=>(a7_ n r p).bind (g n N)) Q↔Ans (fun n N=>g n N (dw_ r p)) Q:=bV_ lH_
theorem want_a {r:aS_} {p:Bs} {g:Nat→Nat→aS_→Option β}:Ans (fun n N=>(bm_ n r p).bind (g n N)) Q↔Ans (fun n N=>g n N (iX_ r p)) Q:=bV_ want_ev
theorem dR_ {r:aS_} {p:Bs} {g:Nat→Nat→Bool × aS_→Option β}:Ev (fun n N=>(a7_ n r p).bind (g n N)) v↔Ev (fun n N=>g n N (dw_ r p)) v:=ad_ lH_
theorem mp_ {r:aS_} {p:Bs} {g:Nat→Nat→aS_→Option β}:Ev (fun n N=>(bm_ n r p).bind (g n N)) v↔Ev (fun n N=>g n N (iX_ r p)) v:=ad_ want_ev
end
theorem e9_ {s p:Bs}:Ev (fun n _=>bw_ n s p) (pfx p s):=aT_ (by simp only [bw_,ad_ fU_,ak_])
theorem eg_ (p t:Bs):dw_ ⟨p++t,false⟩ p=(true,⟨t,false⟩):=by
 unfold dw_;rw [gv_,List.drop_left];rfl
theorem cH_ {a c:UInt8} (h:c≠a) (p t:Bs) (b:Bool):dw_ ⟨c::t,b⟩ (a::p)=(false,⟨c::t,b⟩):=by
 unfold dw_;rw [kY_ h];rfl
theorem take_nil (a:UInt8) (p:Bs) (b:Bool):dw_ ⟨[],b⟩ (a::p)=(false,⟨[],b⟩):=rfl
theorem hZ_ (p t:Bs):iX_ ⟨p++t,false⟩ p=⟨t,false⟩:=by
 unfold iX_;rw [gv_,List.drop_left];rfl
theorem jl_ {r:aS_} (hr:r.text.length≤4194304):Ans (fun n _=>aj_ n r) fun x=>x.2.text.length≤r.text.length∧x.1.length≤r.text.length:=by
 refine c2_ ?_
 simp only [aj_,want_a]
 have hw:=lE_ r [34]
 generalize iX_ r [34]=q at hw ⊢
 refine eE_ (σ:=Bs × Bool × List Int) (fun n N s=>aj_.loop4 n (fun xy4 xy5=>(some ([],(aS_.mk xy4 xy5)))) N s.1 s.2.1 s.2.2) (fun s=>s.1.length) (fun s=>s.1.length+s.2.2.length≤r.text.length) _ (fun s hI ih => ?_) (q.text,q.bad,[]) (by simp;omega)
 obtain ⟨t,b,o⟩:=s
 simp only at hI ih ⊢
 simp only [aj_.turn4,aj_.step4,mv_,cA_,ct_,hB_,eu_,nl_,Int.toNat_natCast,List.take_length]
 have h1:=eZ_ ⟨t,b⟩ [34]
 have h2:=eZ_ (dw_ ⟨t,b⟩ [34]).2 [92]
 simp only at h1
 generalize dw_ ⟨t,b⟩ [34]=x at h1 h2 ⊢
 generalize dw_ x.2 [92]=y at h2 ⊢
 refine ⟨fun _=>⟨fun _=>⟨by omega,by simp;omega⟩,fun _=>⟨fun _=>⟨by omega,by simp⟩,fun hc => ?_⟩⟩,fun _=>⟨by omega,by simp⟩⟩
 have hne:1≤y.2.text.length:=by
  cases he:y.2.text with
  |nil=>rw [he] at hc;cases hc
  |cons _ _=>simp
 refine ⟨by omega,by simp;omega,⟨by omega,by omega,by omega⟩,?_⟩
 exact ih (y.2.text.drop 1,y.2.bad,o++[((y.2.text.getD 0 0).toNat:Int)]) (by simp;omega) (by simp;omega)
theorem kq_ (o:Bs) (c:UInt8):bi o++[((c.toNat:Nat):Int)]=bi (o++[c]):=by simp [bi]
theorem hp_ {s r:Bs} (hl:(cS_ s++r).length≤1000000000000):Ev (fun n _=>aj_ n ⟨cS_ s++r,false⟩) (s,⟨r,false⟩):=by
 have hq:=el_ s
 have hsl:s.length≤(cS_ s).length:=by
  have:∀ s:Bs,s.length≤(s.flatMap d4_).length:=by
   intro s
   induction s with
   |nil=>exact Nat.le_refl _
   |cons c s ih=>rw [List.flatMap_cons,List.length_append,List.length_cons];have:1≤(d4_ c).length:=by unfold d4_;split<;>simp
                 omega
  have:=this s
  simp only [cS_,List.cons_append,List.length_cons,List.length_append];omega
 simp only [List.length_append] at hl
 have e:cS_ s++r=[34]++(s.flatMap d4_++34::r):=by simp [cS_]
 refine aT_ ?_
 simp only [aj_,mp_,e,hZ_]
 have:=eB_ (fun i=>((s.drop i).flatMap d4_++34::r,bi (s.take i))) s.length (fun n N i (q:Bs × List Int)=>aj_.loop4 n (fun xy4 xy5=>(some ([],(aS_.mk xy4 xy5)))) N q.1 false q.2) (s,⟨r,false⟩) (fun i hi F hF => ?_) ?_
 · exact this
 · have hd:=dG_ 0 hi
   have ht:=cO_ 0 hi
   rw [ht] at hF
   simp only [hd,List.flatMap_cons,List.append_assoc]
   have hbl:=hQ_ (s.take i)
   rw [List.length_take] at hbl
   generalize (s.drop (i+1)).flatMap d4_++34::r=T at hF ⊢
   generalize s.getD i 0=c at hF ⊢
   rw [←kq_] at hF
   generalize bi (s.take i)=o at hF hbl ⊢
   simp only [aj_.turn4,aj_.step4,Bool.not_false,cond_true,dR_]
   by_cases hc:c=34∨c=92
   · have e1:d4_ c=[92,c]:=if_pos hc
     have e2:d4_ c++T=92::c::T:=by rw [e1];rfl
     have e3:dw_ ⟨92::c::T,false⟩ [92]=(true,⟨c::T,false⟩):=eg_ [92] (c::T)
     simp only [e2,dR_,cH_ (show (92:UInt8)≠34 by decide),e3,cond_false,aI_,bR_,cc_,dv_,Int.toNat_natCast,List.take_length,List.getD_cons_zero,List.drop_succ_cons,List.drop_zero]
     repeat' (first|exact hF|apply And.intro|intro _)
     all_goals (first|contradiction|omega|(simp;done)|(simp;omega)|trace_state)
   · have e1:d4_ c=[c]:=if_neg hc
     have e2:d4_ c++T=c::T:=by rw [e1];rfl
     simp only [e2,dR_,cH_ (show c≠34 from fun e=>hc (.inl e)),cH_ (show c≠92 from fun e=>hc (.inr e)),cond_false,aI_,bR_,cc_,dv_,Int.toNat_natCast,List.take_length,List.getD_cons_zero,List.drop_succ_cons,List.drop_zero]
     repeat' (first|exact hF|apply And.intro|intro _)
     all_goals (first|contradiction|omega|(simp;done)|(simp;omega)|trace_state)
 · have e3:dw_ ⟨34::r,false⟩ [34]=(true,⟨r,false⟩):=eg_ [34] r
   simp only [List.drop_length,List.take_length,List.flatMap_nil,List.nil_append,aj_.turn4,aj_.step4,Bool.not_false,cond_true,dR_,e3,hi_,ak_]
theorem i1_ {s:Bs} (h:s.length≤281474976710656):Ev (fun n _=>bU_ n s) (endOf s (Lib.atoiAll s)) :=
 aT_ (by simp only [bU_,nAtoi,decide_eq_true h,cond_true,ak_])
theorem nz_ {r:aS_} (hr:r.text.length≤4194304):Ans (fun n _=>ag_ n r) fun x=>x.2.text.length≤r.text.length∧x.1.s=[]∧x.1.list=[]∧x.1.names=[]:=by
 refine c2_ ?_
 simp only [ag_]
 obtain ⟨t,b⟩:=r
 simp only at hr ⊢
 have key:∀ (K:Nat→ag_.K3) (Q:aa_ × aS_→Prop),(∀ i,i≤t.length→Ans (fun n _=>K n ((i:Nat):Int) t b 0 0 []) Q)→Ans (fun n _=>ag_.loop3 n (K n) n 0 t b 0 0 []) Q:=by
  intro K Q hK
  refine eE_ (σ:=Nat) (fun n N i=>ag_.loop3 n (K n) N (i:Int) t b 0 0 []) (fun i=>t.length - i) (fun i=>i≤t.length) _ (fun i hI ih => ?_) 0 (Nat.zero_le _)
  have hend:=hK i hI
  simp only [ag_.turn3,ag_.step3,Int.toNat_natCast]
  by_cases hi:i<t.length
  · have ihn:=ih (i+1) hi (by omega)
    have hW:=W_up hi (show t.length≤cD_ by simp only [cD_];omega)
    simp only [hW,cV_ hi,cond_true,hB_,cK_ hi,true_and,bV_ ky_,cA_]
    exact ⟨fun _=>ihn,fun _=>⟨fun _=>⟨by omega,fun _=>ihn,fun _=>hend⟩,fun _=>hend⟩⟩
  · have e:i=t.length:=by omega
    subst e
    simp only [cR_,cond_false]
    exact hend
 refine key _ _ fun i hi => ?_
 have hA:=i1_ (s:=(t.take i).drop 0) (by simp;omega)
 simp only [Int.toNat_natCast,List.take_length,nl_,bV_ hA,cA_,ct_]
 exact ⟨by omega,fun _=>⟨by omega,by simp⟩,fun _=>⟨by omega,by simp⟩⟩
theorem itoa_at (n:Int) {i:Nat} (hi:i<(Lib.itoa n).length):dW_ ((Lib.itoa n).getD i 0)∨(i=0∧(Lib.itoa n).getD i 0=45):=by
 unfold Lib.itoa at hi ⊢
 by_cases h:n<0
 · rw [if_pos h] at hi ⊢
   cases i with
   |zero=>exact .inr ⟨rfl,rfl⟩
   |succ i=>
    left
    rw [List.getD_cons_succ]
    exact fQ_ n.natAbs _ (cG_ 0 (by simpa using hi))
 · rw [if_neg h] at hi ⊢
   exact .inl (fQ_ n.toNat _ (cG_ 0 hi))
theorem lg_ {a b:Bs} {i:Nat} (h:i<a.length):(a++b).getD i 0=a.getD i 0:=by
 rw [List.getD_eq_getElem?_getD,List.getElem?_append_left h,←List.getD_eq_getElem?_getD]
theorem nQ_ {a b:Bs} {c:UInt8}:(a++c::b).getD a.length 0=c:=by
 rw [List.getD_eq_getElem?_getD,List.getElem?_append_right (Nat.le_refl _)];simp
theorem inn_dig {c:UInt8} (h:dW_ c):inn (c.toNat:Int) 48 57=true:=by
 unfold dW_ at h
 exact inn_iff.2 (by omega)
theorem inn_not {c:UInt8} (h:¬ dW_ c):inn (c.toNat:Int) 48 57=false:=by
 cases e:inn (c.toNat:Int) 48 57 with
 |false=>rfl
 |true=>exact absurd (by unfold dW_;have:=f0_ e;omega) h
theorem ny_ {n:Int} {r:Bs} (h0 : -1000000000≤n) (h1:n≤1000000000) (hs:Stop r) (hl:(Lib.itoa n++r).length≤1000000000000):Ev (fun m _=>ag_ m ⟨Lib.itoa n++r,false⟩) (aa_.mk 2 n [] [] [],⟨r,false⟩):=by
 have hA:=i1_ (s:=Lib.itoa n) (by simp only [List.length_append] at hl;omega)
 rw [lt_ h0 h1] at hA
 obtain ⟨c0,t0,e0,_⟩:=fC_ n
 have hp:1≤(Lib.itoa n).length:=by rw [e0];simp
 have hat:=fun i=>itoa_at n (i:=i)
 generalize Lib.itoa n=t at hl hA hp hat ⊢
 simp only [List.length_append] at hl
 refine aT_ ?_
 simp only [ag_]
 have key:∀ (K:Nat→ag_.K3) (F:aa_ × aS_),Ev (fun n _=>K n (t.length:Int) (t++r) false 0 0 []) F→Ev (fun n _=>ag_.loop3 n (K n) n 0 (t++r) false 0 0 []) F:=by
  intro K F hK
  refine eB_ (fun _=>()) t.length (fun n N i (_:Unit)=>ag_.loop3 n (K n) N (i:Int) (t++r) false 0 0 []) F (fun i hi F hF => ?_) ?_
  · have hi2:i<(t++r).length:=by simp;omega
    have hW:=W_up hi2 (by simp only [cD_,List.length_append];omega)
    simp only [ag_.turn3,ag_.step3,Int.toNat_natCast,hW,cV_ hi2,cond_true,bR_,cK_ hi2,true_and,ez_,nj_,lg_ hi,aI_]
    rcases hat i hi with hd|⟨rfl,hd⟩
    · rw [inn_dig hd]
      exact ⟨fun _=>hF,fun h=>(by cases h)⟩
    · simp only [lg_ hi,hd]
      exact ⟨fun _=>hF,fun _=>⟨fun _=>⟨by omega,fun _=>hF,fun h=>absurd h (by decide)⟩,fun h=>(by cases h)⟩⟩
  · simp only [ag_.turn3,ag_.step3,Int.toNat_natCast]
    cases r with
    |nil=>
     rw [List.append_nil] at hK ⊢
     simp only [cR_,cond_false]
     exact hK
    |cons c r=>
     have hi2:t.length<(t++c::r).length:=by simp
     have hz:(((t.length:Nat):Int) == 0)=false:=beq_eq_false_iff_ne.2 (by omega)
     simp only [cV_ hi2,cond_true,bR_,cK_ hi2,true_and,ez_,nj_,nQ_,inn_not (hs c r rfl),hz,cond_false]
     exact hK
 refine key _ _ ?_
 have e1:((t++r).take t.length).drop 0=t:=by simp
 simp only [Int.toNat_natCast,e1,List.take_length,List.drop_left,dv_,ad_ hA,endOf,Bool.not_true,cond_false,ak_]
 exact ⟨by simp;omega,by simp;omega,trivial⟩
end Go.Pi
end
section
namespace Go.Pi
def n2_ (L d:Nat) (x:aa_ × aS_):Prop:=x.2.text.length≤L∧fl_ d x.1
theorem dF_ {d:Nat} {k n:Int}:fl_ d (aa_.mk k n [] [] []):=by
 cases d with
 |zero=>trivial
 |succ d=>exact ⟨⟨Nat.zero_le _,Nat.zero_le _,fun x h=>(by cases h)⟩,Nat.zero_le _,fun x h=>(by cases h)⟩
theorem k5_ {d:Nat} {k n:Int} {s:Bs} (h:s.length≤cD_):fl_ d (aa_.mk k n s [] []):=by
 cases d with
 |zero=>trivial
 |succ d=>exact ⟨⟨h,Nat.zero_le _,fun x h=>(by cases h)⟩,Nat.zero_le _,fun x h=>(by cases h)⟩
theorem n2_.mono {L M d:Nat} {x:aa_ × aS_} (h:n2_ L d x) (hl:L≤M):n2_ M d x:=⟨Nat.le_trans h.1 hl,h.2⟩
theorem parts_any {d:Nat} (hd:d≤1000) (ih:∀ r:aS_,r.text.length≤4194304→Ans (fun n _=>aM_ n r (d:Int)) (n2_ r.text.length d))
  {r:aS_} (hr:r.text.length≤4194304) (kind:Int) (end_:Bs):Ans (fun n _=>af_ n r kind end_ ((d+1:Nat):Int)) (n2_ r.text.length (d+1)):=by
 refine c2_ ?_
 have hW:W (((d+1:Nat):Int) - 1)=(d:Int):=by rw [W_id (by omega) (by omega)];omega
 simp only [af_,mv_,cA_,ct_]
 have ht:=eZ_ r end_
 generalize dw_ r end_=x at ht ⊢
 refine ⟨fun _=>⟨ht,dF_⟩,fun _ => ?_⟩
 obtain ⟨x1,t0,b0⟩:=x
 simp only at ht ⊢
 have key:∀ (K:Nat→af_.K7_1) (Q:aa_ × aS_→Prop),(∀ t b l ns,t.length≤t0.length→l.length≤4194305→(∀ y ∈ l,fl_ d y)→ns.length≤l.length→(∀ y ∈ ns,y.length≤4194304)→Ans (fun n _=>K n end_ t b 0 0 [] kind 0 [] l ns) Q) →
   Ans (fun n _=>af_.loop7 n (aM_ n) (K n) n kind end_ ((d+1:Nat):Int) true t0 b0 0 0 [] kind 0 [] [] []) Q:=by
  intro K Q hK
  refine eE_ (σ:=Bool × Bs × Bool × List aa_ × List Bs) (fun n N s=>af_.loop7 n (aM_ n) (K n) N kind end_ ((d+1:Nat):Int) s.1 s.2.1 s.2.2.1 0 0 [] kind 0 [] s.2.2.2.1 s.2.2.2.2)
   (fun s=>s.2.1.length+cond s.1 1 0) (fun s=>s.2.1.length≤t0.length∧s.2.2.2.1.length+s.2.1.length≤t0.length+cond s.1 0 1∧(∀ y ∈ s.2.2.2.1,fl_ d y)∧s.2.2.2.2.length≤s.2.2.2.1.length∧(∀ y ∈ s.2.2.2.2,y.length≤4194304)) _ (fun s hI ihl => ?_) (true,t0,b0,[],[]) (by simp)
  obtain ⟨more,t,b,l,ns⟩:=s
  simp only at hI ihl ⊢
  obtain ⟨h1,h2,h3,h4,h5⟩:=hI
  have hll:l.length≤4194305:=by cases more<;>simp at h2<;>omega
  have hend:=hK t b l ns h1 hll h3 h4 h5
  simp only [af_.turn7,af_.step7,hW,bC_,cA_]
  refine ⟨fun hm=>⟨fun _ => ?_,fun _=>hend⟩,fun _=>hend⟩
  subst hm
  simp only [cond_true,Nat.add_zero] at h2 ihl
  have step:∀ (q:aS_) (ns':List Bs),q.text.length≤t.length→ns'.length≤l.length+1→(∀ y ∈ ns',y.length≤4194304) →
    Ans (fun n N=>(aM_ n q (d:Int)).bind fun xr4=>cs_ (l.length+[xr4.1].length) 80 ((a7_ n xr4.2 [44]).bind fun xr5=>af_.loop7 n (aM_ n) (K n) N kind end_ ((d+1:Nat):Int) xr5.1 xr5.2.text xr5.2.bad 0 0 [] kind 0 [] (l++[xr4.1]) ns')) Q:=by
   intro q ns' hq hn hb
   refine cU_ (ih q (by omega)) fun v hv => ?_
   simp only [eu_,mv_]
   have g1:=eZ_ v.2 [44]
   have g2:=take_less (r:=v.2) (p:=[44])
   generalize dw_ v.2 [44]=x at g1 g2 ⊢
   obtain ⟨m',t',b'⟩:=x
   simp only [List.length_cons,List.length_nil] at g1 g2 ⊢
   have hv1:=hv.1
   refine ⟨by omega,ihl (m',t',b',l++[v.1],ns') ⟨by simp only;omega,?_,?_,by simpa using hn,hb⟩ ?_⟩
   · cases m' with
     |true=>have:=g2 rfl;simp;omega
     |false=>simp;omega
   · intro y hy
     rcases List.mem_append.1 hy with hy|hy
     · exact h3 y hy
     · obtain rfl:=List.mem_singleton.1 hy;exact hv.2
   · cases m' with
     |true=>have:=g2 rfl;simp;omega
     |false=>simp;omega
  refine ⟨fun _ => ?_,fun _=>step ⟨t,b⟩ ns (Nat.le_refl _) (by omega) h5⟩
  refine cU_ (jl_ (r:=⟨t,b⟩) (by simp only;omega)) fun v hv => ?_
  simp only at hv
  simp only [want_a,eu_]
  have hw:=lE_ v.2 [58]
  refine ⟨by simp;omega,step (iX_ v.2 [58]) (ns++[v.1]) (by omega) (by simp;omega) fun y hy => ?_⟩
  rcases List.mem_append.1 hy with hy|hy
  · exact h5 y hy
  · obtain rfl:=List.mem_singleton.1 hy;omega
 refine key _ _ fun t b l ns h1 h2 h3 h4 h5 => ?_
 simp only [want_a,ct_]
 have hw:=lE_ ⟨t,b⟩ end_
 simp only at hw
 exact ⟨by simp only;omega,⟨Nat.zero_le _,by show ns.length≤cD_;simp only [cD_];omega,fun y hy=>by have:=h5 y hy;simp only [cD_];omega⟩,by show l.length≤cD_;simp only [cD_];omega,h3⟩
theorem kC_:∀ (d:Nat),d≤1000→∀ r:aS_,r.text.length≤4194304→Ans (fun n _=>aM_ n r (d:Int)) (n2_ r.text.length d)
 |0,_,r,hr=>by
  refine c2_ ?_
  simp only [aM_,cA_,ct_]
  exact ⟨fun _=>⟨Nat.le_refl _,trivial⟩,fun h=>by simp at h⟩
 |d+1,hd,r,hr=>by
  have ih:=fun (r:aS_) hr=>parts_any (d:=d) (by omega) (kC_ d (by omega)) (r:=r) hr
  refine c2_ ?_
  simp only [aM_,bC_,cA_,ct_,mv_,bV_ e9_]
  refine ⟨fun h=>by have:=of_decide_eq_true h;omega,fun _=>⟨fun _=>⟨Nat.le_refl _,dF_⟩,fun _ => ?_⟩⟩
  have h1:=eZ_ r [110,117,108,108]
  generalize dw_ r [110,117,108,108]=x1 at h1 ⊢
  have h2:=eZ_ x1.2 [102,97,108,115,101]
  generalize dw_ x1.2 [102,97,108,115,101]=x2 at h2 ⊢
  have h3:=eZ_ x2.2 [116,114,117,101]
  generalize dw_ x2.2 [116,114,117,101]=x3 at h3 ⊢
  have h4:=eZ_ x3.2 [91]
  generalize dw_ x3.2 [91]=x4 at h4 ⊢
  have h5:=eZ_ x4.2 [123]
  generalize dw_ x4.2 [123]=x5 at h5 ⊢
  refine ⟨fun _=>⟨h1,dF_⟩,fun _=>⟨fun _=>⟨by simp only;omega,dF_⟩,fun _=>⟨fun _=>⟨by simp only;omega,dF_⟩,fun _=>⟨fun _ => ?_,fun _=>⟨fun _ => ?_,fun _=>⟨fun _ => ?_,fun _ => ?_⟩⟩⟩⟩⟩⟩
  · refine cU_ (jl_ (r:=x3.2) (by omega)) fun v hv => ?_
    simp only [ct_]
    exact ⟨by simp only;omega,k5_ (by simp only [cD_];omega)⟩
  · refine cU_ (ih x4.2 (by omega) 4 [93]) fun v hv => ?_
    simp only [ct_]
    exact hv.mono (by omega)
  · refine cU_ (ih x5.2 (by omega) 5 [125]) fun v hv => ?_
    simp only [ct_]
    exact hv.mono (by omega)
  · refine cU_ (nz_ (r:=x5.2) (by omega)) fun v hv => ?_
    simp only [ct_]
    obtain ⟨⟨k,nn,s,l,ns⟩,q⟩:=v
    obtain ⟨e1,e2,e3,e4⟩:=hv
    simp only at e1 e2 e3 e4
    subst e2 e3 e4
    exact ⟨by simp only;omega,dF_⟩
theorem lp_ (enc:aa_→Bs) (j:aa_) (k i:Nat):c1_ enc j (k+1) (i+1)=44::(cZ_ enc j (i+1)++c1_ enc j k (i+2)):=by
 rw [c1_,if_neg (by omega)];rfl
theorem kK_ (enc:aa_→Bs) (j:aa_) (k i:Nat) {c:UInt8} (h:¬ dW_ c) (r:Bs):Stop (c1_ enc j k (i+1)++c::r):=by
 cases k with
 |zero=>exact ib_ h
 |succ k=>rw [lp_];exact ib_ (by unfold dW_;decide)
theorem l5_ {kind:Int} {c:UInt8} (h:c.toNat=93∨c.toNat=125):¬ dW_ c:=by unfold dW_;omega
theorem kZ_ {d:Nat} (hd:d≤1000) {j:aa_} (h:bH_ (d+1) j≤400) (hk:j.kind=4∨j.kind=5)
  (ih:∀ x,bH_ d x≤400→∀ r,Stop r→(FEnc d x++r).length≤1000000000000→Ev (fun n _=>aM_ n ⟨FEnc d x++r,false⟩ (d:Int)) (x,⟨r,false⟩))
  (c:UInt8) (hc:c.toNat=93∨c.toNat=125) (r:Bs) (hl:(da_ (FEnc d) j j.list.length++c::r).length≤1000000000000) :
  Ev (fun n _=>af_ n ⟨da_ (FEnc d) j j.list.length++c::r,false⟩ j.kind [c] ((d+1:Nat):Int)) (aa_.mk j.kind 0 [] j.list j.names,⟨r,false⟩):=by
 have hW:W (((d+1:Nat):Int) - 1)=(d:Int):=by rw [W_id (by omega) (by omega)];omega
 have hll:=dy_ h
 have hnl:=d6_ h
 have hT:dw_ ⟨c::r,false⟩ [c]=(true,⟨r,false⟩):=eg_ [c] r
 have hWa:iX_ ⟨c::r,false⟩ [c]=⟨r,false⟩:=hZ_ [c] r
 have ho:=(c4_ h).1
 have ho2:=dP_ (dD_ h)
 rw [iZ_] at hl ⊢
 refine aT_ ?_
 cases hm:j.list.length with
 |zero=>
  have e1:j.list=[]:=List.eq_nil_of_length_eq_zero hm
  have e2:j.names=[]:=by
   rcases hk with hk|hk
   · exact ho2.ns0 (by omega)
   · exact List.eq_nil_of_length_eq_zero (by rw [(ho.obj hk).1,hm])
  simp only [af_,dR_,c1_,List.nil_append,hT,cond_true,ak_,e1,e2]
 |succ m=>
  obtain ⟨a,p0,ep,hp1,hp2,hp3⟩:=jL_ h (i:=0) (by omega)
  have e0:c1_ (FEnc d) j (m+1) 0=cZ_ (FEnc d) j 0++c1_ (FEnc d) j m 1:=by rw [c1_,if_pos rfl];rfl
  have hac:a≠c:=fun e=>by subst e;omega
  have e3:cZ_ (FEnc d) j 0++c1_ (FEnc d) j m 1++c::r=a::(p0++c1_ (FEnc d) j m 1++c::r):=by rw [ep];rfl
  have e4:dw_ ⟨cZ_ (FEnc d) j 0++c1_ (FEnc d) j m 1++c::r,false⟩ [c]=(false,⟨cZ_ (FEnc d) j 0++c1_ (FEnc d) j m 1++c::r,false⟩):=by rw [e3];exact cH_ hac [] _ false
  simp only [af_,dR_,e0,e4,cond_false]
  rw [hm,e0] at hl
  have key:∀ (K:Nat→af_.K7_1) (F:aa_ × aS_),Ev (fun n _=>K n [c] (c::r) false 0 0 [] j.kind 0 [] j.list j.names) F →
    ∀ k i,i+1+k=j.list.length→(cZ_ (FEnc d) j i++c1_ (FEnc d) j k (i+1)++c::r).length≤1000000000000 →
    Ev (fun n N=>af_.loop7 n (aM_ n) (K n) N j.kind [c] ((d+1:Nat):Int) true (cZ_ (FEnc d) j i++c1_ (FEnc d) j k (i+1)++c::r) false 0 0 [] j.kind 0 [] (j.list.take i) (j.names.take i)) F:=by
   intro K F hK k
   induction k with
   |zero=>
    intro i hi hlen
    have hp:=dV_ h (i:=i) (by omega)
    have hx:=ih _ hp.size (c::r) (ib_ (l5_ (kind:=0) hc))
    have hcm:dw_ ⟨c::r,false⟩ [44]=(false,⟨c::r,false⟩):=cH_ (by intro e;subst e;revert hc;decide) [] _ false
    have hlast:∀ F,Ev (fun n _=>K n [c] (c::r) false 0 0 [] j.kind 0 [] j.list j.names) F→Ev (fun n N=>af_.loop7 n (aM_ n) (K n) N j.kind [c] ((d+1:Nat):Int) false (c::r) false 0 0 [] j.kind 0 [] j.list j.names) F:=fun F hF=>bo_ (by
     simp only [af_.turn7,af_.step7,cond_false];exact hF)
    have el:j.list.take i++[j.list.getD i aa_.dflt]=j.list:=by rw [←cO_ aa_.dflt (by omega)];exact List.take_of_length_le (by omega)
    refine bo_ ?_
    simp only [c1_,List.append_nil]
    simp only [c1_,List.append_nil] at hlen
    rcases hk with hk|hk
    · have h5:(j.kind == 5)=false:=by rw [hk];rfl
      have en:j.names=[]:=ho2.ns0 (by omega)
      unfold cZ_ at hlen ⊢
      rw [h5,cond_false] at hlen ⊢
      simp only [af_.turn7,af_.step7,bC_,hW,h5,Bool.not_false,cond_true,cond_false,ad_ (hx hlen),cc_,dR_,hcm,el,en,List.take_nil]
      refine ⟨by simp;omega,?_⟩
      have:=hlast F hK
      rw [en] at this
      exact this
    · have h5:(j.kind == 5)=true:=by rw [hk];rfl
      obtain ⟨o1,o2⟩:=ho.obj hk
      have en:j.names.take i++[j.names.getD i []]=j.names:=by rw [←cO_ [] (by omega)];exact List.take_of_length_le (by omega)
      unfold cZ_ at hlen ⊢
      rw [h5,cond_true] at hlen ⊢
      simp only [List.append_assoc] at hlen ⊢
      have hq:=hp_ hlen
      simp only [List.length_append] at hlen
      have hx:=hx (by simp only [List.length_append];simp at hlen ⊢;omega)
      simp only [af_.turn7,af_.step7,bC_,hW,h5,Bool.not_false,cond_true,cond_false,ad_ hq,mp_,hZ_,ad_ hx,cc_,dR_,hcm,el,en]
      exact ⟨by simp;omega,by simp;omega,hlast F hK⟩
   |succ k ihk=>
    intro i hi hlen
    have hp:=dV_ h (i:=i) (by omega)
    have hx:=ih _ hp.size (c1_ (FEnc d) j (k+1) (i+1)++c::r) (kK_ _ _ _ _ (l5_ (kind:=0) hc) r)
    have e5:c1_ (FEnc d) j (k+1) (i+1)++c::r=[44]++(cZ_ (FEnc d) j (i+1)++c1_ (FEnc d) j k (i+2)++c::r):=by rw [lp_];simp
    have hcm:dw_ ⟨c1_ (FEnc d) j (k+1) (i+1)++c::r,false⟩ [44]=(true,⟨cZ_ (FEnc d) j (i+1)++c1_ (FEnc d) j k (i+2)++c::r,false⟩):=by rw [e5];exact eg_ _ _
    have hlen2:(cZ_ (FEnc d) j (i+1)++c1_ (FEnc d) j k (i+2)++c::r).length≤1000000000000:=by
     have:=congrArg List.length e5
     simp only [List.length_append,List.length_cons,List.length_nil] at this hlen ⊢
     omega
    have hnext:=ihk (i+1) (by omega) hlen2
    rw [cO_ aa_.dflt (show i<j.list.length by omega)] at hnext
    refine bo_ ?_
    rw [List.append_assoc] at hlen ⊢
    generalize c1_ (FEnc d) j (k+1) (i+1)++c::r=T at hx hcm hlen ⊢
    rcases hk with hk|hk
    · have h5:(j.kind == 5)=false:=by rw [hk];rfl
      have en:j.names=[]:=ho2.ns0 (by omega)
      have ef:cZ_ (FEnc d) j i=FEnc d (j.list.getD i aa_.dflt):=by unfold cZ_;rw [h5];rfl
      rw [ef] at hlen ⊢
      rw [en,List.take_nil] at hnext
      simp only [af_.turn7,af_.step7,bC_,hW,h5,Bool.not_false,cond_true,cond_false,ad_ (hx hlen),cc_,dR_,hcm,en,List.take_nil]
      exact ⟨by simp;omega,hnext⟩
    · have h5:(j.kind == 5)=true:=by rw [hk];rfl
      obtain ⟨o1,o2⟩:=ho.obj hk
      rw [cO_ [] (show i<j.names.length by omega)] at hnext
      have ef:cZ_ (FEnc d) j i=cS_ (j.names.getD i [])++([58]++FEnc d (j.list.getD i aa_.dflt)):=by unfold cZ_;rw [h5];rfl
      rw [ef] at hlen ⊢
      simp only [List.append_assoc] at hlen ⊢
      have hq:=hp_ hlen
      have hx:=hx (by simp only [List.length_append] at hlen ⊢;simp at hlen ⊢;omega)
      simp only [af_.turn7,af_.step7,bC_,hW,h5,Bool.not_false,cond_true,cond_false,ad_ hq,mp_,hZ_,ad_ hx,cc_,dR_,hcm]
      exact ⟨by simp;omega,by simp;omega,hnext⟩
  have:=key (fun n=>fun xy8 xy9 xy10 xy11 xy12 xy13 xy14 xy15 xy16 xy17 xy18=>((bm_ n (aS_.mk xy9 xy10) xy8).bind fun xr19=>(some ((aa_.mk xy14 xy15 xy16 xy17 xy18),xr19)))) (aa_.mk j.kind 0 [] j.list j.names,⟨r,false⟩) (by simp only [mp_,hWa,ak_]) m 0 (by omega) hl
  exact cF_ (f:=fun n N=>af_.loop7 n (aM_ n) (fun xy8 xy9 xy10 xy11 xy12 xy13 xy14 xy15 xy16 xy17 xy18=>((bm_ n (aS_.mk xy9 xy10) xy8).bind fun xr19=>(some ((aa_.mk xy14 xy15 xy16 xy17 xy18),xr19)))) N j.kind [c] ((d+1:Nat):Int) true (cZ_ (FEnc d) j 0++c1_ (FEnc d) j m 1++c::r) false 0 0 [] j.kind 0 [] [] []) this
theorem kd_ {d:Nat} {j:aa_} (h:bH_ (d+1) j≤400) (hk:j.kind=4∨j.kind=5):aa_.mk j.kind 0 [] j.list j.names=j:=by
 have ho2:=dP_ (dD_ h)
 have e1:=ho2.n0 (by omega) (by omega)
 have e2:=ho2.s0 (by omega)
 obtain ⟨k,n,s,l,ns⟩:=j
 simp only at e1 e2 ⊢
 subst e1 e2;rfl
theorem kB_:∀ (d:Nat),d≤1000→∀ j,bH_ d j≤400→∀ r,Stop r→(FEnc d j++r).length≤1000000000000→Ev (fun n _=>aM_ n ⟨FEnc d j++r,false⟩ (d:Int)) (j,⟨r,false⟩)
 |0,_,j,h,r,_,_=>by simp only [bH_] at h;omega
 |d+1,hd,j,h,r,hs,hl=>by
  have ih:=kB_ d (by omega)
  have ho:=(c4_ h).1
  have ho2:=dP_ (dD_ h)
  have hd1:decide (((d+1:Nat):Int)<1)=false:=decide_eq_false (by omega)
  refine aT_ ?_
  simp only [aM_,bC_,hd1,cond_false,dR_,ad_ e9_]
  rcases ho.kind with hk|hk|hk|hk|hk|hk
  · have e:FEnc (d+1) j=[110,117,108,108]:=by simp only [FEnc,hk,Int.reduceBEq,cond_true]
    have ej:j=aa_.mk 0 0 [] [] []:=by
     have e1:=ho2.n0 (by omega) (by omega)
     have e2:=ho2.s0 (by omega)
     have e3:=ho.list (by omega) (by omega)
     have e4:=ho2.ns0 (by omega)
     obtain ⟨k,n,s,l,ns⟩:=j
     simp only at e1 e2 e3 e4 hk
     subst e1 e2 e3 e4 hk;rfl
    rw [e]
    simp only [eg_,cond_true,ak_]
    rw [ej]
  · have hb:=ho.bool hk
    have e2:=ho2.s0 (by omega)
    have e3:=ho.list (by omega) (by omega)
    have e4:=ho2.ns0 (by omega)
    obtain ⟨k,n,s,l,ns⟩:=j
    simp only at e2 e3 e4 hk hb
    subst e2 e3 e4 hk
    have:n=0∨n=1:=by omega
    rcases this with rfl|rfl
    · have e:FEnc (d+1) (aa_.mk 1 0 [] [] [])++r=102::([97,108,115,101]++r):=rfl
      have e5:dw_ ⟨102::([97,108,115,101]++r),false⟩ [102,97,108,115,101]=(true,⟨r,false⟩):=eg_ [102,97,108,115,101] r
      rw [e]
      simp only [dR_,ad_ e9_,cH_ (show (102:UInt8)≠110 by decide),e5,cond_false,cond_true,ak_]
    · have e:FEnc (d+1) (aa_.mk 1 1 [] [] [])++r=116::([114,117,101]++r):=rfl
      have e5:dw_ ⟨116::([114,117,101]++r),false⟩ [116,114,117,101]=(true,⟨r,false⟩):=eg_ [116,114,117,101] r
      rw [e]
      simp only [dR_,ad_ e9_,cH_ (show (116:UInt8)≠110 by decide),cH_ (show (116:UInt8)≠102 by decide),e5,cond_false,cond_true,ak_]
  · have hn:=ho.num hk
    have e:FEnc (d+1) j=Lib.itoa j.n_:=by simp only [FEnc,hk,Int.reduceBEq,cond_true,cond_false]
    rw [e] at hl ⊢
    have hN:=ny_ hn.1 hn.2 hs hl
    have ej:aa_.mk 2 j.n_ [] [] []=j:=by
     have e2:=ho2.s0 (by omega)
     have e3:=ho.list (by omega) (by omega)
     have e4:=ho2.ns0 (by omega)
     obtain ⟨k,n,s,l,ns⟩:=j
     simp only at e2 e3 e4 hk
     subst e2 e3 e4 hk;rfl
    rw [ej] at hN
    obtain ⟨c,t,ec,hc⟩:=fC_ j.n_
    rw [ec] at hN ⊢
    have ne:∀ x:UInt8,(x.toNat<45∨x.toNat=46∨57<x.toNat)→c≠x:=by
     rintro x hx rfl
     rcases hc with rfl|hc
     · revert hx;decide
     · unfold dW_ at hc;omega
    rw [List.cons_append] at hN ⊢
    simp only [dR_,ad_ e9_,cH_ (ne 110 (by decide)),cH_ (ne 102 (by decide)),cH_ (ne 116 (by decide)),cH_ (ne 91 (by decide)),cH_ (ne 123 (by decide)),kY_ (ne 34 (by decide)),cond_false,ad_ hN,ak_]
  · have ht:=ho2.text hk
    have e:FEnc (d+1) j=cS_ j.s:=by simp only [FEnc,hk,Int.reduceBEq,cond_true,cond_false]
    rw [e] at hl ⊢
    have hq:=hp_ hl
    have ej:aa_.mk 3 0 j.s [] []=j:=by
     have e2:=ho2.n0 (by omega) (by omega)
     have e3:=ho.list (by omega) (by omega)
     have e4:=ho2.ns0 (by omega)
     obtain ⟨k,n,s,l,ns⟩:=j
     simp only at e2 e3 e4 hk
     subst e2 e3 e4 hk;rfl
    have ec:cS_ j.s++r=34::(j.s.flatMap d4_++[34]++r):=by simp [cS_]
    rw [ec] at hq ⊢
    have hpx:pfx [34] (34::(j.s.flatMap d4_++[34]++r))=true:=gv_ [34] _
    simp only [dR_,ad_ e9_,cH_ (show (34:UInt8)≠110 by decide),cH_ (show (34:UInt8)≠102 by decide),cH_ (show (34:UInt8)≠116 by decide),hpx,cond_false,cond_true,ad_ hq,ak_,ej]
  · have e:FEnc (d+1) j=[91]++da_ (FEnc d) j j.list.length++[93]:=by simp only [FEnc,hk,Int.reduceBEq,cond_true,cond_false]
    have e1:FEnc (d+1) j++r=91::(da_ (FEnc d) j j.list.length++93::r):=by rw [e];simp
    rw [e1] at hl ⊢
    have hP:=kZ_ (by omega) h (.inl hk) ih 93 (.inl rfl) r (by simp only [List.length_cons] at hl;omega)
    rw [kd_ h (.inl hk),hk] at hP
    have e5:dw_ ⟨91::(da_ (FEnc d) j j.list.length++93::r),false⟩ [91]=(true,⟨da_ (FEnc d) j j.list.length++93::r,false⟩):=eg_ [91] _
    simp only [dR_,ad_ e9_,cH_ (show (91:UInt8)≠110 by decide),cH_ (show (91:UInt8)≠102 by decide),cH_ (show (91:UInt8)≠116 by decide),kY_ (show (91:UInt8)≠34 by decide),e5,cond_false,cond_true,ad_ hP,ak_]
  · have e:FEnc (d+1) j=[123]++da_ (FEnc d) j j.list.length++[125]:=by simp only [FEnc,hk,Int.reduceBEq,cond_true,cond_false]
    have e1:FEnc (d+1) j++r=123::(da_ (FEnc d) j j.list.length++125::r):=by rw [e];simp
    rw [e1] at hl ⊢
    have hP:=kZ_ (by omega) h (.inr hk) ih 125 (.inr rfl) r (by simp only [List.length_cons] at hl;omega)
    rw [kd_ h (.inr hk),hk] at hP
    have e5:dw_ ⟨123::(da_ (FEnc d) j j.list.length++125::r),false⟩ [123]=(true,⟨da_ (FEnc d) j j.list.length++125::r,false⟩):=eg_ [123] _
    simp only [dR_,ad_ e9_,cH_ (show (123:UInt8)≠110 by decide),cH_ (show (123:UInt8)≠102 by decide),cH_ (show (123:UInt8)≠116 by decide),cH_ (show (123:UInt8)≠91 by decide),kY_ (show (123:UInt8)≠34 by decide),e5,cond_false,cond_true,ad_ hP,ak_]
end Go.Pi
end
section
namespace Go.Pi
abbrev g9_:Nat:=4194304
structure At (s:Bs) (p:Nat) (x:Bs):Prop where
 le:p≤s.length
 eq:s.drop p=x
theorem At.next {s a b:Bs} {p:Nat} (h:At s p (a++b)):At s (p+a.length) b:=by
 have h1:=congrArg List.length h.eq
 simp only [List.length_drop,List.length_append] at h1
 have h2:=h.le
 exact ⟨by omega,by rw [←List.drop_drop,h.eq,List.drop_left]⟩
theorem At.next1 {s t:Bs} {c:UInt8} {p:Nat} (h:At s p (c::t)):At s (p+1) t:=At.next (a:=[c]) h
theorem At.lt {s t:Bs} {c:UInt8} {p:Nat} (h:At s p (c::t)):p<s.length∧s.getD p 0=c:=by
 have h1:=congrArg List.length h.eq
 simp only [List.length_drop,List.length_cons] at h1
 have hp:p<s.length:=by omega
 refine ⟨hp,?_⟩
 have:=dG_ 0 hp
 rw [h.eq] at this
 exact (List.cons.inj this).1.symm
theorem At.end_ {s:Bs} {p:Nat} (h:At s p []):p=s.length:=by
 have h1:=congrArg List.length h.eq
 simp only [List.length_drop,List.length_nil] at h1
 have:=h.le;omega
def fW_ (s:Bs) (p:Nat):Int:=cond (decide (p<s.length)) ((s.getD p 0).toNat:Int) 0
theorem dn_ {s:Bs} {p:Nat} {ok:Bool} {left:Int}:Ev (fun n _=>bS_ n ⟨s,(p:Int),ok,left⟩) (fW_ s p,⟨s,(p:Int),ok,left⟩):=by
 refine aT_ ?_
 simp only [bS_,aI_,bR_,ak_,Int.toNat_natCast,fW_]
 by_cases h:p<s.length
 · rw [decide_eq_true h]
   exact ⟨fun hc=>by have:=of_decide_eq_true hc;omega,fun _=>⟨by omega,rfl⟩⟩
 · rw [decide_eq_false h]
   exact ⟨fun _=>rfl,fun hc=>by have:=of_decide_eq_false hc;omega⟩
theorem do_ {s t:Bs} {c:UInt8} {p:Nat} (h:At s p (c::t)):fW_ s p=(c.toNat:Int):=by
 obtain ⟨h1,h2⟩:=h.lt
 unfold fW_;rw [decide_eq_true h1,h2];rfl
theorem peek_end {s:Bs} {p:Nat} (h:At s p []):fW_ s p=0:=by
 unfold fW_;rw [decide_eq_false (by have:=h.end_;omega)];rfl
theorem j0_ {s:Bs} {p:Nat} (h:fW_ s p≠0):p<s.length:=by
 unfold fW_ at h
 by_cases hp:p<s.length
 · exact hp
 · rw [decide_eq_false hp] at h;exact absurd rfl h
def FTk (s:Bs) (p:Nat) (ok:Bool) (left:Int) (w:Bs):bd_:=cond (pfx w (s.drop p)) ⟨s,((p+w.length:Nat):Int),ok,left⟩ ⟨s,(p:Int),false,left⟩
theorem gH_ {s w:Bs} {p:Nat} {ok:Bool} {left:Int} (hs:s.length≤g9_) (hw:w.length≤100) (hp:p≤s.length):Ev (fun n _=>bv_ n ⟨s,(p:Int),ok,left⟩ w) (FTk s p ok left w):=by
 refine aT_ ?_
 simp only [g9_] at hs
 have e1:W ((s.length:Int) - (p:Int))=(s.length:Int) - p:=W_id (by omega) (by omega)
 have e2:W ((p:Int)+(w.length:Int))=((p+w.length:Nat):Int):=by rw [W_id (by omega) (by omega)];omega
 simp only [bv_,e1,e2,aI_,dv_,ak_,Int.toNat_natCast,FTk]
 have e3:pfx w (s.drop p)=(((s.take (p+w.length)).drop p) == w):=by
  rw [h1_,List.drop_zero,List.drop_take,show p+w.length - p=w.length by omega]
 refine ⟨fun h => ?_,fun h => ?_⟩
 · have h:=of_decide_eq_true h
   cases e:pfx w (s.drop p) with
   |false=>rfl
   |true=>have:=gu_ e;simp only [List.length_drop] at this;omega
 · have h:=of_decide_eq_false h
   refine ⟨by omega,?_⟩
   rw [e3]
   cases ((s.take (p+w.length)).drop p == w)<;>simp
theorem kE_ {s w t:Bs} {p:Nat} {ok:Bool} {left:Int} (h:At s p (w++t)):FTk s p ok left w=⟨s,((p+w.length:Nat):Int),ok,left⟩:=by
 unfold FTk;rw [h.eq,gv_];rfl
theorem hj_ {s w:Bs} {p:Nat} {ok:Bool} {left:Int} (hp:p≤s.length):∃ p' ok',FTk s p ok left w=⟨s,((p':Nat):Int),ok',left⟩∧p≤p'∧p'≤s.length∧(ok'=true→ok=true):=by
 unfold FTk
 cases e:pfx w (s.drop p) with
 |false=>exact ⟨p,false,rfl,by omega,hp,fun h=>(by cases h)⟩
 |true=>have:=gu_ e;simp only [List.length_drop] at this;exact ⟨p+w.length,ok,rfl,by omega,by omega,id⟩
theorem hH_ {s:Bs} {p:Nat} {ok:Bool} {left:Int} (hs:s.length≤g9_) (hp:p≤s.length) :
  Ans (fun n _=>aA_ n ⟨s,(p:Int),ok,left⟩) fun x=>∃ p' ok',x.2=⟨s,((p':Nat):Int),ok',left⟩∧p'≤s.length∧x.1.length≤g9_∧(ok'=true→ok=true):=by
 refine c2_ ?_
 simp only [aA_,bV_ (gH_ (w:=[34]) hs (by simp) hp)]
 obtain ⟨p0,ok0,e0,_,hp0,hk0⟩:=hj_ (w:=[34]) (ok:=ok) (left:=left) hp
 rw [e0]
 have hs':=hs
 simp only [g9_] at hs
 have key:∀ (K:Nat→aA_.K4) (Q:Bs × bd_→Prop),(∀ (q:Nat) b o,q≤s.length→o.length≤g9_→(b=true→ok0=true)→Ans (fun n _=>K n s (q:Int) b left o) Q)→Ans (fun n _=>aA_.loop4 n (K n) n s (p0:Int) ok0 left []) Q:=by
  intro K Q hK
  refine eE_ (σ:=Nat × Bool × List Int) (fun n N st=>aA_.loop4 n (K n) N s (st.1:Int) st.2.1 left st.2.2) (fun st=>s.length - st.1) (fun st=>st.1≤s.length∧st.2.2.length≤st.1∧(st.2.1=true→ok0=true)) _ (fun st hI ih => ?_) (p0,ok0,[]) ⟨hp0,Nat.zero_le _,id⟩
  obtain ⟨q,b,o⟩:=st
  simp only at hI ih ⊢
  have hend:=hK q b o hI.1 (by simp only [g9_];omega) hI.2.2
  have hW:W ((q:Int)+1)=((q+1:Nat):Int):=by rw [W_id (by omega) (by omega)];omega
  have hW2:W (((q+1:Nat):Int)+1)=((q+1+1:Nat):Int):=by rw [W_id (by omega) (by omega)];omega
  simp only [aA_.turn4,aA_.step4,cA_,bV_ dn_,hW,hW2,hB_,eu_,Int.toNat_natCast]
  refine ⟨fun hb=>⟨fun _=>⟨fun h92 => ?_,fun _=>⟨fun hc=>hK q false o hI.1 (by simp only [g9_];omega) (fun h=>(by cases h)),fun hc => ?_⟩⟩,fun _=>hend⟩,fun _=>hend⟩
  · have hlt:q<s.length:=j0_ (fun e=>by rw [e] at h92;revert h92;decide)
    refine ⟨fun hc=>hK (q+1) false o (by omega) (by simp only [g9_];omega) (fun h=>(by cases h)),fun hc => ?_⟩
    have hc:=of_decide_eq_false hc
    exact ⟨by omega,by simp;omega,ih (q+1+1,b,_) ⟨by simp only;omega,by simp;omega,hI.2.2⟩ (by simp only;omega)⟩
  · have hc:=of_decide_eq_false hc
    exact ⟨by omega,by simp;omega,ih (q+1,b,_) ⟨by simp only;omega,by simp;omega,hI.2.2⟩ (by simp only;omega)⟩
 refine key _ _ fun q b o hq ho hb => ?_
 simp only [bV_ (gH_ (w:=[34]) hs' (by simp) hq),ct_]
 obtain ⟨p1,ok1,e1,h2,h3,h4⟩:=hj_ (w:=[34]) (ok:=b) (left:=left) hq
 exact ⟨p1,ok1,e1,h3,by simpa using ho,fun h=>hk0 (hb (h4 h))⟩
theorem hG_ {s t r:Bs} {p:Nat} {left:Int} (hs:s.length≤g9_) (h:At s p (cS_ t++r)) :
  Ev (fun n _=>aA_ n ⟨s,(p:Int),true,left⟩) (t,⟨s,((p+(cS_ t).length:Nat):Int),true,left⟩):=by
 have e:cS_ t++r=[34]++(t.flatMap d4_++34::r):=by simp [cS_]
 have eq:(cS_ t).length=1+(t.flatMap d4_).length+1:=by simp [cS_];omega
 rw [e] at h
 have h1:At s (p+1) (t.flatMap d4_++34::r):=h.next
 refine aT_ ?_
 simp only [aA_,ad_ (gH_ (w:=[34]) hs (by simp) h.le),kE_ h]
 have hs':=hs
 simp only [g9_] at hs
 have key:∀ (K:Nat→aA_.K4) (F:Bs × bd_),Ev (fun n _=>K n s ((p+1+(t.flatMap d4_).length:Nat):Int) true left (bi t)) F →
   ∀ (u v:Bs) (q:Nat),v++u=t→q=p+1+(v.flatMap d4_).length→At s q (u.flatMap d4_++34::r)→Ev (fun n N=>aA_.loop4 n (K n) N s (q:Int) true left (bi v)) F:=by
  intro K F hK u
  induction u with
  |nil=>
   intro v q hv hq ha
   rw [List.append_nil] at hv
   subst hv hq
   refine bo_ ?_
   have ha:At s (p+1+(v.flatMap d4_).length) (34::r):=ha
   simp only [aA_.turn4,aA_.step4,cond_true,ad_ dn_,do_ ha]
   exact hK
  |cons c u ih=>
   intro v q hv hq ha
   have hnext:=ih (v++[c]) (q+(d4_ c).length) (by rw [←hv];simp) (by rw [hq];simp;omega) (by
    rw [List.flatMap_cons,List.append_assoc] at ha;exact ha.next)
   rw [←kq_] at hnext
   have hvl:v.length≤(v.flatMap d4_).length:=by
    clear hv hq hnext
    induction v with
    |nil=>exact Nat.le_refl _
    |cons c v ih=>rw [List.flatMap_cons,List.length_append,List.length_cons];have:1≤(d4_ c).length:=by unfold d4_;split<;>simp
                  omega
   have hbl:=hQ_ v
   rw [List.flatMap_cons,List.append_assoc] at ha
   generalize bi v=o at hnext hbl ⊢
   refine bo_ ?_
   by_cases hc:c=34∨c=92
   · have e1:d4_ c=[92,c]:=if_pos hc
     rw [e1] at ha hnext
     have ha:At s q (92::c::(u.flatMap d4_++34::r)):=ha
     have hl:=ha.next1.lt
     have hW:W ((q:Int)+1)=((q+1:Nat):Int):=by rw [W_id (by omega) (by omega)];omega
     have hW2:W (((q+1:Nat):Int)+1)=((q+1+1:Nat):Int):=by rw [W_id (by omega) (by omega)];omega
     have hge:decide (((q+1:Nat):Int)≥(s.length:Int))=false:=decide_eq_false (by omega)
     have hp1:(((92:UInt8).toNat:Int) != 34)=true:=rfl
     have hp2:(((92:UInt8).toNat:Int) == 92)=true:=rfl
     simp only [aA_.turn4,aA_.step4,cond_true,cond_false,ad_ dn_,do_ ha,hp1,hp2,hW,hW2,hge,bR_,cc_,Int.toNat_natCast,hl.2]
     exact ⟨by omega,by simp;omega,hnext⟩
   · have e1:d4_ c=[c]:=if_neg hc
     rw [e1] at ha hnext
     have ha:At s q (c::(u.flatMap d4_++34::r)):=ha
     have hl:=ha.lt
     have hW:W ((q:Int)+1)=((q+1:Nat):Int):=by rw [W_id (by omega) (by omega)];omega
     have hge:decide ((q:Int)≥(s.length:Int))=false:=decide_eq_false (by omega)
     have hp1:((c.toNat:Int) != 34)=true:=by
      show (!((c.toNat:Int) == 34))=true
      rw [byte34,decide_eq_false fun e=>hc (.inl e)];rfl
     have hp2:((c.toNat:Int) == 92)=false:=by rw [byte92,decide_eq_false fun e=>hc (.inr e)]
     simp only [aA_.turn4,aA_.step4,cond_true,cond_false,ad_ dn_,do_ ha,hp1,hp2,hW,hge,bR_,cc_,Int.toNat_natCast,hl.2]
     exact ⟨by omega,by simp;omega,hnext⟩
 have h2:At s (p+1+(t.flatMap d4_).length) (34::r):=h1.next
 have:=key (fun n=>fun xy4 xy5 xy6 xy7 xy8=>((bv_ n (bd_.mk xy4 xy5 xy6 xy7) [34]).bind fun xr9=>(some ((eY_ xy8),xr9)))) (t,⟨s,((p+(cS_ t).length:Nat):Int),true,left⟩) (by
  simp only [ad_ (gH_ (w:=[34]) hs' (by simp) h2.le),kE_ (w:=[34]) h2,ak_,hi_]
  show (t,bd_.mk s ((p+1+(t.flatMap d4_).length+1:Nat):Int) true left)=_
  rw [show p+1+(t.flatMap d4_).length+1=p+(cS_ t).length by omega]) t [] (p+1) rfl rfl h1
 exact cF_ (f:=fun n N=>aA_.loop4 n (fun xy4 xy5 xy6 xy7 xy8=>((bv_ n (bd_.mk xy4 xy5 xy6 xy7) [34]).bind fun xr9=>(some ((eY_ xy8),xr9)))) N s ((p+1:Nat):Int) true left []) this
theorem hJ_ {s:Bs} {p:Nat} {ok:Bool} {left:Int} (hs:s.length≤g9_) (hp:p≤s.length) :
  Ans (fun n _=>az_ n ⟨s,(p:Int),ok,left⟩) fun x=>∃ p' ok',x.2=⟨s,((p':Nat):Int),ok',left⟩∧p'≤s.length∧(ok'=true→ok=true) ∧ -9223372036854775808≤x.1∧x.1≤9223372036854775807:=by
 have hWr:∀ x:Int,-9223372036854775808≤W x∧W x≤9223372036854775807:=by
  intro x
  show -9223372036854775808≤IntKind.i64.wrap x∧IntKind.i64.wrap x≤9223372036854775807
  rw [IntKind.wrap_i64];omega
 simp only [g9_] at hs
 have key:∀ (K:Nat→az_.K7) (Q:Int × bd_→Prop) (t3:Bool) (t4:Int) (p0:Nat),p0≤s.length→(∀ (q:Nat) (x:Int),q≤s.length → -9223372036854775808≤x→x≤9223372036854775807→Ans (fun n _=>K n t3 t4 x s (q:Int) ok left) Q)→Ans (fun n _=>az_.loop7 n (K n) n t3 t4 0 s (p0:Int) ok left) Q:=by
  intro K Q t3 t4 p0 hp0 hK
  refine eE_ (σ:=Nat × Int) (fun n N st=>az_.loop7 n (K n) N t3 t4 st.2 s (st.1:Int) ok left) (fun st=>s.length - st.1) (fun st=>st.1≤s.length ∧ -9223372036854775808≤st.2∧st.2≤9223372036854775807) _ (fun st hI ih => ?_) (p0,0) ⟨hp0,by simp,by simp⟩
  obtain ⟨q,x⟩:=st
  simp only at hI ih ⊢
  have hend:=hK q x hI.1 hI.2.1 hI.2.2
  have hW:W ((q:Int)+1)=((q+1:Nat):Int):=by rw [W_id (by omega) (by omega)];omega
  simp only [az_.turn7,az_.step7,cA_,bV_ dn_,hW]
  refine ⟨fun h48=>⟨fun _=>⟨fun _ => ?_,fun _=>hend⟩,fun _=>hend⟩,fun _=>hend⟩
  have h48:=of_decide_eq_true h48
  have hlt:q<s.length:=j0_ (fun e=>by omega)
  exact ih (q+1,_) ⟨by simp only;omega,hWr _⟩ (by simp only;omega)
 refine c2_ ?_
 simp only [az_,bV_ dn_,cA_]
 refine ⟨fun h45 => ?_,fun _ => ?_⟩
 · have hlt:p<s.length:=j0_ (fun e=>by rw [e] at h45;revert h45;decide)
   have hW:W ((p:Int)+1)=((p+1:Nat):Int):=by rw [W_id (by omega) (by omega)];omega
   rw [hW]
   refine key _ _ _ _ (p+1) (by omega) fun q x hq hx0 hx1 => ?_
   simp only [cA_,ct_]
   exact ⟨fun _=>⟨fun _=>⟨q,false,rfl,hq,fun h=>(by cases h),hWr _⟩,fun _=>⟨q,false,rfl,hq,fun h=>(by cases h),hx0,hx1⟩⟩,fun _=>⟨fun _=>⟨q,ok,rfl,hq,id,hWr _⟩,fun _=>⟨q,ok,rfl,hq,id,hx0,hx1⟩⟩⟩
 · refine key _ _ _ _ p hp fun q x hq hx0 hx1 => ?_
   simp only [cA_,ct_]
   exact ⟨fun _=>⟨fun _=>⟨q,false,rfl,hq,fun h=>(by cases h),hWr _⟩,fun _=>⟨q,false,rfl,hq,fun h=>(by cases h),hx0,hx1⟩⟩,fun _=>⟨fun _=>⟨q,ok,rfl,hq,id,hWr _⟩,fun _=>⟨q,ok,rfl,hq,id,hx0,hx1⟩⟩⟩
theorem hI_ {s r:Bs} {p:Nat} {left:Int} {n:Int} (hs:s.length≤g9_) (h0 : -1000000000≤n) (h1:n≤1000000000) (hst:Stop r) (h:At s p (Lib.itoa n++r)) :
  Ev (fun m _=>az_ m ⟨s,(p:Int),true,left⟩) (n,⟨s,((p+(Lib.itoa n).length:Nat):Int),true,left⟩):=by
 simp only [g9_] at hs
 have key:∀ (K:Nat→az_.K7) (F:Int × bd_) (t3:Bool) (f:Nat) (D:Bs),(∀ c ∈ D,dW_ c)→∀ (q x:Nat),f≤q→q+D.length≤f+10→hg_ x D≤1000000000→At s q (D++r) →
   Ev (fun n _=>K n t3 (f:Int) (hg_ x D:Int) s ((q+D.length:Nat):Int) true left) F→Ev (fun n N=>az_.loop7 n (K n) N t3 (f:Int) (x:Int) s (q:Int) true left) F:=by
  intro K F t3 f D
  induction D with
  |nil=>
   intro _ q x hf hl hv ha hK
   refine bo_ ?_
   have hK:Ev (fun n _=>K n t3 (f:Int) (x:Int) s (q:Int) true left) F:=hK
   have ha:At s q r:=ha
   simp only [az_.turn7,az_.step7,ad_ dn_,aI_]
   have hnd:¬ (48≤fW_ s q∧fW_ s q≤57):=by
    cases r with
    |nil=>rw [peek_end ha];omega
    |cons c r=>rw [do_ ha];have:=hst c r rfl;unfold dW_ at this;omega
   exact ⟨fun a=>⟨fun b=>absurd ⟨of_decide_eq_true a,of_decide_eq_true b⟩ hnd,fun _=>hK⟩,fun _=>hK⟩
  |cons c D ih=>
   intro hd q x hf hl hv ha hK
   have hc:=hd c (List.mem_cons_self ..)
   unfold dW_ at hc
   rw [gG_] at hv hK
   have hle:=val_le (10*x+(c.toNat - 48)) D
   have ha:At s q (c::(D++r)):=ha
   have hlt:=ha.lt
   simp only [List.length_cons] at hl
   have hn:=ih (fun c hc=>hd c (List.mem_cons_of_mem _ hc)) (q+1) (10*x+(c.toNat - 48)) (by omega) (by omega) hv ha.next1 (by
    rw [show q+1+D.length=q+(c::D).length by simp;omega];exact hK)
   have hW:W ((q:Int)+1)=((q+1:Nat):Int):=by rw [W_id (by omega) (by omega)];omega
   have hW2:W ((q:Int) - (f:Int))=(q:Int) - f:=W_id (by omega) (by omega)
   have hW3:W (10*(x:Int))=((10*x:Nat):Int):=by rw [W_id (by omega) (by omega)];omega
   have hW4:W (((10*x:Nat):Int)+(c.toNat:Int))=((10*x+c.toNat:Nat):Int):=by rw [W_id (by omega) (by omega)];omega
   have hW5:W (((10*x+c.toNat:Nat):Int) - 48)=((10*x+(c.toNat - 48):Nat):Int):=by rw [W_id (by omega) (by omega)];omega
   refine bo_ ?_
   simp only [az_.turn7,az_.step7,ad_ dn_,do_ ha,nj_,hW,hW2,hW3,hW4,hW5,aI_]
   exact ⟨fun _=>⟨fun _=>⟨fun _=>hn,fun hx=>by have:=of_decide_eq_false hx;omega⟩,fun hx=>by have:=of_decide_eq_false hx;omega⟩,fun hx=>by have:=of_decide_eq_false hx;omega⟩
 refine aT_ ?_
 by_cases hn:n<0
 · have e:Lib.itoa n=45::Lib.decDigits n.natAbs:=by unfold Lib.itoa;rw [if_pos hn]
   rw [e] at h ⊢
   have hdp:=iL_ n.natAbs
   have hdl:=l7_ 9 n.natAbs (by omega)
   have hdd:=fQ_ n.natAbs
   have hdv:=jO_ n.natAbs
   generalize Lib.decDigits n.natAbs=D at h hdp hdl hdd hdv ⊢
   have h:At s p (45::(D++r)):=h
   have hlt:=h.lt
   have hW:W ((p:Int)+1)=((p+1:Nat):Int):=by rw [W_id (by omega) (by omega)];omega
   have hW0:W (0 - ((n.natAbs:Nat):Int))=n:=by rw [W_id (by omega) (by omega)];omega
   have h45:(((45:UInt8).toNat:Int) == 45)=true:=rfl
   simp only [az_,ad_ dn_,do_ h,h45,cond_true,hW]
   have hne:(((p+1+D.length:Nat):Int) == ((p+1:Nat):Int))=false:=beq_eq_false_iff_ne.2 (by omega)
   have:=key (fun n=>fun xy5 xy6 xy7 xy8 xy9 xy10 xy11=>(cond (xy9 == xy6) (cond xy5 (some ((W (0 - xy7)),(bd_.mk xy8 xy9 false xy11))) (some (xy7,(bd_.mk xy8 xy9 false xy11)))) (cond xy5 (some ((W (0 - xy7)),(bd_.mk xy8 xy9 xy10 xy11))) (some (xy7,(bd_.mk xy8 xy9 xy10 xy11)))))) (n,⟨s,((p+(45::D).length:Nat):Int),true,left⟩) true (p+1) D hdd (p+1) 0 (Nat.le_refl _) (by omega) (by omega) h.next1 (by
    simp only [hne,cond_false,cond_true,hdv,hW0,ak_,List.length_cons];congr 3;omega)
   exact cF_ (f:=fun n N=>az_.loop7 n (fun xy5 xy6 xy7 xy8 xy9 xy10 xy11=>(cond (xy9 == xy6) (cond xy5 (some ((W (0 - xy7)),(bd_.mk xy8 xy9 false xy11))) (some (xy7,(bd_.mk xy8 xy9 false xy11)))) (cond xy5 (some ((W (0 - xy7)),(bd_.mk xy8 xy9 xy10 xy11))) (some (xy7,(bd_.mk xy8 xy9 xy10 xy11)))))) N true ((p+1:Nat):Int) 0 s ((p+1:Nat):Int) true left) this
 · have e:Lib.itoa n=Lib.decDigits n.toNat:=by unfold Lib.itoa;rw [if_neg hn]
   rw [e] at h ⊢
   have hdp:=iL_ n.toNat
   have hdl:=l7_ 9 n.toNat (by omega)
   have hdd:=fQ_ n.toNat
   have hdv:=jO_ n.toNat
   generalize Lib.decDigits n.toNat=D at h hdp hdl hdd hdv ⊢
   have h45:(fW_ s p == 45)=false:=by
    cases D with
    |nil=>simp at hdp
    |cons c D=>
     have h:At s p (c::(D++r)):=h
     have hc:=hdd c (List.mem_cons_self ..)
     unfold dW_ at hc
     rw [do_ h];exact beq_eq_false_iff_ne.2 (by omega)
   have hN:((n.toNat:Nat):Int)=n:=by omega
   simp only [az_,ad_ dn_,h45,cond_false]
   have hne:(((p+D.length:Nat):Int) == (p:Int))=false:=beq_eq_false_iff_ne.2 (by omega)
   have:=key (fun n=>fun xy12 xy13 xy14 xy15 xy16 xy17 xy18=>(cond (xy16 == xy13) (cond xy12 (some ((W (0 - xy14)),(bd_.mk xy15 xy16 false xy18))) (some (xy14,(bd_.mk xy15 xy16 false xy18)))) (cond xy12 (some ((W (0 - xy14)),(bd_.mk xy15 xy16 xy17 xy18))) (some (xy14,(bd_.mk xy15 xy16 xy17 xy18)))))) (n,⟨s,((p+D.length:Nat):Int),true,left⟩) false p D hdd p 0 (Nat.le_refl _) (by omega) (by omega) h (by
    simp only [hne,cond_false,hdv,hN,ak_])
   exact cF_ (f:=fun n N=>az_.loop7 n (fun xy12 xy13 xy14 xy15 xy16 xy17 xy18=>(cond (xy16 == xy13) (cond xy12 (some ((W (0 - xy14)),(bd_.mk xy15 xy16 false xy18))) (some (xy14,(bd_.mk xy15 xy16 false xy18)))) (cond xy12 (some ((W (0 - xy14)),(bd_.mk xy15 xy16 xy17 xy18))) (some (xy14,(bd_.mk xy15 xy16 xy17 xy18)))))) N false (p:Int) 0 s (p:Int) true left) this
end Go.Pi
end
section
namespace Go.Pi
def mm_ (s:Bs) (left:Int) (d:Nat) (x:aa_ × bd_):Prop :=
 ∃ (p':Nat) (ok':Bool) (left':Int),x.2=⟨s,(p':Int),ok',left'⟩∧p'≤s.length ∧ -1≤left'∧left'<left∧(ok'=true→0≤left')∧fl_ d x.1
theorem many_any {s:Bs} (hs:s.length≤g9_) {d:Nat} (hd:d≤1000) (ih:∀ (p:Nat) (ok:Bool) (left:Int),p≤s.length→0≤left→left≤400→Ans (fun n _=>bk_ n ⟨s,(p:Int),ok,left⟩ (d:Int)) (mm_ s left d))
  (p:Nat) (left:Int) (hp:p<s.length) (h0:0≤left) (h1:left≤400):Ans (fun n _=>aR_ n ⟨s,(p:Int),true,left⟩ ((d+1:Nat):Int)) (mm_ s (left+1) (d+1)):=by
 have hW:W (((d+1:Nat):Int) - 1)=(d:Int):=by rw [W_id (by omega) (by omega)];omega
 have hs':=hs
 simp only [g9_] at hs
 have hWp:W ((p:Int)+1)=((p+1:Nat):Int):=by rw [W_id (by omega) (by omega)];omega
 have key:∀ (K:Nat→aR_.K8_1) (Q:aa_ × bd_→Prop) (kind:Int) (e:UInt8),(∀ (q:Nat) b (l:Int) js ns,q≤s.length → -1≤l→l≤left→(b=true→0≤l)→js.length≤402→(∀ y ∈ js,fl_ d y)→ns.length≤402→(∀ y ∈ ns,y.length≤g9_)→Ans (fun n _=>K n [e] s (q:Int) b l 0 0 [] kind 0 [] js ns) Q) →
   Ans (fun n _=>aR_.loop8 n (bk_ n) (K n) n ((d+1:Nat):Int) [e] s ((p+1:Nat):Int) true left 0 0 [] kind 0 [] [] []) Q:=by
  intro K Q kind e hK
  refine eE_ (σ:=Nat × Bool × Int × List aa_ × List Bs) (fun n N st=>aR_.loop8 n (bk_ n) (K n) N ((d+1:Nat):Int) [e] s (st.1:Int) st.2.1 st.2.2.1 0 0 [] kind 0 [] st.2.2.2.1 st.2.2.2.2)
   (fun st=>(st.2.2.1+1).toNat) (fun st=>st.1≤s.length ∧ -1≤st.2.2.1∧st.2.2.1+st.2.2.2.1.length≤left∧(st.2.1=true→0≤st.2.2.1)∧(∀ y ∈ st.2.2.2.1,fl_ d y)∧st.2.2.2.2.length≤st.2.2.2.1.length∧(∀ y ∈ st.2.2.2.2,y.length≤g9_)) _ (fun st hI ihl => ?_) (p+1,true,left,[],[]) ⟨hp,by simp only;omega,by simp,fun _=>h0,fun y h=>(by cases h),Nat.le_refl _,fun y h=>(by cases h)⟩
  obtain ⟨q,b,l,js,ns⟩:=st
  simp only at hI ihl ⊢
  obtain ⟨i1,i2,i3,i4,i5,i6,i7⟩:=hI
  have hend:=hK q b l js ns i1 i2 (by omega) i4 (by omega) i5 (by omega) i7
  simp only [aR_.turn8,aR_.step8,bC_,hW,cA_,bV_ dn_,hB_,List.length_cons,List.length_nil]
  refine ⟨fun hb=>⟨by omega,fun _ => ?_,fun _=>hend⟩,fun _=>hend⟩
  subst hb
  have l0:=i4 rfl
  have step:∀ (q:Nat) (b:Bool) (ns':List Bs),q≤s.length→ns'.length≤js.length+1→(∀ y ∈ ns',y.length≤g9_) →
    Ans (fun n N=>(bk_ n ⟨s,(q:Int),b,l⟩ (d:Int)).bind fun xr6=>cs_ (js.length+(0+1)) 80 (aR_.loop8 n (bk_ n) (K n) N ((d+1:Nat):Int) [e] xr6.2.s xr6.2.at_ xr6.2.ok xr6.2.left 0 0 [] kind 0 [] (js++[xr6.1]) ns')) Q:=by
   intro q b ns' hq hn hnb
   refine cU_ (ih q b l hq l0 (by omega)) fun v hv => ?_
   obtain ⟨j,c⟩:=v
   obtain ⟨p',ok',left',e1,e2,e3,e4,e5,e6⟩:=hv
   simp only at e1 e6
   subst e1
   simp only [eu_]
   refine ⟨by omega,ihl (p',ok',left',js++[j],ns') ⟨e2,e3,by simp;omega,e5,?_,by simpa using hn,hnb⟩ (by simp only;omega)⟩
   intro y hy
   rcases List.mem_append.1 hy with hy|hy
   · exact i5 y hy
   · obtain rfl:=List.mem_singleton.1 hy;exact e6
  have named:∀ (q:Nat) (b:Bool),q≤s.length →
    Ans (fun n N=>(aA_ n ⟨s,(q:Int),b,l⟩).bind fun xr4=>cs_ (ns.length+(0+1)) 16 ((bv_ n xr4.2 [58]).bind fun xr5=>(bk_ n xr5 (d:Int)).bind fun xr6=>cs_ (js.length+(0+1)) 80 (aR_.loop8 n (bk_ n) (K n) N ((d+1:Nat):Int) [e] xr6.2.s xr6.2.at_ xr6.2.ok xr6.2.left 0 0 [] kind 0 [] (js++[xr6.1]) (ns++[xr4.1])))) Q:=by
   intro q b hq
   refine cU_ (hH_ (ok:=b) (left:=l) hs' hq) fun v hv => ?_
   obtain ⟨t,c⟩:=v
   obtain ⟨p',ok',e1,e2,e3,e4⟩:=hv
   simp only at e1 e3
   subst e1
   obtain ⟨p2,ok2,g1,g2,g3,g4⟩:=hj_ (w:=[58]) (ok:=ok') (left:=l) e2
   simp only [eu_,bV_ (gH_ (w:=[58]) hs' (by simp) e2),g1]
   refine ⟨by omega,step p2 ok2 (ns++[t]) g3 (by simp;omega) fun y hy => ?_⟩
   rcases List.mem_append.1 hy with hy|hy
   · exact i7 y hy
   · obtain rfl:=List.mem_singleton.1 hy;exact e3
  refine ⟨fun _ => ?_,fun _=>⟨fun _=>named q true i1,fun _=>step q true ns i1 (by omega) i7⟩⟩
  obtain ⟨p2,ok2,g1,g2,g3,g4⟩:=hj_ (w:=[44]) (ok:=true) (left:=l) i1
  simp only [bV_ (gH_ (w:=[44]) hs' (by simp) i1),g1,cA_]
  exact ⟨fun _=>named p2 ok2 g3,fun _=>step p2 ok2 ns g3 (by omega) i7⟩
 have fin:∀ (e:UInt8) (kind:Int) (q:Nat) (b:Bool) (l:Int) (js:List aa_) (ns:List Bs),q≤s.length → -1≤l→l≤left→(b=true→0≤l)→js.length≤402→(∀ y ∈ js,fl_ d y)→ns.length≤402→(∀ y ∈ ns,y.length≤g9_) →
   Ans (fun n (_:Nat)=>(bv_ n (bd_.mk s (q:Int) b l) [e]).bind fun xr25=>some ((aa_.mk kind 0 [] js ns),xr25)) (mm_ s (left+1) (d+1)):=by
  intro e kind q b l js ns a1 a2 a3 a4 a5 a6 a7 a8
  obtain ⟨p2,ok2,g1,g2,g3,g4⟩:=hj_ (w:=[e]) (ok:=b) (left:=l) a1
  simp only [bV_ (gH_ (w:=[e]) hs' (by simp) a1),g1,ct_]
  refine ⟨p2,ok2,l,rfl,g3,a2,by omega,fun h=>a4 (g4 h),⟨Nat.zero_le _,?_,fun y hy => ?_⟩,?_,a6⟩
  · show ns.length≤cD_;simp only [cD_];omega
  · have:=a8 y hy;simp only [g9_] at this;simp only [cD_];omega
  · show js.length≤cD_;simp only [cD_];omega
 refine c2_ ?_
 simp only [aR_,bV_ dn_,cA_,hWp]
 exact ⟨fun _=>key _ _ 5 125 fun q b l js ns a1 a2 a3 a4 a5 a6 a7 a8=>fin 125 5 q b l js ns a1 a2 a3 a4 a5 a6 a7 a8,fun _=>key _ _ 4 93 fun q b l js ns a1 a2 a3 a4 a5 a6 a7 a8=>fin 93 4 q b l js ns a1 a2 a3 a4 a5 a6 a7 a8⟩
theorem iA_ {s:Bs} (hs:s.length≤g9_):∀ (d:Nat),d≤1000→∀ (p:Nat) (ok:Bool) (left:Int),p≤s.length→0≤left→left≤400→Ans (fun n _=>bk_ n ⟨s,(p:Int),ok,left⟩ (d:Int)) (mm_ s left d)
 |0,_,p,ok,left,hp,h0,h1=>by
  have hl:W (left - 1)=left - 1:=W_id (by omega) (by omega)
  refine c2_ ?_
  simp only [bk_,cA_,ct_,hl]
  exact ⟨fun _=>⟨p,false,_,rfl,hp,by omega,by omega,fun h=>(by cases h),trivial⟩,fun h=>by simp at h⟩
 |d+1,hd,p,ok,left,hp,h0,h1=>by
  have ihm:=many_any hs (d:=d) (by omega) (iA_ hs d (by omega))
  have hl:W (left - 1)=left - 1:=W_id (by omega) (by omega)
  refine c2_ ?_
  simp only [bk_,bC_,cA_,ct_,hl,bV_ dn_]
  refine ⟨fun h=>by simp at h;omega,fun _=>⟨fun _=>⟨p,false,_,rfl,hp,by omega,by omega,fun h=>(by cases h),dF_⟩,fun hc => ?_⟩⟩
  have hc:=of_decide_eq_false hc
  refine ⟨fun _=>⟨p,ok,_,rfl,hp,by omega,by omega,fun h=>by omega,dF_⟩,fun hok => ?_⟩
  have hok:ok=true:=by simpa using hok
  subst hok
  have lit:∀ (w:Bs) (k n:Int),w.length≤100→Ans (fun m (_:Nat)=>(bv_ m ⟨s,(p:Int),true,left - 1⟩ w).bind fun xr=>some (aa_.mk k n [] [] [],xr)) (mm_ s left (d+1)):=by
   intro w k n hw
   obtain ⟨p2,ok2,g1,g2,g3,g4⟩:=hj_ (w:=w) (ok:=true) (left:=left - 1) hp
   simp only [bV_ (gH_ (w:=w) hs hw hp),g1,ct_]
   exact ⟨p2,ok2,_,rfl,g3,by omega,by omega,fun _=>by omega,dF_⟩
  have num:Ans (fun m (_:Nat)=>(az_ m ⟨s,(p:Int),true,left - 1⟩).bind fun xr=>some (aa_.mk 2 xr.1 [] [] [],xr.2)) (mm_ s left (d+1)):=by
   refine cU_ (hJ_ (ok:=true) (left:=left - 1) hs hp) fun v hv => ?_
   obtain ⟨x,c⟩:=v
   obtain ⟨p',ok',e1,e2,e3,_⟩:=hv
   simp only at e1
   subst e1
   simp only [ct_]
   exact ⟨p',ok',_,rfl,e2,by omega,by omega,fun _=>by omega,dF_⟩
  have many:(fW_ s p == 91)=true∨(fW_ s p == 123)=true→Ans (fun n (_:Nat)=>(aR_ n ⟨s,(p:Int),true,left - 1⟩ ((d+1:Nat):Int)).bind fun xr8=>some (xr8.1,xr8.2)) (mm_ s left (d+1)):=by
   intro hpk
   have hlt:p<s.length:=j0_ (fun e=>by rw [e] at hpk;revert hpk;decide)
   refine cU_ (ihm p (left - 1) hlt (by omega) (by omega)) fun v hv => ?_
   simp only [ct_]
   obtain ⟨p',ok',left',e1,e2,e3,e4,e5,e6⟩:=hv
   exact ⟨p',ok',left',e1,e2,e3,by omega,e5,e6⟩
  refine ⟨fun _=>lit _ 0 0 (by simp),fun _=>⟨fun _=>lit _ 1 1 (by simp),fun _=>⟨fun _=>lit _ 1 0 (by simp),fun _=>⟨fun _ => ?_,fun _=>⟨fun h=>⟨fun _=>many (.inl h),fun _=>num⟩,fun _=>⟨fun h=>many (.inr h),fun _=>num⟩⟩⟩⟩⟩⟩
  refine cU_ (hH_ (ok:=true) (left:=left - 1) hs hp) fun v hv => ?_
  obtain ⟨t,c⟩:=v
  obtain ⟨p',ok',e1,e2,e3,e4⟩:=hv
  simp only at e1 e3
  subst e1
  simp only [ct_]
  exact ⟨p',ok',_,rfl,e2,by omega,by omega,fun _=>by omega,k5_ (by simp only [g9_] at e3;simp only [cD_];omega)⟩
end Go.Pi
end
section
namespace Go.Pi
theorem mN_ {s:Bs} (hs:s.length≤g9_) {d:Nat} (hd:d≤1000) {j:aa_} (h:bH_ (d+1) j≤400) (hk:j.kind=4∨j.kind=5)
  (ih:∀ x,bH_ d x≤400→∀ (p:Nat) (r:Bs) (left:Int),Stop r→(bH_ d x:Int)≤left→left≤400→At s p (FEnc d x++r)→Ev (fun n _=>bk_ n ⟨s,(p:Int),true,left⟩ (d:Int)) (x,⟨s,((p+(FEnc d x).length:Nat):Int),true,left - bH_ d x⟩))
  (o c:UInt8) (hoc:(j.kind=4→o=91∧c=93)∧(j.kind=5→o=123∧c=125)) (r:Bs) (p:Nat) (left:Int) (hl:(dx_ (bH_ d) j.list:Int)≤left) (hl2:left≤400) (ha:At s p (o::(da_ (FEnc d) j j.list.length++c::r))) :
  Ev (fun n _=>aR_ n ⟨s,(p:Int),true,left⟩ ((d+1:Nat):Int)) (aa_.mk j.kind 0 [] j.list j.names,⟨s,((p+1+(da_ (FEnc d) j j.list.length).length+1:Nat):Int),true,left - dx_ (bH_ d) j.list⟩):=by
 have hW:W (((d+1:Nat):Int) - 1)=(d:Int):=by rw [W_id (by omega) (by omega)];omega
 have hs':=hs
 simp only [g9_] at hs
 have hll:=dy_ h
 have hnl:=d6_ h
 have ho:=(c4_ h).1
 have ho2:=dP_ (dD_ h)
 have hlt:=ha.lt
 have hWp:W ((p:Int)+1)=((p+1:Nat):Int):=by rw [W_id (by omega) (by omega)];omega
 have hc:c.toNat=93∨c.toNat=125:=by
  rcases hk with hk|hk
  · rw [(hoc.1 hk).2];exact .inl rfl
  · rw [(hoc.2 hk).2];exact .inr rfl
 have hcd:¬ dW_ c:=l5_ (kind:=0) hc
 have key:∀ (K:Nat→aR_.K8_1) (F:aa_ × bd_) (k i q:Nat) (left:Int),i+k=j.list.length→(dx_ (bH_ d) (j.list.drop i):Int)≤left→left≤400→At s q (c1_ (FEnc d) j k i++c::r) →
   Ev (fun n _=>K n [c] s ((q+(c1_ (FEnc d) j k i).length:Nat):Int) true (left - dx_ (bH_ d) (j.list.drop i)) 0 0 [] j.kind 0 [] j.list j.names) F →
   Ev (fun n N=>aR_.loop8 n (bk_ n) (K n) N ((d+1:Nat):Int) [c] s (q:Int) true left 0 0 [] j.kind 0 [] (j.list.take i) (j.names.take i)) F:=by
  intro K F k
  induction k with
  |zero=>
   intro i q left hi hl _ ha hK
   have ei:i=j.list.length:=by omega
   subst ei
   have en:j.names.take j.list.length=j.names:=by
    rcases hk with hk|hk
    · rw [ho2.ns0 (by omega)];simp
    · exact List.take_of_length_le (by rw [(ho.obj hk).1];exact Nat.le_refl _)
   have ha:At s q (c::r):=ha
   have hK:Ev (fun n _=>K n [c] s (q:Int) true left 0 0 [] j.kind 0 [] j.list j.names) F:=by
    simpa [c1_,dx_] using hK
   refine bo_ ?_
   have hne:((c.toNat:Int) != (([c]:Bs).getD 0 0).toNat)=false:=by simp
   simp only [aR_.turn8,aR_.step8,List.take_length,en,cond_true,ad_ dn_,do_ ha,hne,cond_false,bR_]
   exact ⟨by simp,hK⟩
  |succ k ihk=>
   intro i q left hi hl hl2 ha hK
   have hlti:i<j.list.length:=by omega
   have hp:=dV_ h (i:=i) (by omega)
   rw [eP_ (bH_ d) aa_.dflt hlti] at hl hK
   have hnext:=ihk (i+1)
   rw [cO_ aa_.dflt hlti] at hnext
   have hx:=ih _ hp.size
   have hst:Stop (c1_ (FEnc d) j k (i+1)++c::r):=kK_ _ _ _ _ hcd r
   have etl:(j.list.take i).length=i:=by simp;omega
   have fs_:∀ (q':Nat),At s q' (cZ_ (FEnc d) j i++(c1_ (FEnc d) j k (i+1)++c::r))→q'+(cZ_ (FEnc d) j i).length+(c1_ (FEnc d) j k (i+1)).length=q+(c1_ (FEnc d) j (k+1) i).length →
     Ev (fun n N=>cond (j.kind == 5) ((aA_ n ⟨s,(q':Int),true,left⟩).bind fun xr4=>cs_ ((j.names.take i).length+[xr4.1].length) 16 ((bv_ n xr4.2 [58]).bind fun xr5=>(bk_ n xr5 (d:Int)).bind fun xr6=>cs_ ((j.list.take i).length+[xr6.1].length) 80 (aR_.loop8 n (bk_ n) (K n) N ((d+1:Nat):Int) [c] xr6.2.s xr6.2.at_ xr6.2.ok xr6.2.left 0 0 [] j.kind 0 [] (j.list.take i++[xr6.1]) (j.names.take i++[xr4.1]))))
      ((bk_ n ⟨s,(q':Int),true,left⟩ (d:Int)).bind fun xr6=>cs_ ((j.list.take i).length+[xr6.1].length) 80 (aR_.loop8 n (bk_ n) (K n) N ((d+1:Nat):Int) [c] xr6.2.s xr6.2.at_ xr6.2.ok xr6.2.left 0 0 [] j.kind 0 [] (j.list.take i++[xr6.1]) (j.names.take i)))) F:=by
    intro q' ha' hq'
    rcases hk with hk|hk
    · have h5:(j.kind == 5)=false:=by rw [hk];rfl
      have en:j.names=[]:=ho2.ns0 (by omega)
      have ef:cZ_ (FEnc d) j i=FEnc d (j.list.getD i aa_.dflt):=by unfold cZ_;rw [h5];rfl
      rw [ef] at ha' hq'
      have hx:=hx q' _ left hst (by omega) hl2 ha'
      have hn:=hnext (q'+(FEnc d (j.list.getD i aa_.dflt)).length) (left - bH_ d (j.list.getD i aa_.dflt)) (by omega) (by omega) (by omega) ha'.next (by
       rw [hq',show left - (bH_ d (j.list.getD i aa_.dflt):Int) - (dx_ (bH_ d) (j.list.drop (i+1)):Int)=left - ((bH_ d (j.list.getD i aa_.dflt)+dx_ (bH_ d) (j.list.drop (i+1)):Nat):Int) by omega]
       exact hK)
      rw [en,List.take_nil] at hn
      simp only [h5,cond_false,ad_ hx,cc_,en,List.take_nil]
      exact ⟨by simp;omega,hn⟩
    · have h5:(j.kind == 5)=true:=by rw [hk];rfl
      obtain ⟨o1,o2⟩:=ho.obj hk
      have ef:cZ_ (FEnc d) j i=cS_ (j.names.getD i [])++([58]++FEnc d (j.list.getD i aa_.dflt)):=by unfold cZ_;rw [h5];rfl
      rw [ef] at ha' hq'
      simp only [List.append_assoc] at ha'
      have hq:=hG_ (left:=left) hs' ha'
      have ha2:=ha'.next
      have ha3:=ha2.next
      have hx:=hx _ _ left hst (by omega) hl2 ha3
      rw [cO_ [] (show i<j.names.length by omega)] at hnext
      have hn:=hnext _ (left - bH_ d (j.list.getD i aa_.dflt)) (by omega) (by omega) (by omega) ha3.next (by
       rw [show q'+(cS_ (j.names.getD i [])).length+([58]:Bs).length+(FEnc d (j.list.getD i aa_.dflt)).length+(c1_ (FEnc d) j k (i+1)).length=q+(c1_ (FEnc d) j (k+1) i).length by rw [←hq'];simp only [List.length_append];omega,
        show left - (bH_ d (j.list.getD i aa_.dflt):Int) - (dx_ (bH_ d) (j.list.drop (i+1)):Int)=left - ((bH_ d (j.list.getD i aa_.dflt)+dx_ (bH_ d) (j.list.drop (i+1)):Nat):Int) by omega]
       exact hK)
      simp only [h5,cond_true,ad_ hq,ad_ (gH_ (w:=[58]) hs' (by simp) ha2.le),kE_ ha2,ad_ hx,cc_]
      exact ⟨by simp;omega,by simp;omega,hn⟩
   refine bo_ ?_
   by_cases h0:i=0
   · have e0:c1_ (FEnc d) j (k+1) i=cZ_ (FEnc d) j i++c1_ (FEnc d) j k (i+1):=by rw [c1_,if_pos h0];rfl
     have ha':At s q (cZ_ (FEnc d) j i++(c1_ (FEnc d) j k (i+1)++c::r)):=by rw [e0,List.append_assoc] at ha;exact ha
     have hr:=fs_ q ha' (by rw [e0,List.length_append];omega)
     obtain ⟨a,p0,ep,hp1,hp2,hp3⟩:=jL_ h (i:=i) (by omega)
     have hpk:(fW_ s q != (([c]:Bs).getD 0 0).toNat)=true:=by
      rw [ep] at ha'
      rw [do_ (t:=p0++(c1_ (FEnc d) j k (i+1)++c::r)) ha']
      show (!((a.toNat:Int) == (c.toNat:Int)))=true
      rw [beq_eq_false_iff_ne.2 (by omega)];rfl
     have hg:decide (((j.list.take i).length:Int) > 0)=false:=decide_eq_false (by omega)
     simp only [aR_.turn8,aR_.step8,bC_,hW,cond_true,ad_ dn_,hpk,hg,cond_false,bR_]
     exact ⟨by simp,hr⟩
   · have e0:c1_ (FEnc d) j (k+1) i=[44]++(cZ_ (FEnc d) j i++c1_ (FEnc d) j k (i+1)):=by rw [c1_,if_neg h0]
     have ha':At s q ([44]++(cZ_ (FEnc d) j i++(c1_ (FEnc d) j k (i+1)++c::r))):=by rw [e0,List.append_assoc,List.append_assoc] at ha;exact ha
     have hr:=fs_ (q+([44]:Bs).length) ha'.next (by rw [e0];simp only [List.length_append];omega)
     have hpk:(fW_ s q != (([c]:Bs).getD 0 0).toNat)=true:=by
      rw [do_ (c:=44) ha']
      show (!(((44:UInt8).toNat:Int) == (c.toNat:Int)))=true
      rw [beq_eq_false_iff_ne.2 (show (((44:UInt8).toNat:Int))≠(c.toNat:Int) by show (44:Int)≠_;omega)];rfl
     have hg:decide (((j.list.take i).length:Int) > 0)=true:=decide_eq_true (by omega)
     simp only [aR_.turn8,aR_.step8,bC_,hW,cond_true,ad_ dn_,hpk,hg,ad_ (gH_ (w:=[44]) hs' (by simp) ha'.le),kE_ ha',bR_]
     exact ⟨by simp,hr⟩
 have ha1:=ha.next1
 rw [iZ_] at ha1 ⊢
 have ha2:=ha1.next
 have fin:Ev (fun n (_:Nat)=>(bv_ n (bd_.mk s ((p+1+(c1_ (FEnc d) j j.list.length 0).length:Nat):Int) true (left - dx_ (bH_ d) (j.list.drop 0))) [c]).bind fun xr25=>some ((aa_.mk j.kind 0 [] j.list j.names),xr25)) (aa_.mk j.kind 0 [] j.list j.names,⟨s,((p+1+(c1_ (FEnc d) j j.list.length 0).length+1:Nat):Int),true,left - dx_ (bH_ d) j.list⟩):=by
  simp only [ad_ (gH_ (w:=[c]) hs' (by simp) ha2.le),kE_ (w:=[c]) ha2,ak_,List.drop_zero];rfl
 refine aT_ ?_
 simp only [aR_,ad_ dn_,do_ ha,hWp]
 rcases hk with hk|hk
 · obtain ⟨rfl,rfl⟩:=hoc.1 hk
   have h1:(((91:UInt8).toNat:Int) == 123)=false:=rfl
   have:=key (fun n=>fun xy26 xy27 xy28 xy29 xy30 xy31 xy32 xy33 xy34 xy35 xy36 xy37 xy38=>((bv_ n (bd_.mk xy27 xy28 xy29 xy30) xy26).bind fun xr39=>(some ((aa_.mk xy34 xy35 xy36 xy37 xy38),xr39)))) _ j.list.length 0 (p+1) left (by omega) (by rw [List.drop_zero];exact hl) hl2 ha1 fin
   rw [hk] at this ⊢
   simp only [h1,cond_false]
   exact cF_ this
 · obtain ⟨rfl,rfl⟩:=hoc.2 hk
   have h1:(((123:UInt8).toNat:Int) == 123)=true:=rfl
   have:=key (fun n=>fun xy12 xy13 xy14 xy15 xy16 xy17 xy18 xy19 xy20 xy21 xy22 xy23 xy24=>((bv_ n (bd_.mk xy13 xy14 xy15 xy16) xy12).bind fun xr25=>(some ((aa_.mk xy20 xy21 xy22 xy23 xy24),xr25)))) _ j.list.length 0 (p+1) left (by omega) (by rw [List.drop_zero];exact hl) hl2 ha1 fin
   rw [hk] at this ⊢
   simp only [h1,cond_true]
   exact cF_ this
theorem iz_ {s:Bs} (hs:s.length≤g9_):∀ (d:Nat),d≤1000→∀ x,bH_ d x≤400→∀ (p:Nat) (r:Bs) (left:Int),Stop r→(bH_ d x:Int)≤left→left≤400→At s p (FEnc d x++r)→Ev (fun n _=>bk_ n ⟨s,(p:Int),true,left⟩ (d:Int)) (x,⟨s,((p+(FEnc d x).length:Nat):Int),true,left - bH_ d x⟩)
 |0,_,x,h,p,r,left,_,_,_,_=>by simp only [bH_] at h;omega
 |d+1,hd,j,h,p,r,left,hst,hl,hl2,ha=>by
  have ih:=iz_ hs d (by omega)
  have ho:=(c4_ h).1
  have ho2:=dP_ (dD_ h)
  have hsz:=(c4_ h).2
  have hpos:=lA_ (d+1) j
  have hWl:W (left - 1)=left - 1:=W_id (by omega) (by omega)
  have hz:((((d+1:Nat):Int)) == 0)=false:=beq_eq_false_iff_ne.2 (by omega)
  have hlt:decide (left - 1<0)=false:=decide_eq_false (by omega)
  refine aT_ ?_
  simp only [bk_,bC_,hWl,hz,hlt,Bool.not_true,cond_false,ad_ dn_]
  have one:j.list=[]→left - 1=left - (bH_ (d+1) j:Int):=by
   intro e;rw [hsz,e];simp [dx_]
  rcases ho.kind with hk|hk|hk|hk|hk|hk
  · have e:FEnc (d+1) j=[110,117,108,108]:=by simp only [FEnc,hk,Int.reduceBEq,cond_true]
    have e3:=ho.list (by omega) (by omega)
    rw [←one e3]
    have ej:j=aa_.mk 0 0 [] [] []:=by
     have e1:=ho2.n0 (by omega) (by omega)
     have e2:=ho2.s0 (by omega)
     have e4:=ho2.ns0 (by omega)
     obtain ⟨k,n,s,l,ns⟩:=j
     simp only at e1 e2 e3 e4 hk
     subst e1 e2 e3 e4 hk;rfl
    rw [e] at ha ⊢
    have hpk:=do_ (c:=110) (t:=[117,108,108]++r) ha
    have c1:(((110:UInt8).toNat:Int) == 110)=true:=rfl
    simp only [hpk,c1,cond_true,ad_ (gH_ (w:=[110,117,108,108]) hs (by simp) ha.le),kE_ ha,ak_]
    rw [ej]
  · have hb:=ho.bool hk
    have e2:=ho2.s0 (by omega)
    have e3:=ho.list (by omega) (by omega)
    have e4:=ho2.ns0 (by omega)
    rw [←one e3]
    obtain ⟨k,n,ss,l,ns⟩:=j
    simp only at e2 e3 e4 hk hb
    subst e2 e3 e4 hk
    have:n=0∨n=1:=by omega
    rcases this with rfl|rfl
    · have e:FEnc (d+1) (aa_.mk 1 0 [] [] [])=[102,97,108,115,101]:=rfl
      rw [e] at ha ⊢
      have hpk:=do_ (c:=102) (t:=[97,108,115,101]++r) ha
      have c1:(((102:UInt8).toNat:Int) == 110)=false:=rfl
      have c2:(((102:UInt8).toNat:Int) == 116)=false:=rfl
      have c3:(((102:UInt8).toNat:Int) == 102)=true:=rfl
      simp only [hpk,c1,c2,c3,cond_true,cond_false,ad_ (gH_ (w:=[102,97,108,115,101]) hs (by simp) ha.le),kE_ ha,ak_]
    · have e:FEnc (d+1) (aa_.mk 1 1 [] [] [])=[116,114,117,101]:=rfl
      rw [e] at ha ⊢
      have hpk:=do_ (c:=116) (t:=[114,117,101]++r) ha
      have c1:(((116:UInt8).toNat:Int) == 110)=false:=rfl
      have c2:(((116:UInt8).toNat:Int) == 116)=true:=rfl
      simp only [hpk,c1,c2,cond_true,cond_false,ad_ (gH_ (w:=[116,114,117,101]) hs (by simp) ha.le),kE_ ha,ak_]
  · have hn:=ho.num hk
    have e:FEnc (d+1) j=Lib.itoa j.n_:=by simp only [FEnc,hk,Int.reduceBEq,cond_true,cond_false]
    have e3:=ho.list (by omega) (by omega)
    rw [←one e3]
    rw [e] at ha ⊢
    have hN:=hI_ (left:=left - 1) hs hn.1 hn.2 hst ha
    have ej:aa_.mk 2 j.n_ [] [] []=j:=by
     have e2:=ho2.s0 (by omega)
     have e4:=ho2.ns0 (by omega)
     obtain ⟨k,n,s,l,ns⟩:=j
     simp only at e2 e3 e4 hk
     subst e2 e3 e4 hk;rfl
    obtain ⟨c,t,ec,hc⟩:=fC_ j.n_
    have hpk:fW_ s p=(c.toNat:Int):=by
     rw [ec] at ha
     exact do_ (t:=t++r) ha
    have ne:∀ x:Int,(x<45∨x=46∨57<x)→((c.toNat:Int) == x)=false:=by
     intro x hx
     refine beq_eq_false_iff_ne.2 ?_
     rcases hc with rfl|hc
     · show (45:Int)≠x;omega
     · unfold dW_ at hc;omega
    simp only [hpk,ne 110 (by decide),ne 116 (by decide),ne 102 (by decide),ne 34 (by decide),ne 91 (by decide),ne 123 (by decide),cond_false,ad_ hN,ak_,ej]
  · have ht:=ho2.text hk
    have e:FEnc (d+1) j=cS_ j.s:=by simp only [FEnc,hk,Int.reduceBEq,cond_true,cond_false]
    have e3:=ho.list (by omega) (by omega)
    rw [←one e3]
    rw [e] at ha ⊢
    have hq:=hG_ (left:=left - 1) hs ha
    have ej:aa_.mk 3 0 j.s [] []=j:=by
     have e2:=ho2.n0 (by omega) (by omega)
     have e4:=ho2.ns0 (by omega)
     obtain ⟨k,n,s,l,ns⟩:=j
     simp only at e2 e3 e4 hk
     subst e2 e3 e4 hk;rfl
    have hpk:fW_ s p=((34:UInt8).toNat:Int):=do_ (c:=34) (t:=j.s.flatMap d4_++[34]++r) (by
     have:cS_ j.s++r=34::(j.s.flatMap d4_++[34]++r):=by simp [cS_]
     rw [←this];exact ha)
    have c1:(((34:UInt8).toNat:Int) == 110)=false:=rfl
    have c2:(((34:UInt8).toNat:Int) == 116)=false:=rfl
    have c3:(((34:UInt8).toNat:Int) == 102)=false:=rfl
    have c4:(((34:UInt8).toNat:Int) == 34)=true:=rfl
    simp only [hpk,c1,c2,c3,c4,cond_true,cond_false,ad_ hq,ak_,ej]
  · have e:FEnc (d+1) j=[91]++da_ (FEnc d) j j.list.length++[93]:=by simp only [FEnc,hk,Int.reduceBEq,cond_true,cond_false]
    have e1:FEnc (d+1) j++r=91::(da_ (FEnc d) j j.list.length++93::r):=by rw [e];simp
    have e2:p+(FEnc (d+1) j).length=p+1+(da_ (FEnc d) j j.list.length).length+1:=by rw [e];simp;omega
    rw [e1] at ha
    rw [e2]
    have hP:=mN_ hs (by omega) h (.inl hk) ih 91 93 ⟨fun _=>⟨rfl,rfl⟩,fun h=>by omega⟩ r p (left - 1) (by omega) (by omega) ha
    rw [kd_ h (.inl hk),show left - 1 - (dx_ (bH_ d) j.list:Int)=left - (bH_ (d+1) j:Int) by rw [hsz];omega] at hP
    have hpk:=do_ ha
    have c1:(((91:UInt8).toNat:Int) == 110)=false:=rfl
    have c2:(((91:UInt8).toNat:Int) == 116)=false:=rfl
    have c3:(((91:UInt8).toNat:Int) == 102)=false:=rfl
    have c4:(((91:UInt8).toNat:Int) == 34)=false:=rfl
    have c5:(((91:UInt8).toNat:Int) == 91)=true:=rfl
    simp only [hpk,c1,c2,c3,c4,c5,cond_true,cond_false,ad_ hP,ak_]
  · have e:FEnc (d+1) j=[123]++da_ (FEnc d) j j.list.length++[125]:=by simp only [FEnc,hk,Int.reduceBEq,cond_true,cond_false]
    have e1:FEnc (d+1) j++r=123::(da_ (FEnc d) j j.list.length++125::r):=by rw [e];simp
    have e2:p+(FEnc (d+1) j).length=p+1+(da_ (FEnc d) j j.list.length).length+1:=by rw [e];simp;omega
    rw [e1] at ha
    rw [e2]
    have hP:=mN_ hs (by omega) h (.inr hk) ih 123 125 ⟨fun h=>by omega,fun _=>⟨rfl,rfl⟩⟩ r p (left - 1) (by omega) (by omega) ha
    rw [kd_ h (.inr hk),show left - 1 - (dx_ (bH_ d) j.list:Int)=left - (bH_ (d+1) j:Int) by rw [hsz];omega] at hP
    have hpk:=do_ ha
    have c1:(((123:UInt8).toNat:Int) == 110)=false:=rfl
    have c2:(((123:UInt8).toNat:Int) == 116)=false:=rfl
    have c3:(((123:UInt8).toNat:Int) == 102)=false:=rfl
    have c4:(((123:UInt8).toNat:Int) == 34)=false:=rfl
    have c5:(((123:UInt8).toNat:Int) == 91)=false:=rfl
    have c6:(((123:UInt8).toNat:Int) == 123)=true:=rfl
    simp only [hpk,c1,c2,c3,c4,c5,c6,cond_true,cond_false,ad_ hP,ak_]
end Go.Pi
end
section
namespace Go.Pi
theorem i0_ {a b:List Bs} (ha:a.length≤cD_):Ev (fun n _=>am_ n a b) (gD_ a b):=by
 refine aT_ ?_
 simp only [am_,ne_len,aI_,ak_]
 unfold gD_
 by_cases hl:a.length=b.length
 · rw [decide_eq_true hl]
   refine ⟨fun h=>(by cases h),fun _ => ?_⟩
   refine h5_ (gn_ (fun n N i=>am_.loop6 n (some true) N a b (a.length:Int) (i:Int)) (fun i=>a.getD i [] == b.getD i []) (len:=a.length) (v:=true) (fun i w hi ih => ?_) ?_) (by rw [Bool.and_true,Bool.true_and])
   · simp only [am_.turn6,am_.step6,Int.toNat_natCast,W_up hi ha,aI_,bR_,ak_,dS_ ih,cV_ hi,cK_ hi,cK_ (hl ▸ hi)]
     cases (a.getD i [] == b.getD i [])<;>simp
   · simp only [am_.turn6,am_.step6,cR_,cond_false,ak_]
 · rw [decide_eq_false hl]
   exact ⟨fun _=>rfl,fun h=>(by cases h)⟩
theorem gZ_:∀ (d:Nat) (a b:aa_),nW_ d a→fl_ d a→Ev (fun n _=>cp_ n a b) (ef_ d a b)
 |0,a,b,h,_=>h.elim
 |d+1,a,b,h,hl=>by
  refine aT_ ?_
  have hE:Ev (fun n _=>ab_ n a.list b.list) (decide (a.list.length=b.list.length)&&mh_ (fun i=>ef_ d (a.list.getD i aa_.dflt) (b.list.getD i aa_.dflt)) a.list.length):=by
   refine aT_ ?_
   simp only [ab_,ne_len,aI_,ak_]
   by_cases hq:a.list.length=b.list.length
   · rw [decide_eq_true hq]
     refine ⟨fun h=>(by cases h),fun _ => ?_⟩
     refine h5_ (gn_ (fun n N i=>ab_.loop6 n (cp_ n) (some true) N b.list a.list (a.list.length:Int) (i:Int)) (fun i=>ef_ d (a.list.getD i aa_.dflt) (b.list.getD i aa_.dflt)) (len:=a.list.length) (v:=true) (fun i w hi ih => ?_) ?_) (by rw [Bool.and_true,Bool.true_and])
     · have hx:=gZ_ d (a.list.getD i aa_.dflt) (b.list.getD i aa_.dflt) (h _ (cG_ _ hi)) (hl.2.2 _ (cG_ _ hi))
       simp only [ab_.turn6,ab_.step6,bC_,Int.toNat_natCast,W_up hi hl.2.1,aI_,bR_,ad_ hx,ak_,dS_ ih,cV_ hi,cK_ hi,cK_ (hq ▸ hi)]
       cases ef_ d (a.list.getD i aa_.dflt) (b.list.getD i aa_.dflt)<;>simp
     · simp only [ab_.turn6,ab_.step6,cR_,cond_false,ak_]
   · rw [decide_eq_false hq]
     exact ⟨fun _=>rfl,fun h=>(by cases h)⟩
  simp only [cp_,aI_,ad_ (i0_ (b:=b.names) hl.1.2.1),ad_ hE,ak_,ef_]
  cases (a.kind == b.kind)<;>cases (a.n_ == b.n_)<;>cases (a.s == b.s)<;>cases gD_ a.names b.names<;>simp
end Go.Pi
end
section
namespace Go.Pi
def eV_ (a b:aa_):Bool:=cT_ a&&(cT_ b&&ef_ 6 a b)
theorem fm_ {a b:aa_} (ha:fl_ 6 a) (hb:fl_ 6 b):Ev (fun n _=>b2_ n a b) (eV_ a b):=by
 refine aT_ ?_
 simp only [b2_,bC_,ad_ (dl_ ha),ad_ (dl_ hb),aI_,ak_,eV_]
 cases h1:cT_ a with
 |false=>simp
 |true=>
  have hd:nW_ 6 a:=gb_ 6 a (of_decide_eq_true h1)
  simp only [ad_ (gZ_ 6 a b hd ha),ak_]
  cases cT_ b<;>simp
theorem fk_ {a b:aa_} (ha:fl_ 6 a) (hb:fl_ 6 b):Ev (fun n _=>b1_ n a b) (eV_ a b):=by
 refine aT_ ?_
 simp only [b1_,bC_,ad_ (di_ ha),ad_ (di_ hb),aI_,ak_,eV_]
 cases h1:cT_ a with
 |false=>simp
 |true=>
  have hd:nW_ 6 a:=gb_ 6 a (of_decide_eq_true h1)
  simp only [ad_ (eH_ 6 a b hd ha),ak_]
  cases cT_ b<;>simp
end Go.Pi
end
section
namespace Go.Pi
theorem fZ_ {d:Nat} {j:aa_} (h:bH_ (d+1) j≤400) {x:aa_} (hx:x ∈ j.list):bH_ d x≤400:=by
 have:=(c4_ h).2
 have:=hk_ (bH_ d) hx
 omega
theorem cQ_:∀ (d:Nat) (j:aa_),bH_ d j≤400→fl_ d j
 |0,_,_=>trivial
 |d+1,j,h=>by
  have ho:=(c4_ h).1
  have ho2:=dP_ (dD_ h)
  have hll:=dy_ h
  have hnl:=d6_ h
  refine ⟨⟨?_,by simp only [cD_];omega,fun x hx => ?_⟩,by simp only [cD_];omega,fun x hx=>cQ_ d x (fZ_ h hx)⟩
  · by_cases hk:j.kind=3
    · have:=fV_ (ho2.text hk);simp only [cD_];omega
    · rw [ho2.s0 hk];exact Nat.zero_le _
  · by_cases hk:j.kind=5
    · obtain ⟨i,hi,e⟩:=List.getElem_of_mem hx
      have:=gd_ (ho.obj hk).2 hi
      rw [List.getD_eq_getElem?_getD,List.getElem?_eq_getElem hi,Option.getD_some,e] at this
      simp only [cD_];omega
    · rw [ho2.ns0 hk] at hx;cases hx
theorem je_ {α:Type} {f g:α→Nat}:∀ {l:List α},(∀ x ∈ l,f x=g x)→dx_ f l=dx_ g l
 |[],_=>rfl
 |x::l,h=>by
  simp only [dx_]
  rw [h x (List.mem_cons_self ..),je_ fun y hy=>h y (List.mem_cons_of_mem _ hy)]
theorem h8_:∀ (d:Nat) (j:aa_),bH_ d j≤400→bH_ (d+1) j=bH_ d j
 |0,j,h=>by simp only [bH_] at h;omega
 |d+1,j,h=>by
  have hs:=(c4_ h).2
  have ho:=dD_ h
  have e:dx_ (bH_ (d+1)) j.list=dx_ (bH_ d) j.list:=je_ fun x hx=>h8_ d x (fZ_ h hx)
  rw [bH_,ho,cond_true,e,←hs];omega
theorem dk_:bH_ 6 fq_≤400:=by decide
theorem hN_ {j:aa_} (h:bG_ j≠[]):bH_ 6 j≤400∧bG_ j=FEnc 6 j∧(FEnc 6 j).length≤6000:=by
 unfold bG_ at h ⊢
 cases hj:cT_ j with
 |false=>rw [hj] at h;exact absurd rfl h
 |true=>
  rw [hj] at h
  simp only [cond_true] at h ⊢
  cases hl:decide (((FEnc 6 j).length:Int) > 6000) with
  |true=>rw [hl] at h;exact absurd rfl h
  |false=>have:=of_decide_eq_false hl;exact ⟨of_decide_eq_true hj,rfl,by omega⟩
theorem fJ_ {s:Bs} (hs:s.length≤4194304):Ans (fun n _=>b8_ n s) fun x=>bH_ 6 x.1≤400:=by
 refine c2_ ?_
 simp only [b8_,bC_,cA_,ct_]
 refine ⟨fun _=>dk_,fun _ => ?_⟩
 by_cases h0:s=[]
 · subst h0
   have hN:Ev (fun n _=>ag_ n ⟨[],false⟩) (aa_.mk 2 0 [] [] [],⟨[],true⟩):=by
    have hA:Ev (fun n _=>bU_ n []) (0,false):=i1_ (s:=[]) (by simp)
    refine aT_ ?_
    simp only [ag_]
    refine cF_ (f:=fun n N=>ag_.loop3 n (fun xy2 xy3 xy4 xy5 xy6 xy7=>(f6_ 0 xy2 xy3.length ((bU_ n ((xy3.take xy2.toNat).drop 0)).bind fun xr8=>(cond (!xr8.2) (f6_ xy2 (xy3.length:Int) xy3.length (some ((aa_.mk 2 xr8.1 [] ([]:List aa_) ([]:List Bs)),(aS_.mk ((xy3.take (xy3.length:Int).toNat).drop xy2.toNat) true)))) (f6_ xy2 (xy3.length:Int) xy3.length (some ((aa_.mk 2 xr8.1 [] ([]:List aa_) ([]:List Bs)),(aS_.mk ((xy3.take (xy3.length:Int).toNat).drop xy2.toNat) xy4)))))))) N 0 [] false 0 0 []) (bo_ ?_)
    have e0:(([]:Bs).take (0:Int).toNat).drop 0=[]:=rfl
    have c0:decide ((0:Int)<((([]:Bs).length:Nat):Int))=false:=rfl
    simp only [ag_.turn3,ag_.step3,c0,cond_false,e0,dv_,ad_ hA,Bool.not_false,cond_true,ak_]
    exact ⟨⟨by decide,by decide,by decide⟩,⟨by decide,by decide,by decide⟩,rfl⟩
   have hv:Ev (fun n _=>aM_ n ⟨[],false⟩ 6) (aa_.mk 2 0 [] [] [],⟨[],true⟩):=by
    have hd1:decide ((6:Int)<1)=false:=rfl
    refine aT_ ?_
    simp only [aM_,bC_,hd1,cond_false,dR_,ad_ e9_,take_nil,pfx_nil,ad_ hN,ak_]
   simp only [bV_ hv,cond_true,ct_]
   exact dk_
 · refine cU_ (kC_ 6 (by omega) ⟨s,false⟩ hs) fun v hv => ?_
   simp only [cA_,ct_,bV_ (c9_ hv.2)]
   refine ⟨fun _=>dk_,fun _=>⟨fun _=>dk_,fun h => ?_⟩⟩
   have e:bG_ v.1=s:=by simpa using h
   exact (hN_ (by rw [e];exact h0)).1
theorem fI_ {j:aa_} (h:bG_ j≠[]):Ev (fun n _=>b8_ n (bG_ j)) (j,true):=by
 obtain ⟨h1,h2,h3⟩:=hN_ h
 have hv:=kB_ 6 (by omega) j h1 [] jT_ (by rw [List.append_nil];omega)
 rw [List.append_nil,←h2] at hv
 have hv:Ev (fun n _=>aM_ n ⟨bG_ j,false⟩ 6) (j,⟨[],false⟩):=hv
 have hE:=c9_ (cQ_ 6 j h1)
 have hl:decide (((bG_ j).length:Int) > 6000)=false:=by rw [h2];exact decide_eq_false (by omega)
 refine aT_ ?_
 simp only [b8_,bC_,hl,cond_false,ad_ hv,ad_ hE,beq_self_eq_true,Bool.not_true,ak_]
theorem ij_ {s:Bs} (hs:s.length≤4194304):Ans (fun n _=>ce_ n s) fun x=>bH_ 6 x.1≤400:=by
 refine c2_ ?_
 simp only [ce_,bC_,cA_,ct_]
 refine ⟨fun _=>dk_,fun h0=>⟨fun _=>dk_,fun _ => ?_⟩⟩
 refine cU_ (iA_ (s:=s) hs 6 (by omega) 0 true 400 (Nat.zero_le _) (by omega) (by omega)) fun v hv => ?_
 obtain ⟨p',ok',left',e1,e2,e3,e4,e5,e6⟩:=hv
 simp only [cA_,ct_,bV_ (dj_ e6)]
 refine ⟨fun _=>dk_,fun _=>⟨fun _=>dk_,fun _=>⟨fun _=>dk_,fun h => ?_⟩⟩⟩
 have e:bG_ v.1=s:=by simpa using h
 exact (hN_ (by rw [e];intro e;rw [e] at h0;cases h0)).1
theorem fx_ {j:aa_} (h:bG_ j≠[]):Ev (fun n _=>ce_ n (bG_ j)) (j,true):=by
 obtain ⟨h1,h2,h3⟩:=hN_ h
 have hsz:(bG_ j).length≤6000:=by rw [h2];exact h3
 have hv:=iz_ (s:=bG_ j) (by simp only [g9_];omega) 6 (by omega) j h1 0 [] 400 jT_ (by omega) (by omega) ⟨Nat.zero_le _,by rw [List.append_nil,←h2];rfl⟩
 have hv:Ev (fun n _=>bk_ n ⟨bG_ j,0,true,400⟩ 6) (j,⟨bG_ j,((0+(FEnc 6 j).length:Nat):Int),true,400 - bH_ 6 j⟩):=hv
 have hE:=dj_ (cQ_ 6 j h1)
 have hl:decide (((bG_ j).length:Int) > 6000)=false:=decide_eq_false (by omega)
 have hn:(bG_ j == [])=false:=beq_eq_false_iff_ne.2 h
 have ha:(((0+(FEnc 6 j).length:Nat):Int) != ((bG_ j).length:Int))=false:=by rw [h2];simp
 refine aT_ ?_
 simp only [ce_,bC_,hl,hn,cond_false,ad_ hv,ha,ad_ hE,beq_self_eq_true,Bool.not_true,ak_]
def FIdx (l:List Bs) (x:Bs):Int:=if l.findIdx (fun y=>y == x)<l.length then ((l.findIdx (fun y=>y == x):Nat):Int) else -1
theorem kM_ {j:aa_} {x:Bs} (h:j.names.length≤cD_):Ev (fun n _=>bA_ n j x) (FIdx j.names x):=by
 refine aT_ ?_
 unfold FIdx
 rw [←hM_ ([]:Bs) (fun y=>y == x) j.names]
 simp only [bA_]
 refine ev_fold (fun n N i=>bA_.loop3 n (some (-1)) N x (i:Int) j.kind j.n_ j.s j.list j.names) _ (fun i u hi ih => ?_) ?_
 · simp only [bA_.turn3,bA_.step3,Int.toNat_natCast,W_up hi h,aI_,bR_,ak_,dS_ ih,cV_ hi,cK_ hi]
   cases (j.names.getD i [] == x)<;>simp
 · simp only [bA_.turn3,bA_.step3,cR_,cond_false,ak_]
theorem ev_ {l:List Bs} {x:Bs} (h:l.length≤cD_):Ev (fun n _=>al_ n l x) (FIdx l x):=by
 refine aT_ ?_
 unfold FIdx
 rw [←hM_ ([]:Bs) (fun y=>y == x) l]
 simp only [al_]
 refine ev_fold (fun n N i=>al_.loop3 n (some (-1)) N l x (l.length:Int) (i:Int)) _ (fun i u hi ih => ?_) ?_
 · simp only [al_.turn3,al_.step3,Int.toNat_natCast,W_up hi h,aI_,bR_,ak_,dS_ ih,cV_ hi,cK_ hi]
   rw [show (x == l.getD i [])=(l.getD i [] == x) from BEq.comm]
   cases (l.getD i [] == x)<;>simp
 · simp only [al_.turn3,al_.step3,cR_,cond_false,ak_]
def ee_ (j:aa_) (x:Bs):aa_ × Bool:=if FIdx j.names x<0 then (fq_,false) else (j.list.getD (FIdx j.names x).toNat aa_.dflt,true)
theorem idx_lt {l:List Bs} {x:Bs} (h:¬ FIdx l x<0):0≤FIdx l x∧FIdx l x<(l.length:Int):=by
 unfold FIdx at h ⊢
 split at h
 · rename_i hl;rw [if_pos hl];omega
 · exact absurd (by decide) h
theorem kk_ {j:aa_} (h:bH_ 6 j≤400) {x:Bs} (hx:¬ FIdx j.names x<0):(FIdx j.names x).toNat<j.list.length∧j.kind=5:=by
 have hi:=idx_lt hx
 by_cases hk:j.kind=5
 · have:=((c4_ h).1.obj hk).1;exact ⟨by omega,hk⟩
 · rw [(dP_ (dD_ h)).ns0 hk] at hi;simp at hi;omega
theorem ep_ {j:aa_} (h:bH_ 6 j≤400) (x:Bs):bH_ 6 (ee_ j x).1≤400:=by
 unfold ee_
 by_cases hx:FIdx j.names x<0
 · rw [if_pos hx];exact dk_
 · rw [if_neg hx]
   have:=(dV_ h (kk_ h hx).1).size
   rw [h8_ 5 _ this];exact this
theorem eh_ {j:aa_} (h:bH_ 6 j≤400) {x:Bs}:Ev (fun n _=>co_ n j x) (ee_ j x):=by
 have hJ:=di_ (cQ_ 6 j h)
 have hn:=d6_ h
 have hok:cT_ j=true:=decide_eq_true h
 refine aT_ ?_
 simp only [co_,bC_,ad_ (kM_ (j:=j) (x:=x) (by simp only [cD_];omega)),ad_ hJ,hok,Bool.not_true,cond_false,ee_]
 by_cases hx:FIdx j.names x<0
 · rw [if_pos hx,decide_eq_true hx]
   simp only [cond_true,aI_,ak_]
   exact ⟨fun _=>rfl,fun _=>rfl⟩
 · obtain ⟨h1,h2⟩:=kk_ h hx
   have hi:=idx_lt hx
   have hC:=eI_ 5 (j.list.getD (FIdx j.names x).toNat aa_.dflt) (dV_ h h1).size
   have hk:(j.kind != 5)=false:=by rw [h2];rfl
   rw [if_neg hx,decide_eq_false hx,hk]
   simp only [cond_false,bR_,ad_ hC,ak_]
   exact ⟨by omega,trivial⟩
theorem g0_ {j:aa_} (h:bH_ 6 j≤400) {x:Bs}:Ev (fun n _=>cv_ n j x) (ee_ j x):=by
 have hJ:=dl_ (cQ_ 6 j h)
 have hn:=d6_ h
 have hok:cT_ j=true:=decide_eq_true h
 refine aT_ ?_
 simp only [cv_,bC_,ad_ (ev_ (l:=j.names) (x:=x) (by simp only [cD_];omega)),ad_ hJ,hok,Bool.not_true,cond_false,ee_]
 by_cases hx:FIdx j.names x<0
 · rw [if_pos hx,decide_eq_true hx]
   simp only [cond_true,ak_];rfl
 · obtain ⟨h1,h2⟩:=kk_ h hx
   have hi:=idx_lt hx
   have hC:=eb_ 5 (j.list.getD (FIdx j.names x).toNat aa_.dflt) (dV_ h h1).size
   rw [if_neg hx,decide_eq_false hx]
   simp only [cond_false,bR_,ad_ hC,ak_]
   exact ⟨by omega,trivial⟩
end Go.Pi
end
section
namespace Go.Pi
def fin (w:List Bs):List Bs × Bool:=if w.length > 6 then ([],false) else (w,true)
def wr (out:List Bs) (now:Bs):Bs→List Bs × Bool
 |[]=>fin (out++[now])
 |[c]=>if c=47 then fin (out++[now]++[[]]) else if c=126 then ([],false) else fin (out++[now++[c]])
 |c::e::l=>if c=47 then wr (out++[now]) [] (e::l) else if c=126 then (if e=48 then wr out (now++[126]) l else if e=49 then wr out (now++[47]) l else ([],false)) else wr out (now++[c]) (e::l)
theorem wr_sl (out:List Bs) (now l:Bs):wr out now (47::l)=wr (out++[now]) [] l:=by
 cases l with
 |nil=>rfl
 |cons e l=>rw [wr,if_pos rfl]
theorem wr_c {c:UInt8} (h1:c≠47) (h2:c≠126) (out:List Bs) (now l:Bs):wr out now (c::l)=wr out (now++[c]) l:=by
 cases l with
 |nil=>
  show (if c=47 then fin (out++[now]++[[]]) else if c=126 then ([],false) else fin (out++[now++[c]]))=fin (out++[now++[c]])
  rw [if_neg h1,if_neg h2]
 |cons e l=>rw [wr,if_neg h1,if_neg h2]
theorem wr_t (e:UInt8) (out:List Bs) (now l:Bs):wr out now (126::e::l)=if e=48 then wr out (now++[126]) l else if e=49 then wr out (now++[47]) l else ([],false):=by
 rw [wr,if_neg (by decide),if_pos rfl]
def FWr (s:Bs):List Bs × Bool:=match s with
 |[]=>([],true)
 |c::l=>if c=47 then wr [] [] l else ([],false)
theorem wr_enc:∀ (w:List Bs) (u now:Bs) (out:List Bs),wr out now (u.flatMap ex_++FWay w)=fin (out++[now++u]++w)
 |[],[],now,out=>by simp [FWay,wr]
 |s::w,[],now,out=>by
  have e:([]:Bs).flatMap ex_++FWay (s::w)=47::(s.flatMap ex_++FWay w):=rfl
  rw [e,wr_sl,wr_enc w s [] _];simp
 |w,c::u,now,out=>by
  have ih:=fun x=>wr_enc w u (now++[x]) out
  rw [List.flatMap_cons,List.append_assoc]
  by_cases h1:c=126
  · have e:ex_ c=[126,48]:=if_pos h1
    rw [e]
    show wr out now (126::48::(u.flatMap ex_++FWay w))=_
    rw [wr_t,if_pos rfl,ih 126,h1];simp
  · by_cases h2:c=47
    · have e:ex_ c=[126,49]:=by unfold ex_;rw [if_neg h1,if_pos h2]
      rw [e]
      show wr out now (126::49::(u.flatMap ex_++FWay w))=_
      rw [wr_t,if_neg (by decide),if_pos rfl,ih 47,h2];simp
    · have e:ex_ c=[c]:=by unfold ex_;rw [if_neg h1,if_neg h2]
      rw [e]
      show wr out now (c::(u.flatMap ex_++FWay w))=_
      rw [wr_c h2 h1,ih c];simp
theorem FWr_enc {w:List Bs} (h:w.length≤6):FWr (FWay w)=(w,true):=by
 cases w with
 |nil=>rfl
 |cons s w=>
  have e:FWay (s::w)=47::(s.flatMap ex_++FWay w):=rfl
  rw [e]
  show (if (47:UInt8)=47 then wr [] [] (s.flatMap ex_++FWay w) else ([],false))=_
  rw [if_pos rfl,wr_enc]
  unfold fin
  rw [if_neg (by simp at h ⊢;omega)];simp
def WrOk (B:Nat) (x:List Bs × Bool):Prop:=x.1.length≤6∧∀ y ∈ x.1,y.length≤B
theorem fin_ok {B:Nat} {w:List Bs} (h:∀ y ∈ w,y.length≤B):WrOk B (fin w):=by
 unfold fin
 split
 · exact ⟨Nat.zero_le _,fun y h=>(by cases h)⟩
 · exact ⟨by simp only;omega,h⟩
theorem wr_ok {B:Nat}:∀ (n:Nat) (l now:Bs) (out:List Bs),l.length≤n→(∀ y ∈ out,y.length≤B)→now.length+l.length≤B→WrOk B (wr out now l):=by
 have app:∀ {now:Bs} {out:List Bs},(∀ y ∈ out,y.length≤B)→now.length≤B→∀ y ∈ out++[now],y.length≤B:=by
  intro now out h1 h2 y hy
  rcases List.mem_append.1 hy with hy|hy
  · exact h1 y hy
  · obtain rfl:=List.mem_singleton.1 hy;exact h2
 have bad:WrOk B (([]:List Bs),false):=⟨Nat.zero_le _,fun y h=>(by cases h)⟩
 intro n
 induction n with
 |zero=>
  intro l now out hl h1 h2
  have:l=[]:=List.eq_nil_of_length_eq_zero (by omega)
  subst this
  exact fin_ok (app h1 (by simpa using h2))
 |succ n ih=>
  intro l now out hl h1 h2
  cases l with
  |nil=>exact fin_ok (app h1 (by simpa using h2))
  |cons c l=>
   simp only [List.length_cons] at hl h2
   by_cases hc:c=47
   · subst hc
     rw [wr_sl]
     exact ih l [] _ (by omega) (app h1 (by omega)) (by simp;omega)
   · by_cases ht:c=126
     · subst ht
       cases l with
       |nil=>exact bad
       |cons e l=>
        rw [wr_t]
        simp only [List.length_cons] at hl h2
        split
        · exact ih l _ out (by omega) h1 (by simp;omega)
        · split
          · exact ih l _ out (by omega) h1 (by simp;omega)
          · exact bad
     · rw [wr_c hc ht]
       exact ih l _ out (by omega) h1 (by simp;omega)
theorem FWr_ok (s:Bs):WrOk s.length (FWr s):=by
 unfold FWr
 split
 · exact ⟨Nat.zero_le _,fun y h=>(by cases h)⟩
 · rename_i c l
   split
   · exact wr_ok l.length l [] [] (Nat.le_refl _) (fun y h=>(by cases h)) (by simp)
   · exact ⟨Nat.zero_le _,fun y h=>(by cases h)⟩
theorem fw_ {s:Bs} (hs:s.length≤1000000):Ev (fun n _=>aQ_ n s) (FWr s):=by
 have key:∀ (K:Nat→aQ_.K6),(∀ out now,out.length≤1000000→s≠[]→Ev (fun n _=>K n s [] out (bi now)) (fin (out++[now]))) →
   ∀ (m i:Nat) (out:List Bs) (now:Bs),s.length - i≤m→1≤i→i≤s.length→out.length≤i→now.length≤i →
   Ev (fun n N=>aQ_.loop6 n (K n) N s (i:Int) [] out (bi now)) (wr out now (s.drop i)):=by
  intro K hK m
  induction m with
  |zero=>
   intro i out now hm h1 h2 h3 h4
   have:i=s.length:=by omega
   subst this
   rw [List.drop_length]
   refine bo_ ?_
   simp only [aQ_.turn6,aQ_.step6,cR_,cond_false]
   exact hK out now (by omega) (fun e=>by rw [e] at h1;simp at h1)
  |succ m ih=>
   intro i out now hm h1 h2 h3 h4
   by_cases hi:i<s.length
   · have hd:=dG_ 0 hi
     have hbl:=hQ_ now
     have hW:W ((i:Int)+1)=((i+1:Nat):Int):=by rw [W_id (by omega) (by omega)];omega
     have hW2:W (((i+1:Nat):Int)+1)=((i+2:Nat):Int):=by rw [W_id (by omega) (by omega)];omega
     have hz:((i:Int) == 0)=false:=beq_eq_false_iff_ne.2 (by omega)
     have hg:decide ((i:Int) > 0)=true:=decide_eq_true (by omega)
     refine bo_ ?_
     simp only [aQ_.turn6,aQ_.step6,cV_ hi,cond_true,bR_,cK_ hi,true_and,Int.toNat_natCast,hW,hW2,hz,hg,cond_false,byte47,byte126,hi_,cc_]
     rw [hd]
     generalize hc:s.getD i 0=c
     by_cases c47:c=47
     · subst c47
       rw [wr_sl,decide_eq_true rfl]
       simp only [cond_true,cc_]
       exact ⟨by simp;omega,ih (i+1) (out++[now]) [] (by omega) (by omega) (by omega) (by simp;omega) (by simp)⟩
     · rw [decide_eq_false c47]
       simp only [cond_false]
       by_cases c126:c=126
       · subst c126
         rw [decide_eq_true rfl]
         simp only [cond_true]
         by_cases hi2:i+1<s.length
         · have hd2:=dG_ 0 hi2
           have hne:(((i+1:Nat):Int) == (s.length:Int))=false:=beq_eq_false_iff_ne.2 (by omega)
           rw [hd2,wr_t]
           simp only [hne,cond_false,bR_,cK_ hi2,true_and,Int.toNat_natCast]
           generalize s.getD (i+1) 0=e
           have e48:((e.toNat:Int) == 48)=decide (e=48):=hP_ e 48 48 rfl
           have e49:((e.toNat:Int) == 49)=decide (e=49):=hP_ e 49 49 rfl
           have n1:=ih (i+2) out (now++[126]) (by omega) (by omega) (by omega) (by omega) (by simp;omega)
           have n2:=ih (i+2) out (now++[47]) (by omega) (by omega) (by omega) (by omega) (by simp;omega)
           rw [←kq_] at n1 n2
           simp only [bne,e48,e49]
           by_cases d48:e=48
           · subst d48
             simp only [decide_true,Bool.not_true,cond_false,cond_true,bR_,cK_ hi,cK_ hi2,true_and,cc_,if_true]
             exact ⟨by simp;omega,n1⟩
           · by_cases d49:e=49
             · subst d49
               simp only [d48,decide_true,decide_false,Bool.not_true,Bool.not_false,cond_false,cond_true,bR_,cK_ hi,cK_ hi2,true_and,cc_,if_true,if_false]
               exact ⟨by simp;omega,n2⟩
             · simp only [d48,d49,decide_false,Bool.not_false,cond_true,bR_,cK_ hi,cK_ hi2,true_and,ak_,if_false]
         · have hne:(((i+1:Nat):Int) == (s.length:Int))=true:=by simp;omega
           have hde:s.drop (i+1)=[]:=kn_ (by omega)
           rw [hde]
           simp only [hne,cond_true,bR_,cK_ hi,true_and,ak_]
           rfl
       · rw [wr_c c47 c126,decide_eq_false c126]
         have n1:=ih (i+1) out (now++[c]) (by omega) (by omega) (by omega) (by omega) (by simp;omega)
         rw [←kq_] at n1
         simp only [cond_false,bR_,cK_ hi,true_and,cc_]
         exact ⟨by simp;omega,n1⟩
   · have:i=s.length:=by omega
     subst this
     rw [List.drop_length]
     refine bo_ ?_
     simp only [aQ_.turn6,aQ_.step6,cR_,cond_false]
     exact hK out now (by omega) (fun e=>by rw [e] at h1;simp at h1)
 refine aT_ ?_
 simp only [aQ_]
 cases s with
 |nil=>
  refine cF_ (f:=fun n N=>aQ_.loop6 n (fun xy1 xy2 xy3 xy4=>(cond (!(xy1 == [])) (cs_ (xy3.length+([(eY_ xy4)]:List Bs).length) 16 (cond (decide (((xy3++([(eY_ xy4)]:List Bs)).length:Int) > 6)) (some (xy2,false)) (some ((xy3++([(eY_ xy4)]:List Bs)),true)))) (cond (decide ((xy3.length:Int) > 6)) (some (xy2,false)) (some (xy3,true))))) N [] 0 [] [] []) (bo_ ?_)
  exact ⟨0,fun _ _ _ _=>rfl⟩
 |cons c l=>
  have hK:∀ out now,out.length≤1000000→c::l≠[]→Ev (fun n (_:Nat)=>(cond (!(c::l == [])) (cs_ (out.length+([(eY_ (bi now))]:List Bs).length) 16 (cond (decide (((out++([(eY_ (bi now))]:List Bs)).length:Int) > 6)) (some (([]:List Bs),false)) (some ((out++([(eY_ (bi now))]:List Bs)),true)))) (cond (decide ((out.length:Int) > 6)) (some ([],false)) (some (out,true))))) (fin (out++[now])):=by
   intro out now h1 _
   have e:(!(c::l == []))=true:=rfl
   rw [e,hi_]
   simp only [cond_true,cc_,aI_,ak_]
   unfold fin
   refine ⟨by simp;omega,fun h => ?_,fun h => ?_⟩
   · have h:=of_decide_eq_true h;rw [if_pos (by omega)]
   · have h:=of_decide_eq_false h;rw [if_neg (by omega)]
  refine cF_ (f:=fun n N=>aQ_.loop6 n (fun xy1 xy2 xy3 xy4=>(cond (!(xy1 == [])) (cs_ (xy3.length+([(eY_ xy4)]:List Bs).length) 16 (cond (decide (((xy3++([(eY_ xy4)]:List Bs)).length:Int) > 6)) (some (xy2,false)) (some ((xy3++([(eY_ xy4)]:List Bs)),true)))) (cond (decide ((xy3.length:Int) > 6)) (some (xy2,false)) (some (xy3,true))))) N (c::l) 0 [] [] []) (bo_ ?_)
  have hk:=key (fun _=>fun xy1 xy2 xy3 xy4=>(cond (!(xy1 == [])) (cs_ (xy3.length+([(eY_ xy4)]:List Bs).length) 16 (cond (decide (((xy3++([(eY_ xy4)]:List Bs)).length:Int) > 6)) (some (xy2,false)) (some ((xy3++([(eY_ xy4)]:List Bs)),true)))) (cond (decide ((xy3.length:Int) > 6)) (some (xy2,false)) (some (xy3,true))))) hK l.length 1 [] [] (by simp) (Nat.le_refl _) (by simp) (by simp) (by simp)
  have c0:decide ((0:Int)<(((c::l).length:Nat):Int))=true:=decide_eq_true (by simp)
  have cg:decide ((0:Int) > 0)=false:=rfl
  have cz:((0:Int) == 0)=true:=rfl
  have hW:W ((0:Int)+1)=((1:Nat):Int):=rfl
  have hg0:(c::l).getD (0:Int).toNat 0=c:=rfl
  simp only [aQ_.turn6,aQ_.step6,c0,cond_true,bR_,hg0,byte47,cg,cz,cond_false,hW]
  refine ⟨by simp,?_⟩
  unfold FWr
  by_cases c47:c=47
  · rw [decide_eq_true c47]
    simp only [c47,if_true,cond_true]
    rw [c47] at hk
    exact hk
  · rw [decide_eq_false c47]
    simp only [c47,if_false,cond_false,ak_]
def FWi (s:Bs):List Bs × Bool:=if s=[] then ([],true) else
 if (((dt_ 47 s).drop 1).map fun p=>eL_ 126 48 [126] (eL_ 126 49 [47] p)).length > 6 then ([],false) else
 if FWay (((dt_ 47 s).drop 1).map fun p=>eL_ 126 48 [126] (eL_ 126 49 [47] p))=s then (((dt_ 47 s).drop 1).map fun p=>eL_ 126 48 [126] (eL_ 126 49 [47] p),true) else ([],false)
theorem go_ {a b c:UInt8} {s:Bs} (hs:s.length≤1000000) (hne:([a,b] == [c])=false):Ev (fun n _=>strings_ReplaceAll n s [a,b] [c]) (eL_ a b [c] s):=by
 refine aT_ ?_
 have:=mb_ a b s
 simp only [strings_ReplaceAll,en_,count2,lQ_ a b [c] s hne,aI_,ak_,cW_]
 refine ⟨fun _=>trivial,fun h => ?_⟩
 have e1:decide (s.length<4294967281)=true:=decide_eq_true (by omega)
 have e2:decide (1≤[a,b].length)=true:=rfl
 have e3:decide (s.length+cnt2 a b s*[c].length≤140737488355328)=true:=decide_eq_true (by simp only [List.length_cons,List.length_nil];omega)
 rw [e1,e2,e3] at h;cases h
theorem Split_ev {s:Bs} {b:UInt8} (hs:s.length≤1000000):Ev (fun n _=>strings_Split n s [b]) (dt_ b s):=by
 refine aT_ ?_
 have e1:decide (s.length<4294967281)=true:=decide_eq_true (by omega)
 have e2:decide (1≤[b].length)=true:=rfl
 simp only [strings_Split,mK_,split_one,e1,e2,Bool.and_self,cond_true,ak_]
theorem fG_ {s:Bs} (hs:s.length≤60):Ev (fun n _=>a8_ n s) (FWi s):=by
 refine aT_ ?_
 simp only [a8_,aI_,ak_,ad_ (Split_ev (s:=s) (b:=47) (by omega))]
 unfold FWi
 by_cases h0:s=[]
 · rw [if_pos h0,h0]
   exact ⟨fun _=>rfl,fun h=>(by cases h)⟩
 · rw [if_neg h0,beq_eq_false_iff_ne.2 h0]
   refine ⟨fun h=>(by cases h),fun _ => ?_⟩
   obtain ⟨hl,hp⟩:=hn_ 47 s
   obtain ⟨p,ps,e⟩:=hm_ 47 s
   rw [e] at hl hp ⊢
   have e1:(((p::ps).length:Nat):Int).toNat=ps.length+1:=by simp
   have e2:((p::ps).take (ps.length+1)).drop 1=ps:=by
    rw [List.take_of_length_le (by simp)];rfl
   have e3:(ps.length+1 - 1:Nat)=ps.length:=rfl
   have e4:(p::ps).drop 1=ps:=rfl
   simp only [e1,e2,e3,e4,dv_]
   refine ⟨by simp only [List.length_cons] at hl ⊢;omega,?_⟩
   simp only [List.length_cons] at hl
   have hps:∀ q ∈ ps,q.length≤60:=fun q hq=>by have:=hp q (List.mem_cons_of_mem _ hq);omega
   refine ev_map [] ps (fun p=>eL_ 126 48 [126] (eL_ 126 49 [47] p)) (fun n N i (o:List Bs)=>a8_.loop7 n (fun xy4 xy5=>(cond (decide ((xy5.length:Int) > 6)) (some (([]:List Bs),false)) ((a2_ n xy5).bind fun xr6=>(cond (!(xr6 == xy4)) (some (([]:List Bs),false)) (some (xy5,true)))))) N s ps (ps.length:Int) (i:Int) o) _ (fun i o hi ho F hF => ?_) ?_
   · have hq:=hps _ (cG_ [] hi)
     have r1:=go_ (a:=126) (b:=49) (c:=47) (s:=ps.getD i []) (by omega) rfl
     have r1l:=e2_ 126 49 47 (ps.getD i [])
     have r2:=go_ (a:=126) (b:=48) (c:=126) (s:=eL_ 126 49 [47] (ps.getD i [])) (by omega) rfl
     have hW:=W_up hi (show ps.length≤cD_ by simp only [cD_];omega)
     simp only [a8_.turn7,a8_.step7,cV_ hi,cond_true,bR_,cK_ hi,true_and,Int.toNat_natCast,hW,ad_ r1,ad_ r2,cc_]
     exact ⟨by simp;omega,hF⟩
   · generalize hw:ps.map (fun p=>eL_ 126 48 [126] (eL_ 126 49 [47] p))=w
     have hwl:∀ q ∈ w,q.length≤60:=by
      intro q hq
      rw [←hw] at hq
      obtain ⟨x,hx,rfl⟩:=List.mem_map.1 hq
      have:=e2_ 126 49 47 x
      have:=e2_ 126 48 126 (eL_ 126 49 [47] x)
      have:=hps x hx
      omega
     simp only [a8_.turn7,a8_.step7,cR_,cond_false,aI_,ak_]
     refine ⟨fun h => ?_,fun h => ?_⟩
     · have h:=of_decide_eq_true h;rw [if_pos (by omega)]
     · have h:=of_decide_eq_false h
       rw [if_neg (by omega)]
       simp only [ad_ (fF_ (w:=w) (by omega) hwl),aI_,ak_]
       by_cases he:FWay w=s
       · rw [he,if_pos rfl];simp
       · rw [if_neg he,beq_eq_false_iff_ne.2 he];simp
theorem FWi_enc {w:List Bs} (h:w.length≤6):FWi (FWay w)=(w,true):=by
 unfold FWi
 cases w with
 |nil=>rfl
 |cons s w=>
  have e:FWay (s::w)≠[]:=by
   show 47::_≠[]
   intro e;cases e
  have e2:((dt_ 47 (FWay (s::w))).drop 1).map (fun p=>eL_ 126 48 [126] (eL_ 126 49 [47] p))=s::w:=by
   rw [kL_]
   show (((s::w).map fun s=>s.flatMap ex_).map fun p=>eL_ 126 48 [126] (eL_ 126 49 [47] p))=_
   rw [List.map_map]
   refine (List.map_congr_left fun x _ => ?_).trans (List.map_id _)
   show eL_ 126 48 [126] (eL_ 126 49 [47] (x.flatMap ex_))=x
   rw [unesc1,unesc2]
  rw [if_neg e,e2,if_neg (by omega),if_pos rfl]
theorem FWi_ok {s:Bs}:WrOk s.length (FWi s):=by
 unfold FWi
 split
 · exact ⟨Nat.zero_le _,fun y h=>(by cases h)⟩
 · split
   · exact ⟨Nat.zero_le _,fun y h=>(by cases h)⟩
   · rename_i h
     split
     · refine ⟨by simp only;omega,fun y hy => ?_⟩
       obtain ⟨x,hx,rfl⟩:=List.mem_map.1 hy
       have h1:=e2_ 126 49 47 x
       have h2:=e2_ 126 48 126 (eL_ 126 49 [47] x)
       have h3:=(hn_ 47 s).2 x (List.mem_of_mem_drop hx)
       omega
     · exact ⟨Nat.zero_le _,fun y h=>(by cases h)⟩
end Go.Pi
end
section
namespace Go.Pi
theorem jK_:∀ (d:Nat) (j:aa_),ef_ d j j=true
 |0,_=>rfl
 |d+1,j=>by
  simp only [ef_,gD_,beq_self_eq_true,decide_true,Bool.true_and,Bool.and_eq_true]
  exact ⟨ga_.2 fun i _=>by simp,ga_.2 fun i _=>jK_ d _⟩
theorem kS_ {j:aa_} (h:bH_ 6 j≤400):eV_ j j=true:=by
 unfold eV_ cT_
 rw [decide_eq_true h,jK_];rfl
theorem jR_ {j:aa_} (h:bH_ 6 j≤400):j.s.length≤60:=by
 have ho2:=dP_ (dD_ h)
 by_cases hk:j.kind=3
 · exact fV_ (ho2.text hk)
 · rw [ho2.s0 hk];exact Nat.zero_le _
theorem kb_ {k:Int} {x:List Bs × Bool} {v:aa_} {s:Bs} (hs:s.length≤60) (hw:WrOk s.length x) (hv:bH_ 6 v≤400):d7_ (TOp.mk k x.1 v) :=
 ⟨⟨by have:=hw.1;show x.1.length≤cD_;simp only [cD_];omega,fun y hy=>by have:=hw.2 y hy;simp only [cD_];omega⟩,cQ_ 6 v hv⟩
theorem dJ_:d7_ (TOp.mk 0 [] (aa_.mk 0 0 [] [] [])):=⟨⟨Nat.zero_le _,fun y h=>(by cases h)⟩,eo_ 6⟩
abbrev dK_:List Bs:=[[97,100,100],[114,101,109,111,118,101],[114,101,112,108,97,99,101],[116,101,115,116]]
theorem jn_:Ev (fun n _=>bX_ n ()) dK_:=aT_ (by simp only [bX_,ak_])
theorem jr_:Ev (fun n _=>bW_ n ()) ([]::dK_):=aT_ (by simp only [bW_,ak_])
theorem iF_ {p:aa_} (h:bH_ 6 p≤400):Ans (fun n _=>cg_ n p) fun x=>d7_ x.1:=by
 refine c2_ ?_
 have hs:=jR_ (ep_ h d5_)
 have hv:=ep_ h e5_
 have hw:=FWi_ok (s:=(ee_ p d5_).1.s)
 have hL:=fun k=>kb_ (k:=k) hs hw hv
 simp only [cg_,bC_,bV_ (g0_ h),bV_ (fG_ hs),bV_ jn_,bV_ (ev_ (l:=dK_) (by decide)),cA_,ct_]
 refine ⟨fun _=>dJ_,fun _=>⟨fun _=>dJ_,fun _=>⟨fun _=>dJ_,fun _ => ?_⟩⟩⟩
 have hk:=hL (W (1+FIdx dK_ (ee_ p [111,112]).1.s))
 simp only [bV_ (fH_ hk),bV_ (d2_ hk),bV_ (fm_ (gw_ hk) (cQ_ 6 p h)),cA_,ct_]
 exact ⟨fun _=>dJ_,fun _=>⟨fun _=>dJ_,fun _=>hk⟩⟩
structure OpIn (o:TOp):Prop where
 ok:gg_ o=true
 val:cC_ o=dh_ o
 size:bH_ 6 (dh_ o)≤400
theorem op_in {o:TOp} (h:(cC_ o).kind≠0):OpIn o:=by
 unfold cC_ at h
 cases ho:gg_ o with
 |false=>rw [ho] at h;exact absurd rfl h
 |true=>
  rw [ho,cond_true] at h
  unfold iY_ at h
  cases hj:cT_ (dh_ o) with
  |false=>rw [hj] at h;exact absurd rfl h
  |true=>
   refine ⟨ho,?_,of_decide_eq_true hj⟩
   unfold cC_ iY_
   rw [ho,hj];rfl
theorem kx_ {j:aa_} (h:he_ j=true):j=fq_:=by
 unfold he_ at h
 simp only [Bool.and_eq_true,beq_iff_eq,decide_eq_true_eq] at h
 obtain ⟨h1,h2,h3,h4,h5⟩:=h
 obtain ⟨k,n,s,l,ns⟩:=j
 simp only at h1 h2 h3 h4 h5
 rw [h1,h2,h3,List.eq_nil_of_length_eq_zero h4,List.eq_nil_of_length_eq_zero h5];rfl
theorem val_of {o:TOp} (h:gg_ o=true) (hk:o.kind=2):o.value=fq_:=by
 unfold gg_ at h
 simp only [Bool.and_eq_true,Bool.or_eq_true] at h
 rcases h.2.2.2.2 with h|h
 · rw [hk] at h;exact absurd h (by decide)
 · exact kx_ h
theorem m6_ {o:TOp}:ee_ (dh_ o) n6_=(nq_ (ed_ o.kind),true):=by
 unfold dh_
 cases (o.kind == 2)<;>rfl
theorem hx_ {o:TOp}:ee_ (dh_ o) d5_=(nq_ (FWay o.way),true):=by
 unfold dh_
 cases (o.kind == 2)<;>rfl
theorem iJ_ {o:TOp} (h:gg_ o=true):(ee_ (dh_ o) e5_).1=o.value:=by
 unfold dh_
 cases hk:(o.kind == 2) with
 |false=>rfl
 |true=>rw [val_of h (by simpa using hk)];rfl
theorem kind_back {o:TOp} (h:OpIs o):W (1+FIdx dK_ (ed_ o.kind))=o.kind:=by
 rcases h.kind with e|e|e|e<;>rw [e]<;>decide
theorem lD_ {o:TOp} (h:OpIn o):(FWay o.way).length≤60:=by
 have:=jR_ (ep_ h.size d5_)
 rw [hx_] at this
 exact this
theorem iE_ {o:TOp} (h:OpIn o):Ev (fun n _=>cg_ n (dh_ o)) (o,true):=by
 have hi:=lR_ h.ok
 have hL:d7_ o:=kb_ (x:=(o.way,true)) (v:=o.value) (s:=FWay o.way) (lD_ h) ⟨hi.way,fun y hy=>by
  have:y.length≤(y.flatMap ex_).length:=by
   clear hy
   induction y with
   |nil=>exact Nat.le_refl _
   |cons c y ih=>rw [List.flatMap_cons,List.length_append,List.length_cons];have:1≤(ex_ c).length:=by unfold ex_;split<;>(try split)<;>simp
                 omega
  have:∀ w:List Bs,y ∈ w→(y.flatMap ex_).length≤(FWay w).length:=by
   intro w
   induction w with
   |nil=>intro h;cases h
   |cons s w ih=>
    intro h
    have e:FWay (s::w)=(47::s.flatMap ex_)++FWay w:=rfl
    rw [e,List.length_append,List.length_cons]
    rcases List.mem_cons.1 h with rfl|h
    · omega
    · have:=ih h;omega
  have:=this o.way hy
  simp only at hy;omega⟩ hi.val
 have hop:=m6_ (o:=o)
 have hpa:=hx_ (o:=o)
 have hva:=iJ_ h.ok
 have hs:=lD_ h
 have hW:=kind_back hi
 have hw:Ev (fun n _=>a8_ n (FWay o.way)) (o.way,true):=by rw [←FWi_enc hi.way];exact fG_ hs
 have hS:=fm_ (a:=dh_ o) (b:=dh_ o) (cQ_ 6 _ h.size) (cQ_ 6 _ h.size)
 rw [kS_ h.size] at hS
 have hJ:=d2_ hL
 rw [h.val] at hJ
 have hK:=fH_ hL
 rw [h.ok] at hK
 unfold n6_ at hop
 unfold d5_ at hpa
 refine aT_ ?_
 simp only [cg_,bC_,ad_ (g0_ h.size),hop,hpa,hva,nq_,ad_ hw,ad_ jn_,ad_ (ev_ (l:=dK_) (by decide)),hW,Bool.not_true,cond_false,gj_,ad_ hK,ad_ hJ,ad_ hS,ak_]
def FK (k:Int) (s:Bs):Nat→Nat→Int→Int
 |0,_,t=>t
 |j+1,i,t=>FK k s j (i+1) (cond (k == 3) (cond (s == ([]::dK_).getD i []) (i:Int) t) t)
theorem iu_ {K:Nat→aN_.K7} {F:TOp × Bool} {a0 a1:Int} {a2:Bs} {a3:List aa_} {a4:List Bs} {b1 b2 b3:Int} {b4:Bs} {c2 c3:Int} {c4:Bs} {k d1:Int} {s:Bs} {e0 e1:Int} {e2:Bs} {f3:List aa_} {f4:List Bs} {g3:List aa_} {g4:List Bs} :
  ∀ (j i:Nat) (t:Int),i+j=5→Ev (fun n _=>K n a0 a1 a2 a3 a4 b1 b2 b3 b4 (FK k s j i t) c2 c3 c4 e0 e1 e2 g3 g4) F →
    Ev (fun n N=>aN_.loop7 n (K n) N (i:Int) a0 a1 a2 a3 a4 b1 b2 b3 b4 t c2 c3 c4 k d1 s e0 e1 e2 ([]::dK_) f3 f4 g3 g4) F:=by
 have hlen:(([]:Bs)::dK_).length=5:=rfl
 intro j
 induction j with
 |zero=>
  intro i t hi hK
  obtain rfl:i=5:=by omega
  refine bo_ ?_
  have:decide (((5:Nat):Int)<(((([]:Bs)::dK_).length:Nat):Int))=false:=by rw [hlen];exact decide_eq_false (by omega)
  simp only [aN_.turn7,aN_.step7,this,cond_false]
  exact hK
 |succ j ih=>
  intro i t hi hK
  have hlt:i<(([]:Bs)::dK_).length:=by rw [hlen];omega
  have hW:W ((i:Int)+1)=((i+1:Nat):Int):=by rw [W_id (by omega) (by omega)];omega
  refine bo_ ?_
  simp only [aN_.turn7,aN_.step7,cV_ hlt,cond_true,Int.toNat_natCast,hW,aI_,bR_,cK_ hlt,true_and]
  unfold FK at hK
  refine ⟨fun h3 => ?_,fun h3 => ?_⟩
  · rw [h3,cond_true] at hK
    exact ⟨fun he=>by rw [he,cond_true] at hK;exact ih (i+1) _ (by omega) hK,fun he=>by rw [he,cond_false] at hK;exact ih (i+1) _ (by omega) hK⟩
  · rw [h3,cond_false] at hK
    exact ih (i+1) _ (by omega) hK
theorem tail_any {p:aa_} (h:bH_ 6 p≤400) {t:Bool} {k:Int} {w:List Bs} {v:aa_} {b1 b2 b3:Int} {b4:Bs} (hk:d7_ (TOp.mk k w v)) :
  Ans (fun n (_:Nat)=>aN_.tail15 n t p.kind p.n_ p.s p.list p.names b1 b2 b3 b4 k w v.kind v.n_ v.s v.list v.names) fun x=>d7_ x.1:=by
 simp only [aN_.tail15,bC_,dA_,cA_,ct_,bV_ (d1_ hk),bV_ (fk_ (gw_ hk) (cQ_ 6 p h))]
 exact ⟨fun _=>dJ_,fun _=>⟨fun _=>dJ_,fun _=>⟨fun _=>dJ_,fun _=>hk⟩⟩⟩
theorem ih_ {p:aa_} (h:bH_ 6 p≤400):Ans (fun n _=>aN_ n p) fun x=>d7_ x.1:=by
 have hs:=jR_ (ep_ h d5_)
 have hv:=ep_ h e5_
 have hw:=FWr_ok (ee_ p d5_).1.s
 have hL:=fun k=>kb_ (k:=k) hs hw hv
 refine c2_ ?_
 simp only [aN_,bC_,bV_ (eh_ h),bV_ jr_]
 obtain ⟨v,h1,h2⟩:=tail_any h (t:=(FWr (ee_ p d5_).1.s).2) (b1:=0) (b2:=0) (b3:=0) (b4:=[]) (hL (FK (ee_ p n6_).1.kind (ee_ p n6_).1.s 4 1 0))
 refine ⟨v,?_,h2⟩
 refine cF_ (iu_ (K:=fun n=>fun xy4 xy5 xy6 xy7 xy8 xy9 xy10 xy11 xy12 xy13 xy14 xy15 xy16 xy17 xy18 xy19 xy20 xy21=>((aQ_ n xy19).bind fun xr22=>((co_ n (aa_.mk xy4 xy5 xy6 xy7 xy8) [118,97,108,117,101]).bind fun xr23=>(aN_.tail15 n xr22.2 xy4 xy5 xy6 xy7 xy8 xy9 xy10 xy11 xy12 xy13 xr22.1 xr23.1.kind xr23.1.n_ xr23.1.s xr23.1.list xr23.1.names)))) 4 1 0 rfl ?_)
 simp only [dA_,ad_ (fw_ (s:=(ee_ p d5_).1.s) (by omega)),ad_ (eh_ h)]
 exact h1
theorem nH_ {o:TOp} (h:OpIs o):FK 3 (ed_ o.kind) 4 1 0=o.kind:=by
 rcases h.kind with e|e|e|e<;>rw [e]<;>decide
theorem mS_ {o:TOp} (h:OpIn o):d7_ o:=by
 have hi:=lR_ h.ok
 exact ⟨⟨by have:=hi.way;simp only [cD_];omega,fun y hy=>by have:=hi.text y hy;simp only [cD_];omega⟩,cQ_ 6 _ hi.val⟩
theorem ig_ {o:TOp} (h:OpIn o):Ev (fun n _=>aN_ n (dh_ o)) (o,true):=by
 have hi:=lR_ h.ok
 have hL:=mS_ h
 have hop:=m6_ (o:=o)
 have hpa:=hx_ (o:=o)
 have hva:=iJ_ h.ok
 have hs:=lD_ h
 have hW:=nH_ hi
 have hw:Ev (fun n _=>aQ_ n (FWay o.way)) (o.way,true):=by rw [←FWr_enc hi.way];exact fw_ (by omega)
 have hS:=fk_ (a:=dh_ o) (b:=dh_ o) (cQ_ 6 _ h.size) (cQ_ 6 _ h.size)
 rw [kS_ h.size] at hS
 have hJ:=d1_ hL
 rw [h.val] at hJ
 have hk0:(o.kind == 0)=false:=beq_eq_false_iff_ne.2 (by rcases hi.kind with e|e|e|e<;>omega)
 unfold n6_ at hop
 unfold d5_ at hpa
 refine aT_ ?_
 simp only [aN_,bC_,ad_ (eh_ h.size),ad_ jr_,hop,hpa,nq_]
 refine cF_ (iu_ (K:=fun n=>fun xy4 xy5 xy6 xy7 xy8 xy9 xy10 xy11 xy12 xy13 xy14 xy15 xy16 xy17 xy18 xy19 xy20 xy21=>((aQ_ n xy19).bind fun xr22=>((co_ n (aa_.mk xy4 xy5 xy6 xy7 xy8) [118,97,108,117,101]).bind fun xr23=>(aN_.tail15 n xr22.2 xy4 xy5 xy6 xy7 xy8 xy9 xy10 xy11 xy12 xy13 xr22.1 xr23.1.kind xr23.1.n_ xr23.1.s xr23.1.list xr23.1.names)))) 4 1 0 rfl ?_)
 simp only [dA_,hW,ad_ hw,ad_ (eh_ h.size),hva,aN_.tail15,bC_,Bool.not_true,hk0,cond_false,gj_,ad_ hJ,ad_ hS,ak_]
end Go.Pi
end
section
namespace Go.Pi
def aq_.size (s:aq_):Nat:=szB s.wait
def aq_.len (s:aq_):Prop:=lenB s.wait
mutual
def aa_.size:aa_→Nat
 |⟨_,_,s,l,ns⟩=>s.length+((l.length+aa_.sizes l)+c7_ szB ns)
def aa_.sizes:List aa_→Nat
 |[]=>0
 |x::l=>aa_.size x+aa_.sizes l
end
mutual
def aa_.len:aa_→Prop
 |⟨_,_,s,l,ns⟩=>s.length≤cD_∧(l.length≤cD_∧aa_.lens l)∧lenL lenB ns
def aa_.lens:List aa_→Prop
 |[]=>True
 |x::l=>aa_.len x∧aa_.lens l
end
theorem aa_.sizes_eq:∀ l:List aa_,aa_.sizes l=dx_ aa_.size l
 |[]=>by simp only [aa_.sizes,dx_]
 |x::l=>by simp only [aa_.sizes,dx_,aa_.sizes_eq l]
theorem aa_.lens_iff:∀ l:List aa_,aa_.lens l↔∀ x ∈ l,aa_.len x
 |[]=>by simp [aa_.lens]
 |x::l=>by simp [aa_.lens,aa_.lens_iff l]
theorem aa_.size_eq (j:aa_):aa_.size j=j.s.length+(c7_ aa_.size j.list+c7_ szB j.names):=by
 cases j;simp only [aa_.size,aa_.sizes_eq,c7_]
theorem aa_.len_iff (j:aa_):aa_.len j↔j.s.length≤cD_∧lenL aa_.len j.list∧lenL lenB j.names:=by
 cases j;simp only [aa_.len,aa_.lens_iff,lenL]
theorem aa_.re_eq (j:aa_):aa_.re j=j:=by cases j;rfl
theorem aa_.dec {x:aa_} {a:List aa_} (h:x ∈ a):SizeOf.sizeOf x.list<SizeOf.sizeOf a:=by
 have h1:=List.sizeOf_lt_of_mem h
 have h2:SizeOf.sizeOf x.list<SizeOf.sizeOf x:=by cases x;simp;omega
 omega
def TOp.size (s:TOp):Nat:=(c7_ szB) s.way+aa_.size s.value
def TOp.len (s:TOp):Prop:=(lenL lenB) s.way∧aa_.len s.value
theorem TOp.eta (x:TOp):TOp.mk x.kind x.way x.value=x:=rfl
def ah_.size (s:ah_):Nat:=aa_.size s.doc+(c7_ TOp.size) s.ops
def ah_.len (s:ah_):Prop:=aa_.len s.doc∧(lenL TOp.len) s.ops
theorem ah_.eta (x:ah_):ah_.mk x.kind x.version x.base x.doc x.ops=x:=rfl
def bd_.size (s:bd_):Nat:=szB s.s
def bd_.len (s:bd_):Prop:=lenB s.s
def aS_.size (s:aS_):Nat:=szB s.text
def aS_.len (s:aS_):Prop:=lenB s.text
theorem lI_ {a:aq_} {l:Int} (ha:aq_.len a) (h0:0≤l) (h1:l≤1048576):Ev (fun n _=>b5_ n a l) (gK_ l (aq_.size a)):=by
 refine aT_ ?_
 have e:aq_.size a=a.wait.length+(0):=by simp only [aq_.size,szB];omega
 rw [e];clear e
 have h0_0:=h0;have h0_1:=h1
 exact ev_szL h0_0 h0_1 (ha) fun r1 h1_0 h1_1=>ev_szE h1_0
theorem kG_ {a:List Bs} {l:Int} (ha:(lenL lenB) a) (h0:0≤l) (h1:l≤1048576):Ev (fun n _=>aK_ n a l) (gK_ l ((c7_ szB) a)):=by
 refine aT_ ?_
 refine ev_szL (g:=fun n N x=>aK_.loop7 n (fun xy1=>(some xy1)) (n) a x 0) h0 h1 ha.1 fun l h0 h1=>sz_list [] szB (fun n N l i=>aK_.loop7 n (fun xy1=>(some xy1)) (N) a l (i:Int)) a (fun i l hi h0 h1 t kk => ?_) (fun l => ?_) l h0 h1
 · show Ev (fun n N=>aK_.step7 n (fun xy1=>(some xy1)) (aK_.loop7 n (fun xy1=>(some xy1)) N) a l (i:Int)) _
   simp only [aK_.step7,aI_,bR_,Int.toNat_natCast,W_up hi ha.1]
   refine ⟨fun _ => ?_,fun h=>absurd hi (by simpa using h)⟩
   refine ⟨⟨by omega,by omega⟩,?_⟩
   simpa only [aI_,ak_,szB] using ev_szL (t:=t) (g:=fun n N x=>aK_.loop7 n (fun xy1=>(some xy1)) (N) a x ((i+1:Nat):Int)) h0 h1 (ha.2 _ (cG_ [] hi)) kk
 · show Ev (fun n N=>aK_.step7 n (fun xy1=>(some xy1)) (aK_.loop7 n (fun xy1=>(some xy1)) N) a l (a.length:Int)) _
   simp only [aK_.step7,aI_,ak_]
   exact ⟨fun h=>absurd (of_decide_eq_true h) (by omega),fun _=>trivial⟩
theorem lG_ {a:aq_} (ha:aq_.size a≤cap):Ev (fun n _=>bP_ n a) a:=by
 refine aT_ ?_
 simp only [bP_,ak_]
theorem kD_ {a:List Bs} (ha:(c7_ szB) a≤cap):Ev (fun n _=>aH_ n a) a:=by
 refine aT_ ?_
 have hl:=dd_ szB a
 simp only [cap] at ha
 simp only [aH_,aI_,cW_,decide_eq_true_eq,decide_eq_false_iff_not,not_true_eq_false]
 refine ⟨fun _=>⟨fun _=>⟨fun _ => ?_,fun h=>absurd h (by omega)⟩,fun h=>absurd h (by omega)⟩,fun h=>h⟩
 refine ev_copy [] a (fun n N i s=>aH_.loop4 n (fun xy2=>(some xy2)) N a (i:Int) s) (fun i s hi hs k => ?_) ?_ _ (by simp)
 · show Ev (fun n N=>aH_.step4 n (fun xy2=>(some xy2)) (aH_.loop4 n (fun xy2=>(some xy2)) N) a (i:Int) s) a
   simp only [aH_.step4,Int.toNat_natCast,aI_,bR_,W_up hi (show a.length≤cD_ by simp only [cD_];omega)]
   exact ⟨fun _=>⟨⟨by omega,by omega⟩,⟨by omega,by omega⟩,k⟩,fun h=>absurd hi (by simpa using h)⟩
 · show Ev (fun n N=>aH_.step4 n (fun xy2=>(some xy2)) (aH_.loop4 n (fun xy2=>(some xy2)) N) a (a.length:Int) a) a
   simp only [aH_.step4,aI_,ak_]
   exact ⟨fun h=>absurd (of_decide_eq_true h) (by omega),fun _=>trivial⟩
theorem l3_ {a:aq_} (ha:aq_.size a≤cD_):Ev (fun n _=>bQ_ n a a) true:=by
 refine aT_ ?_
 simp only [bQ_,bne_self_eq_false,beq_self_eq_true,Bool.not_true,cond_false,ak_]
theorem jF_ {a:List aa_} (ha:c7_ aa_.size a≤cD_) (ih:∀ x ∈ a,Ev (fun n _=>bK_ n x x) true):Ev (fun n _=>a6_ n a a) true:=by
 refine aT_ ?_
 have hl:=dd_ aa_.size a
 simp only [a6_,aI_,bne_self_eq_false]
 refine ⟨fun h=>(by cases h),fun _ => ?_⟩
 refine m8_ (fun n N i=>a6_.loop6 n (bK_ n) (some true) N a a (i:Int)) (fun _=>true) a.length fun i hi k => ?_
 show Ev (fun n N=>a6_.step6 n (bK_ n) (some true) (a6_.loop6 n (bK_ n) (some true) N) a a (i:Int)) true
 by_cases h:i<a.length
 · simp only [a6_.step6,aa_.re_eq,Int.toNat_natCast,aI_,bR_,ad_ (ih _ (cG_ aa_.dflt h)),bne_self_eq_false,beq_self_eq_true,Bool.not_true,W_up h (show a.length≤cD_ by omega)]
   exact ⟨fun _=>⟨⟨by omega,by omega⟩,⟨by omega,by omega⟩,fun h=>(by cases h),fun _=>k h⟩,fun h'=>absurd h (by simpa using h')⟩
 · simp only [a6_.step6,aI_,ak_]
   exact ⟨fun h'=>absurd (of_decide_eq_true h') (by omega),fun _=>trivial⟩
theorem fO_ {a:List Bs} (ha:(c7_ szB) a≤cD_):Ev (fun n _=>aL_ n a a) true:=by
 refine aT_ ?_
 have hl:=dd_ szB a
 simp only [aL_,aI_,bne_self_eq_false]
 refine ⟨fun h=>(by cases h),fun _ => ?_⟩
 refine m8_ (fun n N i=>aL_.loop6 n (some true) N a a (i:Int)) (fun _=>true) a.length fun i hi k => ?_
 show Ev (fun n N=>aL_.step6 n (some true) (aL_.loop6 n (some true) N) a a (i:Int)) true
 by_cases h:i<a.length
 · simp only [aL_.step6,Int.toNat_natCast,aI_,bR_,bne_self_eq_false,beq_self_eq_true,Bool.not_true,W_up h (show a.length≤cD_ by omega)]
   exact ⟨fun _=>⟨⟨by omega,by omega⟩,⟨by omega,by omega⟩,fun h=>(by cases h),fun _=>k h⟩,fun h'=>absurd h (by simpa using h')⟩
 · simp only [aL_.step6,aI_,ak_]
   exact ⟨fun h'=>absurd (of_decide_eq_true h') (by omega),fun _=>trivial⟩
theorem hy_ (a:aa_) (ha:aa_.size a≤cD_):Ev (fun n _=>bK_ n a a) true:=by
 have hq:=aa_.size_eq a
 refine aT_ ?_
 have h1:=jF_ (a:=a.list) (by omega) fun x hx=>hy_ x (by have:=h0_ aa_.size hx;omega)
 have h2:=fO_ (a:=a.names) (by omega)
 simp only [bK_,ad_ h1,ad_ h2,bne_self_eq_false,beq_self_eq_true,Bool.not_true,cond_false,ak_]
termination_by SizeOf.sizeOf a
decreasing_by
 have:=List.sizeOf_lt_of_mem hx
 cases a
 simp at this ⊢
 omega
theorem lo_ {a:aa_} (ha:aa_.size a≤cD_):Ev (fun n _=>bK_ n a a) true:=hy_ a ha
theorem eqJsonS_ev {a:List aa_} (ha:c7_ aa_.size a≤cD_):Ev (fun n _=>a6_ n a a) true:=jF_ ha fun x hx=>hy_ x (by have:=h0_ aa_.size hx;omega)
theorem eqOp_ev {a:TOp} (ha:TOp.size a≤cD_):Ev (fun n _=>cJ_ n a a) true:=by
 refine aT_ ?_
 simp only [TOp.size] at ha
 have h0:=fO_ (a:=a.way) (by omega)
 have h1:=lo_ (a:=a.value) (by omega)
 simp only [cJ_,aa_.re_eq,TOp.eta,ad_ h0,ad_ h1,bne_self_eq_false,beq_self_eq_true,Bool.not_true,cond_false,ak_]
theorem eqOpS_ev {a:List TOp} (ha:(c7_ TOp.size) a≤cD_):Ev (fun n _=>br_ n a a) true:=by
 refine aT_ ?_
 have hl:=dd_ TOp.size a
 simp only [br_,aI_,bne_self_eq_false]
 refine ⟨fun h=>(by cases h),fun _ => ?_⟩
 refine m8_ (fun n N i=>br_.loop6 n (some true) N a a (i:Int)) (fun _=>true) a.length fun i hi k => ?_
 show Ev (fun n N=>br_.step6 n (some true) (br_.loop6 n (some true) N) a a (i:Int)) true
 by_cases h:i<a.length
 · simp only [br_.step6,Int.toNat_natCast,aI_,bR_,aa_.re_eq,TOp.eta,ad_ (eqOp_ev (a:=a.getD i TOp.dflt) (by have:=h0_ TOp.size (cG_ TOp.dflt h);omega)),bne_self_eq_false,beq_self_eq_true,Bool.not_true,W_up h (show a.length≤cD_ by omega)]
   exact ⟨fun _=>⟨⟨by omega,by omega⟩,⟨by omega,by omega⟩,fun h=>(by cases h),fun _=>k h⟩,fun h'=>absurd h (by simpa using h')⟩
 · simp only [br_.step6,aI_,ak_]
   exact ⟨fun h'=>absurd (of_decide_eq_true h') (by omega),fun _=>trivial⟩
theorem nU_ {a:ah_} (ha:ah_.size a≤cD_):Ev (fun n _=>ca_ n a a) true:=by
 refine aT_ ?_
 simp only [ah_.size] at ha
 have h0:=lo_ (a:=a.doc) (by omega)
 have h1:=eqOpS_ev (a:=a.ops) (by omega)
 simp only [ca_,aa_.re_eq,ah_.eta,ad_ h0,ad_ h1,bne_self_eq_false,beq_self_eq_true,Bool.not_true,cond_false,ak_]
theorem l4_ {a:List ah_} (ha:(c7_ ah_.size) a≤cD_):Ev (fun n _=>aV_ n a a) true:=by
 refine aT_ ?_
 have hl:=dd_ ah_.size a
 simp only [aV_,aI_,bne_self_eq_false]
 refine ⟨fun h=>(by cases h),fun _ => ?_⟩
 refine m8_ (fun n N i=>aV_.loop6 n (some true) N a a (i:Int)) (fun _=>true) a.length fun i hi k => ?_
 show Ev (fun n N=>aV_.step6 n (some true) (aV_.loop6 n (some true) N) a a (i:Int)) true
 by_cases h:i<a.length
 · simp only [aV_.step6,Int.toNat_natCast,aI_,bR_,aa_.re_eq,ah_.eta,ad_ (nU_ (a:=a.getD i ah_.dflt) (by have:=h0_ ah_.size (cG_ ah_.dflt h);omega)),bne_self_eq_false,beq_self_eq_true,Bool.not_true,W_up h (show a.length≤cD_ by omega)]
   exact ⟨fun _=>⟨⟨by omega,by omega⟩,⟨by omega,by omega⟩,fun h=>(by cases h),fun _=>k h⟩,fun h'=>absurd h (by simpa using h')⟩
 · simp only [aV_.step6,aI_,ak_]
   exact ⟨fun h'=>absurd (of_decide_eq_true h') (by omega),fun _=>trivial⟩
theorem e6_ (n:Nat) (k0:Bs→Option Bs) (N:Nat) (k:Int) (out:Bs):aG_.loop6 n k0 (N+1) k out=aG_.step6 n k0 (aG_.loop6 n k0 N) k out:=rfl
theorem e7_ (k:Int) (hk:k≤cD_):∃ t,Ev (fun n _=>aG_ n k) t:=by
 by_cases h0:k≤0
 · exact ⟨[109,48],aT_ (by simp only [aG_,aI_,ak_];exact ⟨fun _=>trivial,fun h=>absurd h0 (of_decide_eq_false h)⟩)⟩
 have key:∀ (j:Nat) (k:Int) (out:Bs),k<10 ^ j→k≤cD_→out.length+j≤100→∃ t,Ev (fun n N=>aG_.loop6 n (fun xy2=>(cond (decide ([109].length+xy2.length≤9223372036854775807)) (some (([109]:Bs)++xy2)) none)) N k out) t:=by
  intro j
  induction j with
  |zero=>
   intro k out hj hk ho
   refine ⟨[109]++out,bo_ ?_⟩
   simp only [e6_,aG_.step6,aI_,ak_,cW_]
   exact ⟨fun h=>absurd (of_decide_eq_true h) (by simp at hj;omega),fun _=>⟨fun _=>trivial,fun h=>absurd (of_decide_eq_false h) (by simp;omega)⟩⟩
  |succ j ih=>
   intro k out hj hk ho
   by_cases hp:k > 0
   · have e1:Int.tdiv k 10=k / 10:=Int.tdiv_eq_ediv_of_nonneg (by omega)
     have e2:W (Int.tdiv k 10)=k / 10:=by rw [e1];exact W_id (by omega) (by simp only [cD_] at hk;omega)
     obtain ⟨t,ht⟩:=ih (k / 10) ((eY_ ([(IntKind.u8.wrap ((W (48+(Int.tmod k 10)))))]:List Int))++out) (by rw [Int.pow_succ] at hj;omega) (by simp only [cD_] at hk ⊢;omega) (by simp [eY_];omega)
     refine ⟨t,bo_ ?_⟩
     simp only [e6_,aG_.step6,aI_,cW_,e2]
     exact ⟨fun _=>⟨fun _=>ht,fun h=>absurd (of_decide_eq_false h) (by simp [eY_];omega)⟩,fun h=>absurd hp (of_decide_eq_false h)⟩
   · refine ⟨[109]++out,bo_ ?_⟩
     simp only [e6_,aG_.step6,aI_,ak_,cW_]
     exact ⟨fun h=>absurd (of_decide_eq_true h) hp,fun _=>⟨fun _=>trivial,fun h=>absurd (of_decide_eq_false h) (by simp;omega)⟩⟩
 obtain ⟨t,ht⟩:=key 19 k [] (by simp only [cD_] at hk;omega) hk (by simp)
 refine ⟨t,aT_ ?_⟩
 simp only [aG_,aI_]
 exact ⟨fun h=>absurd (of_decide_eq_true h) h0,fun _=>cF_ (f:=fun n N=>aG_.loop6 n _ N k []) ht⟩
theorem dE_ {a:List Bs} {k:Int} (ha:a.length≤cD_) (hk:0≤k) (hb:k+32*((c7_ szB) a:Nat)≤cD_) :
  ∃ k' a',k≤k'∧k'≤k+32*((c7_ szB) a:Nat)∧a'.length=a.length∧Ev (fun n _=>ar_ n a k) (k',a')∧Ev (fun n _=>as_ n a' k) k':=by
 refine (iw_ [] szB (fun n N k i a=>ar_.loop3 n (fun xy3 xy4=>(some (xy3,xy4))) N k (i:Int) a) (fun n N a k i=>as_.loop3 n (fun xy2=>(some xy2)) N a k (i:Int)) (fun i a k hi ha hk hb => ?_) (fun a k => ?_) (fun a k => ?_) a k ha hk hb).elim fun k' ⟨a',h1,h2,h3,h4,h5⟩=>⟨k',a',h1,h2,h3,aT_ h4,aT_ h5⟩
 · generalize hx:a.getD i []=x at *
   simp only [szB] at hb ⊢
   obtain ⟨t0,ht0⟩:=e7_ (k) (by omega)
   refine ⟨k+1,t0,by omega,by omega,fun F hF => ?_,fun b F hi' hb' hxb hF => ?_⟩
   · show Ev (fun n N=>ar_.step3 n (fun xy3 xy4=>(some (xy3,xy4))) (ar_.loop3 n (fun xy3 xy4=>(some (xy3,xy4))) N) k (i:Int) a) F
     simp only [ar_.step3,Int.toNat_natCast,aI_,bR_,List.length_set,List.set_set,h4_ [] hi,hx,ad_ ht0,dc_ (k:=k) (by omega) (by omega),W_up hi ha,decide_eq_true_eq,decide_eq_false_iff_not,Nat.beq_refl]
     refine ⟨fun _ => ?_,fun h=>absurd hi (by simpa using h)⟩
     repeat' (first|exact hF|apply And.intro|intro _|omega)
     all_goals (first|exact hF|(simp_all;done)|omega)
   · show Ev (fun n N=>as_.step3 n (fun xy2=>(some xy2)) (as_.loop3 n (fun xy2=>(some xy2)) N) b k (i:Int)) F
     simp only [as_.step3,Int.toNat_natCast,aI_,bR_,hxb,bne_self_eq_false,beq_self_eq_true,Bool.not_true,cond_false,ad_ ht0,dc_ (k:=k) (by omega) (by omega),W_up hi' hb',decide_eq_true_eq,decide_eq_false_iff_not]
     refine ⟨fun _ => ?_,fun h=>absurd hi' (by simpa using h)⟩
     repeat' (first|exact hF|apply And.intro|intro _|omega)
     all_goals (first|exact hF|(simp_all;done)|omega)
 · show Ev (fun n N=>ar_.step3 n (fun xy3 xy4=>(some (xy3,xy4))) (ar_.loop3 n (fun xy3 xy4=>(some (xy3,xy4))) N) k (a.length:Int) a) _
   simp only [ar_.step3,aI_,ak_]
   exact ⟨fun h=>absurd (of_decide_eq_true h) (by omega),fun _=>trivial⟩
 · show Ev (fun n N=>as_.step3 n (fun xy2=>(some xy2)) (as_.loop3 n (fun xy2=>(some xy2)) N) a k (a.length:Int)) _
   simp only [as_.step3,aI_,ak_]
   exact ⟨fun h=>absurd (of_decide_eq_true h) (by omega),fun _=>trivial⟩
theorem gW_ (a:List aa_) (k:Int) (ha:a.length≤cD_) (hk:0≤k) (hb:k+32*((c7_ aa_.size) a:Nat)≤cD_) :
  ∃ k' a',k≤k'∧k'≤k+32*((c7_ aa_.size) a:Nat)∧a'.length=a.length∧Ev (fun n _=>aw_ n a k) (k',a')∧Ev (fun n _=>ax_ n a' k) k':=by
 have hq:∀ i,i<a.length→a.getD i aa_.dflt ∈ a:=fun i hi=>cG_ aa_.dflt hi
 obtain ⟨a0,ha0⟩:∃ a0,a0=a:=⟨_,rfl⟩
 refine (jp_ (fun x=>x ∈ a0) aa_.dflt aa_.size (fun n N k i a=>aw_.loop3 n (aw_ n) (fun xy9 xy10=>(some (xy9,xy10))) N k (i:Int) a) (fun n N a k i=>ax_.loop3 n (ax_ n) (fun xy4=>(some xy4)) N a k (i:Int)) (fun i a k hi hxm ha hk hb => ?_) (fun a k => ?_) (fun a k => ?_) a k (by rw [ha0];exact hq) ha hk hb).elim fun k' ⟨a',h1,h2,h3,h4,h5⟩=>⟨k',a',h1,h2,h3,aT_ h4,aT_ h5⟩
 · clear hq
   generalize hx:a.getD i aa_.dflt=x at *
   rw [ha0] at hxm
   have hdec:=aa_.dec hxm
   simp only [aa_.size_eq] at hb ⊢
   obtain ⟨t2,ht2⟩:=e7_ ((k+1)+1) (by omega)
   obtain ⟨k3,y3,u3,v3,l3,e3,g3⟩:=gW_ x.list (((k+1)+1)+1) (by have:=dd_ aa_.size (x.list);omega) (by omega) (by omega)
   obtain ⟨k4,y4,u4,v4,l4,e4,g4⟩:=dE_ (a:=x.names) (k:=k3) (by have:=dd_ szB (x.names);omega) (by omega) (by omega)
   refine ⟨k4,(aa_.mk k (k+1) t2 y3 y4),by omega,by omega,fun F hF => ?_,fun b F hi' hb' hxb hF => ?_⟩
   · show Ev (fun n N=>aw_.step3 n (aw_ n) (fun xy9 xy10=>(some (xy9,xy10))) (aw_.loop3 n (aw_ n) (fun xy9 xy10=>(some (xy9,xy10))) N) k (i:Int) a) F
     simp only [aw_.step3,Int.toNat_natCast,aI_,bR_,List.length_set,List.set_set,h4_ aa_.dflt hi,hx,ad_ ht2,ad_ e3,ad_ e4,aa_.re_eq,dc_ (k:=k) (by omega) (by omega),dc_ (k:=k+1) (by omega) (by omega),dc_ (k:=(k+1)+1) (by omega) (by omega),l3,l4,W_up hi ha,decide_eq_true_eq,decide_eq_false_iff_not,Nat.beq_refl]
     refine ⟨fun _ => ?_,fun h=>absurd hi (by simpa using h)⟩
     repeat' (first|exact hF|apply And.intro|intro _|omega)
     all_goals (first|exact hF|(simp_all;done)|omega)
   · show Ev (fun n N=>ax_.step3 n (ax_ n) (fun xy4=>(some xy4)) (ax_.loop3 n (ax_ n) (fun xy4=>(some xy4)) N) b k (i:Int)) F
     simp only [ax_.step3,Int.toNat_natCast,aI_,bR_,hxb,bne_self_eq_false,beq_self_eq_true,Bool.not_true,cond_false,ad_ g3,ad_ g4,ad_ ht2,aa_.re_eq,dc_ (k:=k) (by omega) (by omega),dc_ (k:=k+1) (by omega) (by omega),dc_ (k:=(k+1)+1) (by omega) (by omega),l3,l4,W_up hi' hb',decide_eq_true_eq,decide_eq_false_iff_not]
     refine ⟨fun _ => ?_,fun h=>absurd hi' (by simpa using h)⟩
     repeat' (first|exact hF|apply And.intro|intro _|omega)
     all_goals (first|exact hF|(simp_all;done)|omega)
 · show Ev (fun n N=>aw_.step3 n (aw_ n) (fun xy9 xy10=>(some (xy9,xy10))) (aw_.loop3 n (aw_ n) (fun xy9 xy10=>(some (xy9,xy10))) N) k (a.length:Int) a) _
   simp only [aw_.step3,aI_,ak_]
   exact ⟨fun h=>absurd (of_decide_eq_true h) (by omega),fun _=>trivial⟩
 · show Ev (fun n N=>ax_.step3 n (ax_ n) (fun xy4=>(some xy4)) (ax_.loop3 n (ax_ n) (fun xy4=>(some xy4)) N) a k (a.length:Int)) _
   simp only [ax_.step3,aI_,ak_]
   exact ⟨fun h=>absurd (of_decide_eq_true h) (by omega),fun _=>trivial⟩
termination_by SizeOf.sizeOf a
decreasing_by assumption
theorem hF_ {a:List aa_} {k:Int} (ha:a.length≤cD_) (hk:0≤k) (hb:k+32*(c7_ aa_.size a:Nat)≤cD_) :
  ∃ k' a',k≤k'∧k'≤k+32*(c7_ aa_.size a:Nat)∧a'.length=a.length∧Ev (fun n _=>aw_ n a k) (k',a')∧Ev (fun n _=>ax_ n a' k) k':=gW_ a k ha hk hb
theorem nC_ {a:List TOp} {k:Int} (ha:a.length≤cD_) (hk:0≤k) (hb:k+32*((c7_ TOp.size) a:Nat)≤cD_) :
  ∃ k' a',k≤k'∧k'≤k+32*((c7_ TOp.size) a:Nat)∧a'.length=a.length∧Ev (fun n _=>a4_ n a k) (k',a')∧Ev (fun n _=>a5_ n a' k) k':=by
 refine (iw_ TOp.dflt TOp.size (fun n N k i a=>a4_.loop3 n (fun xy12 xy13=>(some (xy12,xy13))) N k (i:Int) a) (fun n N a k i=>a5_.loop3 n (fun xy5=>(some xy5)) N a k (i:Int)) (fun i a k hi ha hk hb => ?_) (fun a k => ?_) (fun a k => ?_) a k ha hk hb).elim fun k' ⟨a',h1,h2,h3,h4,h5⟩=>⟨k',a',h1,h2,h3,aT_ h4,aT_ h5⟩
 · generalize hx:a.getD i TOp.dflt=x at *
   simp only [TOp.size,aa_.size_eq] at hb ⊢
   obtain ⟨k1,y1,u1,v1,l1,e1,g1⟩:=dE_ (a:=x.way) (k:=k+1) (by have:=dd_ szB (x.way);omega) (by omega) (by omega)
   obtain ⟨t4,ht4⟩:=e7_ ((k1+1)+1) (by omega)
   obtain ⟨k5,y5,u5,v5,l5,e5,g5⟩:=hF_ (a:=x.value.list) (k:=((k1+1)+1)+1) (by have:=dd_ aa_.size (x.value.list);omega) (by omega) (by omega)
   obtain ⟨k6,y6,u6,v6,l6,e6,g6⟩:=dE_ (a:=x.value.names) (k:=k5) (by have:=dd_ szB (x.value.names);omega) (by omega) (by omega)
   refine ⟨k6,(TOp.mk k y1 (aa_.mk k1 (k1+1) t4 y5 y6)),by omega,by omega,fun F hF => ?_,fun b F hi' hb' hxb hF => ?_⟩
   · show Ev (fun n N=>a4_.step3 n (fun xy12 xy13=>(some (xy12,xy13))) (a4_.loop3 n (fun xy12 xy13=>(some (xy12,xy13))) N) k (i:Int) a) F
     simp only [a4_.step3,Int.toNat_natCast,aI_,bR_,List.length_set,List.set_set,h4_ TOp.dflt hi,hx,ad_ e1,ad_ ht4,ad_ e5,ad_ e6,aa_.re_eq,TOp.eta,dc_ (k:=k) (by omega) (by omega),l1,dc_ (k:=k1) (by omega) (by omega),dc_ (k:=k1+1) (by omega) (by omega),dc_ (k:=(k1+1)+1) (by omega) (by omega),l5,l6,W_up hi ha,decide_eq_true_eq,decide_eq_false_iff_not,Nat.beq_refl]
     refine ⟨fun _ => ?_,fun h=>absurd hi (by simpa using h)⟩
     repeat' (first|exact hF|apply And.intro|intro _|omega)
     all_goals (first|exact hF|(simp_all;done)|omega)
   · show Ev (fun n N=>a5_.step3 n (fun xy5=>(some xy5)) (a5_.loop3 n (fun xy5=>(some xy5)) N) b k (i:Int)) F
     simp only [a5_.step3,Int.toNat_natCast,aI_,bR_,hxb,bne_self_eq_false,beq_self_eq_true,Bool.not_true,cond_false,ad_ g1,ad_ g5,ad_ g6,ad_ ht4,aa_.re_eq,TOp.eta,dc_ (k:=k) (by omega) (by omega),l1,dc_ (k:=k1) (by omega) (by omega),dc_ (k:=k1+1) (by omega) (by omega),dc_ (k:=(k1+1)+1) (by omega) (by omega),l5,l6,W_up hi' hb',decide_eq_true_eq,decide_eq_false_iff_not]
     refine ⟨fun _ => ?_,fun h=>absurd hi' (by simpa using h)⟩
     repeat' (first|exact hF|apply And.intro|intro _|omega)
     all_goals (first|exact hF|(simp_all;done)|omega)
 · show Ev (fun n N=>a4_.step3 n (fun xy12 xy13=>(some (xy12,xy13))) (a4_.loop3 n (fun xy12 xy13=>(some (xy12,xy13))) N) k (a.length:Int) a) _
   simp only [a4_.step3,aI_,ak_]
   exact ⟨fun h=>absurd (of_decide_eq_true h) (by omega),fun _=>trivial⟩
 · show Ev (fun n N=>a5_.step3 n (fun xy5=>(some xy5)) (a5_.loop3 n (fun xy5=>(some xy5)) N) a k (a.length:Int)) _
   simp only [a5_.step3,aI_,ak_]
   exact ⟨fun h=>absurd (of_decide_eq_true h) (by omega),fun _=>trivial⟩
theorem j8_ {a:List ah_} {k:Int} (ha:a.length≤cD_) (hk:0≤k) (hb:k+32*((c7_ ah_.size) a:Nat)≤cD_) :
  ∃ k' a',k≤k'∧k'≤k+32*((c7_ ah_.size) a:Nat)∧a'.length=a.length∧Ev (fun n _=>aE_ n a k) (k',a')∧Ev (fun n _=>aC_ n a' k) k':=by
 refine (iw_ ah_.dflt ah_.size (fun n N k i a=>aE_.loop3 n (fun xy14 xy15=>(some (xy14,xy15))) N k (i:Int) a) (fun n N a k i=>aC_.loop3 n (fun xy7=>(some xy7)) N a k (i:Int)) (fun i a k hi ha hk hb => ?_) (fun a k => ?_) (fun a k => ?_) a k ha hk hb).elim fun k' ⟨a',h1,h2,h3,h4,h5⟩=>⟨k',a',h1,h2,h3,aT_ h4,aT_ h5⟩
 · generalize hx:a.getD i ah_.dflt=x at *
   simp only [ah_.size,aa_.size_eq] at hb ⊢
   obtain ⟨t5,ht5⟩:=e7_ (((((k+1)+1)+1)+1)+1) (by omega)
   obtain ⟨k6,y6,u6,v6,l6,e6,g6⟩:=hF_ (a:=x.doc.list) (k:=(((((k+1)+1)+1)+1)+1)+1) (by have:=dd_ aa_.size (x.doc.list);omega) (by omega) (by omega)
   obtain ⟨k7,y7,u7,v7,l7,e7,g7⟩:=dE_ (a:=x.doc.names) (k:=k6) (by have:=dd_ szB (x.doc.names);omega) (by omega) (by omega)
   obtain ⟨k8,y8,u8,v8,l8,e8,g8⟩:=nC_ (a:=x.ops) (k:=k7) (by have:=dd_ TOp.size (x.ops);omega) (by omega) (by omega)
   refine ⟨k8,(ah_.mk k (k+1) ((k+1)+1) (aa_.mk (((k+1)+1)+1) ((((k+1)+1)+1)+1) t5 y6 y7) y8),by omega,by omega,fun F hF => ?_,fun b F hi' hb' hxb hF => ?_⟩
   · show Ev (fun n N=>aE_.step3 n (fun xy14 xy15=>(some (xy14,xy15))) (aE_.loop3 n (fun xy14 xy15=>(some (xy14,xy15))) N) k (i:Int) a) F
     simp only [aE_.step3,Int.toNat_natCast,aI_,bR_,List.length_set,List.set_set,h4_ ah_.dflt hi,hx,ad_ ht5,ad_ e6,ad_ e7,ad_ e8,aa_.re_eq,ah_.eta,dc_ (k:=k) (by omega) (by omega),dc_ (k:=k+1) (by omega) (by omega),dc_ (k:=(k+1)+1) (by omega) (by omega),dc_ (k:=((k+1)+1)+1) (by omega) (by omega),dc_ (k:=(((k+1)+1)+1)+1) (by omega) (by omega),dc_ (k:=((((k+1)+1)+1)+1)+1) (by omega) (by omega),l6,l7,l8,W_up hi ha,decide_eq_true_eq,decide_eq_false_iff_not,Nat.beq_refl]
     refine ⟨fun _ => ?_,fun h=>absurd hi (by simpa using h)⟩
     repeat' (first|exact hF|apply And.intro|intro _|omega)
     all_goals (first|exact hF|(simp_all;done)|omega)
   · show Ev (fun n N=>aC_.step3 n (fun xy7=>(some xy7)) (aC_.loop3 n (fun xy7=>(some xy7)) N) b k (i:Int)) F
     simp only [aC_.step3,Int.toNat_natCast,aI_,bR_,hxb,bne_self_eq_false,beq_self_eq_true,Bool.not_true,cond_false,ad_ g6,ad_ g7,ad_ g8,ad_ ht5,aa_.re_eq,ah_.eta,dc_ (k:=k) (by omega) (by omega),dc_ (k:=k+1) (by omega) (by omega),dc_ (k:=(k+1)+1) (by omega) (by omega),dc_ (k:=((k+1)+1)+1) (by omega) (by omega),dc_ (k:=(((k+1)+1)+1)+1) (by omega) (by omega),dc_ (k:=((((k+1)+1)+1)+1)+1) (by omega) (by omega),l6,l7,l8,W_up hi' hb',decide_eq_true_eq,decide_eq_false_iff_not]
     refine ⟨fun _ => ?_,fun h=>absurd hi' (by simpa using h)⟩
     repeat' (first|exact hF|apply And.intro|intro _|omega)
     all_goals (first|exact hF|(simp_all;done)|omega)
 · show Ev (fun n N=>aE_.step3 n (fun xy14 xy15=>(some (xy14,xy15))) (aE_.loop3 n (fun xy14 xy15=>(some (xy14,xy15))) N) k (a.length:Int) a) _
   simp only [aE_.step3,aI_,ak_]
   exact ⟨fun h=>absurd (of_decide_eq_true h) (by omega),fun _=>trivial⟩
 · show Ev (fun n N=>aC_.step3 n (fun xy7=>(some xy7)) (aC_.loop3 n (fun xy7=>(some xy7)) N) a k (a.length:Int)) _
   simp only [aC_.step3,aI_,ak_]
   exact ⟨fun h=>absurd (of_decide_eq_true h) (by omega),fun _=>trivial⟩
end Go.Pi
end
section
namespace Go.Pi
def d8_ (l:List TOp):Nat:=l.findIdx fun o=>(cC_ o).kind == 0
def df_ (l:List TOp):aa_:=aa_.mk 4 0 [] (l.map cC_) []
def gc_ (l:List TOp):Int:=cond (decide (d8_ l<l.length)) (-1) (cond (bG_ (df_ l) == []) (-1) ((bG_ (df_ l)).length:Int))
theorem jI_ {l:List TOp} {i:Nat} (hi:i<d8_ l):((cC_ (l.getD i TOp.dflt)).kind == 0)=false:=by
 have hl:d8_ l≤l.length:=List.findIdx_le_length
 rw [List.getD_eq_getElem?_getD,List.getElem?_eq_getElem (by omega),Option.getD_some]
 have:=List.not_of_lt_findIdx (xs:=l) (p:=fun o=>(cC_ o).kind == 0) (i:=i) hi
 simpa using this
theorem bad_at {l:List TOp} (h:d8_ l<l.length):((cC_ (l.getD (d8_ l) TOp.dflt)).kind == 0)=true:=by
 rw [List.getD_eq_getElem?_getD,List.getElem?_eq_getElem h,Option.getD_some]
 exact List.findIdx_getElem (xs:=l) (p:=fun o=>(cC_ o).kind == 0) (w:=h)
theorem mM_ {α β:Type} (f:α→β) (d:α) {a:List α} {i:Nat} (h:i<a.length):(a.take (i+1)).map f=(a.take i).map f++[f (a.getD i d)]:=by
 rw [cO_ d h,List.map_append];rfl
def jq_ (l:List TOp):Prop:=l.length≤4000000∧∀ o ∈ l,d7_ o
theorem h3_ {l:List TOp} (h:jq_ l):fl_ 6 (df_ l):=by
 refine ⟨⟨Nat.zero_le _,Nat.zero_le _,fun x hx=>(by cases hx)⟩,by have:=h.1;simp [df_,cD_];omega,fun x hx => ?_⟩
 obtain ⟨o,ho,e⟩:=List.mem_map.1 hx
 rw [←e];exact lU_ 5 _ (gw_ (h.2 o ho))
theorem fE_ {l:List TOp} (h:jq_ l):Ev (fun n _=>aZ_ n l) (cond (decide (d8_ l<l.length)) (fq_,false) (df_ l,true)):=by
 refine aT_ ?_
 have hl:=h.1
 have ht:l.length≤cD_:=by simp only [cD_];omega
 have hb:d8_ l≤l.length:=List.findIdx_le_length
 simp only [aZ_]
 have:=eB_ (fun i=>(l.take i).map cC_) (d8_ l) (fun n N i (o:List aa_)=>aZ_.loop4 n (fun xy2 xy3 xy4 xy5 xy6 xy7 xy8=>(some ((aa_.mk xy5 xy6 xy7 xy8 ([]:List Bs)),true))) N l (l.length:Int) (i:Int) 0 0 [] 4 0 [] o) (cond (decide (d8_ l<l.length)) (fq_,false) (df_ l,true)) (fun i hi F hF => ?_) ?_
 · exact this
 · have hi2:i<l.length:=by omega
   have hx:=d2_ (h.2 _ (cG_ TOp.dflt hi2))
   rw [mM_ cC_ TOp.dflt hi2] at hF
   have hol:((l.take i).map cC_).length≤i:=by simp;omega
   generalize (l.take i).map cC_=o at hF hol ⊢
   simp only [aZ_.turn4,aZ_.step4,bC_,gj_,Int.toNat_natCast,W_up hi2 ht,cV_ hi2,cK_ hi2,jI_ hi,cond_true,cond_false,bR_,cc_,ad_ hx]
   exact ⟨trivial,by simp;omega,hF⟩
 · by_cases hp:d8_ l<l.length
   · have hx:=d2_ (h.2 _ (cG_ TOp.dflt hp))
     simp only [aZ_.turn4,aZ_.step4,bC_,gj_,Int.toNat_natCast,cV_ hp,cK_ hp,bad_at hp,cond_true,bR_,ad_ hx,ak_]
     rw [decide_eq_true hp]
     exact ⟨trivial,rfl⟩
   · have e:d8_ l=l.length:=by omega
     rw [decide_eq_false hp,cond_false]
     unfold df_
     rw [e,List.take_length]
     simp only [aZ_.turn4,aZ_.step4,cR_,cond_false,ak_]
theorem hv_ {l:List TOp} (h:jq_ l):Ev (fun n _=>bN_ n l) (gc_ l):=by
 refine aT_ ?_
 simp only [bN_,bC_,ad_ (fE_ h)]
 unfold gc_
 cases hp:decide (d8_ l<l.length) with
 |true=>
  simp only [cond_true,ad_ (c9_ (eo_ 6)),aI_,ak_]
  simp
 |false=>
  simp only [cond_false,ad_ (c9_ (h3_ h)),aI_,ak_]
  generalize bG_ (df_ l)=s
  cases (s == [])<;>simp
end Go.Pi
end
section
namespace Go.Pi
theorem hU_ {j:aa_}:Ev (fun n _=>ai_ n j (aa_.mk 0 0 [] [] [])) (he_ j):=by
 refine aT_ ?_
 simp only [ai_,aI_,ak_,he_]
 by_cases h1:j.list=[]
 · by_cases h2:j.names=[]
   · have hL:Ev (fun n _=>ai_.loop6 n (ai_ n) (fun xy2 xy3 xy4 xy5 xy6 xy7 xy8 xy9 xy10 xy11=>(ai_.loop14 n (ai_ n) (some true) n 0 xy2 xy3 xy4 xy5 xy6 xy7 xy8 xy9 xy10 xy11)) n 0 j.kind j.n_ j.s [] [] 0 0 [] [] []) true :=
      cF_ (f:=fun n N=>ai_.loop6 n (ai_ n) (fun xy2 xy3 xy4 xy5 xy6 xy7 xy8 xy9 xy10 xy11=>(ai_.loop14 n (ai_ n) (some true) n 0 xy2 xy3 xy4 xy5 xy6 xy7 xy8 xy9 xy10 xy11)) N 0 j.kind j.n_ j.s [] [] 0 0 [] [] []) (bo_ (cF_ (f:=fun n N=>ai_.loop14 n (ai_ n) (some true) N 0 j.kind j.n_ j.s [] [] 0 0 [] [] []) (bo_ ⟨0,fun _ _ _ _=>rfl⟩)))
     rw [h1,h2]
     simp only [dS_ hL,bne]
     cases (j.kind == 0)<;>cases (j.n_ == 0)<;>cases (j.s == [])<;>simp
   · simp only [bne]
     rw [h1]
     have e:((j.names.length:Int) == (([]:List Bs).length:Int))=false:=by
      simp only [List.length_nil]
      rw [beq_eq_false_iff_ne];intro e;exact h2 (List.eq_nil_of_length_eq_zero (by omega))
     have e2:decide (j.names.length=0)=false:=decide_eq_false fun e=>h2 (List.eq_nil_of_length_eq_zero e)
     rw [e,e2]
     cases (j.kind == 0)<;>cases (j.n_ == 0)<;>cases (j.s == [])<;>simp
 · simp only [bne]
   have e:((j.list.length:Int) == (([]:List aa_).length:Int))=false:=by
    simp only [List.length_nil]
    rw [beq_eq_false_iff_ne];intro e;exact h1 (List.eq_nil_of_length_eq_zero (by omega))
   have e2:decide (j.list.length=0)=false:=decide_eq_false fun e=>h1 (List.eq_nil_of_length_eq_zero e)
   rw [e,e2]
   cases (j.kind == 0)<;>cases (j.n_ == 0)<;>cases (j.s == [])<;>simp
theorem gi_ {l:List TOp} (h:jq_ l):Ev (fun n _=>bg_ n l) (cond (decide (d8_ l<l.length)) (aa_.mk 4 0 [] ((l.take (d8_ l)).map cC_) [],false) (df_ l,decide ((l.length:Int)≤40) && !(bG_ (df_ l) == []))):=by
 refine aT_ ?_
 have hl:=h.1
 have ht:l.length≤cD_:=by simp only [cD_];omega
 have hb:d8_ l≤l.length:=List.findIdx_le_length
 simp only [bg_]
 have:=eB_ (fun i=>(l.take i).map cC_) (d8_ l) (fun n N i (o:List aa_)=>bg_.loop4 n (fun xy2 xy3 xy4 xy5 xy6 xy7 xy8 xy9=>(cond (decide ((xy2.length:Int)≤40)) ((b4_ n (aa_.mk xy6 xy7 xy8 xy9 [])).bind fun xr10=>(some ((aa_.mk xy6 xy7 xy8 xy9 ([]:List Bs)),(!(xr10 == []))))) (some ((aa_.mk xy6 xy7 xy8 xy9 ([]:List Bs)),false)))) N l (i:Int) 0 0 [] 4 0 [] o) (cond (decide (d8_ l<l.length)) (aa_.mk 4 0 [] ((l.take (d8_ l)).map cC_) [],false) (df_ l,decide ((l.length:Int)≤40) && !(bG_ (df_ l) == []))) (fun i hi F hF => ?_) ?_
 · exact this
 · have hi2:i<l.length:=by omega
   have hx:=d1_ (h.2 _ (cG_ TOp.dflt hi2))
   rw [mM_ cC_ TOp.dflt hi2] at hF
   have hol:((l.take i).map cC_).length≤i:=by simp;omega
   generalize (l.take i).map cC_=o at hF hol ⊢
   simp only [bg_.turn4,bg_.step4,bC_,gj_,Int.toNat_natCast,W_up hi2 ht,cV_ hi2,cK_ hi2,jI_ hi,cond_true,cond_false,bR_,cc_,ad_ hx]
   exact ⟨trivial,by simp;omega,hF⟩
 · by_cases hp:d8_ l<l.length
   · have hx:=d1_ (h.2 _ (cG_ TOp.dflt hp))
     simp only [bg_.turn4,bg_.step4,bC_,gj_,Int.toNat_natCast,cV_ hp,cK_ hp,bad_at hp,cond_true,bR_,ad_ hx,ak_]
     rw [decide_eq_true hp]
     exact ⟨trivial,rfl⟩
   · have e:d8_ l=l.length:=by omega
     have hE:=dj_ (h3_ h)
     rw [decide_eq_false hp,cond_false]
     unfold df_ at hE ⊢
     rw [e,List.take_length]
     simp only [bg_.turn4,bg_.step4,cR_,cond_false,aI_,ad_ hE,ak_]
     cases decide ((l.length:Int)≤40)<;>simp
def lB_ (l:List TOp):Bool:=(!decide (d8_ l<l.length))&&(decide ((l.length:Int)≤40) && !(bG_ (df_ l) == []))
def cx_ (e:ah_):Bool:=inn e.version 0 100000&&cond (e.kind == 1) ((e.base == 0)&&(decide (e.ops.length=0) && !(bG_ e.doc == []))) (cond (e.kind == 2) (lB_ e.ops&&(inn e.base 0 (W (e.version - 1))&&he_ e.doc)) false)
def lV_ (e:ah_):Prop:=fl_ 6 e.doc∧jq_ e.ops
theorem jD_ (e:ah_):ah_.mk e.kind e.version e.base e.doc e.ops=e:=rfl
theorem size_ok (l:List TOp):decide (gc_ l≥0)=((!decide (d8_ l<l.length)) && !(bG_ (df_ l) == [])):=by
 unfold gc_
 cases decide (d8_ l<l.length) with
 |true=>rfl
 |false=>
  cases hs:(bG_ (df_ l) == []) with
  |true=>rfl
  |false=>simp only [cond_false,Bool.not_false,Bool.and_true];exact decide_eq_true (by omega)
theorem ii_ {e:ah_} (h:lV_ e):Ev (fun n _=>b9_ n e) (cx_ e):=by
 refine aT_ ?_
 simp only [b9_,bC_,l1In_b,aI_,ad_ (dj_ h.1),ad_ (gi_ h.2),ad_ hU_,ak_,j9_,cx_,lB_]
 generalize inn e.version 0 100000=a1
 generalize (e.kind == 1)=a2
 generalize (e.kind == 2)=a3
 generalize (e.base == 0)=a4
 generalize decide (e.ops.length=0)=a5
 generalize decide (d8_ e.ops<e.ops.length)=a6
 generalize decide ((e.ops.length:Int)≤40)=a7
 generalize (bG_ (df_ e.ops) == [])=a8
 generalize (bG_ e.doc == [])=a9
 generalize inn e.base 0 (W (e.version - 1))=b1
 generalize he_ e.doc=b2
 cases a1<;>cases a2<;>cases a3<;>cases a4<;>simp only [cond_true,cond_false,Bool.not_true,Bool.not_false,Bool.false_and,Bool.true_and,reduceCtorEq,false_implies,true_implies,true_and,and_true,implies_true]
 all_goals (cases a5<;>cases a6<;>cases a7<;>cases a8<;>cases a9<;>cases b1<;>cases b2<;>simp)
theorem hu_ {n:Int}:Ev (fun m _=>bJ_ m n) (inn n 0 100000):=aT_ (by simp only [bJ_,ez_,ak_])
theorem iG_ {e:ah_} (h:lV_ e):Ev (fun n _=>cb_ n e) (cx_ e):=by
 refine aT_ ?_
 simp only [cb_,bC_,ez_,aI_,ad_ hu_,ad_ (c9_ h.1),ad_ gm_,ad_ (hv_ h.2),ak_,j9_,size_ok,cx_,lB_]
 generalize inn e.version 0 100000=a1
 generalize (e.kind == 1)=a2
 generalize (e.kind == 2)=a3
 generalize (e.base == 0)=a4
 generalize decide (e.ops.length=0)=a5
 generalize decide (d8_ e.ops<e.ops.length)=a6
 generalize decide ((e.ops.length:Int)≤40)=a7
 generalize (bG_ (df_ e.ops) == [])=a8
 generalize (bG_ e.doc == [])=a9
 generalize inn e.base 0 (W (e.version - 1))=b1
 generalize he_ e.doc=b2
 cases a1<;>cases a2<;>cases a3<;>cases a4<;>simp only [cond_true,cond_false,Bool.not_true,Bool.not_false,Bool.false_and,Bool.true_and,reduceCtorEq,false_implies,true_implies,true_and,and_true,implies_true]
 all_goals (cases a5<;>cases a6<;>cases a7<;>cases a8<;>cases a9<;>cases b1<;>cases b2<;>simp)
end Go.Pi
end
section
namespace Go.Pi
theorem eN_ {x:Int} (h0 : -9223372036854775808≤x) (h1:x≤9223372036854775807):Ev (fun n _=>cm_ n x) (Lib.itoa x):=by
 refine aT_ ?_
 have:=Itoa_ev h0 h1
 simp only [cm_,ad_ this,ak_]
end Go.Pi
end
section
namespace Go.Pi
def ja_ (v:Int):Bs:=([105,100,58,32]++Lib.itoa v)++[10]
def dO_ (v:Int) (d:Bs):Bs:=((([101,118,101,110,116,58,32,115,110,97,112,10]++ja_ v)++[100,97,116,97,58,32])++d)++[10,10]
def dB_ (v b:Int) (d:Bs):Bs:=((((([101,118,101,110,116,58,32,112,97,116,99,104,10]++ja_ v)++[98,97,115,101,58,32])++Lib.itoa b)++[10,100,97,116,97,58,32])++d)++[10,10]
def cE_ (e:ah_):Bs:=cond (cx_ e) (cond (e.kind == 1) (dO_ e.version (bG_ e.doc)) (dB_ e.version e.base (bG_ (df_ e.ops)))) []
theorem dZ_ (j:aa_):(bG_ j).length≤6000:=by
 unfold bG_
 cases cT_ j with
 |false=>exact Nat.zero_le _
 |true=>
  simp only [cond_true]
  cases h:decide (((FEnc 6 j).length:Int) > 6000) with
  |true=>exact Nat.zero_le _
  |false=>have:=of_decide_eq_false h;simp only [cond_false];omega
structure EvIs (e:ah_):Prop where
 ver:0≤e.version∧e.version≤100000
 base:(e.kind == 1)=false→0≤e.base∧e.base≤100000
 ops:(e.kind == 1)=false→decide (d8_ e.ops<e.ops.length)=false
theorem ev_is {e:ah_} (h:cx_ e=true):EvIs e:=by
 unfold cx_ at h
 rw [Bool.and_eq_true] at h
 have hv:=f0_ h.1
 refine ⟨by omega,fun hk => ?_,fun hk => ?_⟩
 all_goals (
  have h2:=h.2
  rw [hk,cond_false] at h2
  cases hk2:(e.kind == 2) with
  |false=>rw [hk2] at h2;cases h2
  |true=>
   rw [hk2,cond_true,Bool.and_eq_true,Bool.and_eq_true] at h2
   have hb:=f0_ h2.2.1
   rw [W_id (by omega) (by omega)] at hb
   unfold lB_ at h2
   rw [Bool.and_eq_true] at h2
   first|(have:=h2.1.1;simpa using this)|omega)
theorem eQ_ {e:ah_} (h:lV_ e):Ev (fun n _=>bL_ n e) (cE_ e):=by
 refine aT_ ?_
 simp only [bL_,bC_,jD_,ad_ (ii_ h),aI_,ak_,cE_]
 cases ho:cx_ e with
 |false=>exact ⟨fun _=>rfl,fun h=>(by cases h)⟩
 |true=>
  refine ⟨fun h=>(by cases h),fun _ => ?_⟩
  have hi:=ev_is ho
  have hd:=hi.ver
  have hdl:=Lib.itoa_length_le e.version (by omega) (by omega)
  cases hk:(e.kind == 1) with
  |true=>
   have hE:=dj_ h.1
   have hEl:=dZ_ e.doc
   simp only [ad_ (c5_ (x:=e.version) (by omega) (by omega)),cond_true,aI_,cW_,ad_ hE,ak_,dO_,ja_]
   generalize Lib.itoa e.version=a at hdl ⊢
   generalize bG_ e.doc=b at hEl ⊢
   repeat' (first|apply And.intro|intro _)
   all_goals (first|trivial|rfl|(rename_i hc;have hc:=of_decide_eq_false hc;simp only [List.length_append,List.length_cons,List.length_nil] at hc;omega))
  |false=>
   have hb:=hi.base hk
   have hbl:=Lib.itoa_length_le e.base (by omega) (by omega)
   have hO:=gi_ h.2
   rw [hi.ops hk,cond_false] at hO
   have hE:=dj_ (h3_ h.2)
   have hEl:=dZ_ (df_ e.ops)
   simp only [ad_ (c5_ (x:=e.version) (by omega) (by omega)),ad_ (c5_ (x:=e.base) (by omega) (by omega)),ad_ hO,cond_true,cond_false,aI_,cW_,ad_ hE,ak_,dB_,ja_]
   generalize Lib.itoa e.version=a at hdl ⊢
   generalize Lib.itoa e.base=c at hbl ⊢
   generalize bG_ (df_ e.ops)=b at hEl ⊢
   repeat' (first|apply And.intro|intro _)
   all_goals (first|trivial|rfl|(rename_i hc;have hc:=of_decide_eq_false hc;simp only [List.length_append,List.length_cons,List.length_nil] at hc;omega))
theorem eS_ {e:ah_} (h:lV_ e):Ev (fun n _=>bO_ n e) (cE_ e):=by
 refine aT_ ?_
 simp only [bO_,bC_,jD_,ad_ (iG_ h),aI_,ak_,cE_]
 cases ho:cx_ e with
 |false=>exact ⟨fun _=>rfl,fun h=>(by cases h)⟩
 |true=>
  refine ⟨fun h=>(by cases h),fun _ => ?_⟩
  have hi:=ev_is ho
  have hd:=hi.ver
  have hdl:=Lib.itoa_length_le e.version (by omega) (by omega)
  cases hk:(e.kind == 1) with
  |true=>
   have hE:=c9_ h.1
   have hEl:=dZ_ e.doc
   simp only [ad_ (eN_ (x:=e.version) (by omega) (by omega)),cond_true,aI_,cW_,ad_ hE,ak_,dO_,ja_]
   generalize Lib.itoa e.version=a at hdl ⊢
   generalize bG_ e.doc=b at hEl ⊢
   repeat' (first|apply And.intro|intro _)
   all_goals (first|trivial|rfl|(rename_i hc;have hc:=of_decide_eq_false hc;simp only [List.length_append,List.length_cons,List.length_nil] at hc;omega))
  |false=>
   have hb:=hi.base hk
   have hbl:=Lib.itoa_length_le e.base (by omega) (by omega)
   have hO:=fE_ h.2
   rw [hi.ops hk,cond_false] at hO
   have hE:=c9_ (h3_ h.2)
   have hEl:=dZ_ (df_ e.ops)
   simp only [ad_ (eN_ (x:=e.version) (by omega) (by omega)),ad_ (eN_ (x:=e.base) (by omega) (by omega)),ad_ hO,cond_true,cond_false,aI_,cW_,ad_ hE,ak_,dB_,ja_]
   generalize Lib.itoa e.version=a at hdl ⊢
   generalize Lib.itoa e.base=c at hbl ⊢
   generalize bG_ (df_ e.ops)=b at hEl ⊢
   repeat' (first|apply And.intro|intro _)
   all_goals (first|trivial|rfl|(rename_i hc;have hc:=of_decide_eq_false hc;simp only [List.length_append,List.length_cons,List.length_nil] at hc;omega))
end Go.Pi
end
