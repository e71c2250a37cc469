/- FnShort: what is sent of two drawn views as a patch is less than the answer would be; of alike ones nothing is. No condition. Text 6 of 7. -/
import Derived.Test.YtmgcfhlcdhlafabGreatDoorShE
import Derived.Lib.ItoaLen
set_option linter.unusedVariables false
set_option maxRecDepth 100000
set_option linter.unusedSimpArgs false
section
namespace Go.Pi
def fw_ (p:Nat→Bool):Nat→Nat→Bool
 |0,_=>true
 |d+1,i=>p i&&fw_ p d (i+1)
def g6_ (p:Nat→Bool) (len:Nat):Bool:=fw_ p len 0
theorem d5_ (L:Nat→Nat→Nat→Option Bool) (p:Nat→Bool) {len:Nat} {v:Bool}
  (h:∀ i w,i<len→Ev (fun n N=>L n N (i+1)) w→Ev (fun n N=>L n (N+1) i) (p i&&w)) (h2:Ev (fun n N=>L n (N+1) len) v) :
  Ev (fun n _=>L n n 0) (g6_ p len&&v):=by
 have key:∀ d i,d+i=len→Ev (fun n N=>L n N i) (fw_ p d i&&v):=by
  intro d
  induction d with
  |zero=>intro i hd;obtain rfl:i=len:=by omega
         simpa [fw_] using cr_ (f:=fun n N=>L n N i) h2
  |succ d ih=>intro i hd
              have:=h i _ (by omega) (ih (i+1) (by omega))
              rw [←Bool.and_assoc] at this
              exact cr_ (f:=fun n N=>L n N i) this
 exact en_ (f:=fun n N=>L n N 0) (key len 0 (by omega))
theorem eA_ {α:Type} {f:Nat→Nat→Option α} {v w:α} (h:Ev f v) (e:v=w):Ev f w:=e ▸ h
def inn (x lo hi:Int):Bool:=decide (lo≤x)&&decide (x≤hi)
theorem iU_ {x lo hi:Int}:inn x lo hi=true↔lo≤x∧x≤hi:=by simp [inn]
theorem l1In_ev {x lo hi:Int}:Ev (fun n _=>bX_ n x lo hi) (inn x lo hi):=by
 refine as_ ?_
 simp only [bX_,ao_,af_,inn]
 grind
theorem within_ev {x lo hi:Int}:Ev (fun n _=>az_ n x lo hi) (inn x lo hi):=by
 refine as_ ?_
 simp only [az_,ao_,af_,inn]
 grind
section
variable {β:Type} {x lo hi:Int} {g:Nat→Nat→Bool→Option β} {v:β}
theorem e9_:Ev (fun n N=>(bX_ n x lo hi).bind (g n N)) v↔Ev (fun n N=>g n N (inn x lo hi)) v:=ab_ l1In_ev
theorem h8_:Ev (fun n N=>(az_ n x lo hi).bind (g n N)) v↔Ev (fun n N=>g n N (inn x lo hi)) v:=ab_ within_ev
theorem isNum_b:Ev (fun n N=>(a7_ n x).bind (g n N)) v↔Ev (fun n N=>g n N (inn x (-1000000000) 1000000000)) v :=
 ab_ (as_ (by simp only [a7_,h8_,af_]))
end
theorem ct_ {i len:Nat} (h:i<len):decide ((i:Int)<(len:Int))=true:=by simp;omega
theorem b7_ {len:Nat}:decide ((len:Int)<(len:Int))=false:=by simp
theorem b9_ {i len:Nat} (h:i<len):((0:Int)≤(i:Int)∧(i:Int)<(len:Int))↔True:=by simp;omega
end Go.Pi
end
section
namespace Go.Pi
abbrev cap:Nat:=1048576
def hy_ {α:Type} (f:α→Nat):List α→Nat
 |[]=>0
 |x::xs=>f x+hy_ f xs
def ih_ {α:Type} (f:α→Nat) (l:List α):Nat:=l.length+hy_ f l
def nS_ {α:Type} (P:α→Prop) (l:List α):Prop:=l.length≤bR_∧∀ x ∈ l,P x
def szI (_:Int):Nat:=0
def szB (s:Bs):Nat:=s.length
def lenI (_:Int):Prop:=True
def lenB (s:Bs):Prop:=s.length≤bR_
theorem mH_ {α:Type} (f:α→Nat) (d:α) {a:List α} {i:Nat} (h:i<a.length):hy_ f (a.drop i)=f (a.getD i d)+hy_ f (a.drop (i+1)):=by
 rw [f6_ d h];rfl
theorem lP_ {α:Type} (f:α→Nat) {a:List α} {x:α} (h:x ∈ a):f x≤hy_ f a:=by
 induction a with
 |nil=>cases h
 |cons y a ih=>
  simp only [hy_]
  rcases List.mem_cons.1 h with rfl|h
  · omega
  · have:=ih h;omega
end Go.Pi
end
section
namespace Go.Pi
theorem W_dn {i:Nat} (h:i≤bR_):W ((i:Int) - 1)=(i:Int) - 1:=by
 rw [W_id (by omega) (by simp only [bR_] at h;omega)]
theorem jv_ {i:Nat}:((i:Int) - 1).toNat=i - 1:=by omega
theorem hn_ {x lo hi:Int} (h:inn x lo hi=true):lo≤x∧x≤hi:=iU_.1 h
def fM_ {α:Type} (s:Nat→α→α) (v:α):Nat→Nat→α
 |0,_=>v
 |d+1,i=>s i (fM_ s v d (i+1))
theorem hW_ {α:Type} (L:Nat→Nat→Nat→Option α) (s:Nat→α→α) {len:Nat} {v:α}
  (h:∀ i w,i<len→Ev (fun n N=>L n N (i+1)) w→Ev (fun n N=>L n (N+1) i) (s i w)) (h2:Ev (fun n N=>L n (N+1) len) v) :
  Ev (fun n _=>L n n 0) (fM_ s v len 0):=by
 have key:∀ d i,d+i=len→Ev (fun n N=>L n N i) (fM_ s v d i):=by
  intro d
  induction d with
  |zero=>intro i hd;obtain rfl:i=len:=by omega
         exact cr_ (f:=fun n N=>L n N i) h2
  |succ d ih=>intro i hd
              exact cr_ (f:=fun n N=>L n N i) (h i _ (by omega) (ih (i+1) (by omega)))
 exact en_ (f:=fun n N=>L n N 0) (key len 0 (by omega))
theorem bn_ {α:Type} {n b:Nat} {f:Nat→Nat→Option α} {v:α}:Ev (fun m N=>bm_ n b (f m N)) v↔n*b≤140737488355328∧Ev f v:=by
 unfold bm_
 rw [ao_]
 by_cases h:n*b≤140737488355328<;>simp [h,c9_]
theorem ly_ {α β γ:Type} (d:α) (a:List α) (f:α→β) (L:Nat→Nat→Nat→List β→Option γ) (v:γ)
  (h1:∀ i s,i<a.length→s.length=i→∀ F,Ev (fun n N=>L n N (i+1) (s++[f (a.getD i d)])) F→Ev (fun n N=>L n (N+1) i s) F)
  (h2:Ev (fun n N=>L n (N+1) a.length (a.map f)) v):Ev (fun n _=>L n n 0 []) v:=by
 have key:∀ j i,j+i=a.length→Ev (fun n N=>L n N i ((a.take i).map f)) v:=by
  intro j
  induction j with
  |zero=>
   intro i hi
   have:i=a.length:=by omega
   subst this
   rw [List.take_of_length_le (Nat.le_refl _)]
   exact cr_ h2
  |succ j ih=>
   intro i hi
   refine cr_ (h1 i _ (by omega) (by simp;omega) _ ?_)
   have:=ih (i+1) (by omega)
   rw [List.take_add_one,List.map_append] at this
   have e:a[i]?.toList=[a.getD i d]:=by
    rw [List.getD_eq_getElem?_getD,List.getElem?_eq_getElem (by omega)];rfl
   rw [e] at this
   exact this
 have:=key a.length 0 (by omega)
 exact en_ (f:=fun n N=>L n N 0 []) this
abbrev eu_:Nat:=1073741824
theorem dT_ {α γ:Type} (S:Nat→α) (len:Nat) (L:Nat→Nat→Nat→α→Option γ) (v:γ)
  (h1:∀ i,i<len→∀ F,Ev (fun n N=>L n N (i+1) (S (i+1))) F→Ev (fun n N=>L n (N+1) i (S i)) F)
  (h2:Ev (fun n N=>L n (N+1) len (S len)) v):Ev (fun n _=>L n n 0 (S 0)) v:=by
 have key:∀ j i,j+i=len→Ev (fun n N=>L n N i (S i)) v:=by
  intro j
  induction j with
  |zero=>
   intro i hi
   have:i=len:=by omega
   subst this
   exact cr_ h2
  |succ j ih=>exact fun i hi=>cr_ (h1 i (by omega) _ (ih (i+1) (by omega)))
 exact en_ (f:=fun n N=>L n N 0 (S 0)) (key len 0 (by omega))
theorem cC_ {α:Type} (d:α) {a:List α} {i:Nat} (h:i<a.length):a.take (i+1)=a.take i++[a.getD i d]:=by
 rw [List.take_add_one,List.getD_eq_getElem?_getD,List.getElem?_eq_getElem h];rfl
theorem e0_ {α:Type} (d:α) (P:α→Bool):∀ (rows:List α),fM_ (fun i (x:Int)=>cond (P (rows.getD i d)) (i:Int) x) (-1) rows.length 0=if rows.findIdx P<rows.length then (rows.findIdx P:Int) else -1:=by
 intro rows
 have key:∀ j i,j+i=rows.length→(∀ k,k<i→P (rows.getD k d)=false)→fM_ (fun i (x:Int)=>cond (P (rows.getD i d)) (i:Int) x) (-1) j i=if rows.findIdx P<rows.length then (rows.findIdx P:Int) else -1:=by
  intro j
  induction j with
  |zero=>
   intro i hi hk
   have:¬ rows.findIdx P<rows.length:=by
    intro h
    have h1:=List.findIdx_getElem (w:=h)
    have h2:=hk _ (show rows.findIdx P<i by omega)
    rw [List.getD_eq_getElem?_getD,List.getElem?_eq_getElem h] at h2
    simp only [Option.getD_some] at h2
    rw [h1] at h2;cases h2
   rw [if_neg this];rfl
  |succ j ih=>
   intro i hi hk
   simp only [fM_]
   cases hp:P (rows.getD i d) with
   |true=>
    have hlt:i<rows.length:=by omega
    rw [List.getD_eq_getElem?_getD,List.getElem?_eq_getElem hlt] at hp
    have e:rows.findIdx P=i:=by
     apply Nat.le_antisymm
     · exact Nat.le_of_not_lt fun h=>by have:=List.not_of_lt_findIdx h;rw [Option.getD_some] at hp;rw [hp] at this;cases this
     · exact Nat.le_of_not_lt fun h=>by
        have h2:=hk _ h
        have hl:rows.findIdx P<rows.length:=by omega
        rw [List.getD_eq_getElem?_getD,List.getElem?_eq_getElem hl] at h2
        rw [Option.getD_some,List.findIdx_getElem (w:=hl)] at h2;cases h2
    rw [e,if_pos hlt];rfl
   |false=>
    rw [cond_false]
    exact ih (i+1) (by omega) fun k hk'=>by
     by_cases e:k=i
     · subst e;exact hp
     · exact hk k (by omega)
 exact key rows.length 0 (by omega) fun k hk=>by omega
theorem gm_ {α:Type} {lo hi:Int} {len:Nat} {f:Nat→Nat→Option α} {v:α}:Ev (fun n N=>i1_ lo hi len (f n N)) v↔(0≤lo∧lo≤hi∧hi≤(len:Int))∧Ev f v:=by
 unfold i1_
 simp only [ao_,c9_]
 by_cases h1:0≤lo<;>by_cases h2:lo≤hi<;>by_cases h3:hi≤(len:Int)<;>simp [h1,h2,h3]
theorem fi_ {p:Nat→Bool} {len:Nat}:g6_ p len=true↔∀ i,i<len→p i=true:=by
 have key:∀ d i,d+i=len→(fw_ p d i=true↔∀ k,i≤k→k<len→p k=true):=by
  intro d
  induction d with
  |zero=>intro i hi;simp only [fw_,true_iff];intro k h1 h2;omega
  |succ d ih=>
   intro i hi
   simp only [fw_,Bool.and_eq_true,ih (i+1) (by omega)]
   constructor
   · rintro ⟨h1,h2⟩ k h3 h4
     by_cases e:k=i
     · subst e;exact h1
     · exact h2 k (by omega) h4
   · exact fun h=>⟨h i (Nat.le_refl _) (by omega),fun k h1 h2=>h k (by omega) h2⟩
 have:=key len 0 (by omega)
 unfold g6_
 rw [this]
 exact ⟨fun h i hi=>h i (Nat.zero_le _) hi,fun h i _ hi=>h i hi⟩
end Go.Pi
end
section
namespace Go.Pi
section
variable {α β σ:Type}
def Ans (f:Nat→Nat→Option α) (Q:α→Prop):Prop:=∃ v,Ev f v∧Q v
theorem ans_ev {f:Nat→Nat→Option α} {v:α} (h:Ev f v) {Q:α→Prop}:Ans f Q↔Q v :=
 ⟨fun ⟨w,h1,h2⟩=>(c0_ h).1 h1 ▸ h2,fun hq=>⟨v,h,hq⟩⟩
theorem ch_ {v:α} {Q:α→Prop}:Ans (fun _ _=>some v) Q↔Q v:=ans_ev (af_.2 rfl)
theorem pB_ {Q:α→Prop}:Ans (fun _ _=>none) Q↔False :=
 ⟨fun ⟨_,h,_⟩=>c9_.1 h,fun h=>h.elim⟩
theorem cV_ {f:Nat→Nat→Option α} {a:α} (h:Ev f a) {g:Nat→Nat→α→Option β} {Q:β→Prop}:Ans (fun n N=>(f n N).bind (g n N)) Q↔Ans (fun n N=>g n N a) Q:=by
 unfold Ans;simp only [ab_ h]
theorem bc_ {f:Nat→Nat→Option α} {P:α→Prop} (h:Ans f P) {g:Nat→Nat→α→Option β} {Q:β→Prop} (k:∀ v,P v→Ans (fun n N=>g n N v) Q):Ans (fun n N=>(f n N).bind (g n N)) Q:=by
 obtain ⟨v,h1,h2⟩:=h
 exact (cV_ h1).2 (k v h2)
theorem cy_ {c:Bool} {f g:Nat→Nat→Option α} {Q:α→Prop}:Ans (fun n N=>cond c (f n N) (g n N)) Q↔(c=true→Ans f Q)∧(c=false→Ans g Q):=by
 cases c<;>simp
theorem gt_ {i:Int} {len:Nat} {f:Nat→Nat→Option α} {Q:α→Prop}:Ans (fun n N=>inB i len (f n N)) Q↔(0≤i∧i<(len:Int))∧Ans f Q:=by
 unfold Ans;simp only [bl_]
 exact ⟨fun ⟨v,⟨h1,h2⟩,h3⟩=>⟨h1,v,h2,h3⟩,fun ⟨h1,v,h2,h3⟩=>⟨v,⟨h1,h2⟩,h3⟩⟩
theorem eB_ {n b:Nat} {f:Nat→Nat→Option α} {Q:α→Prop}:Ans (fun m N=>bm_ n b (f m N)) Q↔n*b≤140737488355328∧Ans f Q:=by
 unfold Ans;simp only [bn_]
 exact ⟨fun ⟨v,⟨h1,h2⟩,h3⟩=>⟨h1,v,h2,h3⟩,fun ⟨h1,v,h2,h3⟩=>⟨v,⟨h1,h2⟩,h3⟩⟩
theorem di_ {f:Nat→Nat→Option α} {Q:α→Prop} (h:Ans (fun n N=>f (n+1) N) Q):Ans f Q :=
 let ⟨v,h1,h2⟩:=h;⟨v,as_ h1,h2⟩
theorem cW_ {f:Nat→Nat→Option α} {Q:α→Prop} (h:Ans (fun n N=>f n (N+1)) Q):Ans f Q :=
 let ⟨v,h1,h2⟩:=h;⟨v,cr_ h1,h2⟩
theorem fh_ {f:Nat→Nat→Option α} {Q:α→Prop} (h:Ans f Q):Ans (fun n _=>f n n) Q :=
 let ⟨v,h1,h2⟩:=h;⟨v,en_ h1,h2⟩
end
end Go.Pi
end
section
namespace Go.Pi
structure DwOk (c:al_):Prop where
 lo:0≤c.i
 hi:c.i≤(c.b.length:Int)
 len:c.b.length≤1048576
abbrev and64 (x y:Int):Int:=IntKind.i64.wrap (BitVec.ofInt (IntKind.bits .i64) x &&& BitVec.ofInt (IntKind.bits .i64) y).toNat
theorem pC_ (x:Int) (m:Nat) (hm:m<2 ^ 31):0≤and64 x (m:Int)∧and64 x (m:Int)≤m:=by
 have h1:(BitVec.ofInt (IntKind.bits .i64) x &&& BitVec.ofInt (IntKind.bits .i64) (m:Int)).toNat≤m:=by
  rw [BitVec.toNat_and]
  refine Nat.le_trans Nat.and_le_right ?_
  rw [BitVec.ofInt_natCast,BitVec.toNat_ofNat]
  exact Nat.mod_le _ _
 show 0≤W _∧W _≤_
 generalize (BitVec.ofInt (IntKind.bits .i64) x &&& BitVec.ofInt (IntKind.bits .i64) (m:Int)).toNat=k at h1
 rw [W_id (by omega) (by omega)]
 omega
theorem cur_next {c:al_} (h:DwOk c) (hlt:c.i<(c.b.length:Int)) (z:Int):DwOk (al_.mk c.b (W (c.i+1)) z):=by
 have h1:=h.lo;have h2:=h.len
 have e:W (c.i+1)=c.i+1:=W_id (by omega) (by omega)
 exact ⟨by show 0≤W (c.i+1);rw [e];omega,by show W (c.i+1)≤(c.b.length:Int);rw [e];omega,h2⟩
theorem cur_same {c:al_} (h:DwOk c) (z:Int):DwOk (al_.mk c.b c.i z):=⟨h.lo,h.hi,h.len⟩
theorem cU_ (c:al_):al_.mk c.b c.i c.h=c:=rfl
theorem m8_ {ed_:List Int} (hc:ed_.length≤1048576):Ans (fun n _=>bS_ n ed_) DwOk:=by
 have key:∀ (m i:Nat) (h:Int),i+m=ed_.length→Ans (fun n N=>bS_.loop4 n (fun xy2 xy3=>(some (al_.mk xy2 0 xy3))) N ed_ h (i:Int)) DwOk:=by
  intro m
  induction m with
  |zero=>
   intro i h hi
   have e:i=ed_.length:=by omega
   subst e
   refine cW_ ?_
   simp only [bS_.turn4,bS_.step4,b7_,cond_false,ch_]
   exact ⟨Int.le_refl _,by simp,hc⟩
  |succ m ih=>
   intro i h hi
   have hlt:i<ed_.length:=by omega
   have hW:=W_up hlt (show ed_.length≤bR_ by simp only [bR_];omega)
   refine cW_ ?_
   simp only [bS_.turn4,bS_.step4,ct_ hlt,cond_true,cy_,gt_,ch_,hW]
   exact ⟨fun _=>⟨by omega,ih (i+1) _ (by omega)⟩,fun _=>⟨Int.le_refl _,by simp,hc⟩⟩
 refine di_ ?_
 simp only [bS_]
 exact fh_ (key ed_.length 0 _ (by omega))
theorem f3_ {c:al_} (hc:DwOk c):Ans (fun n _=>cX_ n c) fun r=>0≤r.1∧r.1≤255∧DwOk r.2:=by
 refine di_ ?_
 simp only [cX_,cy_,gt_,ch_]
 refine ⟨fun h => ?_,fun _ => ?_⟩
 · have h:=of_decide_eq_true h
   exact ⟨⟨hc.lo,h⟩,(pC_ _ 255 (by decide)).1,(pC_ _ 255 (by decide)).2,cur_next hc h _⟩
 · exact ⟨(pC_ _ 255 (by decide)).1,(pC_ _ 255 (by decide)).2,cur_same hc _⟩
structure Drawn (n:Int) (r:Int × al_):Prop where
 lo:0≤r.1
 hi:r.1<n∨r.1=0
 cur:DwOk r.2
theorem bU_ {c:al_} {k:Int} (hc:DwOk c):Ans (fun n _=>am_ n c k) (Drawn k):=by
 refine di_ ?_
 simp only [am_,cy_,ch_]
 refine ⟨fun _=>⟨Int.le_refl _,.inr rfl,hc⟩,fun h0=>⟨fun h1 => ?_,fun h1 => ?_⟩⟩
 · have h0:=of_decide_eq_false h0
   refine bc_ (f3_ hc) fun r hr => ?_
   simp only [cy_,pB_,ch_]
   refine ⟨fun h=>by have:=of_decide_eq_true h;omega,fun _=>⟨Int.tmod_nonneg _ hr.1,.inl (Int.tmod_lt_of_pos _ (by omega)),hr.2.2⟩⟩
 · have h0:=of_decide_eq_false h0
   refine bc_ (f3_ hc) fun r1 h2=>bc_ (f3_ h2.2.2) fun r2 h3=>bc_ (f3_ h3.2.2) fun r3 h4=>bc_ (f3_ h4.2.2) fun r4 h5 => ?_
   simp only [cy_,pB_,ch_]
   refine ⟨fun h=>by have:=of_decide_eq_true h;omega,fun _ => ?_⟩
   obtain ⟨a1,a2,_⟩:=h2
   obtain ⟨b1,b2,_⟩:=h3
   obtain ⟨c1,c2,_⟩:=h4
   obtain ⟨d1,d2,hq⟩:=h5
   have e1:W (r1.1*16777216)=r1.1*16777216:=W_id (by omega) (by omega)
   have e2:W (r2.1*65536)=r2.1*65536:=W_id (by omega) (by omega)
   have e3:W (r3.1*256)=r3.1*256:=W_id (by omega) (by omega)
   rw [e1,e2,e3,W_id (n:=r1.1*16777216+r2.1*65536) (by omega) (by omega),W_id (n:=r1.1*16777216+r2.1*65536+r3.1*256) (by omega) (by omega),W_id (n:=r1.1*16777216+r2.1*65536+r3.1*256+r4.1) (by omega) (by omega)]
   exact ⟨Int.tmod_nonneg _ (by omega),.inl (Int.tmod_lt_of_pos _ (by omega)),hq⟩
theorem fn_ {c:al_} {k:Int} (hc:DwOk c):Ans (fun n _=>cn_ n c k) fun r=>DwOk r.2:=by
 refine di_ ?_
 simp only [cn_]
 exact bc_ (bU_ hc) fun r hr=>ch_.2 hr.cur
theorem gi_ {c:al_} {l:List Int} (hc:DwOk c) (hl:l≠[]):Ans (fun n _=>bE_ n c l) fun r=>r.1 ∈ l∧DwOk r.2:=by
 have hp:0<l.length:=List.length_pos_iff.2 hl
 refine di_ ?_
 simp only [bE_]
 refine bc_ (bU_ hc) fun r hr => ?_
 have h1:=hr.lo
 have h2:=hr.hi
 simp only [gt_,ch_]
 exact ⟨⟨h1,by omega⟩,bH_ _ (by omega),hr.cur⟩
end Go.Pi
end
section
namespace Go.Pi
def m5_ (c:Nat) (q:an_):Prop:=q.where_.length≤c∧q.show_.length≤c
def f8_ (c:Nat) (r:List TRow):Prop:=r.length≤c∧∀ x ∈ r,x.cells.length≤c
def iv_ (c:Nat) (v:aD_):Prop:=m5_ c v.q∧f8_ c v.rows∧v.kids.length≤c
end Go.Pi
end
section
namespace Go.Pi
end Go.Pi
end
section
namespace Go.Pi
def fz_ (s:aA_):Bool:=g6_ (fun i=>inn (s.cols.getD i 0) 1 4) s.cols.length&&inn s.cols.length 1 3
theorem gC_ {s:aA_} (hs:s.cols.length≤bR_):Ev (fun n _=>aW_ n s) (fz_ s):=by
 refine as_ ?_
 simp only [aW_]
 refine d5_ (fun n N i=>aW_.loop3 n _ N (i:Int) s.cols) _ (fun i w hi ih => ?_) ?_
 · simp only [aW_.turn3,aW_.step3,Int.toNat_natCast,ao_,bl_,e9_,af_,W_up hi hs,c0_ ih,ct_ hi,b9_ hi]
   grind
 · simp only [aW_.turn3,aW_.step3,b7_,cond_false,e9_,af_]
end Go.Pi
end
section
namespace Go.Pi
def FConds (w:Int) (c:List a6_):Bool:=g6_ (fun i=>inn (c.getD i a6_.dflt).col 0 (W (w - 1))&&(inn (c.getD i a6_.dflt).op 1 4&&inn (c.getD i a6_.dflt).v (-1000000000) 1000000000)) c.length
def FShow (w:Int) (s:List Int):Bool:=g6_ (fun i=>inn (s.getD i 0) 0 (W (w - 1))&&(decide (i=0)||decide (s.getD (i - 1) 0<s.getD i 0))) s.length
def FKids (s:aA_) (q:an_):Bool:=cond q.kids (inn q.kidTable 0 (W ((s.cols.length:Int) - 1))&&inn q.kidCol 0 (W ((s.cols.getD q.kidTable.toNat 0) - 1))) ((q.kidTable == 0)&&(q.kidCol == 0))
def hP_ (s:aA_) (q:an_):Bool:=fz_ s&&(inn q.table 0 (W ((s.cols.length:Int) - 1))&&(decide (q.where_.length≤3)&&(FConds (s.cols.getD q.table.toNat 0) q.where_&&(FShow (s.cols.getD q.table.toNat 0) q.show_ &&
 (inn q.order 0 (s.cols.getD q.table.toNat 0)&&(inn q.first 0 24&&(!((q.order == 0)&&q.down)&&FKids s q)))))))
section
variable {w:Int} {cols sh:List Int} {wh:List a6_} {t o f kt kc:Int} {d ks v:Bool}
theorem if_ {k:Nat→ay_.K7} (hl:wh.length≤bR_) (hk:Ev (fun n N=>k n w cols t wh o d f sh ks kt kc) v) :
  Ev (fun n _=>ay_.loop7 n (k n) n w 0 cols t wh o d f sh ks kt kc) (FConds w wh&&v):=by
 refine d5_ (fun n N i=>ay_.loop7 n (k n) N w (i:Int) cols t wh o d f sh ks kt kc) _ (fun i u hi ih => ?_) ?_
 · simp only [ay_.turn7,ay_.step7,Int.toNat_natCast,W_up hi hl,ao_,bl_,e9_,af_,c0_ ih,ct_ hi,b9_ hi]
   clear ih hk
   repeat' (first|apply And.intro|intro _)
   all_goals (try rw [Bool.eq_iff_iff])
   all_goals (try simp only [Bool.not_eq_true',Bool.not_eq_false',decide_eq_true_eq,decide_eq_false_iff_not,beq_iff_eq,beq_eq_false_iff_ne,Bool.and_eq_true,Bool.or_eq_true,Bool.and_eq_false_iff,Bool.or_eq_false_iff] at *)
   all_goals grind
 · simp only [ay_.turn7,ay_.step7,b7_,cond_false]
   exact hk
theorem hR_ {k:Nat→ay_.K16} (hl:sh.length≤bR_) (hk:Ev (fun n N=>k n w cols t wh o d f sh ks kt kc) v) :
  Ev (fun n _=>ay_.loop16 n (k n) n w 0 cols t wh o d f sh ks kt kc) (FShow w sh&&v):=by
 refine d5_ (fun n N i=>ay_.loop16 n (k n) N w (i:Int) cols t wh o d f sh ks kt kc) _ (fun i u hi ih => ?_) ?_
 · simp only [ay_.turn16,ay_.step16,Int.toNat_natCast,W_up hi hl,W_dn (i:=i) (by omega),jv_,ao_,bl_,e9_,af_,c0_ ih,ct_ hi,b9_ hi]
   clear ih hk
   repeat' (first|apply And.intro|intro _)
   all_goals (try rw [Bool.eq_iff_iff])
   all_goals (try simp only [Bool.not_eq_true',Bool.not_eq_false',decide_eq_true_eq,decide_eq_false_iff_not,beq_iff_eq,beq_eq_false_iff_ne,Bool.and_eq_true,Bool.or_eq_true,Bool.and_eq_false_iff,Bool.or_eq_false_iff] at *)
   all_goals grind
 · simp only [ay_.turn16,ay_.step16,b7_,cond_false]
   exact hk
end
theorem d1_ {β:Type} {s:aA_} (hs:s.cols.length≤bR_) {g:Nat→Nat→Bool→Option β} {v:β}:Ev (fun n N=>(aW_ n s).bind (g n N)) v↔Ev (fun n N=>g n N (fz_ s)) v:=ab_ (gC_ hs)
theorem gN_ {s:aA_} {q:an_} (hs:s.cols.length≤bR_) (hq:m5_ bR_ q):Ev (fun n _=>ay_ n s q) (hP_ s q):=by
 refine as_ ?_
 have e:=@W_dn s.cols.length hs
 simp only [ay_,d1_ hs,e9_,ao_,bl_,af_]
 refine ⟨fun h=>by simp at h;simp [hP_,h],fun h1=>⟨fun h=>by simp at h;simp [hP_,h],fun h2=>⟨fun h=>by simp at h;simp [hP_];grind,fun h3=>⟨by simp at h2;have:=hn_ h2;omega,?_⟩⟩⟩⟩
 refine eA_ (if_ (k:=fun n=>_) hq.1 (hR_ (k:=fun n=>_) (v:=inn q.order 0 (s.cols.getD q.table.toNat 0)&&(inn q.first 0 24&&(!((q.order == 0)&&q.down)&&FKids s q))) hq.2 ?_)) ?_
 · simp only [e9_,ao_,bl_,af_,FKids]
   repeat' (first|apply And.intro|intro _)
   all_goals (try rw [Bool.eq_iff_iff])
   all_goals (try simp only [inn,cond_true,cond_false,Bool.not_eq_true',Bool.not_eq_false',decide_eq_true_eq,decide_eq_false_iff_not,beq_iff_eq,beq_eq_false_iff_ne,Bool.and_eq_true,Bool.or_eq_true,Bool.and_eq_false_iff,Bool.or_eq_false_iff] at *)
   all_goals grind
 · simp [hP_];grind
end Go.Pi
end
section
namespace Go.Pi
def eF_ (r:TRow) (col:Int):Int:=cond (inn col 0 (W ((r.cells.length:Int) - 1))) (r.cells.getD col.toNat 0) 0
theorem ef_ {r:TRow} {col:Int} (hr:r.cells.length≤bR_):Ev (fun n _=>bz_ n r col) (eF_ r col):=by
 refine as_ ?_
 have e:=@W_dn r.cells.length hr
 simp only [bz_,e9_,ao_,bl_,af_,eF_]
 cases hi:inn col 0 (W ((r.cells.length:Int) - 1)) with
 |false=>simp
 |true=>have:=hn_ hi;exact ⟨fun h=>(by cases h),fun _=>⟨by omega,rfl⟩⟩
theorem cellOf_ev {r:TRow} {col:Int} (hr:r.cells.length≤bR_):Ev (fun n _=>dp_ n r col) (eF_ r col):=by
 refine as_ ?_
 have e:=@W_dn r.cells.length hr
 simp only [dp_,h8_,ao_,bl_,af_,eF_]
 cases hi:inn col 0 (W ((r.cells.length:Int) - 1)) with
 |false=>simp
 |true=>have:=hn_ hi;exact ⟨fun h=>(by cases h),fun _=>⟨by omega,rfl⟩⟩
theorem f5_ {rows:List TRow} (hr:f8_ bR_ rows) (i:Nat):(rows.getD i TRow.dflt).cells.length≤bR_:=by
 by_cases h:i<rows.length
 · exact hr.2 _ (bH_ _ h)
 · rw [List.getD_eq_getElem?_getD,List.getElem?_eq_none (by omega)];exact Nat.zero_le _
end Go.Pi
end
section
namespace Go.Pi
def FCells (c:List Int):Bool:=g6_ (fun i=>inn (c.getD i 0) (-1000000000) 1000000000) c.length
def FRow (s:aA_) (t:Int) (r:TRow):Bool:=fz_ s&&(inn t 0 (W ((s.cols.length:Int) - 1))&&(inn r.id_ 1 999&&(decide ((r.cells.length:Int)=s.cols.getD t.toNat 0)&&FCells r.cells)))
theorem ie_ {s:aA_} {t:Int} {r:TRow} (hs:s.cols.length≤bR_) (hr:r.cells.length≤bR_):Ev (fun n _=>b3_ n s t r) (FRow s t r):=by
 refine as_ ?_
 have e:=@W_dn s.cols.length hs
 have hl:Ev (fun n _=>b3_.loop6 n (some true) n 0 r.id_ r.cells) (FCells r.cells&&true):=by
  refine d5_ (fun n N i=>b3_.loop6 n (some true) N (i:Int) r.id_ r.cells) _ (fun i u hi ih => ?_) ?_
  · simp only [b3_.turn6,b3_.step6,Int.toNat_natCast,W_up hi hr,ao_,bl_,e9_,af_,c0_ ih,ct_ hi,b9_ hi]
    clear ih
    grind
  · simp only [b3_.turn6,b3_.step6,b7_,cond_false,af_]
 simp only [b3_,d1_ hs,e9_,ao_,bl_,af_,c0_ hl]
 clear hl
 repeat' (first|apply And.intro|intro _)
 all_goals (try rw [Bool.eq_iff_iff])
 all_goals (try simp only [FRow,inn,bne_iff_ne,bne_eq_false_iff_eq,Bool.not_eq_true',Bool.not_eq_false',decide_eq_true_eq,decide_eq_false_iff_not,beq_iff_eq,beq_eq_false_iff_ne,Bool.and_eq_true,Bool.or_eq_true,Bool.and_eq_false_iff,Bool.or_eq_false_iff] at *)
 all_goals grind
def nN_ (c:a6_) (r:TRow):Bool:=inn c.col 0 (W ((r.cells.length:Int) - 1))&&(cond (c.op == 1) (r.cells.getD c.col.toNat 0 == c.v) (cond (c.op == 2) (decide (r.cells.getD c.col.toNat 0<c.v)) (cond (c.op == 3) (decide (r.cells.getD c.col.toNat 0 > c.v)) (cond (c.op == 4) (r.cells.getD c.col.toNat 0 != c.v) false))))
theorem jO_ {c:a6_} {r:TRow} (hr:r.cells.length≤bR_):Ev (fun n _=>dj_ n c r) (nN_ c r):=by
 refine as_ ?_
 have e:=@W_dn r.cells.length hr
 simp only [dj_,e9_,ao_,bl_,af_,nN_]
 repeat' (first|apply And.intro|intro _)
 all_goals (try simp only [inn,Bool.not_eq_true',Bool.not_eq_false',decide_eq_true_eq,decide_eq_false_iff_not,Bool.and_eq_true,Bool.and_eq_false_iff] at *)
 all_goals simp_all
 all_goals omega
def fk_ (q:an_) (r:TRow):Bool:=g6_ (fun i=>nN_ (q.where_.getD i a6_.dflt) r) q.where_.length
theorem gO_ {q:an_} {r:TRow} (hq:q.where_.length≤bR_) (hr:r.cells.length≤bR_):Ev (fun n _=>bw_ n q r) (fk_ q r):=by
 refine as_ ?_
 simp only [bw_]
 have hH:∀ (c:a6_) (g:Nat→Nat→Bool→Option Bool) (v:Bool),Ev (fun n N=>(dj_ n c (TRow.mk r.id_ r.cells)).bind (g n N)) v↔Ev (fun n N=>g n N (nN_ c r)) v:=fun c g v=>ab_ (jO_ hr)
 refine eA_ (d5_ (fun n N i=>bw_.loop3 n (some true) N (i:Int) q.table q.where_ q.order q.down q.first q.show_ q.kids q.kidTable q.kidCol r.id_ r.cells) (fun i=>nN_ (q.where_.getD i a6_.dflt) r) (len:=q.where_.length) (v:=true) (fun i u hi ih => ?_) ?_) (by rw [Bool.and_true];rfl)
 · simp only [bw_.turn3,bw_.step3,Int.toNat_natCast,W_up hi hq,ao_,bl_,hH,af_,c0_ ih,ct_ hi,b9_ hi]
   clear ih hH
   grind
 · simp only [bw_.turn3,bw_.step3,b7_,cond_false,af_]
def fa_ (rows:List TRow) (id:Int):Int:=fM_ (fun i x=>cond ((rows.getD i TRow.dflt).id_ == id) (i:Int) x) (-1) rows.length 0
theorem gc_ {rows:List TRow} {id:Int} (hr:rows.length≤bR_):Ev (fun n _=>b0_ n rows id) (fa_ rows id):=by
 refine as_ ?_
 simp only [b0_]
 refine hW_ (fun n N i=>b0_.loop3 n (some (-1)) N rows id (i:Int)) _ (fun i u hi ih => ?_) ?_
 · simp only [b0_.turn3,b0_.step3,Int.toNat_natCast,W_up hi hr,ao_,bl_,af_,c0_ ih,ct_ hi,b9_ hi]
   clear ih
   grind
 · simp only [b0_.turn3,b0_.step3,b7_,cond_false,af_]
def gH_ (q:an_) (a b:TRow):Bool:=cond (q.order == 0) (decide (a.id_<b.id_)) (cond (eF_ a (W (q.order - 1)) == eF_ b (W (q.order - 1))) (decide (a.id_<b.id_)) (cond q.down (decide (eF_ a (W (q.order - 1)) > eF_ b (W (q.order - 1)))) (decide (eF_ a (W (q.order - 1))<eF_ b (W (q.order - 1))))))
theorem lU_ {q:an_} {a b:TRow} (ha:a.cells.length≤bR_) (hb:b.cells.length≤bR_):Ev (fun n _=>dX_ n q a b) (gH_ q a b):=by
 refine as_ ?_
 simp only [dX_,ab_ (ef_ ha),ab_ (ef_ hb),ao_,af_,gH_]
 generalize eF_ a (W (q.order - 1))=x
 generalize eF_ b (W (q.order - 1))=y
 cases hd:q.down<;>grind
end Go.Pi
end
section
namespace Go.Pi
def lenRR (c:Nat) (t:List (List TRow)):Prop:=t.length≤c∧∀ x ∈ t,f8_ c x
def e6_ (c:Nat) (s:aw_):Prop:=s.schema.cols.length≤c∧lenRR c s.tables
theorem eY_ {c:Nat} {t:List (List TRow)} (h:∀ x ∈ t,f8_ c x) (i:Nat):f8_ c (t.getD i []):=by
 by_cases hi:i<t.length
 · exact h _ (bH_ [] hi)
 · rw [List.getD_eq_getElem?_getD,List.getElem?_eq_none (by omega)]
   exact ⟨Nat.zero_le _,fun x hx=>by cases hx⟩
theorem hh_ (s:aA_):aA_.mk s.cols=s:=rfl
def oL_ (s:aA_) (t:Int) (rows:List TRow):Bool :=
 g6_ (fun i=>FRow s t (rows.getD i TRow.dflt)&&(decide (i=0)||decide ((rows.getD (i - 1) TRow.dflt).id_<(rows.getD i TRow.dflt).id_))) rows.length&&(fz_ s&&(inn t 0 (W ((s.cols.length:Int) - 1))&&decide ((rows.length:Int)≤24)))
theorem kT_ {s:aA_} {t:Int} {rows:List TRow} (hs:s.cols.length≤bR_) (hr:f8_ bR_ rows):Ev (fun n _=>bK_ n s t rows) (oL_ s t rows):=by
 refine as_ ?_
 simp only [bK_]
 refine d5_ (fun n N i=>bK_.loop3 n _ N t rows (i:Int) s.cols) _ (fun i u hi ih => ?_) ?_
 · simp only [hh_,bK_.turn3,bK_.step3,Int.toNat_natCast,W_up hi hr.1,W_dn (i:=i) (by have:=hr.1;omega),jv_,ao_,bl_,ab_ (ie_ (s:=s) (t:=t) (r:=rows.getD i TRow.dflt) hs (f5_ hr i)),af_,c0_ ih,ct_ hi,b9_ hi]
   clear ih
   repeat' (first|apply And.intro|intro _)
   all_goals (try rw [Bool.eq_iff_iff])
   all_goals (try simp only [Bool.not_eq_true',Bool.not_eq_false',decide_eq_true_eq,decide_eq_false_iff_not,beq_iff_eq,beq_eq_false_iff_ne,Bool.and_eq_true,Bool.or_eq_true,Bool.and_eq_false_iff,Bool.or_eq_false_iff] at *)
   all_goals grind
 · simp only [hh_,bK_.turn3,bK_.step3,b7_,cond_false,d1_ (s:=s) hs,e9_,ao_,af_]
   repeat' (first|apply And.intro|intro _)
   all_goals (try simp_all)
def FTables (s:aA_) (t:List (List TRow)):Bool:=g6_ (fun i=>oL_ s (i:Int) (t.getD i [])) t.length
def eG_ (s:aw_):Bool:=fz_ s.schema&&(inn s.version 0 100000&&(decide (s.tables.length=s.schema.cols.length)&&FTables s.schema s.tables))
theorem ex_ {s:aw_} (h:e6_ bR_ s):Ev (fun n _=>bj_ n s) (eG_ s):=by
 refine as_ ?_
 have hl:Ev (fun n _=>bj_.loop6 n (some true) n 0 s.schema.cols s.version s.tables) (FTables s.schema s.tables&&true):=by
  refine d5_ (fun n N i=>bj_.loop6 n (some true) N (i:Int) s.schema.cols s.version s.tables) _ (fun i u hi ih => ?_) ?_
  · simp only [hh_,bj_.turn6,bj_.step6,Int.toNat_natCast,W_up hi h.2.1,ao_,bl_,ab_ (kT_ (s:=s.schema) (t:=(i:Int)) h.1 (eY_ h.2.2 i)),af_,c0_ ih,ct_ hi,b9_ hi]
    clear ih
    repeat' (first|apply And.intro|intro _)
    all_goals (try simp_all)
  · simp only [hh_,bj_.turn6,bj_.step6,b7_,cond_false,af_]
 simp only [bj_,d1_ h.1,e9_,ao_,af_,c0_ hl,eG_]
 clear hl
 repeat' (first|apply And.intro|intro _)
 all_goals (try simp_all)
 all_goals (intros;omega)
section
variable {β:Type} {g:Nat→Nat→List Int→Option β} {gr:Nat→Nat→TRow→Option β} {v:β}
theorem fJ_ {r:TRow} (h:r.cells.length≤eu_):Ev (fun n N=>(ci_ n r).bind (gr n N)) v↔Ev (fun n N=>gr n N r) v :=
 ab_ (as_ (by simp only [ci_,bn_,af_,List.nil_append,and_true];simp only [eu_] at h;simp;omega))
end
theorem ku_ {c:Nat} {rows:List TRow} (hr:f8_ c rows) (i:Nat):(rows.getD i TRow.dflt).cells.length≤c:=by
 by_cases hi:i<rows.length
 · exact hr.2 _ (bH_ TRow.dflt hi)
 · rw [List.getD_eq_getElem?_getD,List.getElem?_eq_none (by omega)]
   exact Nat.zero_le _
theorem m7_ {rows:List TRow} (h:f8_ eu_ rows):Ev (fun n _=>bC_ n rows) rows:=by
 refine as_ ?_
 have hl:=h.1
 simp only [eu_] at hl
 simp only [bC_]
 refine ly_ TRow.dflt rows id (fun n N i s=>bC_.loop4 n _ N rows (i:Int) s) rows (fun i s hi hs F hF => ?_) ?_
 · simp only [bC_.turn4,bC_.step4,Int.toNat_natCast,W_up hi (show rows.length≤bR_ by simp only [bR_];omega),ao_,bl_,fJ_ (ku_ h i),bn_,ct_ hi,b9_ hi]
   exact ⟨fun _=>⟨trivial,by simp;omega,hF⟩,fun h=>by cases h⟩
 · simp only [bC_.turn4,bC_.step4,b7_,cond_false,af_,List.map_id]
theorem ll_ {β:Type} {s:aA_} {g:Nat→Nat→aA_→Option β} {v:β} (h:s.cols.length≤eu_):Ev (fun n N=>(c1_ n s).bind (g n N)) v↔Ev (fun n N=>g n N s) v :=
 ab_ (as_ (by simp only [c1_,bn_,af_,List.nil_append,and_true];simp only [eu_] at h;simp;omega))
theorem kd_ {s:aw_} (h:e6_ eu_ s):Ev (fun n _=>bh_ n s) s:=by
 refine as_ ?_
 have hl:=h.2.1
 simp only [eu_] at hl
 simp only [bh_,ll_ h.1]
 refine ly_ [] s.tables id (fun n N i q=>bh_.loop4 n _ N (i:Int) s.schema.cols s.version s.tables 0 s.version s.schema.cols q) s (fun i q hi hs F hF => ?_) ?_
 · simp only [bh_.turn4,bh_.step4,Int.toNat_natCast,W_up hi (show s.tables.length≤bR_ by simp only [bR_];omega),ao_,bl_,ab_ (m7_ (eY_ h.2.2 i)),bn_,ct_ hi,b9_ hi]
   exact ⟨fun _=>⟨trivial,by simp;omega,hF⟩,fun h=>by cases h⟩
 · simp only [bh_.turn4,bh_.step4,b7_,cond_false,af_,List.map_id]
end Go.Pi
end
section
namespace Go.Pi
theorem lK_ (rows:List TRow) (id:Int):fa_ rows id=if rows.findIdx (fun r=>r.id_ == id)<rows.length then (rows.findIdx (fun r=>r.id_ == id):Int) else -1:=e0_ TRow.dflt (fun r=>r.id_ == id) rows
def iM_ (rows:List TRow) (id:Int):List TRow:=rows.eraseIdx (rows.findIdx (fun r=>r.id_ == id))
def g4_ (rows:List TRow) (at_ i:Nat):List TRow:=(rows.take i).eraseIdx at_
theorem oo_ {rows:List TRow} {i:Nat} (h:i<rows.length):g4_ rows i (i+1)=g4_ rows i i:=by
 unfold g4_
 rw [cC_ TRow.dflt h]
 have e:(rows.take i).length=i:=by rw [List.length_take];omega
 rw [List.eraseIdx_of_length_le (l:=rows.take i) (by omega),List.eraseIdx_append_of_length_le (by omega),e,Nat.sub_self]
 simp
theorem nw_ {rows:List TRow} {at_ i:Nat} (h:i<rows.length) (hne:i≠at_):g4_ rows at_ (i+1)=g4_ rows at_ i++[rows.getD i TRow.dflt]:=by
 unfold g4_
 rw [cC_ TRow.dflt h]
 have e:(rows.take i).length=i:=by rw [List.length_take];omega
 by_cases hlt:at_<i
 · rw [List.eraseIdx_append_of_lt_length (by omega)]
 · rw [List.eraseIdx_of_length_le (l:=rows.take i) (by omega),List.eraseIdx_of_length_le (by simp;omega)]
theorem qh_ {rows:List TRow} {at_ i:Nat}:(g4_ rows at_ i).length≤rows.length:=by
 unfold g4_
 have:=List.length_eraseIdx_le (rows.take i) at_
 rw [List.length_take] at this
 omega
theorem fp_ {rows:List TRow} {id:Int} (h:f8_ eu_ rows):Ev (fun n _=>a9_ n rows id) (iM_ rows id):=by
 refine as_ ?_
 have hl:=h.1
 simp only [eu_] at hl
 have ht:rows.length≤bR_:=by simp only [bR_];omega
 simp only [a9_,ab_ (gc_ (rows:=rows) (id:=id) ht)]
 obtain ⟨p,hp⟩:∃ p,p=rows.findIdx (fun r=>r.id_ == id):=⟨_,rfl⟩
 have hat:∀ i:Nat,i<rows.length→(((i:Int) != fa_ rows id)=true↔i≠p):=fun i hi=>by
  rw [lK_,←hp,bne_iff_ne]
  split<;>omega
 have hF:iM_ rows id=g4_ rows p rows.length:=by unfold iM_ g4_;rw [List.take_length,hp]
 rw [hF]
 refine dT_ (fun i=>g4_ rows p i) rows.length (fun n N i s=>a9_.loop5 n (fun xy3=>some xy3) N rows (fa_ rows id) (i:Int) s) _ (fun i hi F hF => ?_) ?_
 · have hlen:=qh_ (rows:=rows) (at_:=p) (i:=i)
   simp only [a9_.turn5,a9_.step5,Int.toNat_natCast,W_up hi ht,ao_,bl_,fJ_ (ku_ h i),bn_,ct_ hi,b9_ hi]
   refine ⟨fun _=>⟨fun hne=>⟨trivial,by simp;omega,?_⟩,fun heq => ?_⟩,fun h=>by cases h⟩
   · rw [←nw_ hi ((hat i hi).1 hne)];exact hF
   · have:i=p:=Classical.byContradiction fun hn=>by rw [(hat i hi).2 hn] at heq;cases heq
     subst this
     rw [←oo_ hi];exact hF
 · simp only [a9_.turn5,a9_.step5,b7_,cond_false,af_]
end Go.Pi
end
section
namespace Go.Pi
def sameC (x y:a6_):Bool:=cond (x.col == y.col) (cond (x.op == y.op) (cond (x.v == y.v) true false) false) false
def h4_ (a b:List a6_):Bool:=decide (a.length=b.length)&&g6_ (fun i=>sameC (a.getD i a6_.dflt) (b.getD i a6_.dflt)) a.length
def kK_ (a b:List Int):Bool:=decide (a.length=b.length)&&g6_ (fun i=>a.getD i 0 == b.getD i 0) a.length
def fX_ (a b:an_):Bool:=(a.table == b.table)&&(h4_ a.where_ b.where_&&((a.order == b.order)&&((a.down == b.down)&&((a.first == b.first)&&(kK_ a.show_ b.show_&&((a.kids == b.kids)&&((a.kidTable == b.kidTable)&&(a.kidCol == b.kidCol))))))))
theorem pa_ {n m:Nat} {p:Nat→Bool}:(g6_ p (min n m)&&decide (n=m))=(decide (n=m)&&g6_ p n):=by
 by_cases h:n=m
 · subst h;simp [Nat.min_self,Bool.and_comm]
 · simp [h]
theorem jP_ {a b:List a6_} (ha:a.length≤bR_):Ev (fun n _=>bq_ n a b) (h4_ a b):=by
 refine as_ ?_
 simp only [bq_]
 refine eA_ (d5_ (fun n N i=>bq_.loop3 n (fun x y=>some ((x.length:Int) == (y.length:Int))) N a b (i:Int)) (fun i=>sameC (a.getD i a6_.dflt) (b.getD i a6_.dflt)) (len:=min a.length b.length) (v:=decide (a.length=b.length)) (fun i u hi ih => ?_) ?_) pa_
 · have h1:i<a.length:=by omega
   have h2:i<b.length:=by omega
   simp only [bq_.turn3,bq_.step3,Int.toNat_natCast,W_up h1 ha,ao_,bl_,af_,c0_ ih,ct_ h1,b9_ h1,ct_ h2,b9_ h2]
   clear ih
   simp only [sameC]
   generalize (cond ((a.getD i a6_.dflt).col == (b.getD i a6_.dflt).col) (cond ((a.getD i a6_.dflt).op == (b.getD i a6_.dflt).op) (cond ((a.getD i a6_.dflt).v == (b.getD i a6_.dflt).v) true false) false) false)=c
   cases c<;>simp
 · simp only [bq_.turn3,bq_.step3,ao_,af_,bl_]
   grind
theorem kR_ {a b:List Int} (ha:a.length≤bR_):Ev (fun n _=>bI_ n a b) (kK_ a b):=by
 refine as_ ?_
 simp only [bI_]
 refine eA_ (d5_ (fun n N i=>bI_.loop3 n (fun x y=>some ((x.length:Int) == (y.length:Int))) N a b (i:Int)) (fun i=>a.getD i 0 == b.getD i 0) (len:=min a.length b.length) (v:=decide (a.length=b.length)) (fun i u hi ih => ?_) ?_) pa_
 · have h1:i<a.length:=by omega
   have h2:i<b.length:=by omega
   simp only [bI_.turn3,bI_.step3,Int.toNat_natCast,W_up h1 ha,ao_,bl_,af_,c0_ ih,ct_ h1,b9_ h1,ct_ h2,b9_ h2]
   clear ih
   generalize a.getD i 0=x
   generalize b.getD i 0=y
   grind
 · simp only [bI_.turn3,bI_.step3,ao_,af_,bl_]
   grind
theorem iP_ {a b:an_} (ha:m5_ bR_ a):Ev (fun n _=>c5_ n a b) (fX_ a b):=by
 refine as_ ?_
 simp only [c5_,ab_ (jP_ ha.1),ab_ (kR_ ha.2),ao_,af_,fX_]
 generalize h4_ a.where_ b.where_=c
 generalize kK_ a.show_ b.show_=d
 cases c<;>cases d<;>grind
theorem mA_ {a b:List a6_} (ha:a.length≤bR_):Ev (fun n _=>aO_ n a b) (h4_ a b):=by
 refine as_ ?_
 simp only [aO_,ao_,af_]
 refine ⟨fun h => ?_,fun h2 => ?_⟩
 · simp only [bne_iff_ne,ne_eq] at h;have:¬ a.length=b.length:=by omega
   simp [h4_,this]
 · simp only [bne_eq_false_iff_eq] at h2
   have hl:a.length=b.length:=by omega
   refine eA_ (d5_ (fun n N i=>aO_.loop6 n (some true) N a b (a.length:Int) (i:Int)) (fun i=>sameC (a.getD i a6_.dflt) (b.getD i a6_.dflt)) (len:=a.length) (v:=true) (fun i u hi ih => ?_) ?_) (by simp [h4_,hl])
   · have h2:i<b.length:=by omega
     simp only [aO_.turn6,aO_.step6,Int.toNat_natCast,W_up hi ha,ao_,bl_,af_,c0_ ih,ct_ hi,b9_ hi,b9_ h2]
     clear ih
     simp only [sameC]
     generalize (cond ((a.getD i a6_.dflt).col == (b.getD i a6_.dflt).col) (cond ((a.getD i a6_.dflt).op == (b.getD i a6_.dflt).op) (cond ((a.getD i a6_.dflt).v == (b.getD i a6_.dflt).v) true false) false) false)=c
     cases c<;>simp
   · simp only [aO_.turn6,aO_.step6,b7_,cond_false,af_]
theorem nO_ {a b:List Int} (ha:a.length≤bR_):Ev (fun n _=>aY_ n a b) (kK_ a b):=by
 refine as_ ?_
 simp only [aY_,ao_,af_]
 refine ⟨fun h => ?_,fun h2 => ?_⟩
 · simp only [bne_iff_ne,ne_eq] at h;have:¬ a.length=b.length:=by omega
   simp [kK_,this]
 · simp only [bne_eq_false_iff_eq] at h2
   have hl:a.length=b.length:=by omega
   refine eA_ (d5_ (fun n N i=>aY_.loop6 n (some true) N a b (a.length:Int) (i:Int)) (fun i=>a.getD i 0 == b.getD i 0) (len:=a.length) (v:=true) (fun i u hi ih => ?_) ?_) (by simp [kK_,hl])
   · have h2:i<b.length:=by omega
     simp only [aY_.turn6,aY_.step6,Int.toNat_natCast,W_up hi ha,ao_,bl_,af_,c0_ ih,ct_ hi,b9_ hi,b9_ h2]
     clear ih
     generalize a.getD i 0=x
     generalize b.getD i 0=y
     grind
   · simp only [aY_.turn6,aY_.step6,b7_,cond_false,af_]
theorem iX_ {a b:an_} (ha:m5_ bR_ a):Ev (fun n _=>c6_ n a b) (fX_ a b):=by
 refine as_ ?_
 simp only [c6_,ab_ (mA_ ha.1),ab_ (nO_ ha.2),ao_,af_,fX_]
 generalize h4_ a.where_ b.where_=c
 generalize kK_ a.show_ b.show_=d
 repeat' (first|apply And.intro|intro _)
 all_goals (try simp only [beq_iff_eq,beq_eq_false_iff_ne,ne_eq] at *)
 all_goals simp_all
end Go.Pi
end
section
namespace Go.Pi
end Go.Pi
end
section
namespace Go.Pi
def in_ (rows:List TRow) (id:Int):Nat:=rows.findIdx (fun x=>decide (x.id_ > id))
def hb_ (rows:List TRow) (r:TRow):List TRow :=
 cond (decide (fa_ rows r.id_≥0)) (rows.set (fa_ rows r.id_).toNat r) (rows.take (in_ rows r.id_)++[r]++rows.drop (in_ rows r.id_))
theorem atCases (rows:List TRow) (id:Int):(∃ p,p<rows.length∧fa_ rows id=(p:Int)∧rows.findIdx (fun r=>r.id_ == id)=p)∨(fa_ rows id = -1∧iM_ rows id=rows):=by
 rw [lK_]
 by_cases h:rows.findIdx (fun r=>r.id_ == id)<rows.length
 · exact .inl ⟨_,h,if_pos h,rfl⟩
 · refine .inr ⟨if_neg h,?_⟩
   unfold iM_
   rw [List.eraseIdx_of_length_le (by omega)]
theorem idx_down (rows:List TRow) (P:TRow→Bool) {j:Nat} (hj:j<rows.length) :
  j+(rows.drop j).findIdx P=cond (P (rows.getD j TRow.dflt)) j (j+1+(rows.drop (j+1)).findIdx P):=by
 rw [f6_ TRow.dflt hj,List.findIdx_cons]
 cases P (rows.getD j TRow.dflt)<;>simp only [cond_true,cond_false]<;>omega
theorem hD_ {rows:List TRow} {r:TRow} (h:f8_ eu_ rows) (hr:r.cells.length≤eu_):Ev (fun n _=>bo_ n rows r) (hb_ rows r):=by
 refine as_ ?_
 have hl:=h.1
 simp only [eu_] at hl
 have ht:rows.length≤bR_:=by simp only [bR_];omega
 have e0:∀ r:TRow,TRow.mk r.id_ r.cells=r:=fun _=>rfl
 simp only [bo_,ab_ (fp_ (id:=r.id_) h),ab_ (gc_ (rows:=rows) (id:=r.id_) ht),ao_]
 rcases atCases rows r.id_ with ⟨p,hp,e1,e2⟩|⟨e1,e2⟩
 · have hd:iM_ rows r.id_=rows.take p++rows.drop (p+1):=by unfold iM_;rw [e2,List.eraseIdx_eq_take_drop_succ]
   have hdl:(iM_ rows r.id_).length=rows.length - 1:=by rw [hd];simp;omega
   refine ⟨fun _ => ?_,fun h=>by rw [e1] at h;simp at h⟩
   rw [e1]
   simp only [gm_,bn_,fJ_ hr,af_,Int.toNat_natCast,List.length_nil,List.nil_append,List.drop_zero,hdl]
   refine ⟨by omega,by simp;omega,by simp;omega,by omega,by simp;omega,?_⟩
   unfold hb_
   rw [e1,decide_eq_true (by omega),cond_true,Int.toNat_natCast,hd,List.set_eq_take_append_cons_drop,if_pos hp]
   have t1:(rows.take p++rows.drop (p+1)).take p=rows.take p:=by rw [List.take_append_of_le_length (by simp;omega),List.take_take,Nat.min_self]
   have t2:((rows.take p++rows.drop (p+1)).take (rows.length - 1)).drop p=rows.drop (p+1):=by
    rw [List.take_of_length_le (by simp;omega),List.drop_append_of_le_length (by simp;omega),List.drop_eq_nil_of_le (by simp;omega),List.nil_append]
   rw [t1,t2];simp
 · refine ⟨fun h=>by rw [e1] at h;simp at h,fun _ => ?_⟩
   rw [e2]
   have hF:hb_ rows r=rows.take (in_ rows r.id_)++[r]++rows.drop (in_ rows r.id_):=by unfold hb_;rw [e1];rfl
   rw [hF]
   obtain ⟨S,hS⟩:∃ S:Nat→Int,S=fun i=>(((rows.length - i)+(rows.drop (rows.length - i)).findIdx (fun x=>decide (x.id_ > r.id_)):Nat):Int):=⟨_,rfl⟩
   have hS0:S 0=(rows.length:Int):=by rw [hS];simp
   have:=dT_ S rows.length (fun n N i (s:Int)=>bo_.loop6 n (fun xy5 xy6 xy7 xy8=>(i1_ 0 xy5 xy8.length (bm_ (([]:List TRow).length+((xy8.take xy5.toNat).drop 0).length) 32 ((ci_ n (TRow.mk xy6 xy7)).bind fun xr9=>(bm_ ((([]:List TRow)++((xy8.take xy5.toNat).drop 0)).length+([xr9]:List TRow).length) 32 (i1_ xy5 (xy8.length:Int) xy8.length (bm_ (((([]:List TRow)++((xy8.take xy5.toNat).drop 0))++([xr9]:List TRow)).length+((xy8.take ((xy8.length:Int).toNat)).drop xy5.toNat).length) 32 (some (((([]:List TRow)++((xy8.take xy5.toNat).drop 0))++([xr9]:List TRow))++((xy8.take ((xy8.length:Int).toNat)).drop xy5.toNat)))))))))) N s (((rows.length - i:Nat):Int) - 1) r.id_ r.cells rows) (rows.take (in_ rows r.id_)++[r]++rows.drop (in_ rows r.id_)) (fun i hi F hF => ?_) ?_
   · rw [hS0] at this
     rw [W_dn ht]
     simpa using this
   · obtain ⟨j,hj⟩:∃ j,j=rows.length - i - 1:=⟨_,rfl⟩
     have hji:rows.length - i=j+1:=by omega
     have hji2:rows.length - (i+1)=j:=by omega
     have hjl:j<rows.length:=by omega
     have hstep:=idx_down rows (fun x=>decide (x.id_ > r.id_)) hjl
     have s1:S i=((j+1+(rows.drop (j+1)).findIdx (fun x=>decide (x.id_ > r.id_)):Nat):Int):=by rw [hS];simp only [hji]
     have s2:S (i+1)=((j+(rows.drop j).findIdx (fun x=>decide (x.id_ > r.id_)):Nat):Int):=by rw [hS];simp only [hji2]
     have ei:((rows.length - i:Nat):Int) - 1=(j:Int):=by omega
     have ei2:W ((j:Int) - 1)=((rows.length - (i+1):Nat):Int) - 1:=by rw [W_dn (by omega),hji2]
     rw [s2,hstep] at hF
     rw [ei,s1]
     simp only [bo_.turn6,bo_.step6,ao_,bl_,Int.toNat_natCast,ei2]
     refine ⟨fun _=>⟨by omega,fun hc => ?_,fun hc => ?_⟩,fun h=>by simp at h⟩
     · rw [hc] at hF;exact hF
     · rw [hc] at hF;exact hF
   · have s1:S rows.length=(in_ rows r.id_:Int):=by rw [hS];simp [in_]
     have hpl:in_ rows r.id_≤rows.length:=List.findIdx_le_length
     rw [s1]
     simp only [bo_.turn6,bo_.step6,Nat.sub_self,e0]
     rw [show decide (((0:Nat):Int) - 1≥0)=false from by simp]
     simp only [cond_false,gm_,bn_,fJ_ hr,af_,Int.toNat_natCast,List.length_nil,List.nil_append,List.drop_zero]
     refine ⟨by omega,by simp;omega,by simp;omega,by omega,by simp;omega,?_⟩
     rw [List.take_length]
end Go.Pi
end
section
namespace Go.Pi
def p0_ (c:Nat) (x:aT_):Prop:=x.old.cells.length≤c∧x.new.cells.length≤c
theorem gb_ {c n:Nat} (h:n≤c) (hc:c≤eu_):n≤bR_:=by simp only [eu_] at hc;simp only [bR_];omega
theorem f8_.upto {c d:Nat} {r:List TRow} (h:f8_ c r) (hc:c≤d):f8_ d r:=⟨Nat.le_trans h.1 hc,fun x hx=>Nat.le_trans (h.2 x hx) hc⟩
theorem e6_.upto {c d:Nat} {s:aw_} (h:e6_ c s) (hc:c≤d):e6_ d s:=⟨Nat.le_trans h.1 hc,Nat.le_trans h.2.1 hc,fun x hx=>(h.2.2 x hx).upto hc⟩
theorem kL_ {c:Nat} {rows:List TRow} {id:Int} (h:f8_ c rows):f8_ c (iM_ rows id):=by
 unfold iM_
 exact ⟨Nat.le_trans (List.length_eraseIdx_le _ _) h.1,fun x hx=>h.2 x (List.mem_of_mem_eraseIdx hx)⟩
theorem kH_ {c:Nat} {rows:List TRow} {r:TRow} (h:f8_ c rows) (hr:r.cells.length≤c):f8_ (c+1) (hb_ rows r):=by
 unfold hb_
 have h1:=h.1
 cases decide (fa_ rows r.id_≥0)<;>simp only [cond_true,cond_false]
 · refine ⟨by simp;omega,fun x hx => ?_⟩
   rcases List.mem_append.1 hx with hx|hx
   · rcases List.mem_append.1 hx with hx|hx
     · exact Nat.le_succ_of_le (h.2 x (List.mem_of_mem_take hx))
     · rw [List.mem_singleton.1 hx];omega
   · exact Nat.le_succ_of_le (h.2 x (List.mem_of_mem_drop hx))
 · refine ⟨by simp;omega,fun x hx => ?_⟩
   rcases List.mem_or_eq_of_mem_set hx with hx|rfl
   · exact Nat.le_succ_of_le (h.2 x hx)
   · omega
end Go.Pi
end
section
namespace Go.Pi
def a6_.size (s:a6_):Nat:=0
def a6_.len (s:a6_):Prop:=True
def an_.size (s:an_):Nat:=(ih_ a6_.size) s.where_+(ih_ szI) s.show_
def an_.len (s:an_):Prop:=(nS_ a6_.len) s.where_∧(nS_ lenI) s.show_
def TRow.size (s:TRow):Nat:=(ih_ szI) s.cells
def TRow.len (s:TRow):Prop:=(nS_ lenI) s.cells
def TKid.size (s:TKid):Nat:=0
def TKid.len (s:TKid):Prop:=True
def aD_.size (s:aD_):Nat:=an_.size s.q+(ih_ TRow.size) s.rows+(ih_ TKid.size) s.kids
def aD_.len (s:aD_):Prop:=an_.len s.q∧(nS_ TRow.len) s.rows∧(nS_ TKid.len) s.kids
def al_.size (s:al_):Nat:=(ih_ szI) s.b
def al_.len (s:al_):Prop:=(nS_ lenI) s.b
def aA_.size (s:aA_):Nat:=(ih_ szI) s.cols
def aA_.len (s:aA_):Prop:=(nS_ lenI) s.cols
def aw_.size (s:aw_):Nat:=aA_.size s.schema+(ih_ (ih_ TRow.size)) s.tables
def aw_.len (s:aw_):Prop:=aA_.len s.schema∧(nS_ (nS_ TRow.len)) s.tables
def TMut.size (s:TMut):Nat:=TRow.size s.row
def TMut.len (s:TMut):Prop:=TRow.len s.row
def aT_.size (s:aT_):Nat:=TRow.size s.old+TRow.size s.new
def aT_.len (s:aT_):Prop:=TRow.len s.old∧TRow.len s.new
mutual
def aa_.size:aa_→Nat
 |⟨_,_,s,l,ns⟩=>s.length+((l.length+aa_.sizes l)+ih_ szB ns)
def aa_.sizes:List aa_→Nat
 |[]=>0
 |x::l=>aa_.size x+aa_.sizes l
end
mutual
def aa_.len:aa_→Prop
 |⟨_,_,s,l,ns⟩=>s.length≤bR_∧(l.length≤bR_∧aa_.lens l)∧nS_ lenB ns
def aa_.lens:List aa_→Prop
 |[]=>True
 |x::l=>aa_.len x∧aa_.lens l
end
theorem aa_.sizes_eq:∀ l:List aa_,aa_.sizes l=hy_ aa_.size l
 |[]=>by simp only [aa_.sizes,hy_]
 |x::l=>by simp only [aa_.sizes,hy_,aa_.sizes_eq l]
theorem aa_.lens_iff:∀ l:List aa_,aa_.lens l↔∀ x ∈ l,aa_.len x
 |[]=>by simp [aa_.lens]
 |x::l=>by simp [aa_.lens,aa_.lens_iff l]
theorem aa_.size_eq (j:aa_):aa_.size j=j.s.length+(ih_ aa_.size j.list+ih_ szB j.names):=by
 cases j;simp only [aa_.size,aa_.sizes_eq,ih_]
theorem aa_.len_iff (j:aa_):aa_.len j↔j.s.length≤bR_∧nS_ aa_.len j.list∧nS_ lenB j.names:=by
 cases j;simp only [aa_.len,aa_.lens_iff,nS_]
theorem aa_.re_eq (j:aa_):aa_.re j=j:=by cases j;rfl
theorem aa_.dec {x:aa_} {a:List aa_} (h:x ∈ a):SizeOf.sizeOf x.list<SizeOf.sizeOf a:=by
 have h1:=List.sizeOf_lt_of_mem h
 have h2:SizeOf.sizeOf x.list<SizeOf.sizeOf x:=by cases x;simp;omega
 omega
def TOp.size (s:TOp):Nat:=(ih_ szB) s.way+aa_.size s.value
def TOp.len (s:TOp):Prop:=(nS_ lenB) s.way∧aa_.len s.value
theorem TOp.eta (x:TOp):TOp.mk x.kind x.way x.value=x:=rfl
def aq_.size (s:aq_):Nat:=aa_.size s.value
def aq_.len (s:aq_):Prop:=aa_.len s.value
theorem aq_.eta (x:aq_):aq_.mk x.key x.value=x:=rfl
end Go.Pi
end
section
namespace Go.Pi
def hl_ (s:aA_):aw_:=⟨s,0,List.replicate s.cols.length []⟩
theorem lenSt_new {c:Nat} {s:aA_} (hs:s.cols.length≤c):e6_ c (hl_ s):=by
 refine ⟨hs,?_,fun x hx => ?_⟩
 · simp only [hl_,List.length_replicate];exact hs
 · simp only [hl_] at hx
   rw [List.eq_of_mem_replicate hx]
   exact ⟨Nat.zero_le _,fun x hx=>by cases hx⟩
def zStore:aw_:=⟨⟨[]⟩,0,[]⟩
def FNew (s:aA_):aw_ × Bool:=cond (fz_ s) (hl_ s,true) (zStore,false)
theorem jo_ {s:aA_} (hs:s.cols.length≤cap):Ev (fun n _=>de_ n s) (FNew s):=by
 refine as_ ?_
 simp only [cap] at hs
 simp only [de_,d1_ (show s.cols.length≤bR_ by simp only [bR_];omega),ll_ (show s.cols.length≤eu_ by simp only [eu_];omega),ao_,af_,c9_,FNew,hl_,zStore,Int.toNat_natCast]
 repeat' (first|apply And.intro|intro _)
 all_goals (try simp_all)
 all_goals (try omega)
end Go.Pi
end
section
namespace Go.Pi
theorem Wn {x:Int} (h1 : -1000000000000≤x) (h2:x≤1000000000000):W x=x:=W_id (by omega) (by omega)
theorem ib_ {a b:Int}:Ev (fun n _=>cp_ n a b) (max a b):=by
 refine as_ ?_
 simp only [cp_,ao_,af_]
 exact ⟨fun h=>by have:=of_decide_eq_true h;omega,fun h=>by have:=of_decide_eq_false h;omega⟩
theorem jp_ {c:al_} (hc:DwOk c):Ans (fun n _=>aI_ n c) fun r=>r.1.cols.length≤3∧(∀ x ∈ r.1.cols,x≤4)∧DwOk r.2:=by
 have key:∀ (m i:Nat) (c:al_) (o:List Int),i+m=3→DwOk c→o.length=i→(∀ x ∈ o,x≤4) →
   Ans (fun n N=>aI_.loop4 n (fun xy3 xy4 xy5 xy6=>(some ((aA_.mk xy6),(al_.mk xy3 xy4 xy5)))) N (i:Int) c.b c.i c.h o) fun r=>r.1.cols.length≤3∧(∀ x ∈ r.1.cols,x≤4)∧DwOk r.2:=by
  intro m
  induction m with
  |zero=>
   intro i c o hi hc ho hx
   refine cW_ ?_
   simp only [aI_.turn4,aI_.step4,cU_]
   refine bc_ (bU_ hc) fun r hr => ?_
   have h1:=hr.lo;have h2:=hr.hi
   rw [Wn (by omega) (by omega),decide_eq_false (by omega)]
   simp only [cond_false,cU_,ch_]
   exact ⟨by omega,hx,hr.cur⟩
  |succ m ih=>
   intro i c o hi hc ho hx
   refine cW_ ?_
   simp only [aI_.turn4,aI_.step4,cU_]
   refine bc_ (bU_ hc) fun r hr => ?_
   simp only [cy_,cU_,ch_]
   refine ⟨fun _=>bc_ (bU_ hr.cur) fun r2 hr2 => ?_,fun _=>⟨by omega,hx,hr.cur⟩⟩
   have h1:=hr2.lo;have h2:=hr2.hi
   have e1:W ((i:Int)+1)=((i+1:Nat):Int):=by rw [Wn (by omega) (by omega)];rfl
   rw [Wn (x:=1+r2.1) (by omega) (by omega),e1]
   simp only [eB_]
   refine ⟨by simp;omega,ih (i+1) r2.2 _ (by omega) hr2.cur (by simp;omega) fun x hx' => ?_⟩
   rcases List.mem_append.1 hx' with h|h
   · exact hx x h
   · rw [List.mem_singleton.1 h];omega
 refine di_ ?_
 simp only [aI_]
 exact fh_ (key 3 0 c [] rfl hc rfl fun x hx=>(by cases hx))
theorem ix_ {c:al_} {cols:Int} (hc:DwOk c) (hcol:cols≤1000):Ans (fun n _=>a0_ n c cols) fun r=>r.1.cells.length≤1000∧DwOk r.2:=by
 have key:∀ (m i:Nat) (c:al_) (id:Int) (o:List Int),i+m=1000→DwOk c→o.length=i →
   Ans (fun n N=>a0_.loop4 n (fun xy3 xy4 xy5 xy6 xy7 xy8=>(some ((TRow.mk xy7 xy8),(al_.mk xy3 xy4 xy5)))) N cols (i:Int) c.b c.i c.h 0 id o) fun r=>r.1.cells.length≤1000∧DwOk r.2:=by
  intro m
  induction m with
  |zero=>
   intro i c id o hi hc ho
   refine cW_ ?_
   simp only [a0_.turn4,a0_.step4,cU_]
   rw [decide_eq_false (by omega)]
   simp only [cond_false,cU_,ch_]
   exact ⟨by omega,hc⟩
  |succ m ih=>
   intro i c id o hi hc ho
   refine cW_ ?_
   simp only [a0_.turn4,a0_.step4,cU_,cy_,ch_]
   refine ⟨fun _=>bc_ (bU_ hc) fun r2 hr2 => ?_,fun _=>⟨by omega,hc⟩⟩
   have e1:W ((i:Int)+1)=((i+1:Nat):Int):=by rw [Wn (by omega) (by omega)];rfl
   rw [e1]
   simp only [eB_]
   exact ⟨by simp;omega,ih (i+1) r2.2 _ _ (by omega) hr2.cur (by simp;omega)⟩
 refine di_ ?_
 simp only [a0_]
 exact bc_ (bU_ hc) fun r hr=>fh_ (key 1000 0 r.2 _ [] rfl hr.cur rfl)
theorem kX_ {c:al_} {cols:Int} (hc:DwOk c) (hcol:cols≤1000):Ans (fun n _=>aU_ n c cols) fun r=>f8_ 1010 r.1∧DwOk r.2:=by
 have key:∀ (m i:Nat) (c:al_) (o:List TRow),i+m=9→DwOk c→f8_ (1000+i) o →
   Ans (fun n N=>aU_.loop4 n (fun xy4 xy5 xy6 xy7=>(some (xy7,(al_.mk xy4 xy5 xy6)))) N cols (i:Int) c.b c.i c.h o) fun r=>f8_ 1010 r.1∧DwOk r.2:=by
  intro m
  induction m with
  |zero=>
   intro i c o hi hc ho
   refine cW_ ?_
   simp only [aU_.turn4,aU_.step4,cU_]
   refine bc_ (bU_ hc) fun r hr => ?_
   have h1:=hr.lo;have h2:=hr.hi
   rw [decide_eq_false (by omega)]
   simp only [cond_false,cU_,ch_]
   exact ⟨ho.upto (by omega),hr.cur⟩
  |succ m ih=>
   intro i c o hi hc ho
   refine cW_ ?_
   simp only [aU_.turn4,aU_.step4,cU_]
   refine bc_ (bU_ hc) fun r hr => ?_
   simp only [cy_,cU_,ch_]
   refine ⟨fun _=>bc_ (ix_ hr.cur hcol) fun r2 hr2 => ?_,fun _=>⟨ho.upto (by omega),hr.cur⟩⟩
   have e1:W ((i:Int)+1)=((i+1:Nat):Int):=by rw [Wn (by omega) (by omega)];rfl
   have hP:=hD_ (rows:=o) (r:=r2.1) (ho.upto (by simp only [eu_];omega)) (by have:=hr2.1;simp only [eu_];omega)
   rw [cV_ hP,e1]
   exact ih (i+1) r2.2 _ (by omega) hr2.2 (by rw [←Nat.add_assoc];exact kH_ ho (by have:=hr2.1;omega))
 refine di_ ?_
 simp only [aU_]
 exact fh_ (key 9 0 c [] rfl hc ⟨Nat.zero_le _,fun x hx=>(by cases hx)⟩)
structure StIn (c:Nat) (s:aw_):Prop where
 len:e6_ c s
 col:∀ x ∈ s.schema.cols,x≤1000
theorem StIn.upto {c d:Nat} {s:aw_} (h:StIn c s) (hc:c≤d):StIn d s:=⟨h.len.upto hc,h.col⟩
theorem StIn.getD {c:Nat} {s:aw_} (h:StIn c s) (i:Nat):s.schema.cols.getD i 0≤1000:=by
 by_cases hi:i<s.schema.cols.length
 · exact h.col _ (bH_ _ hi)
 · rw [List.getD_eq_getElem?_getD,List.getElem?_eq_none (by omega)];decide
theorem kb_ {c:al_} (hc:DwOk c):Ans (fun n _=>aK_ n c) fun r=>StIn 1010 r.1∧DwOk r.2:=by
 have key:∀ (m i:Nat) (c:al_) (s:aw_),i+m=s.tables.length→s.tables.length≤s.schema.cols.length→DwOk c→StIn 1010 s →
   Ans (fun n N=>aK_.loop4 n (fun xy5 xy6 xy7 xy8 xy9 xy10 xy11=>((am_ n (al_.mk xy5 xy6 xy7) 5).bind fun xr12=>(some ((aw_.mk (aA_.mk xy10) xr12.1 xy11),xr12.2)))) N (i:Int) c.b c.i c.h 0 s.version s.schema.cols s.tables) fun r=>StIn 1010 r.1∧DwOk r.2:=by
  intro m
  induction m with
  |zero=>
   intro i c s hi hl hc hs
   have e:i=s.tables.length:=by omega
   subst e
   refine cW_ ?_
   simp only [aK_.turn4,aK_.step4,b7_,cond_false,cU_]
   exact bc_ (bU_ hc) fun r hr=>ch_.2 ⟨⟨hs.len,hs.col⟩,hr.cur⟩
  |succ m ih=>
   intro i c s hi hl hc hs
   have hlt:i<s.tables.length:=by omega
   have h3:=hs.len.2.1
   have hW:=W_up hlt (show s.tables.length≤bR_ by simp only [bR_];omega)
   refine cW_ ?_
   simp only [aK_.turn4,aK_.step4,ct_ hlt,cond_true,cU_,gt_,Int.toNat_natCast]
   refine ⟨⟨by omega,by omega⟩,bc_ (kX_ hc (hs.getD i)) fun r hr => ?_⟩
   simp only [gt_,hW]
   refine ⟨⟨by omega,by omega⟩,?_⟩
   have:=ih (i+1) r.2 (aw_.mk s.schema s.version (s.tables.set i r.1)) (by simp;omega) (by simp;exact hl) hr.2 ⟨⟨hs.len.1,by simp only [List.length_set];exact h3,fun x hx=>by
    rcases List.mem_or_eq_of_mem_set hx with hx|rfl
    · exact hs.len.2.2 x hx
    · exact hr.1⟩,hs.col⟩
   exact this
 refine di_ ?_
 simp only [aK_]
 refine bc_ (jp_ hc) fun r hr => ?_
 have hN:=jo_ (s:=r.1) (by have:=hr.1;simp only [cap];omega)
 rw [cV_ hN]
 refine fh_ (f:=fun n N=>aK_.loop4 n (fun xy5 xy6 xy7 xy8 xy9 xy10 xy11=>((am_ n (al_.mk xy5 xy6 xy7) 5).bind fun xr12=>(some ((aw_.mk (aA_.mk xy10) xr12.1 xy11),xr12.2)))) N 0 r.2.b r.2.i r.2.h 0 (FNew r.1).1.version (FNew r.1).1.schema.cols (FNew r.1).1.tables) (key (FNew r.1).1.tables.length 0 r.2 (FNew r.1).1 (Nat.zero_add _) ?_ hr.2.2 ?_)
 · unfold FNew
   cases fz_ r.1
   · exact Nat.le_refl _
   · simp [hl_]
 · unfold FNew
   cases fz_ r.1
   · exact ⟨⟨Nat.zero_le _,Nat.zero_le _,fun x hx=>(by cases hx)⟩,fun x hx=>(by cases hx)⟩
   · exact ⟨lenSt_new (Nat.le_trans hr.1 (by decide)),fun x hx=>Int.le_trans (hr.2.1 x hx) (by decide)⟩
end Go.Pi
end
section
namespace Go.Pi
def m0_:TRow:=TRow.mk 0 []
def noCh:aT_:=aT_.mk 0 false false m0_ m0_
def zeroSt:aw_:=aw_.mk (aA_.mk []) 0 []
def iK_ (s:aA_) (m:TMut):Bool:=cond (m.kind == 3) (fz_ s&&(inn m.table 0 (W ((s.cols.length:Int) - 1))&&(inn m.row.id_ 1 999&&((m.row.cells.length:Int) == 0)))) (inn m.kind 1 2&&FRow s m.table m.row)
def eX_ (s:aw_) (m:TMut):List TRow:=s.tables.getD m.table.toNat []
def oP_ (s:aw_) (m:TMut):Bool:=(decide (fa_ (eX_ s m) m.row.id_≥0) == (m.kind != 1)) && !((m.kind == 1)&&(((eX_ s m).length:Int) == 24))
def FDo (s:aw_) (m:TMut):aw_:=aw_.mk s.schema s.version (s.tables.set m.table.toNat (cond (m.kind != 3) (hb_ (eX_ s m) m.row) (iM_ (eX_ s m) m.row.id_)))
def FDoCh (s:aw_) (m:TMut):aT_:=aT_.mk m.table (m.kind != 1) (m.kind != 3) (cond (m.kind != 1) ((eX_ s m).getD (fa_ (eX_ s m) m.row.id_).toNat TRow.dflt) m0_) (cond (m.kind != 3) m.row m0_)
def fO_ (s:aw_) (m:TMut):aw_ × aT_ × Bool:=cond (eG_ s) (cond (iK_ s.schema m&&oP_ s m) (FDo s m,FDoCh s m,true) (s,noCh,false)) (zeroSt,noCh,false)
theorem jw_ (r:TRow):TRow.mk r.id_ r.cells=r:=rfl
theorem ep_ (s:aw_):aw_.mk s.schema s.version s.tables=s:=rfl
theorem eK_ (s:aA_):aA_.mk s.cols=s:=rfl
theorem l8_ (m:TMut):TMut.mk m.kind m.table m.row=m:=rfl
theorem lS_ {s:aA_} {m:TMut} (hs:s.cols.length≤bR_) (hr:m.row.cells.length≤bR_):Ev (fun n _=>d9_ n s m) (iK_ s m):=by
 refine as_ ?_
 simp only [d9_,ab_ (gC_ hs),ab_ (ie_ (t:=m.table) hs hr),e9_,ao_,af_,iK_]
 generalize (m.kind == 3)=a
 generalize fz_ s=b
 generalize inn m.table 0 _=c
 generalize inn m.row.id_ 1 999=d
 generalize inn m.kind 1 2=e
 cases a<;>cases b<;>cases c<;>cases d<;>cases e<;>simp
theorem n6_ {s:aw_} {m:TMut} (hs:eG_ s=true) (hm:iK_ s.schema m=true) (hc:s.schema.cols.length≤bR_):0≤m.table∧m.table<(s.tables.length:Int):=by
 have e:=@W_dn s.schema.cols.length hc
 have hl:s.tables.length=s.schema.cols.length:=by
  unfold eG_ at hs
  simp only [Bool.and_eq_true] at hs
  exact of_decide_eq_true hs.2.2.1
 have:inn m.table 0 (W ((s.schema.cols.length:Int) - 1))=true:=by
  unfold iK_ at hm
  cases h3:(m.kind == 3)<;>rw [h3] at hm
  · simp only [cond_false,Bool.and_eq_true] at hm
    have:=hm.2
    unfold FRow at this
    simp only [Bool.and_eq_true] at this
    exact this.2.1
  · simp only [cond_true,Bool.and_eq_true] at hm
    exact hm.2.1
 have:=iU_.1 this
 rw [e] at this
 omega
theorem n2_ (rows:List TRow) (id:Int):fa_ rows id = -1∨0≤fa_ rows id∧fa_ rows id<(rows.length:Int):=by
 rcases atCases rows id with ⟨p,h1,h2,_⟩|⟨h,_⟩
 · exact .inr ⟨by omega,by omega⟩
 · exact .inl h
theorem mK_ {s:aw_} {m:TMut} (hl:e6_ eu_ s) (hr:m.row.cells.length≤eu_) (ht:0≤m.table∧m.table<(s.tables.length:Int)):Ev (fun n _=>ew_ n s m) (cond (oP_ s m) (FDo s m,FDoCh s m,true) (s,noCh,false)):=by
 have hT:f8_ eu_ (eX_ s m):=eY_ hl.2.2 _
 have hT1:(eX_ s m).length≤bR_:=gb_ hT.1 (Nat.le_refl _)
 have hrow:∀ i,((eX_ s m).getD i TRow.dflt).cells.length≤eu_:=fun i=>by
  by_cases hi:i<(eX_ s m).length
  · exact hT.2 _ (bH_ _ hi)
  · rw [List.getD_eq_getElem?_getD,List.getElem?_eq_none (by omega)];exact Nat.zero_le _
 have hat:=n2_ (eX_ s m) m.row.id_
 have e0:s.tables.getD m.table.toNat []=eX_ s m:=rfl
 refine as_ ?_
 simp only [ew_,e0,jw_,bl_,ht,true_and,and_true,ab_ (gc_ (id:=m.row.id_) hT1),fJ_ (hrow _),fJ_ hr,ab_ (hD_ hT hr),ab_ (fp_ (id:=m.row.id_) hT),ao_,af_]
 unfold oP_ FDo FDoCh noCh m0_
 generalize hb_ (eX_ s m) m.row=p
 generalize iM_ (eX_ s m) m.row.id_=q
 generalize fa_ (eX_ s m) m.row.id_=a at hat ⊢
 have hb:(m.kind == 1)=true→(m.kind != 1)=false:=by simp [bne]
 have hb':(m.kind == 1)=false→(m.kind != 1)=true:=by intro h;simp [bne,h]
 generalize (m.kind != 1)=k1 at hb hb' ⊢
 cases hk:(m.kind == 1)<;>rw [hk] at hb hb'
 · have:=hb' rfl
   subst this
   cases ha:decide (a≥0)
   · simp
   · have ha:=of_decide_eq_true ha
     cases (m.kind != 3)<;>simp<;>omega
 · have:=hb rfl
   subst this
   cases ha:decide (a≥0)<;>cases (((eX_ s m).length:Int) == 24)<;>cases (m.kind != 3)<;>simp
theorem ig_ {s:aw_} {m:TMut} (hl:e6_ eu_ s) (hr:m.row.cells.length≤eu_):Ev (fun n _=>dV_ n s m) (fO_ s m):=by
 have hs:s.schema.cols.length≤bR_:=gb_ hl.1 (Nat.le_refl _)
 have hrt:m.row.cells.length≤bR_:=gb_ hr (Nat.le_refl _)
 refine as_ ?_
 simp only [dV_,ep_,l8_,jw_,ab_ (ex_ (hl.upto (show eu_≤bR_ by decide))),ab_ (lS_ hs hrt),ab_ (kd_ hl),ao_,af_]
 unfold fO_
 cases h1:eG_ s
 · exact ⟨fun _=>rfl,fun h=>(by cases h)⟩
 · refine ⟨fun h=>(by cases h),fun _ => ?_⟩
   cases h2:iK_ s.schema m
   · exact ⟨fun _=>rfl,fun h=>(by cases h)⟩
   · refine ⟨fun h=>(by cases h),fun _ => ?_⟩
     simp only [ab_ (mK_ hl hr (n6_ h1 h2 hs)),ao_,af_]
     cases oP_ s m<;>simp [noCh,m0_,ab_ (kd_ hl),af_]
theorem FDo_len {c:Nat} {s:aw_} {m:TMut} (h:e6_ c s) (hr:m.row.cells.length≤c):e6_ (c+1) (FDo s m):=by
 have hT:f8_ c (eX_ s m):=eY_ h.2.2 _
 refine ⟨Nat.le_succ_of_le h.1,by simp only [FDo,List.length_set];exact Nat.le_succ_of_le h.2.1,fun x hx => ?_⟩
 rcases List.mem_or_eq_of_mem_set hx with hx|rfl
 · exact (h.2.2 x hx).upto (Nat.le_succ _)
 · cases (m.kind != 3)
   · exact (kL_ hT).upto (Nat.le_succ _)
   · exact kH_ hT hr
theorem FDoCh_len {c:Nat} {s:aw_} {m:TMut} (h:e6_ c s) (hr:m.row.cells.length≤c):p0_ c (FDoCh s m):=by
 have hT:f8_ c (eX_ s m):=eY_ h.2.2 _
 refine ⟨?_,?_⟩
 · show (cond (m.kind != 1) _ m0_).cells.length≤c
   cases (m.kind != 1)
   · exact Nat.zero_le _
   · by_cases hi:(fa_ (eX_ s m) m.row.id_).toNat<(eX_ s m).length
     · exact hT.2 _ (bH_ _ hi)
     · simp only [cond_true];rw [List.getD_eq_getElem?_getD,List.getElem?_eq_none (by omega)];exact Nat.zero_le _
 · show (cond (m.kind != 3) m.row m0_).cells.length≤c
   cases (m.kind != 3)
   · exact Nat.zero_le _
   · exact hr
theorem i5_ {c:Nat} {s:aw_} {m:TMut} (h:e6_ c s) (hr:m.row.cells.length≤c):e6_ (c+1) (fO_ s m).1∧p0_ c (fO_ s m).2.1:=by
 have z:p0_ c noCh:=⟨Nat.zero_le _,Nat.zero_le _⟩
 unfold fO_
 cases eG_ s
 · exact ⟨⟨Nat.zero_le _,Nat.zero_le _,fun x hx=>(by cases hx)⟩,z⟩
 · cases (iK_ s.schema m&&oP_ s m)
   · exact ⟨h.upto (Nat.le_succ _),z⟩
   · exact ⟨FDo_len h hr,FDoCh_len h hr⟩
end Go.Pi
end
section
namespace Go.Pi
def fB_:aw_→List TMut→List aT_→Option (aw_ × List aT_)
 |s,[],l=>some (s,l)
 |s,m::r,l=>cond (fO_ s m).2.2 (fB_ (fO_ s m).1 r (l++[(fO_ s m).2.1])) none
def kM_ (s:aw_):Option (aw_ × List aT_)→aw_ × List aT_ × Bool
 |some p=>(aw_.mk p.1.schema (W (s.version+1)) p.1.tables,p.2,true)
 |none=>(s,[],false)
def em_ (s:aw_) (l:List TMut):aw_ × List aT_ × Bool:=cond (eG_ s) (cond (inn (l.length:Int) 1 5 && !(s.version == 100000)) (kM_ s (fB_ s l [])) (s,[],false)) (zeroSt,[],false)
def j9_ (c:Nat) (l:List TMut):Prop:=∀ m ∈ l,m.row.cells.length≤c
theorem jV_ {c:Nat} {s:aw_} {l:List TMut} (hl:e6_ c s) (hm:j9_ c l) (hc:c+l.length≤1000000):Ev (fun n _=>bs_ n s l) (em_ s l):=by
 have hcR:e6_ eu_ s:=hl.upto (by simp only [eu_];omega)
 have hC:=kd_ hcR
 refine as_ ?_
 simp only [bs_,ep_,ab_ (ex_ (hcR.upto (show eu_≤bR_ by decide))),e9_,ab_ hC,ao_,af_]
 unfold em_
 cases h1:eG_ s
 · exact ⟨fun _=>rfl,fun h=>(by cases h)⟩
 refine ⟨fun h=>(by cases h),fun _ => ?_⟩
 cases h2:inn (l.length:Int) 1 5
 · exact ⟨fun _=>rfl,fun h=>(by cases h)⟩
 refine ⟨fun h=>(by cases h),fun _ => ?_⟩
 cases h3:(s.version == 100000)
 · refine ⟨fun h=>(by cases h),fun _ => ?_⟩
   have key:∀ (m i:Nat) (t:aw_) (o:List aT_),i+m=l.length→e6_ (c+i) t→o.length≤i →
     Ev (fun n N=>bs_.loop12 n (fun xy8 xy9 xy10 xy11 xy12 xy13 xy14 xy15=>(some ((aw_.mk (aA_.mk xy14) (W (xy9+1)) xy15),xy13,true))) N l (i:Int) s.schema.cols s.version s.tables 0 [] t.version o t.schema.cols t.tables) (kM_ s (fB_ t (l.drop i) o)):=by
    intro m
    induction m with
    |zero=>
     intro i t o hi ht ho
     have e:i=l.length:=by omega
     subst e
     refine cr_ ?_
     simp only [bs_.turn12,bs_.step12,b7_,cond_false,af_,List.drop_length,fB_,kM_]
    |succ m ih=>
     intro i t o hi ht ho
     have hlt:i<l.length:=by omega
     have hr:=hm _ (bH_ TMut.dflt hlt)
     have hD:=ig_ (m:=l.getD i TMut.dflt) (ht.upto (show c+i≤eu_ by simp only [eu_];omega)) (Nat.le_trans hr (by simp only [eu_];omega))
     have hW:=W_up hlt (show l.length≤bR_ by simp only [bR_];omega)
     have hn:=i5_ (m:=l.getD i TMut.dflt) ht (Nat.le_trans hr (Nat.le_add_right _ _))
     rw [f6_ TMut.dflt hlt]
     refine cr_ ?_
     simp only [bs_.turn12,bs_.step12,eK_,ep_,l8_,jw_,ct_ hlt,cond_true,bl_,b9_ hlt,true_and,Int.toNat_natCast,hW,ab_ hD,ao_,af_,ab_ hC,bn_,fB_]
     cases hq:(fO_ t (l.getD i TMut.dflt)).2.2
     · exact ⟨fun _=>rfl,fun h=>(by cases h)⟩
     · exact ⟨fun h=>(by cases h),fun _=>⟨by simp;omega,ih (i+1) _ _ (by omega) (by rw [←Nat.add_assoc];exact hn.1) (by simp;omega)⟩⟩
   exact en_ (key l.length 0 s [] (by omega) hl (Nat.le_refl _))
 · exact ⟨fun _=>rfl,fun h=>(by cases h)⟩
theorem kN_ {c:Nat}:∀ {l:List TMut} {s:aw_} {o:List aT_} {k:Nat},e6_ (c+k) s→j9_ c l→(∀ x ∈ o,p0_ (c+k) x)→∀ p,fB_ s l o=some p→e6_ (c+k+l.length) p.1∧p.2.length=o.length+l.length∧∀ x ∈ p.2,p0_ (c+k+l.length) x
 |[],s,o,k,h,_,ho,p,e=>by cases e;exact ⟨h,rfl,ho⟩
 |m::r,s,o,k,h,hm,ho,p,e=>by
  unfold fB_ at e
  cases hq:(fO_ s m).2.2<;>rw [hq] at e
  · cases e
  · have hr:=hm m (List.mem_cons_self ..)
    have hn:=i5_ (m:=m) h (Nat.le_trans hr (Nat.le_add_right _ _))
    have:=kN_ (l:=r) (k:=k+1) (by rw [←Nat.add_assoc];exact hn.1) (fun x hx=>hm x (List.mem_cons_of_mem _ hx)) (fun x hx=>by
     rcases List.mem_append.1 hx with hx|hx
     · exact ⟨Nat.le_succ_of_le (ho x hx).1,Nat.le_succ_of_le (ho x hx).2⟩
     · rw [List.mem_singleton.1 hx];exact ⟨Nat.le_succ_of_le hn.2.1,Nat.le_succ_of_le hn.2.2⟩) p e
    simp only [List.length_append,List.length_cons,List.length_nil] at this ⊢
    refine ⟨this.1.upto (by omega),by omega,fun x hx=>⟨Nat.le_trans (this.2.2 x hx).1 (by omega),Nat.le_trans (this.2.2 x hx).2 (by omega)⟩⟩
theorem jm_ {c:Nat} {s:aw_} {l:List TMut} (h:e6_ c s) (hm:j9_ c l):e6_ (c+l.length) (em_ s l).1∧(em_ s l).2.1.length≤5∧∀ x ∈ (em_ s l).2.1,p0_ (c+l.length) x:=by
 unfold em_
 cases eG_ s
 · exact ⟨⟨Nat.zero_le _,Nat.zero_le _,fun x hx=>(by cases hx)⟩,Nat.zero_le _,fun x hx=>(by cases hx)⟩
 · cases h2:(inn (l.length:Int) 1 5 && !(s.version == 100000))
   · exact ⟨h.upto (Nat.le_add_right _ _),Nat.zero_le _,fun x hx=>(by cases hx)⟩
   · simp only [cond_true]
     cases hb:fB_ s l [] with
     |none=>exact ⟨h.upto (Nat.le_add_right _ _),Nat.zero_le _,fun x hx=>(by cases hx)⟩
     |some p=>
      have:=kN_ (c:=c) (k:=0) (o:=[]) h hm (fun x hx=>(by cases hx)) p hb
      rw [Bool.and_eq_true] at h2
      have h5:=iU_.1 h2.1
      simp only [Nat.add_zero,List.length_nil,Nat.zero_add] at this
      exact ⟨this.1,by show p.2.length≤5;omega,this.2.2⟩
end Go.Pi
end
section
namespace Go.Pi
structure QIn (q:an_):Prop where
 len:m5_ 1010 q
 show_:∀ x ∈ q.show_,0≤x∧x≤1000
theorem up1 {i:Nat} (h:i≤1000000):W ((i:Int)+1)=((i+1:Nat):Int):=by rw [Wn (by omega) (by omega)];rfl
theorem l9loop7 {K:Nat→ai_.K7} {P:an_ × al_→Prop} {t6 t30 t40 t42 t43 t44 t46 t47 t48 t50 t52 t53 t54 t56 t57 t58} (hK:∀ c o,DwOk c→o.length≤3→Ans (fun n _=>K n t6 c.b c.i c.h t30 t40 t42 t43 t44 t46 t47 t48 t50 t52 t53 t54 t56 t57 t58 o) P) {c:al_} (hc:DwOk c) :
  Ans (fun n _=>ai_.loop7 n (K n) n t6 0 c.b c.i c.h t30 t40 t42 t43 t44 t46 t47 t48 t50 t52 t53 t54 t56 t57 t58 []) P:=by
 have key:∀ (m i:Nat) (c:al_) (o:List a6_),i+m=3→DwOk c→o.length=i→Ans (fun n N=>ai_.loop7 n (K n) N t6 (i:Int) c.b c.i c.h t30 t40 t42 t43 t44 t46 t47 t48 t50 t52 t53 t54 t56 t57 t58 o) P:=by
  intro m
  induction m with
  |zero=>
   intro i c o hi hc ho
   refine cW_ ?_
   simp only [ai_.turn7,ai_.step7,cU_]
   refine bc_ (bU_ hc) fun r hr => ?_
   have h1:=hr.lo;have h2:=hr.hi
   rw [decide_eq_false (by omega)]
   simp only [cond_false]
   exact hK _ _ hr.cur (by omega)
  |succ m ih=>
   intro i c o hi hc ho
   refine cW_ ?_
   simp only [ai_.turn7,ai_.step7,cU_]
   refine bc_ (bU_ hc) fun r hr => ?_
   simp only [cy_]
   refine ⟨fun _=>bc_ (bU_ hr.cur) fun r2 h2=>bc_ (bU_ h2.cur) fun r3 h3=>bc_ (bU_ h3.cur) fun r4 h4 => ?_,fun _=>hK _ _ hr.cur (by omega)⟩
   simp only [eB_,up1 (show i≤1000000 by omega)]
   exact ⟨by simp;omega,ih (i+1) r4.2 _ (by omega) h4.cur (by simp;omega)⟩
 exact fh_ (key 3 0 c [] rfl hc rfl)
theorem l9loop16 {K:Nat→ai_.K16} {P:an_ × al_→Prop} {t6 t30 t40 t42 t43 t44 t46 t47 t48 t50 t52 t53 t54 t56 t57 t58 t51} (h6:t6≤1000) (hK:∀ c o,DwOk c→o.length≤1000→(∀ x ∈ o,0≤x∧x≤1000)→Ans (fun n _=>K n c.b c.i c.h t30 t40 t42 t43 t44 t46 t47 t48 t50 t52 t53 t54 t56 t57 t58 t51 o) P) {c:al_} (hc:DwOk c) :
  Ans (fun n _=>ai_.loop16 n (K n) n t6 0 c.b c.i c.h t30 t40 t42 t43 t44 t46 t47 t48 t50 t52 t53 t54 t56 t57 t58 t51 []) P:=by
 have key:∀ (m i:Nat) (c:al_) (o:List Int),i+m=1000→DwOk c→o.length≤i→(∀ x ∈ o,0≤x∧x≤1000)→Ans (fun n N=>ai_.loop16 n (K n) N t6 (i:Int) c.b c.i c.h t30 t40 t42 t43 t44 t46 t47 t48 t50 t52 t53 t54 t56 t57 t58 t51 o) P:=by
  intro m
  induction m with
  |zero=>
   intro i c o hi hc ho hx
   refine cW_ ?_
   simp only [ai_.turn16,ai_.step16,cU_]
   rw [decide_eq_false (by omega)]
   simp only [cond_false]
   exact hK _ _ hc (by omega) hx
  |succ m ih=>
   intro i c o hi hc ho hx
   refine cW_ ?_
   simp only [ai_.turn16,ai_.step16,cU_,cy_]
   refine ⟨fun _=>bc_ (fn_ hc) fun r hr => ?_,fun _=>hK _ _ hc (by omega) hx⟩
   simp only [cy_,eB_,up1 (show i≤1000000 by omega)]
   refine ⟨fun _=>⟨by simp;omega,ih (i+1) r.2 _ (by omega) hr (by simp;omega) fun x hx' => ?_⟩,fun _=>ih (i+1) r.2 _ (by omega) hr (by omega) hx⟩
   rcases List.mem_append.1 hx' with h|h
   · exact hx x h
   · rw [List.mem_singleton.1 h];omega
 exact fh_ (key 1000 0 c [] rfl hc (Nat.le_refl _) fun x hx=>(by cases hx))
theorem gW_ {c:al_} {s:aA_} (hc:DwOk c) (hs:∀ x ∈ s.cols,x≤1000):Ans (fun n _=>ai_ n c s) fun r=>QIn r.1∧DwOk r.2:=by
 have hg:∀ i,s.cols.getD i 0≤1000:=fun i=>by
  by_cases hi:i<s.cols.length
  · exact hs _ (bH_ _ hi)
  · rw [List.getD_eq_getElem?_getD,List.getElem?_eq_none (by omega)];decide
 have hm:∀ i,max (s.cols.getD i 0) 1≤1000:=fun i=>by have:=hg i;omega
 refine di_ ?_
 simp only [ai_]
 repeat' (first
  |(rw [cV_ ib_])
  |(refine bc_ (bU_ (by assumption)) fun _ hd => ?_;obtain ⟨_,_,_⟩:=hd)
  |(refine bc_ (fn_ (by assumption)) fun _ _ => ?_)
  |(refine bc_ (gi_ (by assumption) (by simp)) fun _ hd => ?_;obtain ⟨_,_⟩:=hd)
  |(with_reducible refine cy_.2 ⟨fun _ => ?_,fun _ => ?_⟩)
  |(with_reducible refine gt_.2 ⟨⟨?_,?_⟩,?_⟩)
  |(refine l9loop7 (fun _ _ _ _ => ?_) (by assumption))
  |(refine l9loop16 (by first|exact hm _|decide) (fun _ _ _ _ _ => ?_) (by assumption))
  |((with_reducible refine ch_.2 ?_);refine ⟨⟨⟨?_,?_⟩,?_⟩,?_⟩))
 all_goals (first|assumption|(simp only [decide_eq_true_eq] at *;assumption)|(refine Nat.le_trans ?_ (show 3≤1010 by decide);assumption)|(refine Nat.le_trans ?_ (show 1000≤1010 by decide);assumption))
theorem mc_ {k:Nat} {c:al_} {s:aw_} (hc:DwOk c) (hs:StIn k s):Ans (fun n _=>c2_ n c s) fun r=>r.1.row.cells.length≤1000∧DwOk r.2:=by
 refine di_ ?_
 simp only [c2_]
 repeat' (first
  |(rw [cV_ ib_])
  |(refine bc_ (bU_ (by assumption)) fun _ hd => ?_;obtain ⟨_,_,_⟩:=hd)
  |(refine bc_ (fn_ (by assumption)) fun _ _ => ?_)
  |(refine bc_ (gi_ (by assumption) (by simp)) fun _ hd => ?_;obtain ⟨_,_⟩:=hd)
  |(refine bc_ (ix_ (by assumption) (hs.getD _)) fun _ hd => ?_;obtain ⟨_,_⟩:=hd)
  |(with_reducible refine cy_.2 ⟨fun _ => ?_,fun _ => ?_⟩)
  |(with_reducible refine gt_.2 ⟨⟨?_,?_⟩,?_⟩)
  |(with_reducible refine ch_.2 ⟨?_,by assumption⟩))
 all_goals (first|assumption|exact Nat.zero_le _|(simp only [decide_eq_true_eq,decide_eq_false_iff_not] at *;omega))
theorem FMutDo_in {k:Nat} {s:aw_} {m:TMut} (h:StIn k s) (hr:m.row.cells.length≤k):StIn (k+1) (fO_ s m).1:=by
 refine ⟨(i5_ h.len hr).1,?_⟩
 unfold fO_
 cases eG_ s
 · exact fun x hx=>(by cases hx)
 · cases (iK_ s.schema m&&oP_ s m)<;>exact h.col
theorem oR_ {k:Nat} {s:aw_} {l:List TMut} (h:StIn k s) (hm:j9_ k l):StIn (k+l.length) (em_ s l).1:=by
 refine ⟨(jm_ h.len hm).1,?_⟩
 unfold em_
 cases eG_ s
 · exact fun x hx=>(by cases hx)
 · cases (inn (l.length:Int) 1 5 && !(s.version == 100000))
   · exact h.col
   · have key:∀ (l:List TMut) (t:aw_) (o:List aT_),(∀ x ∈ t.schema.cols,x≤1000)→∀ p,fB_ t l o=some p→∀ x ∈ p.1.schema.cols,x≤1000:=by
      intro l
      induction l with
      |nil=>intro t o ht p e;cases e;exact ht
      |cons m r ih=>
       intro t o ht p e
       unfold fB_ at e
       cases hq:(fO_ t m).2.2<;>rw [hq] at e
       · cases e
       · refine ih _ _ ?_ p e
         unfold fO_
         cases eG_ t
         · exact fun x hx=>(by cases hx)
         · cases (iK_ t.schema m&&oP_ t m)<;>exact ht
     simp only [cond_true]
     cases hb:fB_ s l [] with
     |none=>exact h.col
     |some p=>exact key l s [] h.col p hb
theorem kc_ {k:Nat} {c:al_} {s:aw_} (hc:DwOk c) (hs:StIn k s) (hk:1000≤k) (hk2:k≤90000):Ans (fun n _=>aB_ n c s) fun r=>r.1.length≤3∧j9_ 1000 r.1∧DwOk r.2:=by
 have key:∀ (m i:Nat) (c:al_) (s:aw_) (o:List TMut),i+m=3→DwOk c→StIn (k+i) s→o.length≤i→j9_ 1000 o →
   Ans (fun n N=>aB_.loop5 n (fun xy14 xy15 xy16 xy17=>(some (xy17,(al_.mk xy14 xy15 xy16)))) N (i:Int) c.b c.i c.h s.schema.cols s.version s.tables o) fun r=>r.1.length≤3∧j9_ 1000 r.1∧DwOk r.2:=by
  intro m
  induction m with
  |zero=>
   intro i c s o hi hc hs ho hm
   refine cW_ ?_
   simp only [aB_.turn5,aB_.step5,cU_]
   refine bc_ (bU_ hc) fun r hr => ?_
   have h1:=hr.lo;have h2:=hr.hi
   rw [Wn (x:=1+r.1) (by omega) (by omega),decide_eq_false (by omega)]
   simp only [cond_false,cU_,ch_]
   exact ⟨by omega,hm,hr.cur⟩
  |succ m ih=>
   intro i c s o hi hc hs ho hm
   refine cW_ ?_
   simp only [aB_.turn5,aB_.step5,cU_]
   refine bc_ (bU_ hc) fun r hr => ?_
   simp only [cy_,cU_,ch_,eK_,ep_]
   refine ⟨fun _=>bc_ (mc_ hr.cur hs) fun r2 h2 => ?_,fun _=>⟨by omega,hm,hr.cur⟩⟩
   have hD:=ig_ (s:=s) (m:=r2.1) (hs.len.upto (by simp only [eu_];omega)) (Nat.le_trans h2.1 (by decide))
   have hn:=FMutDo_in (m:=r2.1) hs (Nat.le_trans h2.1 (by omega))
   have hm2:j9_ 1000 (o++[r2.1]):=fun x hx=>by
    rcases List.mem_append.1 hx with h|h
    · exact hm x h
    · rw [List.mem_singleton.1 h];exact h2.1
   have e1:=up1 (show i≤1000000 by omega)
   have hnow:StIn (k+(i+1)) s:=hs.upto (by omega)
   have hgo:∀ (t:aw_) (c:al_) (q:List TMut),StIn (k+(i+1)) t→DwOk c→q.length≤i+1→j9_ 1000 q→Ans (fun n N=>aB_.loop5 n (fun xy14 xy15 xy16 xy17=>(some (xy17,(al_.mk xy14 xy15 xy16)))) N ((i+1:Nat):Int) c.b c.i c.h t.schema.cols t.version t.tables q) fun r=>r.1.length≤3∧j9_ 1000 r.1∧DwOk r.2:=fun t c q h1 h2 h3 h4=>ih (i+1) c t q (by omega) h2 h1 h3 h4
   simp only [aB_.tail9,eK_,ep_,l8_,jw_,cV_ hD,e1,cU_]
   repeat' (first
    |(with_reducible refine cy_.2 ⟨fun _ => ?_,fun _ => ?_⟩)
    |(refine bc_ (fn_ h2.2) fun r3 h3 => ?_)
    |(with_reducible refine eB_.2 ⟨by simp;omega,?_⟩))
   all_goals (first
    |exact hgo _ _ _ hn h2.2 (by simp;omega) hm2
    |exact hgo _ _ _ hn (by assumption) (by simp;omega) hm2
    |exact hgo _ _ _ hn (by assumption) (by omega) hm
    |exact hgo s _ _ hnow h2.2 (by simp;omega) hm2
    |exact hgo s _ _ hnow (by assumption) (by simp;omega) hm2
    |exact hgo s _ _ hnow (by assumption) (by omega) hm)
 refine di_ ?_
 simp only [aB_]
 exact fh_ (key 3 0 c s [] rfl hc hs (Nat.le_refl _) fun x hx=>(by cases hx))
end Go.Pi
end
section
namespace Go.Pi
def FPut (q:an_) (rows:List TRow) (r:TRow):List TRow:=rows.take (rows.findIdx (fun x=>gH_ q r x))++[r]++rows.drop (rows.findIdx (fun x=>gH_ q r x))
theorem take_mid {α:Type} (d:α) {a m:List α} {i p:Nat} (hi:i<a.length) (h:p≤i):a.take p++m++(a.take (i+1)).drop p=a.take p++m++(a.take i).drop p++[a.getD i d]:=by
 rw [cC_ d hi,List.drop_append_of_le_length (by simp;omega)]
 simp
theorem ahead_idx {q:an_} {r:TRow} {rows:List TRow} {i:Nat} (hi:i<rows.length) (hle:i≤rows.findIdx (fun x=>gH_ q r x)):gH_ q r (rows.getD i TRow.dflt)=decide (i=rows.findIdx (fun x=>gH_ q r x)):=by
 rw [List.getD_eq_getElem?_getD,List.getElem?_eq_getElem hi,Option.getD_some]
 by_cases h:i=rows.findIdx (fun x=>gH_ q r x)
 · rw [decide_eq_true h]
   have:=List.findIdx_getElem (xs:=rows) (p:=fun x=>gH_ q r x) (w:=by omega)
   simp only [←h] at this
   exact this
 · rw [decide_eq_false h]
   have:=List.not_of_lt_findIdx (xs:=rows) (p:=fun x=>gH_ q r x) (i:=i) (by omega)
   simpa using this
theorem fR_ {q:an_} {rows:List TRow} {r:TRow} (h:f8_ eu_ rows) (hr:r.cells.length≤eu_):Ev (fun n _=>bA_ n q rows r) (FPut q rows r):=by
 refine as_ ?_
 have hl:=h.1
 simp only [eu_] at hl
 have ht:rows.length≤bR_:=by simp only [bR_];omega
 have hrt:r.cells.length≤bR_:=by simp only [bR_];simp only [eu_] at hr;omega
 simp only [bA_]
 have e0:∀ r:TRow,TRow.mk r.id_ r.cells=r:=fun _=>rfl
 have hA:∀ (x:TRow) (g:Nat→Nat→Bool→Option (List TRow)) (v:List TRow),x.cells.length≤bR_→(Ev (fun n N=>(dX_ n (an_.mk q.table q.where_ q.order q.down q.first q.show_ q.kids q.kidTable q.kidCol) r x).bind (g n N)) v↔Ev (fun n N=>g n N (gH_ q r x)) v):=fun x g v hx=>ab_ (lU_ hrt hx)
 obtain ⟨p,hp⟩:∃ p,p=rows.findIdx (fun x=>gH_ q r x):=⟨_,rfl⟩
 have hpl:p≤rows.length:=by rw [hp];exact List.findIdx_le_length
 let S:Nat→Bool × List TRow:=fun i=>if i≤p then (false,rows.take i) else (true,rows.take p++[r]++(rows.take i).drop p)
 have hS0:S 0=(false,[]):=by simp [S]
 have:=dT_ S rows.length (fun n N i (s:Bool × List TRow)=>bA_.loop5 n (fun xy3 xy4 xy5 xy6=>(cond (!xy3) ((ci_ n (TRow.mk xy4 xy5)).bind fun xr7=>(bm_ (xy6.length+([xr7]:List TRow).length) 32 (some (xy6++([xr7]:List TRow))))) (some xy6))) N rows s.1 (i:Int) q.table q.where_ q.order q.down q.first q.show_ q.kids q.kidTable q.kidCol r.id_ r.cells s.2) (FPut q rows r) (fun i hi F hF => ?_) ?_
 · rw [hS0] at this;exact this
 · simp only [bA_.turn5,bA_.step5,Int.toNat_natCast,W_up hi ht,e0]
   have hx:=ahead_idx (q:=q) (r:=r) hi
   rw [←hp] at hx
   have hlt:(S i).2.length≤rows.length+1:=by simp only [S];split<;>simp<;>omega
   simp only [ao_,bl_,hA _ _ _ (f5_ (rows:=rows) ⟨ht,fun x hx=>by have:=h.2 x hx;simp only [eu_] at this;simp only [bR_];omega⟩ i),fJ_ hr,bn_,ct_ hi,b9_ hi]
   refine ⟨fun _=>⟨fun hn=>⟨trivial,fun ha=>⟨by simp;omega,trivial,by simp;omega,?_⟩,fun ha=>⟨trivial,by simp;omega,?_⟩⟩,fun hn=>⟨trivial,by simp;omega,?_⟩⟩,fun h=>by cases h⟩
   all_goals (by_cases hle:i≤p)
   · have e:i=p:=by rw [hx hle] at ha;exact of_decide_eq_true ha
     subst e
     simp only [S,if_neg (show ¬ i+1≤i by omega),if_pos (Nat.le_refl i),cC_ TRow.dflt hi,List.drop_append_of_le_length (show i≤(rows.take i).length by simp;omega),List.drop_eq_nil_of_le (show (rows.take i).length≤i by simp;omega),List.nil_append] at hF ⊢
     exact hF
   · simp only [S,if_neg hle] at hn;cases hn
   · have e:i≠p:=by rw [hx hle] at ha;exact of_decide_eq_false ha
     simp only [S,if_pos hle,if_pos (show i+1≤p by omega),cC_ TRow.dflt hi] at hF ⊢
     exact hF
   · simp only [S,if_neg hle] at hn;cases hn
   · simp only [S,if_pos hle] at hn;cases hn
   · simp only [S,if_neg hle,if_neg (show ¬ i+1≤p by omega),take_mid TRow.dflt hi (show p≤i by omega)] at hF ⊢
     exact hF
 · simp only [bA_.turn5,bA_.step5,b7_,cond_false,e0,ao_,fJ_ hr,bn_,af_]
   unfold FPut
   rw [←hp]
   by_cases hle:rows.length≤p
   · have e:rows.length=p:=by omega
     simp only [S,if_pos hle,←e]
     simp;omega
   · simp only [S,if_neg hle]
     simp
end Go.Pi
end
section
namespace Go.Pi
def fK_ (kids:List TKid) (id:Int):Nat:=kids.findIdx (fun k=>decide (k.id_≥id))
def nb_ (k:TKid) (id by_:Int):List TKid :=
 cond (k.id_ == id) (cond (decide (W (k.n_+by_) > 0)) [TKid.mk id (W (k.n_+by_))] []) (cond (decide (by_ > 0)) [TKid.mk id by_,k] [k])
def FKid (kids:List TKid) (id by_:Int):List TKid :=
 cond (decide (fK_ kids id<kids.length)) (kids.take (fK_ kids id)++nb_ (kids.getD (fK_ kids id) TKid.dflt) id by_++kids.drop (fK_ kids id+1)) (cond (decide (by_ > 0)) (kids++[TKid.mk id by_]) kids)
theorem kid_idx {kids:List TKid} {id:Int} {i:Nat} (hi:i<kids.length) (hle:i≤fK_ kids id):((kids.getD i TKid.dflt).id_≥id↔i=fK_ kids id)∧((kids.getD i TKid.dflt).id_<id↔i≠fK_ kids id):=by
 have key:(kids.getD i TKid.dflt).id_≥id↔i=fK_ kids id:=by
  rw [List.getD_eq_getElem?_getD,List.getElem?_eq_getElem hi,Option.getD_some]
  unfold fK_ at hle ⊢
  constructor
  · intro h
    refine Classical.byContradiction fun hne => ?_
    have:=List.not_of_lt_findIdx (xs:=kids) (p:=fun k=>decide (k.id_≥id)) (i:=i) (by omega)
    rw [decide_eq_true h] at this;cases this
  · intro h
    have:=List.findIdx_getElem (xs:=kids) (p:=fun k=>decide (k.id_≥id)) (w:=by omega)
    simp only [←h] at this
    exact of_decide_eq_true this
 exact ⟨key,fun h e=>by have:=key.2 e;omega,fun h=>by have:=fun g=>h (key.1 g);omega⟩
theorem iS_ (k:TKid) (id by_:Int):(nb_ k id by_).length≤2:=by
 unfold nb_
 cases (k.id_ == id)<;>simp only [cond_true,cond_false]
 · cases decide (by_ > 0)<;>simp
 · cases decide (W (k.n_+by_) > 0)<;>simp
theorem take_midK {a m:List TKid} {i p:Nat} (hi:i<a.length) (h:p+1≤i):a.take p++m++(a.take (i+1)).drop (p+1)=a.take p++m++(a.take i).drop (p+1)++[a.getD i TKid.dflt]:=by
 rw [cC_ TKid.dflt hi,List.drop_append_of_le_length (by simp;omega)]
 simp
theorem eS_ {kids:List TKid} {id by_:Int} (h:kids.length≤eu_):Ev (fun n _=>aL_ n kids id by_) (FKid kids id by_):=by
 refine as_ ?_
 have hl:=h
 simp only [eu_] at hl
 have ht:kids.length≤bR_:=by simp only [bR_];omega
 simp only [aL_]
 obtain ⟨p,hp⟩:∃ p,p=fK_ kids id:=⟨_,rfl⟩
 have hpl:p≤kids.length:=by rw [hp];exact List.findIdx_le_length
 obtain ⟨m,hm⟩:∃ m,m=nb_ (kids.getD p TKid.dflt) id by_:=⟨_,rfl⟩
 have hml:m.length≤2:=by rw [hm];exact iS_ _ _ _
 let S:Nat→Bool × List TKid:=fun i=>if i≤p then (false,kids.take i) else (true,kids.take p++m++(kids.take i).drop (p+1))
 have hS0:S 0=(false,[]):=by simp [S]
 have:=dT_ S kids.length (fun n N i (s:Bool × List TKid)=>aL_.loop5 n (fun xy1 xy2 xy3 xy4=>(cond (!xy3) (cond (decide (xy2 > 0)) (bm_ (xy4.length+([(TKid.mk xy1 xy2)]:List TKid).length) 16 (some (xy4++([(TKid.mk xy1 xy2)]:List TKid)))) (some xy4)) (some xy4))) N kids id by_ s.1 (i:Int) s.2) (FKid kids id by_) (fun i hi F hF => ?_) ?_
 · rw [hS0] at this;exact this
 · have hx:=kid_idx (kids:=kids) (id:=id) hi
   rw [←hp] at hx
   have hlt:(S i).2.length≤kids.length+2:=by simp only [S];split<;>simp<;>omega
   obtain ⟨k,hk⟩:∃ k,k=kids.getD i TKid.dflt:=⟨_,rfl⟩
   simp only [aL_.turn5,aL_.step5,Int.toNat_natCast,W_up hi ht,ao_,bl_,bn_,ct_ hi,b9_ hi,←hk]
   refine ⟨fun _=>⟨trivial,?_⟩,fun h=>by cases h⟩
   by_cases hle:i≤p
   · have s1:S i=(false,kids.take i):=by simp only [S,if_pos hle]
     rw [s1] at hlt ⊢
     by_cases e:i=p
     · have hge:k.id_≥id:=by rw [hk];exact (hx hle).1.2 e
       subst e
       have s2:S (i+1)=(true,kids.take i++m):=by
        simp only [S,if_neg (show ¬ i+1≤i by omega)]
        rw [List.drop_eq_nil_of_le (by simp;omega),List.append_nil]
       rw [s2,hm,←hk] at hF
       unfold nb_ at hF
       simp only [hge,decide_true,Bool.not_false,cond_true] at hF ⊢
       cases h1:(k.id_ == id)<;>cases h2:decide (by_ > 0)<;>cases h3:decide (W (k.n_+by_) > 0)<;>simp only [h1,h2,h3,cond_true,cond_false] at hF ⊢
       all_goals (repeat' (first|apply And.intro|intro _))
       all_goals (first|contradiction|exact hF|(simpa using hF)|(simp;omega))
     · have hlt2:¬ k.id_≥id:=by rw [hk];exact fun h=>e ((hx hle).1.1 h)
       have s2:S (i+1)=(false,kids.take i++[k]):=by
        simp only [S,if_pos (show i+1≤p by omega),hk,cC_ TKid.dflt hi]
       rw [s2] at hF
       simp only [hlt2,decide_false]
       repeat' (first|apply And.intro|intro _)
       all_goals (first|contradiction|exact hF|(simpa using hF)|(simp;omega))
   · have s1:S i=(true,kids.take p++m++(kids.take i).drop (p+1)):=by simp only [S,if_neg hle]
     have s2:S (i+1)=(true,kids.take p++m++(kids.take i).drop (p+1)++[k]):=by
      simp only [S,if_neg (show ¬ i+1≤p by omega),hk]
      rw [take_midK hi (by omega)]
     rw [s1] at hlt ⊢
     rw [s2] at hF
     repeat' (first|apply And.intro|intro _)
     all_goals (first|contradiction|exact hF|(simp at hlt ⊢;omega))
 · simp only [aL_.turn5,aL_.step5,b7_,cond_false,ao_,bn_,af_]
   unfold FKid
   rw [←hp,←hm]
   by_cases hle:kids.length≤p
   · have e:p=kids.length:=by omega
     have s1:S kids.length=(false,kids):=by simp only [S,if_pos hle,List.take_length]
     rw [s1,decide_eq_false (show ¬ p<kids.length by omega)]
     simp only [cond_false]
     refine ⟨fun _=>⟨fun h=>⟨by simp;omega,by rw [h];rfl⟩,fun h=>by rw [h];rfl⟩,fun h=>by cases h⟩
   · have s1:S kids.length=(true,kids.take p++m++kids.drop (p+1)):=by simp only [S,if_neg hle,List.take_length]
     rw [s1,decide_eq_true (show p<kids.length by omega)]
     exact ⟨fun h=>(by cases h),fun _=>rfl⟩
end Go.Pi
end
section
namespace Go.Pi
theorem iv_.upto {c d:Nat} {v:aD_} (h:iv_ c v) (hc:c≤d):iv_ d v:=⟨⟨Nat.le_trans h.1.1 hc,Nat.le_trans h.1.2 hc⟩,h.2.1.upto hc,Nat.le_trans h.2.2 hc⟩
section
variable {β:Type}
theorem ph_ {q:an_} (h:m5_ eu_ q) {g:Nat→Nat→an_→Option β} {v:β}:Ev (fun n N=>(dA_ n q).bind (g n N)) v↔Ev (fun n N=>g n N q) v :=
 ab_ (as_ (by have h1:=h.1;have h2:=h.2;simp only [eu_] at h1 h2;simp only [dA_,bn_,af_,List.nil_append,and_true,List.length_nil];omega))
theorem m9_ {x:aD_} (h:iv_ eu_ x) {g:Nat→Nat→aD_→Option β} {v:β}:Ev (fun n N=>(dk_ n x).bind (g n N)) v↔Ev (fun n N=>g n N x) v :=
 ab_ (as_ (by have h1:=h.2.2;simp only [eu_] at h1;simp only [dk_,ph_ h.1,ab_ (m7_ h.2.1),bn_,af_,List.nil_append,and_true,List.length_nil];omega))
end
def pG_ (v:aD_) (c:aT_):List TRow :=
 cond (c.table == v.q.table) (cond (c.has&&fk_ v.q c.new) (FPut v.q (cond c.had (iM_ v.rows c.old.id_) v.rows) c.new) (cond c.had (iM_ v.rows c.old.id_) v.rows)) v.rows
def pH_ (v:aD_) (c:aT_):List TKid :=
 cond (v.q.kids&&(c.table == v.q.kidTable)) (cond c.has (FKid (cond c.had (FKid v.kids (eF_ c.old v.q.kidCol) (-1)) v.kids) (eF_ c.new v.q.kidCol) 1) (cond c.had (FKid v.kids (eF_ c.old v.q.kidCol) (-1)) v.kids)) v.kids
def i7_ (v:aD_) (c:aT_):aD_:=⟨v.q,pG_ v c,pH_ v c⟩
theorem jD_ {c:Nat} {q:an_} {rows:List TRow} {r:TRow} (h:f8_ c rows) (hr:r.cells.length≤c):f8_ (c+1) (FPut q rows r):=by
 unfold FPut
 refine ⟨by have:=h.1;simp;omega,fun x hx => ?_⟩
 rcases List.mem_append.1 hx with hx|hx
 · rcases List.mem_append.1 hx with hx|hx
   · exact Nat.le_succ_of_le (h.2 x (List.mem_of_mem_take hx))
   · rw [List.mem_singleton.1 hx];omega
 · exact Nat.le_succ_of_le (h.2 x (List.mem_of_mem_drop hx))
theorem jF_ {kids:List TKid} {id by_:Int}:(FKid kids id by_).length≤kids.length+1:=by
 unfold FKid
 have:=iS_ (kids.getD (fK_ kids id) TKid.dflt) id by_
 by_cases h:fK_ kids id<kids.length
 · rw [decide_eq_true h,cond_true];simp only [List.length_append,List.length_take,List.length_drop];omega
 · rw [decide_eq_false h];cases decide (by_ > 0)<;>simp
theorem ic_ {c:Nat} {v:aD_} {x:aT_} (h:iv_ c v) (hx:p0_ c x) (hc:c+1≤eu_):Ev (fun n _=>cR_ n v x) (i7_ v x):=by
 refine as_ ?_
 have hv:=h.upto (show c≤eu_ by omega)
 have hd:=kL_ (id:=x.old.id_) hv.2.1
 have hr:x.new.cells.length≤eu_:=by have:=hx.2;omega
 have hk:=hv.2.2
 have hk2:∀ id b,(FKid v.kids id b).length≤eu_:=fun id b=>by have:=jF_ (kids:=v.kids) (id:=id) (by_:=b);have:=h.2.2;omega
 simp only [cR_,m9_ hv,ao_,ab_ (fp_ (id:=x.old.id_) hv.2.1),ab_ (gO_ (q:=v.q) (r:=x.new) (gb_ hv.1.1 (Nat.le_refl _)) (gb_ hr (Nat.le_refl _))),ab_ (fR_ (q:=v.q) (r:=x.new) hd hr),ab_ (fR_ (q:=v.q) (r:=x.new) hv.2.1 hr),
  ab_ (ef_ (r:=x.old) (col:=v.q.kidCol) (gb_ hx.1 (by omega))),ab_ (ef_ (r:=x.new) (col:=v.q.kidCol) (gb_ hx.2 (by omega))),
  ab_ (eS_ (kids:=v.kids) (id:=eF_ x.old v.q.kidCol) (by_:=-1) hk),ab_ (eS_ (kids:=v.kids) (id:=eF_ x.new v.q.kidCol) (by_:=1) hk),ab_ (eS_ (id:=eF_ x.new v.q.kidCol) (by_:=1) (hk2 (eF_ x.old v.q.kidCol) (-1))),af_]
 unfold i7_ pG_ pH_
 cases h1:(x.table == v.q.table)<;>cases h2:x.had<;>cases h3:x.has<;>cases h4:fk_ v.q x.new<;>cases h5:v.q.kids<;>cases h6:(x.table == v.q.kidTable)<;>simp
end Go.Pi
end
section
namespace Go.Pi
def i4_ (q:an_) (o:List TRow) (rows:List TRow):List TRow:=rows.foldl (fun o r=>cond (fk_ q r) (FPut q o r) o) o
def FSQ (s:aw_) (q:an_):Bool:=eG_ s&&hP_ s.schema q
def gv_ (s:aw_) (q:an_):List TRow:=cond (FSQ s q) (i4_ q [] (s.tables.getD q.table.toNat [])) []
def h2_ (q:an_) (k:List TKid) (rows:List TRow):List TKid:=rows.foldl (fun k r=>FKid k (r.cells.getD q.kidCol.toNat 0) 1) k
def jE_ (s:aw_) (q:an_):List TKid:=cond q.kids (h2_ q [] (s.tables.getD q.kidTable.toNat [])) []
def zeroQ:an_:=an_.mk 0 [] 0 false 0 [] false 0 0
def zeroV:aD_:=aD_.mk zeroQ [] []
def i3_ (s:aw_) (q:an_):aD_ × Bool:=cond (FSQ s q) (aD_.mk q (gv_ s q) (jE_ s q),true) (zeroV,false)
theorem f1_ (q:an_):an_.mk q.table q.where_ q.order q.down q.first q.show_ q.kids q.kidTable q.kidCol=q:=rfl
structure SQ (s:aw_) (q:an_):Prop where
 tab:0≤q.table∧q.table<(s.tables.length:Int)
 kid:0≤q.kidTable∧q.kidTable<(s.tables.length:Int)
 col:q.kids=true→∀ r ∈ s.tables.getD q.kidTable.toNat [],0≤q.kidCol∧q.kidCol<(r.cells.length:Int)
theorem sq_of {s:aw_} {q:an_} (h:FSQ s q=true) (hc:s.schema.cols.length≤bR_) (hct:s.tables.length≤bR_) (hrl:∀ x ∈ s.tables,x.length≤bR_∧∀ r ∈ x,r.cells.length≤bR_):SQ s q:=by
 have e:=@W_dn s.schema.cols.length hc
 unfold FSQ at h
 rw [Bool.and_eq_true] at h
 obtain ⟨h1,h2⟩:=h
 unfold eG_ at h1
 simp only [Bool.and_eq_true] at h1
 have hl:s.tables.length=s.schema.cols.length:=of_decide_eq_true h1.2.2.1
 have hT:=h1.2.2.2
 unfold hP_ at h2
 simp only [Bool.and_eq_true] at h2
 have ht:=iU_.1 h2.2.1
 rw [e] at ht
 have hcl:1≤s.schema.cols.length:=by omega
 have hk:FKids s.schema q=true:=by
  have:=h2.2.2.2.2.2
  grind
 unfold FKids at hk
 cases hkk:q.kids<;>rw [hkk] at hk
 · simp only [cond_false,Bool.and_eq_true,beq_iff_eq] at hk
   exact ⟨by omega,by omega,fun h=>by rw [hkk] at h;cases h⟩
 · simp only [cond_true,Bool.and_eq_true] at hk
   have k1:=iU_.1 hk.1
   have k2:=iU_.1 hk.2
   rw [e] at k1
   refine ⟨by omega,by omega,fun _ r hr => ?_⟩
   have hi:q.kidTable.toNat<s.tables.length:=by omega
   have hrow:=fi_.1 hT q.kidTable.toNat hi
   unfold oL_ at hrow
   obtain ⟨j,hj,rfl⟩:=List.mem_iff_getElem.1 hr
   simp only [Bool.and_eq_true] at hrow
   have hf:FRow s.schema (q.kidTable.toNat:Int) ((s.tables.getD q.kidTable.toNat []).getD j TRow.dflt)=true:=by
    have:=fi_.1 hrow.1 j hj
    simp only [Bool.and_eq_true] at this
    exact this.1
   unfold FRow at hf
   simp only [Bool.and_eq_true] at hf
   have hlen:=of_decide_eq_true hf.2.2.2.1
   rw [List.getD_eq_getElem?_getD,List.getElem?_eq_getElem hj,Option.getD_some,Int.toNat_natCast] at hlen
   have hle:((s.tables.getD q.kidTable.toNat [])[j]).cells.length≤bR_:=(hrl _ (bH_ _ hi)).2 _ hr
   rw [←hlen,W_dn hle] at k2
   omega
theorem kG_ {c:Nat} {q:an_}:∀ {rows o:List TRow} {k:Nat},f8_ (c+k) o→(∀ r ∈ rows,r.cells.length≤c)→f8_ (c+k+rows.length) (i4_ q o rows)
 |[],o,k,h,_=>h
 |r::rows,o,k,h,hr=>by
  have h1:=hr r (List.mem_cons_self ..)
  have h2:f8_ (c+(k+1)) (cond (fk_ q r) (FPut q o r) o):=by
   cases fk_ q r
   · exact h.upto (by omega)
   · exact jD_ h (Nat.le_trans h1 (Nat.le_add_right _ _))
  have:=kG_ (q:=q) (rows:=rows) h2 fun x hx=>hr x (List.mem_cons_of_mem _ hx)
  exact this.upto (by simp;omega)
theorem nM_ {kids:List TKid} {id by_:Int}:(FKid kids id by_).length≤kids.length+1:=by
 have:=iS_ (kids.getD (fK_ kids id) TKid.dflt) id by_
 unfold FKid
 cases h:decide (fK_ kids id<kids.length)
 · cases decide (by_ > 0)<;>simp
 · have:=of_decide_eq_true h
   simp only [cond_true,List.length_append,List.length_take,List.length_drop];omega
theorem kJ_ {q:an_}:∀ {rows:List TRow} {k:List TKid},(h2_ q k rows).length≤k.length+rows.length
 |[],k=>Nat.le_refl _
 |r::rows,k=>by
  have h1:=nM_ (kids:=k) (id:=r.cells.getD q.kidCol.toNat 0) (by_:=1)
  have h2:=kJ_ (q:=q) (rows:=rows) (k:=FKid k (r.cells.getD q.kidCol.toNat 0) 1)
  show (h2_ q _ rows).length≤_
  simp only [List.length_cons];omega
section
variable {s:aw_} {q:an_} {c:Nat} (hl:e6_ c s) (hq:m5_ 100000 q) (hc:c≤100000)
include hl hq hc
theorem jU_:Ev (fun n _=>br_ n s q) (gv_ s q):=by
 have hs:s.schema.cols.length≤bR_:=gb_ (Nat.le_trans hl.1 hc) (by decide)
 have hL:e6_ bR_ s:=hl.upto (Nat.le_trans hc (by decide))
 have hqT:m5_ bR_ q:=⟨Nat.le_trans hq.1 (by decide),Nat.le_trans hq.2 (by decide)⟩
 refine as_ ?_
 simp only [br_,ab_ (ex_ hL),ab_ (gN_ hs hqT),ao_,af_,bl_]
 unfold gv_ FSQ
 cases h1:eG_ s
 · exact ⟨fun _=>rfl,fun h=>(by cases h)⟩
 refine ⟨fun h=>(by cases h),fun _ => ?_⟩
 cases h2:hP_ s.schema q
 · exact ⟨fun _=>rfl,fun h=>(by cases h)⟩
 refine ⟨fun h=>(by cases h),fun _ => ?_⟩
 have hS:=sq_of (s:=s) (q:=q) (by unfold FSQ;rw [h1,h2];rfl) hs hL.2.1 hL.2.2
 refine ⟨hS.tab,?_⟩
 have hT:f8_ c (s.tables.getD q.table.toNat []):=eY_ hl.2.2 _
 simp only [Bool.and_self,cond_true]
 generalize s.tables.getD q.table.toNat []=rows at hT ⊢
 have key:∀ (m i:Nat) (o:List TRow),i+m=rows.length→f8_ (c+i) o→Ev (fun n N=>br_.loop8 n (fun xy5=>(some xy5)) N rows (i:Int) q.table q.where_ q.order q.down q.first q.show_ q.kids q.kidTable q.kidCol o) (i4_ q o (rows.drop i)):=by
  intro m
  induction m with
  |zero=>
   intro i o hi ho
   have e:i=rows.length:=by omega
   subst e
   refine cr_ ?_
   simp only [br_.turn8,br_.step8,b7_,cond_false,af_,List.drop_length,i4_,List.foldl_nil]
  |succ m ih=>
   intro i o hi ho
   have hlt:i<rows.length:=by omega
   have h1:=hT.1
   have hr:=hT.2 _ (bH_ TRow.dflt hlt)
   have hM:=gO_ (q:=q) (r:=rows.getD i TRow.dflt) hqT.1 (by simp only [bR_];omega)
   have hP:=fR_ (q:=q) (rows:=o) (r:=rows.getD i TRow.dflt) (ho.upto (by simp only [eu_];omega)) (by simp only [eu_];omega)
   have hW:=W_up hlt (show rows.length≤bR_ by simp only [bR_];omega)
   have e1:i4_ q o (rows.drop i)=i4_ q (cond (fk_ q (rows.getD i TRow.dflt)) (FPut q o (rows.getD i TRow.dflt)) o) (rows.drop (i+1)):=by rw [f6_ TRow.dflt hlt];rfl
   rw [e1]
   refine cr_ ?_
   simp only [br_.turn8,br_.step8,f1_,ct_ hlt,cond_true,bl_,b9_ hlt,true_and,Int.toNat_natCast,hW,ab_ hM,ab_ hP,ao_]
   cases hf:fk_ q (rows.getD i TRow.dflt)
   · exact ⟨fun h=>(by cases h),fun _=>ih (i+1) _ (by omega) (ho.upto (by omega))⟩
   · exact ⟨fun _=>ih (i+1) _ (by omega) (jD_ ho (Nat.le_trans hr (Nat.le_add_right _ _))),fun h=>(by cases h)⟩
 exact en_ (key rows.length 0 [] (by omega) ⟨Nat.zero_le _,fun x hx=>(by cases hx)⟩)
theorem kS_:Ev (fun n _=>bJ_ n s q) (i3_ s q):=by
 have hs:s.schema.cols.length≤bR_:=gb_ (Nat.le_trans hl.1 hc) (by decide)
 have hL:e6_ bR_ s:=hl.upto (Nat.le_trans hc (by decide))
 have hR:=jU_ hl hq hc
 have hqT:m5_ bR_ q:=⟨Nat.le_trans hq.1 (by decide),Nat.le_trans hq.2 (by decide)⟩
 refine as_ ?_
 simp only [bJ_,ab_ (ex_ hL),ab_ (gN_ hs hqT),ao_,af_]
 unfold i3_
 have e0:FSQ s q=(eG_ s&&hP_ s.schema q):=rfl
 cases h1:eG_ s
 · rw [e0,h1];exact ⟨fun _=>rfl,fun h=>(by cases h)⟩
 refine ⟨fun h=>(by cases h),fun _ => ?_⟩
 cases h2:hP_ s.schema q
 · rw [e0,h1,h2];exact ⟨fun _=>rfl,fun h=>(by cases h)⟩
 refine ⟨fun h=>(by cases h),fun _ => ?_⟩
 have hS:=sq_of (s:=s) (q:=q) (by rw [e0,h1,h2];rfl) hs hL.2.1 hL.2.2
 have hqR:m5_ eu_ q:=⟨Nat.le_trans hq.1 (by decide),Nat.le_trans hq.2 (by decide)⟩
 rw [e0,h1,h2]
 simp only [ph_ hqR,ab_ hR,bl_,Bool.and_self,cond_true]
 refine ⟨hS.kid,?_⟩
 have hT:f8_ c (s.tables.getD q.kidTable.toNat []):=eY_ hl.2.2 _
 have hcol:=hS.col
 unfold jE_
 generalize s.tables.getD q.kidTable.toNat []=rows at hT hcol ⊢
 have key:∀ (m i:Nat) (k:List TKid),i+m=rows.length→k.length≤i→Ev (fun n N=>bJ_.loop8 n (fun xy6 xy7 xy8 xy9 xy10 xy11 xy12 xy13 xy14 xy15 xy16 xy17 xy18 xy19 xy20 xy21 xy22 xy23=>(some ((aD_.mk (an_.mk xy13 xy20 xy14 xy15 xy16 xy21 xy17 xy18 xy19) xy22 xy23),true))) N rows (i:Int) q.table q.where_ q.order q.down q.first q.show_ q.kids q.kidTable q.kidCol 0 0 false 0 false 0 0 q.table q.order q.down q.first q.kids q.kidTable q.kidCol q.where_ q.show_ (gv_ s q) k) (aD_.mk q (gv_ s q) (cond q.kids (h2_ q k (rows.drop i)) k),true):=by
  intro m
  induction m with
  |zero=>
   intro i k hi ho
   have e:i=rows.length:=by omega
   subst e
   refine cr_ ?_
   simp only [bJ_.turn8,bJ_.step8,b7_,cond_false,af_,List.drop_length,h2_,List.foldl_nil]
   have e:(cond q.kids k k)=k:=by cases q.kids<;>rfl
   rw [e]
  |succ m ih=>
   intro i k hi ho
   have hlt:i<rows.length:=by omega
   have h1:=hT.1
   have hP:=eS_ (kids:=k) (id:=(rows.getD i TRow.dflt).cells.getD q.kidCol.toNat 0) (by_:=1) (by simp only [eu_];omega)
   have hW:=W_up hlt (show rows.length≤bR_ by simp only [bR_];omega)
   have hn:=nM_ (kids:=k) (id:=(rows.getD i TRow.dflt).cells.getD q.kidCol.toNat 0) (by_:=1)
   have e1:h2_ q k (rows.drop i)=h2_ q (FKid k ((rows.getD i TRow.dflt).cells.getD q.kidCol.toNat 0) 1) (rows.drop (i+1)):=by rw [f6_ TRow.dflt hlt];rfl
   refine cr_ ?_
   simp only [bJ_.turn8,bJ_.step8,f1_,ct_ hlt,cond_true,bl_,b9_ hlt,true_and,Int.toNat_natCast,hW,ab_ hP,ao_,af_]
   cases hk:q.kids
   · exact ⟨fun h=>(by cases h),fun _=>rfl⟩
   · refine ⟨fun _=>⟨hcol hk _ (bH_ TRow.dflt hlt),?_⟩,fun h=>(by cases h)⟩
     have:=ih (i+1) (FKid k ((rows.getD i TRow.dflt).cells.getD q.kidCol.toNat 0) 1) (by omega) (by omega)
     rw [hk] at this
     simp only [cond_true,e1] at this ⊢
     exact this
 exact en_ (key rows.length 0 [] (by omega) (Nat.le_refl _))
end
end Go.Pi
end
section
namespace Go.Pi
theorem bN_ (j:aa_):aa_.re j=j:=by cases j;rfl
def jt_ (s:Bs):Bool:=g6_ (fun i=>inn ((s.getD i 0).toNat:Int) 32 126) s.length&&decide ((s.length:Int)≤60)
theorem byte_W (b:UInt8):W ((b.toNat:Int))=(b.toNat:Int):=W_id (by omega) (by have:=b.toNat_lt;omega)
theorem fP_ {s:Bs} (hs:s.length≤bR_):Ev (fun n _=>bM_ n s) (jt_ s):=by
 refine as_ ?_
 simp only [bM_]
 refine d5_ (fun n N i=>bM_.loop3 n (fun xy1=>(some (decide ((xy1.length:Int)≤60)))) N s (i:Int)) _ (fun i w hi ih => ?_) ?_
 · simp only [bM_.turn3,bM_.step3,Int.toNat_natCast,ao_,bl_,af_,W_up hi hs,c0_ ih,ct_ hi,b9_ hi]
   clear ih
   simp only [inn]
   by_cases h1:(((s.getD i 0).toNat:Nat):Int)<32<;>by_cases h2:(((s.getD i 0).toNat:Nat):Int) > 126<;>simp [h1,h2]<;>(intros;omega)
 · simp only [bM_.turn3,bM_.step3,b7_,cond_false,af_]
theorem fV_ {s:Bs} (hs:s.length≤bR_):Ev (fun n _=>ax_ n s) (jt_ s):=by
 refine as_ ?_
 simp only [ax_]
 refine d5_ (fun n N i=>ax_.loop3 n (fun xy1=>(some (decide ((xy1.length:Int)≤60)))) N s (s.length:Int) (i:Int)) _ (fun i w hi ih => ?_) ?_
 · simp only [ax_.turn3,ax_.step3,Int.toNat_natCast,ao_,bl_,h8_,byte_W,af_,W_up hi hs,c0_ ih,ct_ hi,b9_ hi]
   clear ih
   grind
 · simp only [ax_.turn3,ax_.step3,b7_,cond_false,af_]
def lenNs (c:Nat) (l:List Bs):Prop:=l.length≤c∧∀ x ∈ l,x.length≤c
theorem iC_ {c:Nat} {l:List Bs} (h:lenNs c l) (i:Nat):(l.getD i []).length≤c:=by
 by_cases hi:i<l.length
 · exact h.2 _ (bH_ [] hi)
 · rw [List.getD_eq_getElem?_getD,List.getElem?_eq_none (by omega)];exact Nat.zero_le _
def jk_ (l:List Bs):Bool:=g6_ (fun i=>jt_ (l.getD i [])&&(decide (i=0)||Op.bytesLess (l.getD (i - 1) []) (l.getD i []))) l.length
theorem kn_ {l:List Bs} (h:lenNs bR_ l):Ev (fun n _=>au_ n l) (jk_ l):=by
 refine as_ ?_
 simp only [au_]
 refine eA_ (d5_ (fun n N i=>au_.loop3 n (some true) N l l (l.length:Int) (i:Int)) (fun i=>jt_ (l.getD i [])&&(decide (i=0)||Op.bytesLess (l.getD (i - 1) []) (l.getD i []))) (len:=l.length) (v:=true) (fun i w hi ih => ?_) ?_) (by rw [Bool.and_true];rfl)
 · simp only [au_.turn3,au_.step3,Int.toNat_natCast,W_up hi h.1,W_dn (i:=i) (by have:=h.1;omega),jv_,ao_,bl_,ab_ (fV_ (iC_ h i)),af_,c0_ ih,ct_ hi,b9_ hi]
   clear ih
   repeat' (first|apply And.intro|intro _)
   all_goals (try rw [Bool.eq_iff_iff])
   all_goals (try simp only [Bool.not_eq_true',Bool.not_eq_false',decide_eq_true_eq,decide_eq_false_iff_not,Bool.and_eq_true,Bool.or_eq_true,Bool.and_eq_false_iff,Bool.or_eq_false_iff] at *)
   all_goals grind
 · simp only [au_.turn3,au_.step3,b7_,cond_false,af_]
def oO_ (j:aa_):Bool:=cond (j.kind != 5) ((j.names.length:Int) == 0) (jk_ j.names&&((j.names.length:Int) == (j.list.length:Int)))
theorem jQ_ {j:aa_} (h:lenNs bR_ j.names):Ev (fun n _=>ac_ n j) (oO_ j):=by
 refine as_ ?_
 have hl:Ev (fun n _=>ac_.loop6 n (fun xy2 xy3 xy4 xy5 xy6=>(some ((xy6.length:Int) == (xy5.length:Int)))) n 0 j.kind j.n_ j.s j.list j.names) (jk_ j.names&&((j.names.length:Int) == (j.list.length:Int))):=by
  refine d5_ (fun n N i=>ac_.loop6 n (fun xy2 xy3 xy4 xy5 xy6=>(some ((xy6.length:Int) == (xy5.length:Int)))) N (i:Int) j.kind j.n_ j.s j.list j.names) _ (fun i w hi ih => ?_) ?_
  · simp only [ac_.turn6,ac_.step6,Int.toNat_natCast,W_up hi h.1,W_dn (i:=i) (by have:=h.1;omega),jv_,ao_,bl_,ab_ (fP_ (iC_ h i)),af_,c0_ ih,ct_ hi,b9_ hi]
    clear ih
    repeat' (first|apply And.intro|intro _)
    all_goals (try rw [Bool.eq_iff_iff])
    all_goals (try simp only [Bool.not_eq_true',Bool.not_eq_false',decide_eq_true_eq,decide_eq_false_iff_not,Bool.and_eq_true,Bool.or_eq_true,Bool.and_eq_false_iff,Bool.or_eq_false_iff] at *)
    all_goals grind
  · simp only [ac_.turn6,ac_.step6,b7_,cond_false,af_]
 simp only [ac_,ao_,af_,c0_ hl,oO_]
 cases (j.kind != 5)<;>simp
end Go.Pi
end
section
namespace Go.Pi
theorem ki_ (k:Int):k=0∨k=1∨k=2∨k=3∨k=4∨k=5∨(k≠0∧k≠1∧k≠2∧k≠3∧k≠4∧k≠5):=by omega
theorem ma_ {α:Type} (l:List α):decide (l.length=0) = !decide ((l.length:Int) > 0):=by
 by_cases hz:l.length=0
 · rw [hz];rfl
 · rw [decide_eq_false hz,decide_eq_true (show (l.length:Int) > 0 by omega)];rfl
def FOwnK (j:aa_):Bool :=
 cond (j.kind == 1) (inn j.n_ 0 1) (cond (j.kind == 2) (inn j.n_ (-1000000000) 1000000000) (cond (j.kind == 3) (jt_ j.s) (cond (j.kind == 5) (((j.names.length:Int) == (j.list.length:Int))&&jk_ j.names) ((j.kind == 0)||(j.kind == 4)))))
def FOwn (j:aa_):Bool :=
 (decide (j.list.length=0)||((j.kind == 4)||(j.kind == 5)))&&((decide (j.names.length=0)||(j.kind == 5))&&(((j.n_ == 0)||((j.kind == 1)||(j.kind == 2)))&&(((j.s == [])||(j.kind == 3))&&FOwnK j)))
def lenJ1 (j:aa_):Prop:=j.s.length≤bR_∧lenNs bR_ j.names
theorem mi_ {j:aa_} (h:lenJ1 j):Ev (fun n _=>ea_ n j) (FOwn j):=by
 refine as_ ?_
 simp only [ea_,ao_,h8_,isNum_b,ab_ (fV_ h.1),ab_ (kn_ h.2),af_]
 unfold FOwn FOwnK
 have e1:=ma_ j.list
 have e2:=ma_ j.names
 rw [e1,e2]
 generalize decide ((j.list.length:Int) > 0)=a
 generalize decide ((j.names.length:Int) > 0)=b
 generalize (j.s == [])=c
 have e3:(j.n_ != 0) = !(j.n_ == 0):=rfl
 rw [e3]
 generalize hd:(j.n_ == 0)=d
 generalize jt_ j.s=ft
 generalize jk_ j.names=fn
 generalize ((j.names.length:Int) == (j.list.length:Int))=eq
 rcases ki_ j.kind with hk|hk|hk|hk|hk|hk|⟨k0,k1,k2,k3,k4,k5⟩
 all_goals (first|simp only [hk]|simp only [beq_eq_false_iff_ne.2 k0,beq_eq_false_iff_ne.2 k1,beq_eq_false_iff_ne.2 k2,beq_eq_false_iff_ne.2 k3,beq_eq_false_iff_ne.2 k4,beq_eq_false_iff_ne.2 k5,bne])
 all_goals (cases a<;>cases b<;>cases c<;>cases d<;>simp)
 all_goals (cases eq<;>simp)
def cs_:Nat→aa_→Nat
 |0,_=>401
 |d+1,j=>cond (FOwn j) (min 401 (1+hy_ (cs_ d) j.list)) 401
theorem pJ_:∀ (d:Nat) (j:aa_),cs_ d j≤401
 |0,_=>Nat.le_refl _
 |d+1,j=>by
  simp only [cs_]
  cases FOwn j<;>simp only [cond_true,cond_false]<;>omega
def gh_:Nat→aa_→Prop
 |0,_=>True
 |d+1,j=>lenJ1 j∧j.list.length≤bR_∧∀ x ∈ j.list,gh_ d x
theorem getD_json {d:Nat} {l:List aa_} (h:∀ x ∈ l,gh_ d x) {i:Nat} (hi:i<l.length):gh_ d (l.getD i aa_.dflt):=h _ (bH_ _ hi)
theorem hJ_:∀ (d:Nat) (j:aa_),d≤1000→gh_ d j→Ev (fun n _=>bp_ n j (d:Int)) (cs_ d j:Int)
 |0,j,_,_=>by
  refine as_ ?_
  simp only [bp_,ao_,af_]
  exact ⟨fun _=>rfl,fun h=>by simp at h⟩
 |d+1,j,hd,h=>by
  refine as_ ?_
  have hW:W (((d+1:Nat):Int) - 1)=(d:Int):=by rw [W_id (by omega) (by omega)];omega
  simp only [bp_,bN_,ao_,ab_ (mi_ h.1),af_,cs_]
  refine ⟨fun hc=>by have:=of_decide_eq_true hc;omega,fun _ => ?_⟩
  cases ho:FOwn j with
  |false=>exact ⟨fun _=>rfl,fun h=>by cases h⟩
  |true=>
   refine ⟨fun h=>(by cases h),fun _ => ?_⟩
   have ht:=h.2.1
   have key:∀ (k i:Nat) (s:Nat),k+i=j.list.length→s≤400→Ev (fun n N=>bp_.loop7 n (bp_ n) (fun xy3=>some xy3) N ((d+1:Nat):Int) (s:Int) j.list (j.list.length:Int) (i:Int)) ((min 401 (s+hy_ (cs_ d) (j.list.drop i)):Nat):Int):=by
    intro k
    induction k with
    |zero=>
     intro i s hi hs
     have:i=j.list.length:=by omega
     subst this
     refine cr_ ?_
     simp only [bp_.turn7,bp_.step7,b7_,cond_false,af_,List.drop_length,hy_]
     omega
    |succ k ih=>
     intro i s hi hs
     have hlt:i<j.list.length:=by omega
     refine cr_ ?_
     have hc:=hJ_ d (j.list.getD i aa_.dflt) (by omega) (getD_json h.2.2 hlt)
     have hle:=pJ_ d (j.list.getD i aa_.dflt)
     have hw:W ((s:Int)+(cs_ d (j.list.getD i aa_.dflt):Int))=((s+cs_ d (j.list.getD i aa_.dflt):Nat):Int):=by rw [W_id (by omega) (by omega)];omega
     simp only [bp_.turn7,bp_.step7,bN_,Int.toNat_natCast,hW,W_up hlt ht,ao_,bl_,ct_ hlt,b9_ hlt,ab_ hc,hw,af_]
     rw [mH_ (cs_ d) aa_.dflt hlt]
     refine ⟨fun _=>⟨trivial,fun hg => ?_,fun hg => ?_⟩,fun h=>(by cases h)⟩
     · have:=of_decide_eq_true hg;omega
     · have:=of_decide_eq_false hg
       rw [show s+(cs_ d (j.list.getD i aa_.dflt)+hy_ (cs_ d) (j.list.drop (i+1)))=(s+cs_ d (j.list.getD i aa_.dflt))+hy_ (cs_ d) (j.list.drop (i+1)) by omega]
       exact ih (i+1) _ (by omega) (by omega)
   have:=key j.list.length 0 1 (by omega) (by omega)
   rw [List.drop_zero] at this
   exact en_ (f:=fun n N=>bp_.loop7 n (bp_ n) (fun xy3=>some xy3) N ((d+1:Nat):Int) 1 j.list (j.list.length:Int) 0) this
def cB_ (j:aa_):Bool:=decide (cs_ 6 j≤400)
theorem eV_ {j:aa_} (h:gh_ 6 j):Ev (fun n _=>cZ_ n j) (cB_ j):=by
 refine as_ ?_
 have e:Ev (fun n _=>bp_ n j 6) (cs_ 6 j:Int):=hJ_ 6 j (by omega) h
 simp only [cZ_,bN_,ab_ e,af_,cB_]
 by_cases hq:cs_ 6 j≤400
 · rw [decide_eq_true hq,decide_eq_true (by omega)]
 · rw [decide_eq_false hq,decide_eq_false (by omega)]
end Go.Pi
end
section
namespace Go.Pi
def Great (d:Nat) (j:aa_):Prop:=∃ v:Nat,v≤401+401*d∧min 401 v=cs_ d j∧Ev (fun n _=>aM_ n j (d:Int)) (v:Int)
theorem p8_ {d:Nat} {l:List aa_} (hd:d≤1000) (ht:l.length≤bR_) (ih:∀ x ∈ l,Great d x) (kd nn:Int) (s:Bs) (ns:List Bs) :
  ∃ w:Nat,w≤401+401*(d+1)∧min 401 w=min 401 (1+hy_ (cs_ d) l)∧∀ (K:Nat→aM_.K23_1) (F:Int),Ev (fun n N=>K n 401 (w:Int) kd nn s l ns) F→Ev (fun n _=>aM_.loop23 n (aM_ n) (K n) n ((d+1:Nat):Int) 401 1 0 kd nn s l ns) F:=by
 have hW:W (((d+1:Nat):Int) - 1)=(d:Int):=by rw [W_id (by omega) (by omega)];omega
 have key:∀ (k i:Nat) (m:Nat),k+i=l.length→m≤401+401*(d+1)→∃ w:Nat,w≤401+401*(d+1)∧min 401 w=min 401 (m+hy_ (cs_ d) (l.drop i))∧∀ (K:Nat→aM_.K23_1) (F:Int),Ev (fun n N=>K n 401 (w:Int) kd nn s l ns) F →
   Ev (fun n N=>aM_.loop23 n (aM_ n) (K n) N ((d+1:Nat):Int) 401 (m:Int) (i:Int) kd nn s l ns) F:=by
  intro k
  induction k with
  |zero=>
   intro i m hi hm
   have:i=l.length:=by omega
   subst this
   refine ⟨m,hm,by simp [hy_],fun K F hF=>cr_ ?_⟩
   simp only [aM_.turn23,aM_.step23,b7_,cond_false]
   exact hF
  |succ k ihk=>
   intro i m hi hm
   have hlt:i<l.length:=by omega
   by_cases hg:m≤400
   · obtain ⟨v,hv1,hv2,hv3⟩:=ih _ (bH_ aa_.dflt hlt)
     have hw:W ((m:Int)+(v:Int))=((m+v:Nat):Int):=by rw [W_id (by omega) (by omega)];omega
     obtain ⟨w,a1,a2,a3⟩:=ihk (i+1) (m+v) (by omega) (by omega)
     refine ⟨w,a1,?_,fun K F hF=>cr_ ?_⟩
     · rw [a2,mH_ (cs_ d) aa_.dflt hlt,←hv2];omega
     · simp only [aM_.turn23,aM_.step23,bN_,Int.toNat_natCast,hW,W_up hlt ht,ao_,bl_,ct_ hlt,b9_ hlt,ab_ hv3,hw]
       exact ⟨fun _=>⟨fun _=>⟨trivial,a3 K F hF⟩,fun h=>by have:=of_decide_eq_false h;omega⟩,fun h=>(by cases h)⟩
   · refine ⟨m,hm,by omega,fun K F hF=>cr_ ?_⟩
     simp only [aM_.turn23,aM_.step23,Int.toNat_natCast,ao_,ct_ hlt]
     exact ⟨fun _=>⟨fun h=>by have:=of_decide_eq_true h;omega,fun _=>hF⟩,fun h=>(by cases h)⟩
 obtain ⟨w,a1,a2,a3⟩:=key l.length 0 1 (by omega) (by omega)
 rw [List.drop_zero] at a2
 exact ⟨w,a1,a2,fun K F hF=>en_ (f:=fun n N=>aM_.loop23 n (aM_ n) (K n) N ((d+1:Nat):Int) 401 1 0 kd nn s l ns) (a3 K F hF)⟩
theorem eU_ (j:aa_):aa_.mk j.kind j.n_ j.s j.list j.names=j:=by cases j;rfl
theorem gL_:∀ (d:Nat) (j:aa_),d≤1000→gh_ d j→Great d j
 |0,j,_,_=>by
  refine ⟨401,by omega,rfl,as_ ?_⟩
  simp only [aM_,ao_,af_]
  exact ⟨fun _=>rfl,fun h=>by simp at h⟩
 |d+1,j,hd,h=>by
  obtain ⟨w,w1,w2,w3⟩:=p8_ (d:=d) (l:=j.list) (by omega) h.2.1 (fun x hx=>gL_ d x (by omega) (h.2.2 x hx)) j.kind j.n_ j.s j.names
  have hz:((((d+1:Nat):Int)) == 0)=false:=by simp;omega
  have hN:=jQ_ (j:=j) h.1.2
  obtain ⟨v,hv⟩:∃ v:Nat,v=cond (FOwn j) (cond ((j.kind == 4)||(j.kind == 5)) w 1) 401:=⟨_,rfl⟩
  refine ⟨v,?_,?_,as_ ?_⟩
  · rw [hv];cases FOwn j<;>cases ((j.kind == 4)||(j.kind == 5))<;>simp only [cond_true,cond_false]<;>omega
  · rw [hv]
    simp only [cs_]
    cases ho:FOwn j with
    |false=>rfl
    |true=>
     cases hk:((j.kind == 4)||(j.kind == 5)) with
     |true=>simp only [cond_true];exact w2
     |false=>
      have:j.list=[]:=by
       unfold FOwn at ho
       rw [hk,Bool.or_false] at ho
       simp only [Bool.and_eq_true,decide_eq_true_eq] at ho
       exact List.eq_nil_of_length_eq_zero ho.1
      rw [this];rfl
  · have hT:=fP_ (s:=j.s) h.1.1
    have e1:=ma_ j.list
    have e2:=ma_ j.names
    have e4:((j.names.length:Int) == 0) = !decide ((j.names.length:Int) > 0):=by
     by_cases hz:j.names.length=0
     · rw [hz];rfl
     · rw [beq_eq_false_iff_ne.2 (show (j.names.length:Int)≠0 by omega),decide_eq_true (show (j.names.length:Int) > 0 by omega)];rfl
    subst hv
    unfold FOwn FOwnK
    unfold oO_ at hN
    rw [e1,e2]
    rw [e4] at hN
    simp only [aM_,bN_,hz,cond_false,ao_,e9_,ab_ hT,ab_ hN,af_,bne]
    rcases ki_ j.kind with hk|hk|hk|hk|hk|hk|⟨k0,k1,k2,k3,k4,k5⟩
    case inr.inr.inr.inr.inl=>
     have hj:aa_.mk 4 j.n_ j.s j.list j.names=j:=by rw [←hk];exact eU_ j
     rw [hk] at w3
     simp only [hk,Int.reduceBEq,Int.reduceLT,Int.reduceLE,Int.reduceNeg,ge_iff_le,gt_iff_lt,decide_true,decide_false,Bool.not_false,Bool.not_true,Bool.or_true,Bool.true_or,Bool.or_false,Bool.false_or,Bool.and_true,Bool.true_and,Bool.not_not,forall_const,reduceCtorEq,false_implies,true_and,and_true,implies_true,cond_true,cond_false] at hN ⊢
     refine w3 _ _ ?_
     simp only [hj,ao_,ab_ hN,af_,Int.reduceBEq,Int.reduceLT,Int.reduceLE,Int.reduceNeg,ge_iff_le,gt_iff_lt,decide_true,decide_false,Bool.not_false,Bool.not_true,Bool.or_true,Bool.true_or,Bool.or_false,Bool.false_or,Bool.and_true,Bool.true_and,Bool.not_not,forall_const,reduceCtorEq,false_implies,true_and,and_true,implies_true,cond_true,cond_false]
     clear hN w3 hT e1 e2 e4 hj
     generalize decide (0<(j.names.length:Int))=b
     generalize (j.s == [])=c
     generalize hd:(j.n_ == 0)=dd
     cases b<;>cases c<;>cases dd<;>simp
    case inr.inr.inr.inr.inr.inl=>
     have hj:aa_.mk 5 j.n_ j.s j.list j.names=j:=by rw [←hk];exact eU_ j
     rw [hk] at w3
     simp only [hk,Int.reduceBEq,Int.reduceLT,Int.reduceLE,Int.reduceNeg,ge_iff_le,gt_iff_lt,decide_true,decide_false,Bool.not_false,Bool.not_true,Bool.or_true,Bool.true_or,Bool.or_false,Bool.false_or,Bool.and_true,Bool.true_and,Bool.not_not,forall_const,reduceCtorEq,false_implies,true_and,and_true,implies_true,cond_true,cond_false] at hN ⊢
     refine w3 _ _ ?_
     simp only [hj,ao_,ab_ hN,af_,Int.reduceBEq,Int.reduceLT,Int.reduceLE,Int.reduceNeg,ge_iff_le,gt_iff_lt,decide_true,decide_false,Bool.not_false,Bool.not_true,Bool.or_true,Bool.true_or,Bool.or_false,Bool.false_or,Bool.and_true,Bool.true_and,Bool.not_not,forall_const,reduceCtorEq,false_implies,true_and,and_true,implies_true,cond_true,cond_false]
     clear hN w3 hT e1 e2 e4 hj
     generalize jk_ j.names=fn
     generalize ((j.names.length:Int) == (j.list.length:Int))=eq
     generalize (j.s == [])=c
     generalize hd:(j.n_ == 0)=dd
     cases fn<;>cases eq<;>cases c<;>cases dd<;>simp
    case inr.inr.inr.inr.inr.inr=>
     simp only [beq_eq_false_iff_ne.2 k0,beq_eq_false_iff_ne.2 k1,beq_eq_false_iff_ne.2 k2,beq_eq_false_iff_ne.2 k3,beq_eq_false_iff_ne.2 k4,beq_eq_false_iff_ne.2 k5,Int.reduceBEq,Int.reduceLT,Int.reduceLE,Int.reduceNeg,ge_iff_le,gt_iff_lt,decide_true,decide_false,Bool.not_false,Bool.not_true,Bool.or_true,Bool.true_or,Bool.or_false,Bool.false_or,Bool.and_true,Bool.true_and,Bool.not_not,forall_const,reduceCtorEq,false_implies,true_and,and_true,implies_true,cond_true,cond_false,Bool.and_false,Bool.false_and]
     rfl
    all_goals (
     simp only [hk,Int.reduceBEq,Int.reduceLT,Int.reduceLE,Int.reduceNeg,ge_iff_le,gt_iff_lt,decide_true,decide_false,Bool.not_false,Bool.not_true,Bool.or_true,Bool.true_or,Bool.or_false,Bool.false_or,Bool.and_true,Bool.true_and,Bool.not_not,forall_const,reduceCtorEq,false_implies,true_and,and_true,implies_true,cond_true,cond_false]
     clear hN w3 hT e1 e2 e4
     generalize decide (0<(j.names.length:Int))=b
     generalize decide (0<(j.list.length:Int))=a
     generalize (j.s == [])=c
     generalize hd:(j.n_ == 0)=dd
     generalize inn j.n_ 0 1=i1
     generalize inn j.n_ (-1000000000) 1000000000=i2
     generalize jt_ j.s=ft
     cases a<;>cases b<;>cases c<;>cases dd<;>cases i1<;>cases i2<;>cases ft<;>simp)
theorem dW_ {j:aa_} (h:gh_ 6 j):Ev (fun n _=>cM_ n j) (cB_ j):=by
 refine as_ ?_
 obtain ⟨v,v1,v2,v3⟩:=gL_ 6 j (by omega) h
 have e:Ev (fun n _=>aM_ n j 6) (v:Int):=v3
 simp only [cM_,bN_,ab_ e,af_,cB_]
 by_cases hq:cs_ 6 j≤400
 · rw [decide_eq_true hq,decide_eq_true (by omega)]
 · rw [decide_eq_false hq,decide_eq_false (by omega)]
end Go.Pi
end
section
namespace Go.Pi
def deepJ:Nat→aa_→Prop
 |0,_=>False
 |d+1,j=>∀ x ∈ j.list,deepJ d x
theorem hu_:∀ (d:Nat) (j:aa_),cs_ d j≤400→deepJ d j
 |0,j,h=>by simp only [cs_] at h;omega
 |d+1,j,h=>fun x hx=>by
  refine hu_ d x ?_
  simp only [cs_] at h
  have:=lP_ (cs_ d) hx
  cases ho:FOwn j with
  |false=>rw [ho] at h;simp only [cond_false] at h;omega
  |true=>rw [ho] at h;simp only [cond_true] at h;omega
def ha_ (a b:List Bs):Bool:=decide (a.length=b.length)&&g6_ (fun i=>a.getD i [] == b.getD i []) a.length
def ee_:Nat→aa_→aa_→Bool
 |0,_,_=>true
 |d+1,a,b=>(a.kind == b.kind)&&((a.n_ == b.n_)&&((a.s == b.s)&&(ha_ a.names b.names&&(decide (a.list.length=b.list.length)&&g6_ (fun i=>ee_ d (a.list.getD i aa_.dflt) (b.list.getD i aa_.dflt)) a.list.length))))
theorem lj_ {n m:Nat}:((n:Int) != (m:Int)) = !decide (n=m):=by
 by_cases h:n=m
 · rw [h,decide_eq_true rfl];simp
 · rw [decide_eq_false h];simp;omega
theorem fQ_:∀ (d:Nat) (a b:aa_),deepJ d a→gh_ d a→Ev (fun n _=>av_ n a b) (ee_ d a b)
 |0,a,b,h,_=>h.elim
 |d+1,a,b,h,hl=>by
  refine as_ ?_
  simp only [av_,lj_,ao_,af_,ee_,ha_]
  by_cases hq:a.list.length=b.list.length
  · by_cases hq2:a.names.length=b.names.length
    · have hN:Ev (fun n _=>av_.loop14 n (av_ n) (some true) n 0 a.kind a.n_ a.s a.list a.names b.kind b.n_ b.s b.list b.names) (g6_ (fun i=>a.names.getD i [] == b.names.getD i []) a.names.length):=by
       refine eA_ (d5_ (fun n N i=>av_.loop14 n (av_ n) (some true) N (i:Int) a.kind a.n_ a.s a.list a.names b.kind b.n_ b.s b.list b.names) (fun i=>a.names.getD i [] == b.names.getD i []) (len:=a.names.length) (v:=true) (fun i w hi ih => ?_) ?_) (by rw [Bool.and_true])
       · simp only [av_.turn14,av_.step14,Int.toNat_natCast,W_up hi hl.1.2.1,ao_,bl_,af_,c0_ ih,ct_ hi,b9_ hi,b9_ (hq2 ▸ hi)]
         cases (a.names.getD i [] == b.names.getD i [])<;>simp
       · simp only [av_.turn14,av_.step14,b7_,cond_false,af_]
      have hL:Ev (fun n _=>av_.loop6 n (av_ n) (fun xy2 xy3 xy4 xy5 xy6 xy7 xy8 xy9 xy10 xy11=>(av_.loop14 n (av_ n) (some true) n 0 xy2 xy3 xy4 xy5 xy6 xy7 xy8 xy9 xy10 xy11)) n 0 a.kind a.n_ a.s a.list a.names b.kind b.n_ b.s b.list b.names) (g6_ (fun i=>ee_ d (a.list.getD i aa_.dflt) (b.list.getD i aa_.dflt)) a.list.length&&g6_ (fun i=>a.names.getD i [] == b.names.getD i []) a.names.length):=by
       refine d5_ (fun n N i=>av_.loop6 n (av_ n) (fun xy2 xy3 xy4 xy5 xy6 xy7 xy8 xy9 xy10 xy11=>(av_.loop14 n (av_ n) (some true) n 0 xy2 xy3 xy4 xy5 xy6 xy7 xy8 xy9 xy10 xy11)) N (i:Int) a.kind a.n_ a.s a.list a.names b.kind b.n_ b.s b.list b.names) _ (fun i w hi ih => ?_) ?_
       · have hx:=fQ_ d (a.list.getD i aa_.dflt) (b.list.getD i aa_.dflt) (h _ (bH_ _ hi)) (hl.2.2 _ (bH_ _ hi))
         simp only [av_.turn6,av_.step6,bN_,Int.toNat_natCast,W_up hi hl.2.1,ao_,bl_,ab_ hx,af_,c0_ ih,ct_ hi,b9_ hi,b9_ (hq ▸ hi)]
         cases ee_ d (a.list.getD i aa_.dflt) (b.list.getD i aa_.dflt)<;>simp
       · simp only [av_.turn6,av_.step6,b7_,cond_false]
         exact hN
      rw [decide_eq_true hq,decide_eq_true hq2]
      simp only [c0_ hL,bne]
      generalize g6_ (fun i=>ee_ d (a.list.getD i aa_.dflt) (b.list.getD i aa_.dflt)) a.list.length=u
      generalize g6_ (fun i=>a.names.getD i [] == b.names.getD i []) a.names.length=w
      cases (a.kind == b.kind)<;>cases (a.n_ == b.n_)<;>cases (a.s == b.s)<;>cases u<;>cases w<;>simp
    · rw [decide_eq_false hq2]
      simp only [bne]
      cases (a.kind == b.kind)<;>cases (a.n_ == b.n_)<;>cases (a.s == b.s)<;>cases decide (a.list.length=b.list.length)<;>simp
  · rw [decide_eq_false hq]
    simp only [bne]
    cases (a.kind == b.kind)<;>cases (a.n_ == b.n_)<;>cases (a.s == b.s)<;>simp
end Go.Pi
end
section
namespace Go.Pi
theorem kO_ {a b:List Bs} (ha:a.length≤bR_):Ev (fun n _=>aF_ n a b) (ha_ a b):=by
 refine as_ ?_
 simp only [aF_,lj_,ao_,af_]
 unfold ha_
 by_cases hl:a.length=b.length
 · rw [decide_eq_true hl]
   refine ⟨fun h=>(by cases h),fun _ => ?_⟩
   refine eA_ (d5_ (fun n N i=>aF_.loop6 n (some true) N a b (a.length:Int) (i:Int)) (fun i=>a.getD i [] == b.getD i []) (len:=a.length) (v:=true) (fun i w hi ih => ?_) ?_) (by rw [Bool.and_true,Bool.true_and])
   · simp only [aF_.turn6,aF_.step6,Int.toNat_natCast,W_up hi ha,ao_,bl_,af_,c0_ ih,ct_ hi,b9_ hi,b9_ (hl ▸ hi)]
     cases (a.getD i [] == b.getD i [])<;>simp
   · simp only [aF_.turn6,aF_.step6,b7_,cond_false,af_]
 · rw [decide_eq_false hl]
   exact ⟨fun _=>rfl,fun h=>(by cases h)⟩
theorem iB_:∀ (d:Nat) (a b:aa_),deepJ d a→gh_ d a→Ev (fun n _=>ds_ n a b) (ee_ d a b)
 |0,a,b,h,_=>h.elim
 |d+1,a,b,h,hl=>by
  refine as_ ?_
  have hE:Ev (fun n _=>ag_ n a.list b.list) (decide (a.list.length=b.list.length)&&g6_ (fun i=>ee_ d (a.list.getD i aa_.dflt) (b.list.getD i aa_.dflt)) a.list.length):=by
   refine as_ ?_
   simp only [ag_,lj_,ao_,af_]
   by_cases hq:a.list.length=b.list.length
   · rw [decide_eq_true hq]
     refine ⟨fun h=>(by cases h),fun _ => ?_⟩
     refine eA_ (d5_ (fun n N i=>ag_.loop6 n (ds_ n) (some true) N b.list a.list (a.list.length:Int) (i:Int)) (fun i=>ee_ d (a.list.getD i aa_.dflt) (b.list.getD i aa_.dflt)) (len:=a.list.length) (v:=true) (fun i w hi ih => ?_) ?_) (by rw [Bool.and_true,Bool.true_and])
     · have hx:=iB_ d (a.list.getD i aa_.dflt) (b.list.getD i aa_.dflt) (h _ (bH_ _ hi)) (hl.2.2 _ (bH_ _ hi))
       simp only [ag_.turn6,ag_.step6,bN_,Int.toNat_natCast,W_up hi hl.2.1,ao_,bl_,ab_ hx,af_,c0_ ih,ct_ hi,b9_ hi,b9_ (hq ▸ hi)]
       cases ee_ d (a.list.getD i aa_.dflt) (b.list.getD i aa_.dflt)<;>simp
     · simp only [ag_.turn6,ag_.step6,b7_,cond_false,af_]
   · rw [decide_eq_false hq]
     exact ⟨fun _=>rfl,fun h=>(by cases h)⟩
  simp only [ds_,ao_,ab_ (kO_ (b:=b.names) hl.1.2.1),ab_ hE,af_,ee_]
  cases (a.kind == b.kind)<;>cases (a.n_ == b.n_)<;>cases (a.s == b.s)<;>cases ha_ a.names b.names<;>simp
end Go.Pi
end
section
namespace Go.Pi
def bi (l:Bs):List Int:=l.map fun c=>((c.toNat:Nat):Int)
theorem toBs_bi (l:Bs):pL_ (bi l)=l:=by
 unfold pL_ bi
 rw [List.map_map]
 refine (List.map_congr_left fun c _ => ?_).trans (List.map_id l)
 simp
theorem nF_ (l:Bs):(bi l).length=l.length:=List.length_map _
theorem bi_app (a b:Bs):bi (a++b)=bi a++bi b:=List.map_append
theorem pz_ (c:UInt8) (k:Nat) (d:UInt8) (hd:d.toNat=k):(((c.toNat:Nat):Int) == (k:Int))=decide (c=d):=by
 by_cases h:c=d
 · subst h;rw [hd];simp
 · rw [decide_eq_false h,beq_eq_false_iff_ne]
   intro e
   exact h (UInt8.toNat_inj.1 (by omega))
theorem byte34 (c:UInt8):(((c.toNat:Nat):Int) == 34)=decide (c=34):=pz_ c 34 34 rfl
theorem byte92 (c:UInt8):(((c.toNat:Nat):Int) == 92)=decide (c=92):=pz_ c 92 92 rfl
theorem byte126 (c:UInt8):(((c.toNat:Nat):Int) == 126)=decide (c=126):=pz_ c 126 126 rfl
theorem byte47 (c:UInt8):(((c.toNat:Nat):Int) == 47)=decide (c=47):=pz_ c 47 47 rfl
theorem fg_ (f:UInt8→Bs) (h:∀ c,(f c).length≤2):∀ s:Bs,(s.flatMap f).length≤2*s.length
 |[]=>Nat.le_refl _
 |c::s=>by
  have:=fg_ f h s
  have:=h c
  simp only [List.flatMap_cons,List.length_append,List.length_cons];omega
theorem ns_ (f:UInt8→Bs) {s:Bs} {i:Nat} (h:i<s.length):(s.take (i+1)).flatMap f=(s.take i).flatMap f++f (s.getD i 0):=by
 rw [cC_ 0 h,List.flatMap_append];simp
def mB_ (c:UInt8):Bs:=if c=34∨c=92 then [92,c] else [c]
theorem im_ (c:UInt8):(mB_ c).length≤2:=by unfold mB_;split<;>simp
def hc_ (s:Bs):Bs:=34::s.flatMap mB_++[34]
theorem f7_ (s:Bs):(hc_ s).length≤2*s.length+2:=by
 have:=fg_ mB_ im_ s
 simp only [hc_,List.cons_append,List.length_cons,List.length_append,List.length_nil];omega
theorem q2 (o:Bs) (c:UInt8):bi (34::(o++[92,c]))=(bi (34::o)++[92])++[((c.toNat:Nat):Int)]:=by simp [bi]
theorem q1 (o:Bs) (c:UInt8):bi (34::(o++[c]))=bi (34::o)++[((c.toNat:Nat):Int)]:=by simp [bi]
theorem qEnd (o:Bs):pL_ (bi (34::o)++[34])=34::o++[34]:=by
 have:bi (34::o)++[34]=bi (34::o++[34]):=by simp [bi]
 rw [this,toBs_bi]
theorem gK_ {s:Bs} (hs:s.length≤1000000):Ev (fun n _=>be_ n s) (hc_ s):=by
 refine as_ ?_
 have ht:s.length≤bR_:=by simp only [bR_];omega
 simp only [be_]
 have:=dT_ (fun i=>bi (34::(s.take i).flatMap mB_)) s.length (fun n N i (o:List Int)=>be_.loop4 n (fun xy1=>(bm_ (xy1.length+([34]:List Int).length) 1 (some (pL_ (xy1++([34]:List Int)))))) N s (i:Int) o) (hc_ s) (fun i hi F hF => ?_) ?_
 · exact this
 · have hl:=fg_ mB_ im_ (s.take i)
   rw [List.length_take] at hl
   rw [ns_ mB_ hi] at hF
   generalize (s.take i).flatMap mB_=o at hF hl ⊢
   have hb:=nF_ (34::o)
   simp only [List.length_cons] at hb
   simp only [be_.turn4,be_.step4,Int.toNat_natCast,W_up hi ht,ao_,bl_,bn_,ct_ hi,b9_ hi,byte34,byte92]
   generalize s.getD i 0=c at hF ⊢
   unfold mB_ at hF
   by_cases h1:c=34
   · rw [if_pos (.inl h1),q2] at hF
     simp only [h1,decide_true] at hF ⊢
     repeat' (first|apply And.intro|intro _)
     all_goals (first|contradiction|exact hF|trivial|(simp [hb];omega))
   · by_cases h2:c=92
     · rw [if_pos (.inr h2),q2] at hF
       simp only [h2,decide_true] at hF ⊢
       repeat' (first|apply And.intro|intro _)
       all_goals (first|contradiction|exact hF|trivial|(simp [hb];omega))
     · rw [if_neg (fun h=>h.elim h1 h2),q1] at hF
       simp only [h1,h2,decide_false] at hF ⊢
       repeat' (first|apply And.intro|intro _)
       all_goals (first|contradiction|exact hF|trivial|(simp [hb];omega))
 · have hl:=fg_ mB_ im_ s
   have hb:=nF_ (34::s.flatMap mB_)
   simp only [List.length_cons] at hb
   simp only [be_.turn4,be_.step4,b7_,cond_false,bn_,List.take_length,af_,qEnd]
   exact ⟨by simp only [hb,List.length_cons,List.length_nil];omega,rfl⟩
theorem hK_ {s:Bs} (hs:s.length≤1000000):Ev (fun n _=>bD_ n s) (hc_ s):=by
 refine as_ ?_
 have ht:s.length≤bR_:=by simp only [bR_];omega
 simp only [bD_]
 have:=dT_ (fun i=>bi (34::(s.take i).flatMap mB_)) s.length (fun n N i (o:List Int)=>bD_.loop4 n (fun xy1=>(bm_ (xy1.length+([34]:List Int).length) 1 (some (pL_ (xy1++([34]:List Int)))))) N s (s.length:Int) (i:Int) o) (hc_ s) (fun i hi F hF => ?_) ?_
 · exact this
 · have hl:=fg_ mB_ im_ (s.take i)
   rw [List.length_take] at hl
   rw [ns_ mB_ hi] at hF
   generalize (s.take i).flatMap mB_=o at hF hl ⊢
   have hb:=nF_ (34::o)
   simp only [List.length_cons] at hb
   simp only [bD_.turn4,bD_.step4,Int.toNat_natCast,W_up hi ht,ao_,bl_,bn_,ct_ hi,b9_ hi,byte34,byte92]
   generalize s.getD i 0=c at hF ⊢
   unfold mB_ at hF
   by_cases h1:c=34
   · rw [if_pos (.inl h1),q2] at hF
     simp only [h1,decide_true] at hF ⊢
     repeat' (first|apply And.intro|intro _)
     all_goals (first|contradiction|exact hF|trivial|(simp [hb];omega))
   · by_cases h2:c=92
     · rw [if_pos (.inr h2),q2] at hF
       simp only [h2,decide_true] at hF ⊢
       repeat' (first|apply And.intro|intro _)
       all_goals (first|contradiction|exact hF|trivial|(simp [hb];omega))
     · rw [if_neg (fun h=>h.elim h1 h2),q1] at hF
       simp only [h1,h2,decide_false] at hF ⊢
       repeat' (first|apply And.intro|intro _)
       all_goals (first|contradiction|exact hF|trivial|(simp [hb];omega))
 · have hl:=fg_ mB_ im_ s
   have hb:=nF_ (34::s.flatMap mB_)
   simp only [List.length_cons] at hb
   simp only [bD_.turn4,bD_.step4,b7_,cond_false,bn_,List.take_length,af_,qEnd]
   exact ⟨by simp only [hb,List.length_cons,List.length_nil];omega,rfl⟩
end Go.Pi
end
section
namespace Go.Pi
theorem ho_ (a b:UInt8) (l:Bs):Lib.index (b::l) [a]=if a=b then 0 else if Lib.index l [a] = -1 then -1 else Lib.index l [a]+1:=by
 rw [Lib.index]
 have:List.isPrefixOf [a] (b::l)=decide (a=b):=by
  simp only [List.isPrefixOf,Bool.and_true]
  exact Bool.eq_iff_iff.2 (by simp)
 rw [this]
 by_cases h:a=b
 · rw [decide_eq_true h,if_pos rfl,if_pos h]
 · rw [decide_eq_false h,if_neg (by simp),if_neg h]
   by_cases h2:Lib.index l [a] = -1
   · rw [h2,if_pos rfl,if_pos (by decide)]
   · rw [if_neg h2,if_neg (by simpa using h2)]
theorem n3_ {a b:UInt8} (h:a≠b) (new l:Bs):∀ k,Lib.replaceK [a] new k (b::l)=b::Lib.replaceK [a] new k l
 |0=>rfl
 |k+1=>by
  rw [Lib.replaceK,Lib.replaceK,ho_,if_neg h]
  by_cases h2:Lib.index l [a] = -1
  · rw [if_pos h2,if_pos (by decide),h2,if_pos (by decide)]
  · have:=Lib.index_ge l [a]
    obtain ⟨i,hi⟩:∃ i:Nat,Lib.index l [a]=i:=⟨(Lib.index l [a]).toNat,by omega⟩
    rw [if_neg h2,if_neg (by rw [hi];simp<;>omega),if_neg (by rw [hi];simp<;>omega),hi,show ((i:Int)+1).toNat=i+1 by omega,show ((i:Int)).toNat=i by omega]
    rfl
theorem n4_ (a:UInt8) (new l:Bs) (k:Nat):Lib.replaceK [a] new (k+1) (a::l)=new++Lib.replaceK [a] new k l:=by
 rw [Lib.replaceK,ho_,if_pos rfl,if_neg (by decide)]
 rfl
theorem gS_ (a:UInt8) (new:Bs):∀ (s:Bs) (k:Nat),s.count a≤k→Lib.replaceK [a] new k s=s.flatMap fun c=>if c=a then new else [c]
 |[],0,_=>rfl
 |[],k+1,_=>by
  rw [Lib.replaceK]
  have:Lib.index [] [a] = -1:=rfl
  rw [this,if_pos (by decide)];rfl
 |b::l,k,h=>by
  by_cases e:b=a
  · subst e
    rw [List.count_cons_self] at h
    obtain ⟨k,rfl⟩:∃ m,k=m+1:=⟨k - 1,by omega⟩
    rw [n4_,gS_ b new l k (by omega),List.flatMap_cons,if_pos rfl]
  · rw [List.count_cons_of_ne e] at h
    rw [n3_ (fun h=>e h.symm),gS_ a new l k h,List.flatMap_cons,if_neg e];rfl
theorem gp_ (a:UInt8):∀ (s:Bs) (f:Nat),s.length<f→Lib.countFrom [a] f s=s.count a
 |[],f+1,_=>by
  rw [Lib.countFrom]
  have:Lib.index [] [a] = -1:=rfl
  rw [this,if_pos (by decide)];rfl
 |b::l,f+1,h=>by
  have hl:l.length<f:=by simpa using h
  by_cases e:a=b
  · subst e
    rw [List.count_cons_self,Lib.countFrom,ho_,if_pos rfl,if_neg (by decide)]
    show 1+Lib.countFrom [a] f l=_
    rw [gp_ a l f hl];omega
  · rw [List.count_cons_of_ne (fun h=>e h.symm),←gp_ a l (f+1) (by omega),Lib.countFrom,Lib.countFrom,ho_,if_neg e]
    by_cases h2:Lib.index l [a] = -1
    · rw [if_pos h2,if_pos (by decide),h2,if_pos (by decide)]
    · have:=Lib.index_ge l [a]
      obtain ⟨i,hi⟩:∃ i:Nat,Lib.index l [a]=i:=⟨(Lib.index l [a]).toNat,by omega⟩
      rw [if_neg h2,if_neg (by rw [hi];simp<;>omega),if_neg (by rw [hi];simp<;>omega),hi,show ((i:Int)+1).toNat=i+1 by omega,show ((i:Int)).toNat=i by omega]
      rfl
theorem nA_ (a:UInt8) (s:Bs):Lib.count s [a]=s.count a:=gp_ a s _ (Nat.lt_succ_self _)
theorem kW_ (a:UInt8) (new s:Bs) (hne:([a] == new)=false):Lib.replaceAll s [a] new=s.flatMap fun c=>if c=a then new else [c]:=by
 unfold Lib.replaceAll Lib.replace Lib.replaceNum
 rw [hne,if_neg (by simp),if_pos (.inl (by decide)),nA_]
 exact gS_ a new s _ (Nat.le_refl _)
theorem iI_ {a b c:UInt8} {s:Bs} (hs:s.length≤1000000) (hne:([a] == [b,c])=false):Ev (fun n _=>strings_ReplaceAll n s [a] [b,c]) (s.flatMap fun x=>if x=a then [b,c] else [x]):=by
 refine as_ ?_
 have:=List.count_le_length (a:=a) (l:=s)
 simp only [strings_ReplaceAll,gg_,nA_,kW_ a [b,c] s hne,ao_,af_,c9_]
 refine ⟨fun _=>trivial,fun h => ?_⟩
 have e1:decide (s.length<4294967281)=true:=decide_eq_true (by omega)
 have e2:decide (1≤[a].length)=true:=rfl
 have e3:decide (s.length+List.count a s*[b,c].length≤140737488355328)=true:=decide_eq_true (by simp only [List.length_cons,List.length_nil];omega)
 rw [e1,e2,e3] at h;cases h
def oT_ (c:UInt8):Bs:=if c=126 then [126,48] else if c=47 then [126,49] else [c]
theorem oS_ (c:UInt8):(oT_ c).length≤2:=by
 unfold oT_
 split
 · simp
 · split<;>simp
theorem wesc_two (s:Bs):((s.flatMap fun x=>if x=126 then [126,48] else [x]).flatMap fun x=>if x=47 then [126,49] else [x])=s.flatMap oT_:=by
 induction s with
 |nil=>rfl
 |cons c s ih=>
  rw [List.flatMap_cons,List.flatMap_append,ih,List.flatMap_cons]
  congr 1
  unfold oT_
  by_cases h1:c=126
  · subst h1;rfl
  · by_cases h2:c=47
    · subst h2;rfl
    · rw [if_neg h1,if_neg h1,if_neg h2];simp [h2]
def FWay (w:List Bs):Bs:=w.flatMap fun s=>47::s.flatMap oT_
theorem oU_ {w:List Bs} {i:Nat} (h:i<w.length):FWay (w.take (i+1))=FWay (w.take i)++(47::(w.getD i []).flatMap oT_):=by
 unfold FWay
 rw [cC_ [] h,List.flatMap_append];simp
theorem my_ {w:List Bs} {c:Nat} (h:∀ s ∈ w,s.length≤c):(FWay w).length≤w.length*(2*c+1):=by
 induction w with
 |nil=>exact Nat.zero_le _
 |cons s w ih=>
  have h1:=fg_ oT_ oS_ s
  have h2:=h s (List.mem_cons_self ..)
  have h3:=ih fun x hx=>h x (List.mem_cons_of_mem _ hx)
  have e:FWay (s::w)=(47::s.flatMap oT_)++FWay w:=rfl
  rw [e,List.length_append,List.length_cons,List.length_cons,Nat.add_mul];omega
theorem oZ_ {w:List Bs} {c:Nat} (h:∀ s ∈ w,s.length≤c) (i:Nat):∀ s ∈ w.take i,s.length≤c:=fun s hs=>h s (List.mem_of_mem_take hs)
theorem kp_ {w:List Bs} (hw:w.length≤6) (hs:∀ s ∈ w,s.length≤60):Ev (fun n _=>bF_ n w) (FWay w):=by
 refine as_ ?_
 have ht:w.length≤bR_:=by simp only [bR_];omega
 simp only [bF_]
 have:=dT_ (fun i=>FWay (w.take i)) w.length (fun n N i (o:Bs)=>bF_.loop4 n (fun xy3=>(some xy3)) N o w (w.length:Int) (i:Int)) (FWay w) (fun i hi F hF => ?_) ?_
 · exact this
 · have h1:=hs _ (bH_ [] hi)
   have h2:=fg_ oT_ oS_ (w.getD i [])
   have h3:=my_ (oZ_ hs i)
   rw [List.length_take] at h3
   rw [oU_ hi] at hF
   have r1:=iI_ (a:=126) (b:=126) (c:=48) (s:=w.getD i []) (by omega) (by decide)
   have h4:=fg_ (fun x=>if x=126 then [126,48] else [x]) (fun c=>by split<;>simp) (w.getD i [])
   have r2:=iI_ (a:=47) (b:=126) (c:=49) (s:=(w.getD i []).flatMap fun x=>if x=126 then [126,48] else [x]) (by omega) (by decide)
   rw [wesc_two] at r2
   generalize FWay (w.take i)=o at hF h3 ⊢
   simp only [bF_.turn4,bF_.step4,Int.toNat_natCast,W_up hi ht,ao_,bl_,c9_,ct_ hi,b9_ hi,ab_ r1,ab_ r2]
   generalize (w.getD i []).flatMap oT_=e at hF h2 ⊢
   have e2:([47]:Bs)++e=47::e:=rfl
   rw [e2]
   refine ⟨fun _=>⟨trivial,fun _=>⟨fun _=>hF,fun h => ?_⟩,fun h => ?_⟩,fun h=>(by cases h)⟩
   · have h:=of_decide_eq_false h
     simp only [List.length_cons] at h;omega
   · have h:=of_decide_eq_false h
     simp only [List.length_cons,List.length_nil] at h;omega
 · simp only [bF_.turn4,bF_.step4,b7_,cond_false,List.take_length,af_]
theorem lp_ {α:Type} {i len:Nat} {x:Option α} (h:i<len):inB (i:Int) len x=x:=by
 unfold inB
 rw [decide_eq_true (by omega),decide_eq_true (by omega)];rfl
theorem lY_ {α:Type} {n b:Nat} {x:Option α} (h:n*b≤140737488355328):bm_ n b x=x:=by
 unfold bm_
 rw [decide_eq_true h];rfl
theorem ev_of_ge {α:Type} {f g:Nat→Nat→Option α} {v:α} (M:Nat) (h:∀ n N,M≤n→f n N=g n N) (hg:Ev g v):Ev f v:=by
 obtain ⟨M',hM⟩:=hg
 exact ⟨max M M',fun n N h1 h2=>by rw [h n N (by omega)];exact hM n N (by omega) (by omega)⟩
theorem mE_ (n:Nat) (k2:List Bs→Int→List Int→Option Bs) {w:List Bs} {i:Nat} (hi:i<w.length) (hl:(w.getD i []).length≤1000000):∀ (d j m:Nat) (o:List Int),j+d=(w.getD i []).length→d<m→o.length+2*d≤100000000 →
  aC_.loop10 n k2 m w (i:Int) (j:Int) o=k2 w (i:Int) (o++bi (((w.getD i []).drop j).flatMap oT_))
 |0,j,m+1,o,hj,_,_=>by
  have e:(j:Int)=((w.getD i []).length:Int):=by omega
  have e2:(w.getD i []).drop j=[]:=List.drop_eq_nil_of_le (by omega)
  rw [aC_.turn10,aC_.step10,Int.toNat_natCast,lp_ hi,e,b7_,e2]
  simp [bi]
 |d+1,j,m+1,o,hj,hm,ho=>by
  have hjl:j<(w.getD i []).length:=by omega
  have ih:=fun o=>mE_ n k2 hi hl d (j+1) m o (by omega) (by omega)
  have e1:(w.getD i []).drop j=(w.getD i []).getD j 0::(w.getD i []).drop (j+1):=f6_ 0 hjl
  rw [aC_.turn10,aC_.step10,Int.toNat_natCast,Int.toNat_natCast,lp_ hi,lp_ hi,lp_ hi,lp_ hjl,lp_ hjl,ct_ hjl,W_up hjl (show (w.getD i []).length≤bR_ by simp only [bR_];omega),byte126,byte47,e1,List.flatMap_cons,bi_app,←List.append_assoc]
  generalize (w.getD i []).getD j 0=c
  rw [lY_ (by simp;omega),lY_ (by simp;omega),lY_ (by simp;omega)]
  unfold oT_
  by_cases h1:c=126
  · rw [decide_eq_true h1,if_pos h1]
    exact ih _ (by simp;omega)
  · by_cases h2:c=47
    · rw [decide_eq_false h1,decide_eq_true h2,if_neg h1,if_pos h2]
      exact ih _ (by simp;omega)
    · rw [decide_eq_false h1,decide_eq_false h2,if_neg h1,if_neg h2]
      exact ih _ (by simp;omega)
theorem jR_ {w:List Bs} (hw:w.length≤6) (hs:∀ s ∈ w,s.length≤60):Ev (fun n _=>aC_ n w) (FWay w):=by
 refine as_ ?_
 have ht:w.length≤bR_:=by simp only [bR_];omega
 simp only [aC_]
 have:=dT_ (fun i=>bi (FWay (w.take i))) w.length (fun n N i (o:List Int)=>aC_.loop4 n (fun xy4=>(some (pL_ xy4))) N w (i:Int) o) (FWay w) (fun i hi F hF => ?_) ?_
 · exact this
 · have h1:=hs _ (bH_ [] hi)
   have h3:=my_ (oZ_ hs i)
   rw [List.length_take] at h3
   rw [oU_ hi] at hF
   generalize FWay (w.take i)=o at hF h3 ⊢
   have hb:=nF_ o
   simp only [aC_.turn4,aC_.step4,ct_ hi,cond_true,bn_]
   refine ⟨by simp [hb];omega,ev_of_ge 61 (fun n N hn=>mE_ n _ hi (by omega) (w.getD i []).length 0 n _ (by omega) (by omega) (by simp only [hb,List.length_append,List.length_cons,List.length_nil];omega)) ?_⟩
   simp only [W_up hi ht,List.drop_zero]
   have e:bi (o++47::(w.getD i []).flatMap oT_)=bi o++([47]:List Int)++bi ((w.getD i []).flatMap oT_):=by simp [bi]
   rw [e] at hF
   exact hF
 · simp only [aC_.turn4,aC_.step4,b7_,cond_false,List.take_length,af_,toBs_bi]
end Go.Pi
end
section
namespace Go.Pi
def digs (u:Nat):Bs:=if u=0 then [] else Lib.decDigits u
theorem digs_step {u:Nat} (h:u≠0):digs u=digs (u / 10)++[UInt8.ofNat (48+u % 10)]:=by
 unfold digs
 rw [if_neg h,Lib.decDigits]
 by_cases h1:u<10
 · rw [dif_pos h1,if_pos (by omega),Nat.mod_eq_of_lt h1];rfl
 · rw [dif_neg h1,if_neg (by omega)]
theorem pt_ {d:Nat} (h:d<10):pL_ ([(IntKind.u8.wrap (W (48+(d:Int))))]:List Int)=[UInt8.ofNat (48+d)]:=by
 have e1:W (48+(d:Int))=((48+d:Nat):Int):=by rw [W_id (by omega) (by omega)];omega
 rw [e1]
 have e2:IntKind.u8.wrap (((48+d:Nat):Int))=((48+d:Nat):Int):=by
  have:d=0∨d=1∨d=2∨d=3∨d=4∨d=5∨d=6∨d=7∨d=8∨d=9:=by omega
  rcases this with rfl|rfl|rfl|rfl|rfl|rfl|rfl|rfl|rfl|rfl<;>rfl
 rw [e2]
 rfl
theorem dQ_ {x:Int} (h0 : -9223372036854775808≤x) (h1:x≤9223372036854775807):Ev (fun n _=>aV_ n x) (Lib.itoa x):=by
 refine as_ ?_
 simp only [aV_,ao_,af_]
 refine ⟨fun h => ?_,fun h => ?_⟩
 · have:x=0:=by simpa using h
   subst this
   unfold Lib.itoa
   rw [if_neg (by decide)]
   show _=Lib.decDigits 0
   rw [Lib.decDigits_one (by decide)];rfl
 have hx0:x≠0:=by simpa using h
 have key:∀ (k:Nat) (y:Int) (out:Bs),y.natAbs<10 ^ k → -9223372036854775808≤y→y≤9223372036854775807→out.length+k≤100 →
   Ev (fun n N=>aV_.loop7 n (fun xy3 xy4=>(cond xy3 (cond (decide ([45].length+xy4.length≤9223372036854775807)) (some (([45]:Bs)++xy4)) none) (some xy4))) N y (decide (x<0)) out) (cond (decide (x<0)) ([45]++(digs y.natAbs++out)) (digs y.natAbs++out)):=by
  intro k
  induction k with
  |zero=>
   intro y out hy _ _ ho
   have:y=0:=by simp at hy;omega
   subst this
   refine cr_ ?_
   simp only [aV_.turn7,aV_.step7,bne_self_eq_false,cond_false,ao_,af_,c9_]
   refine ⟨fun hb=>⟨fun _=>by rw [hb];rfl,fun hc=>by have:=of_decide_eq_false hc;simp at this;omega⟩,fun hb=>by rw [hb];rfl⟩
  |succ k ih=>
   intro y out hy hy0 hy1 ho
   by_cases hz:y=0
   · subst hz
     refine cr_ ?_
     simp only [aV_.turn7,aV_.step7,bne_self_eq_false,cond_false,ao_,af_,c9_]
     refine ⟨fun hb=>⟨fun _=>by rw [hb];rfl,fun hc=>by have:=of_decide_eq_false hc;simp at this;omega⟩,fun hb=>by rw [hb];rfl⟩
   · have hm:(Int.tmod y 10).natAbs=y.natAbs % 10:=by rw [Int.natAbs_tmod];rfl
     have hd:(Int.tdiv y 10).natAbs=y.natAbs / 10:=by rw [Int.natAbs_tdiv];rfl
     have hW:W (Int.tdiv y 10)=Int.tdiv y 10:=W_id (by omega) (by omega)
     have hlt:y.natAbs % 10<10:=Nat.mod_lt _ (by decide)
     have hdl:(Int.tdiv y 10).natAbs<10 ^ k:=by rw [hd];rw [Nat.pow_succ] at hy;omega
     have hrec:=ih (Int.tdiv y 10) ([UInt8.ofNat (48+y.natAbs % 10)]++out) hdl (by omega) (by omega) (by simp;omega)
     have hdig:digs (Int.tdiv y 10).natAbs++([UInt8.ofNat (48+y.natAbs % 10)]++out)=digs y.natAbs++out:=by rw [hd,digs_step (show y.natAbs≠0 by omega),List.append_assoc]
     rw [hdig] at hrec
     have hne:(y != 0)=true:=by simpa using hz
     refine cr_ ?_
     simp only [aV_.turn7,aV_.step7,hne,cond_true,ao_,c9_,hW]
     refine ⟨fun hneg => ?_,fun hneg => ?_⟩
     · have hneg:=of_decide_eq_true hneg
       have e:W (0 - Int.tmod y 10)=((y.natAbs % 10:Nat):Int):=by rw [W_id (by omega) (by omega)];omega
       rw [e,pt_ hlt]
       exact ⟨fun _=>hrec,fun hc=>by have:=of_decide_eq_false hc;simp at this;omega⟩
     · have hneg:=of_decide_eq_false hneg
       have e:Int.tmod y 10=((y.natAbs % 10:Nat):Int):=by omega
       rw [e,pt_ hlt]
       exact ⟨fun _=>hrec,fun hc=>by have:=of_decide_eq_false hc;simp at this;omega⟩
 have hfin:=key 19 x [] (by omega) h0 h1 (by simp)
 have hv:Lib.itoa x=cond (decide (x<0)) ([45]++(digs x.natAbs++[])) (digs x.natAbs++[]):=by
  unfold Lib.itoa digs
  rw [if_neg (show x.natAbs≠0 by omega)]
  by_cases hn:x<0
  · rw [if_pos hn,decide_eq_true hn];simp
  · rw [if_neg hn,decide_eq_false hn,cond_false,List.append_nil,show x.toNat=x.natAbs by omega]
 rw [hv]
 exact en_ hfin
theorem oF_ {x:Int} (h0 : -9223372036854775808≤x) (h1:x≤9223372036854775807):Ev (fun n _=>strconv_Itoa n x) (Lib.itoa x) :=
 as_ (by simp only [strconv_Itoa,nItoa,ao_,af_,c9_];exact ⟨fun _=>trivial,fun h=>by simp at h;omega⟩)
end Go.Pi
end
section
namespace Go.Pi
theorem join_snoc (x sep:Bs):∀ l:List Bs,Lib.join (l++[x]) sep=if l=[] then x else Lib.join l sep++sep++x
 |[]=>by rw [if_pos rfl];exact Lib.join_one x sep
 |y::l=>by
  rw [if_neg (by simp),List.cons_append,Lib.join_cons,Lib.join_cons]
  simp [Lib.joinTail]
theorem o1_ {α:Type} (f:α→Nat):∀ a b:List α,hy_ f (a++b)=hy_ f a+hy_ f b
 |[],b=>by simp [hy_]
 |x::a,b=>by simp only [List.cons_append,hy_,o1_ f a b];omega
theorem o0_ {α:Type} (f:α→Nat) (h:∀ x,1≤f x):∀ a:List α,a.length≤hy_ f a
 |[]=>Nat.le_refl _
 |x::a=>by have:=o0_ f h a;have:=h x;simp only [hy_,List.length_cons];omega
theorem FSize_pos:∀ (d:Nat) (j:aa_),1≤cs_ d j
 |0,_=>by simp only [cs_];omega
 |d+1,j=>by
  simp only [cs_]
  cases FOwn j<;>simp only [cond_true,cond_false]<;>omega
theorem kF_ {s:Bs} (h:jt_ s=true):s.length≤60:=by
 unfold jt_ at h
 rw [Bool.and_eq_true] at h
 have:=of_decide_eq_true h.2;omega
theorem lL_ {l:List Bs} (h:jk_ l=true) {i:Nat} (hi:i<l.length):(l.getD i []).length≤60:=by
 have:=fi_.1 h i hi
 rw [Bool.and_eq_true] at this
 exact kF_ this.1
structure Own (j:aa_):Prop where
 kind:j.kind=0∨j.kind=1∨j.kind=2∨j.kind=3∨j.kind=4∨j.kind=5
 list:j.kind≠4→j.kind≠5→j.list=[]
 bool:j.kind=1→0≤j.n_∧j.n_≤1
 num:j.kind=2 → -1000000000≤j.n_∧j.n_≤1000000000
 text:j.kind=3→j.s.length≤60
 obj:j.kind=5→j.names.length=j.list.length∧jk_ j.names=true
theorem FOwn_own {j:aa_} (h:FOwn j=true):Own j:=by
 unfold FOwn FOwnK at h
 simp only [Bool.and_eq_true,Bool.or_eq_true] at h
 obtain ⟨h1,h2,h3,h4,h5⟩:=h
 refine ⟨?_,fun k4 k5 => ?_,fun hk => ?_,fun hk => ?_,fun hk => ?_,fun hk => ?_⟩
 · rcases ki_ j.kind with hk|hk|hk|hk|hk|hk|⟨k0,k1,k2,k3,k4,k5⟩
   · exact .inl hk
   · exact .inr (.inl hk)
   · exact .inr (.inr (.inl hk))
   · exact .inr (.inr (.inr (.inl hk)))
   · exact .inr (.inr (.inr (.inr (.inl hk))))
   · exact .inr (.inr (.inr (.inr (.inr hk))))
   · simp only [beq_eq_false_iff_ne.2 k0,beq_eq_false_iff_ne.2 k1,beq_eq_false_iff_ne.2 k2,beq_eq_false_iff_ne.2 k3,beq_eq_false_iff_ne.2 k4,beq_eq_false_iff_ne.2 k5,cond_false,Bool.or_false] at h5
     cases h5
 · rcases h1 with h1|h1|h1
   · exact List.eq_nil_of_length_eq_zero (of_decide_eq_true h1)
   · exact absurd (by simpa using h1) k4
   · exact absurd (by simpa using h1) k5
 · simp only [hk,Int.reduceBEq,cond_true,cond_false] at h5;exact hn_ h5
 · simp only [hk,Int.reduceBEq,cond_true,cond_false] at h5;exact hn_ h5
 · simp only [hk,Int.reduceBEq,cond_true,cond_false] at h5;exact kF_ h5
 · simp only [hk,Int.reduceBEq,cond_true,cond_false,Bool.and_eq_true] at h5
   exact ⟨by have:=h5.1;simp at this;omega,h5.2⟩
def fY_ (enc:aa_→Bs) (j:aa_) (i:Nat):Bs:=cond (j.kind == 5) (hc_ (j.names.getD i [])++([58]++enc (j.list.getD i aa_.dflt))) (enc (j.list.getD i aa_.dflt))
def gy_ (enc:aa_→Bs) (j:aa_) (m:Nat):Bs:=Lib.join ((List.range m).map (fY_ enc j)) [44]
def FEnc:Nat→aa_→Bs
 |0,_=>[]
 |d+1,j=>cond (j.kind == 0) [110,117,108,108] (cond (j.kind == 1) (cond (j.n_ == 1) [116,114,117,101] [102,97,108,115,101]) (cond (j.kind == 2) (Lib.itoa j.n_) (cond (j.kind == 3) (hc_ j.s)
   (cond (j.kind == 5) ([123]++gy_ (FEnc d) j j.list.length++[125]) ([91]++gy_ (FEnc d) j j.list.length++[93])))))
theorem iL_ (enc:aa_→Bs) (j:aa_):gy_ enc j 1=fY_ enc j 0:=Lib.join_one _ _
theorem hx_ (enc:aa_→Bs) (j:aa_) {m:Nat} (h:0<m):gy_ enc j (m+1)=gy_ enc j m++[44]++fY_ enc j m:=by
 unfold gy_
 rw [List.range_succ,List.map_append,List.map_cons,List.map_nil,join_snoc,if_neg]
 intro e
 have:=congrArg List.length e
 simp at this;omega
theorem hi_ {d:Nat} {j:aa_} (h:cs_ (d+1) j≤400):Own j∧cs_ (d+1) j=1+hy_ (cs_ d) j.list:=by
 simp only [cs_] at h ⊢
 cases ho:FOwn j with
 |false=>rw [ho,cond_false] at h;omega
 |true=>
  rw [ho,cond_true] at h
  exact ⟨FOwn_own ho,by rw [cond_true];omega⟩
theorem enc_len:∀ (d:Nat) (j:aa_),cs_ d j≤400→(FEnc d j).length+150≤300*cs_ d j
 |0,j,h=>by simp only [cs_] at h;omega
 |d+1,j,h=>by
  obtain ⟨ho,hs⟩:=hi_ h
  have hJ:∀ m,m≤j.list.length→(gy_ (FEnc d) j m).length≤300*hy_ (cs_ d) (j.list.take m):=by
   intro m
   induction m with
   |zero=>intro _;exact Nat.zero_le _
   |succ m ih=>
    intro hm
    have hi:m<j.list.length:=by omega
    have h1:=ih (by omega)
    have h2:=lP_ (cs_ d) (bH_ aa_.dflt hi)
    have h3:=enc_len d (j.list.getD m aa_.dflt) (by omega)
    have h4:(fY_ (FEnc d) j m).length≤123+(FEnc d (j.list.getD m aa_.dflt)).length:=by
     unfold fY_
     cases hk:(j.kind == 5) with
     |false=>rw [cond_false];omega
     |true=>
      obtain ⟨e1,e2⟩:=ho.obj (by simpa using hk)
      have:=lL_ e2 (i:=m) (by omega)
      have:=f7_ (j.names.getD m [])
      rw [cond_true];simp only [List.length_append,List.length_cons,List.length_nil];omega
    rw [cC_ aa_.dflt hi,o1_]
    simp only [hy_,Nat.mul_add]
    by_cases h0:m=0
    · subst h0;rw [iL_];omega
    · rw [hx_ _ _ (by omega)];simp only [List.length_append,List.length_cons,List.length_nil];omega
  have hL:=hJ j.list.length (Nat.le_refl _)
  rw [List.take_length] at hL
  rw [hs]
  rcases ho.kind with hk|hk|hk|hk|hk|hk
  · simp only [FEnc,hk,Int.reduceBEq,cond_true,cond_false,List.length_cons,List.length_nil];omega
  · simp only [FEnc,hk,Int.reduceBEq,cond_true,cond_false]
    cases (j.n_ == 1)<;>simp only [cond_true,cond_false,List.length_cons,List.length_nil]<;>omega
  · have:=ho.num hk
    have:=Lib.itoa_length_le j.n_ (by omega) (by omega)
    simp only [FEnc,hk,Int.reduceBEq,cond_true,cond_false];omega
  · have:=ho.text hk
    have:=f7_ j.s
    simp only [FEnc,hk,Int.reduceBEq,cond_true,cond_false];omega
  · simp only [FEnc,hk,Int.reduceBEq,cond_true,cond_false,List.length_append,List.length_cons,List.length_nil];omega
  · simp only [FEnc,hk,Int.reduceBEq,cond_true,cond_false,List.length_append,List.length_cons,List.length_nil];omega
structure Part (d:Nat) (j:aa_) (i:Nat):Prop where
 size:cs_ d (j.list.getD i aa_.dflt)≤400
 enc:(FEnc d (j.list.getD i aa_.dflt)).length≤120000
 name:j.kind=5→i<j.names.length∧(j.names.getD i []).length≤60
theorem j4_ {d:Nat} {j:aa_} (h:cs_ (d+1) j≤400) {i:Nat} (hi:i<j.list.length):Part d j i:=by
 obtain ⟨ho,hs⟩:=hi_ h
 have h2:=lP_ (cs_ d) (bH_ aa_.dflt hi)
 have h3:=enc_len d (j.list.getD i aa_.dflt) (by omega)
 exact ⟨by omega,by omega,fun hk=>⟨by have:=(ho.obj hk).1;omega,lL_ (ho.obj hk).2 (by have:=(ho.obj hk).1;omega)⟩⟩
theorem mf_ {d:Nat} {j:aa_} (h:cs_ (d+1) j≤400):∀ m,m≤j.list.length→(gy_ (FEnc d) j m).length≤m*120200:=by
 intro m
 induction m with
 |zero=>intro _;exact Nat.zero_le _
 |succ m ih=>
  intro hm
  have hp:=j4_ h (i:=m) (by omega)
  have h1:=ih (by omega)
  have h4:(fY_ (FEnc d) j m).length≤123+120000:=by
   have:=hp.enc
   unfold fY_
   cases hk:(j.kind == 5) with
   |false=>rw [cond_false];omega
   |true=>
    have:=(hp.name (by simpa using hk)).2
    have:=f7_ (j.names.getD m [])
    rw [cond_true];simp only [List.length_append,List.length_cons,List.length_nil];omega
  by_cases h0:m=0
  · subst h0;rw [iL_];omega
  · rw [hx_ _ _ (by omega)];simp only [List.length_append,List.length_cons,List.length_nil];omega
theorem iu_ {d:Nat} {j:aa_} (h:cs_ (d+1) j≤400):j.list.length≤400:=by
 have:=(hi_ h).2
 have:=o0_ (cs_ d) (FSize_pos d) j.list
 omega
end Go.Pi
end
section
namespace Go.Pi
theorem gB_:∀ (d:Nat) (j:aa_),cs_ d j≤400→Ev (fun n _=>aJ_ n j) (FEnc d j)
 |0,j,h=>by simp only [cs_] at h;omega
 |d+1,j,h=>by
  have ho:=(hi_ h).1
  have hll:=iu_ h
  refine as_ ?_
  have hloop:(j.kind=4∨j.kind=5)→∀ (K:Nat→Bs→Int→Int→Bs→List aa_→List Bs→Option Bs) (v:Bs),Ev (fun n N=>K n (gy_ (FEnc d) j j.list.length) j.kind j.n_ j.s j.list j.names) v→Ev (fun n _=>aJ_.loop17 n (aJ_ n) (K n) n [] 0 j.kind j.n_ j.s j.list j.names) v:=by
   intro hk45 K v hK
   refine dT_ (fun i=>gy_ (FEnc d) j i) j.list.length (fun n N i (o:Bs)=>aJ_.loop17 n (aJ_ n) (K n) N o (i:Int) j.kind j.n_ j.s j.list j.names) v (fun i hi F hF => ?_) ?_
   · have hp:=j4_ h hi
     have hx:=gB_ d (j.list.getD i aa_.dflt) hp.size
     have hjl:=mf_ h i (by omega)
     have he:=hp.enc
     have hW:=W_up hi (show j.list.length≤bR_ by simp only [bR_];omega)
     rcases hk45 with hk|hk
     · have h5:(j.kind == 5)=false:=by rw [hk];rfl
       by_cases h0:i=0
       · have hg:decide ((i:Int) > 0)=false:=decide_eq_false (by omega)
         have e0:gy_ (FEnc d) j i=[]:=by rw [h0];rfl
         have e1:gy_ (FEnc d) j (i+1)=fY_ (FEnc d) j i:=by rw [h0];exact iL_ _ _
         rw [e1] at hF
         unfold fY_ at hF
         rw [h5,cond_false] at hF
         simp only [e0,aJ_.turn17,aJ_.step17,bN_,Int.toNat_natCast,hW,h5,hg,reduceCtorEq,false_implies,true_implies,true_and,and_true,ao_,bl_,c9_,ct_ hi,b9_ hi,ab_ hx,List.nil_append]
         generalize FEnc d (j.list.getD i aa_.dflt)=x at hF he ⊢
         repeat' (first|apply And.intro|intro _)
         all_goals (first|contradiction|exact hF|trivial|(rename_i hc;have hc:=of_decide_eq_false hc;simp only [List.length_append,List.length_cons,List.length_nil] at hc;omega))
       · rw [hx_ _ _ (by omega)] at hF
         unfold fY_ at hF
         rw [h5,cond_false] at hF
         have hg:decide ((i:Int) > 0)=true:=decide_eq_true (by omega)
         simp only [aJ_.turn17,aJ_.step17,bN_,Int.toNat_natCast,hW,h5,hg,ao_,bl_,c9_,ct_ hi,b9_ hi,ab_ hx]
         generalize FEnc d (j.list.getD i aa_.dflt)=x at hF he ⊢
         generalize gy_ (FEnc d) j i=o at hF hjl ⊢
         repeat' (first|apply And.intro|intro _)
         all_goals (first|contradiction|exact hF|trivial|(rename_i hc;have hc:=of_decide_eq_false hc;simp only [List.length_append,List.length_cons,List.length_nil] at hc;omega))
     · have h5:(j.kind == 5)=true:=by rw [hk];rfl
       have hn:=hp.name hk
       have hq:=gK_ (s:=j.names.getD i []) (by omega)
       have hql:=f7_ (j.names.getD i [])
       by_cases h0:i=0
       · have hg:decide ((i:Int) > 0)=false:=decide_eq_false (by omega)
         have e0:gy_ (FEnc d) j i=[]:=by rw [h0];rfl
         have e1:gy_ (FEnc d) j (i+1)=fY_ (FEnc d) j i:=by rw [h0];exact iL_ _ _
         rw [e1] at hF
         unfold fY_ at hF
         rw [h5,cond_true] at hF
         simp only [e0,aJ_.turn17,aJ_.step17,bN_,Int.toNat_natCast,hW,h5,hg,reduceCtorEq,false_implies,true_implies,true_and,and_true,ao_,bl_,c9_,ct_ hi,b9_ hi,b9_ hn.1,ab_ hx,ab_ hq,List.nil_append]
         generalize FEnc d (j.list.getD i aa_.dflt)=x at hF he ⊢
         generalize hc_ (j.names.getD i [])=y at hF hql ⊢
         rw [←List.append_assoc] at hF
         repeat' (first|apply And.intro|intro _)
         all_goals (first|contradiction|exact hF|trivial|(rename_i hc;have hc:=of_decide_eq_false hc;simp only [List.length_append,List.length_cons,List.length_nil] at hc;omega))
       · rw [hx_ _ _ (by omega)] at hF
         unfold fY_ at hF
         rw [h5,cond_true] at hF
         have hg:decide ((i:Int) > 0)=true:=decide_eq_true (by omega)
         simp only [aJ_.turn17,aJ_.step17,bN_,Int.toNat_natCast,hW,h5,hg,ao_,bl_,c9_,ct_ hi,b9_ hi,b9_ hn.1,ab_ hx,ab_ hq]
         generalize FEnc d (j.list.getD i aa_.dflt)=x at hF he ⊢
         generalize hc_ (j.names.getD i [])=y at hF hql ⊢
         generalize gy_ (FEnc d) j i=o at hF hjl ⊢
         rw [←List.append_assoc,←List.append_assoc] at hF
         repeat' (first|apply And.intro|intro _)
         all_goals (first|contradiction|exact hF|trivial|(rename_i hc;have hc:=of_decide_eq_false hc;simp only [List.length_append,List.length_cons,List.length_nil] at hc;omega))
   · simp only [aJ_.turn17,aJ_.step17,b7_,cond_false]
     exact hK
  have hjl:=mf_ h j.list.length (Nat.le_refl _)
  simp only [aJ_,bN_]
  rcases ho.kind with hk|hk|hk|hk|hk|hk
  · simp only [FEnc,hk,Int.reduceBEq,cond_true,af_]
  · simp only [FEnc,hk,Int.reduceBEq,cond_true,cond_false,ao_,af_]
    cases (j.n_ == 1)<;>simp
  · have hn:=ho.num hk
    simp only [FEnc,hk,Int.reduceBEq,cond_true,cond_false,ab_ (dQ_ (x:=j.n_) (by omega) (by omega)),af_]
  · have hs:=ho.text hk
    simp only [FEnc,hk,Int.reduceBEq,cond_true,cond_false,ab_ (gK_ (s:=j.s) (by omega)),af_]
  all_goals (
   have e0:(j.kind == 0)=false:=by rw [hk];rfl
   have e1:(j.kind == 1)=false:=by rw [hk];rfl
   have e2:(j.kind == 2)=false:=by rw [hk];rfl
   have e3:(j.kind == 3)=false:=by rw [hk];rfl
   simp only [FEnc,e0,e1,e2,e3,cond_false]
   refine hloop (by omega) _ _ ?_
   generalize gy_ (FEnc d) j j.list.length=o at hjl ⊢
   simp only [hk,Int.reduceBEq,cond_true,cond_false,ao_,af_,c9_]
   refine ⟨fun _=>⟨fun _=>trivial,fun hc => ?_⟩,fun hc => ?_⟩
   · have hc:=of_decide_eq_false hc
     simp only [List.length_append,List.length_cons,List.length_nil] at hc;omega
   · have hc:=of_decide_eq_false hc
     simp only [List.length_append,List.length_cons,List.length_nil] at hc;omega)
theorem Join_ev {l:List Bs} {sep:Bs} (hl:l.length≤1000000) (hj:(Lib.join l sep).length≤1000000000):Ev (fun n _=>strings_Join n l sep) (Lib.join l sep):=by
 refine as_ ?_
 simp only [strings_Join,nJoin,ao_,af_,c9_]
 refine ⟨fun _=>trivial,fun h => ?_⟩
 rw [decide_eq_true (by omega),decide_eq_true (by omega)] at h;cases h
theorem gY_:∀ (d:Nat) (j:aa_),cs_ d j≤400→Ev (fun n _=>a2_ n j) (FEnc d j)
 |0,j,h=>by simp only [cs_] at h;omega
 |d+1,j,h=>by
  have ho:=(hi_ h).1
  have hll:=iu_ h
  refine as_ ?_
  have hloop:∀ (K:Nat→Int→Int→Bs→List aa_→List Bs→List Bs→Option Bs) (v:Bs),Ev (fun n N=>K n j.kind j.n_ j.s j.list j.names ((List.range j.list.length).map (fY_ (FEnc d) j))) v→Ev (fun n _=>a2_.loop4 n (a2_ n) (K n) n j.list (j.list.length:Int) 0 j.kind j.n_ j.s j.list j.names []) v:=by
   intro K v hK
   refine dT_ (fun i=>(List.range i).map (fY_ (FEnc d) j)) j.list.length (fun n N i (o:List Bs)=>a2_.loop4 n (a2_ n) (K n) N j.list (j.list.length:Int) (i:Int) j.kind j.n_ j.s j.list j.names o) v (fun i hi F hF => ?_) ?_
   · have hp:=j4_ h hi
     have hx:=gY_ d (j.list.getD i aa_.dflt) hp.size
     have he:=hp.enc
     have hW:=W_up hi (show j.list.length≤bR_ by simp only [bR_];omega)
     have hol:((List.range i).map (fY_ (FEnc d) j)).length=i:=by simp
     rw [List.range_succ,List.map_append,List.map_cons,List.map_nil] at hF
     unfold fY_ at hF
     cases h5:(j.kind == 5) with
     |false=>
      simp only [h5,cond_false] at hF
      unfold fY_ at hol ⊢
      simp only [h5,cond_false] at hol ⊢
      simp only [a2_.turn4,a2_.step4,bN_,Int.toNat_natCast,hW,h5,cond_false,ao_,bl_,c9_,bn_,ct_ hi,b9_ hi,ab_ hx]
      generalize FEnc d (j.list.getD i aa_.dflt)=x at hF he ⊢
      generalize (List.range i).map _=o at hF hol ⊢
      exact ⟨fun _=>⟨trivial,by simp;omega,hF⟩,fun h=>(by cases h)⟩
     |true=>
      have hn:=hp.name (by simpa using h5)
      have hq:=hK_ (s:=j.names.getD i []) (by omega)
      have hql:=f7_ (j.names.getD i [])
      simp only [h5,cond_true] at hF
      unfold fY_ at hol ⊢
      simp only [h5,cond_true] at hol ⊢
      simp only [a2_.turn4,a2_.step4,bN_,Int.toNat_natCast,hW,h5,cond_true,ao_,bl_,c9_,bn_,ct_ hi,b9_ hi,b9_ hn.1,ab_ hx,ab_ hq]
      generalize FEnc d (j.list.getD i aa_.dflt)=x at hF he ⊢
      generalize hc_ (j.names.getD i [])=y at hF hql ⊢
      generalize (List.range i).map _=o at hF hol ⊢
      rw [←List.append_assoc] at hF
      repeat' (first|apply And.intro|intro _)
      all_goals (first|contradiction|exact hF|trivial|(rename_i hc;have hc:=of_decide_eq_false hc;simp only [List.length_append,List.length_cons,List.length_nil] at hc;omega)|(simp;omega))
   · simp only [a2_.turn4,a2_.step4,b7_,cond_false]
     exact hK
  have hjl:=mf_ h j.list.length (Nat.le_refl _)
  have hJ:=Join_ev (l:=(List.range j.list.length).map (fY_ (FEnc d) j)) (sep:=[44]) (by simp;omega) (by unfold gy_ at hjl;omega)
  simp only [a2_,bN_]
  refine hloop _ _ ?_
  rcases ho.kind with hk|hk|hk|hk|hk|hk
  · simp only [FEnc,hk,Int.reduceBEq,cond_true,af_]
  · have hb:=ho.bool hk
    simp only [FEnc,hk,Int.reduceBEq,cond_true,cond_false,bl_,af_]
    have:j.n_=0∨j.n_=1:=by omega
    rcases this with e|e<;>rw [e]<;>exact ⟨⟨by decide,by decide⟩,rfl⟩
  · have hn:=ho.num hk
    simp only [FEnc,hk,Int.reduceBEq,cond_true,cond_false,ab_ (oF_ (x:=j.n_) (by omega) (by omega)),af_]
  · have hs:=ho.text hk
    simp only [FEnc,hk,Int.reduceBEq,cond_true,cond_false,ab_ (hK_ (s:=j.s) (by omega)),af_]
  all_goals (
   simp only [FEnc,hk,Int.reduceBEq,cond_true,cond_false,ab_ hJ]
   unfold gy_ at hjl ⊢
   generalize Lib.join ((List.range j.list.length).map (fY_ (FEnc d) j)) [44]=o at hjl ⊢
   simp only [ao_,af_,c9_]
   refine ⟨fun _=>⟨fun _=>trivial,fun hc => ?_⟩,fun hc => ?_⟩
   · have hc:=of_decide_eq_false hc
     simp only [List.length_append,List.length_cons,List.length_nil] at hc;omega
   · have hc:=of_decide_eq_false hc
     simp only [List.length_append,List.length_cons,List.length_nil] at hc;omega)
def gz_ (j:aa_):Bs:=cond (cB_ j) (cond (decide (((FEnc 6 j).length:Int) > 6000)) [] (FEnc 6 j)) []
theorem hG_ {j:aa_} (h:gh_ 6 j):Ev (fun n _=>do_ n j) (gz_ j):=by
 refine as_ ?_
 simp only [do_,bN_,ab_ (dW_ h),ao_,af_,gz_]
 cases hj:cB_ j with
 |false=>simp
 |true=>
  simp only [ab_ (gB_ 6 j (of_decide_eq_true hj)),ao_,af_]
  cases decide (((FEnc 6 j).length:Int) > 6000)<;>simp
theorem eW_ {j:aa_} (h:gh_ 6 j):Ev (fun n _=>dc_ n j) (gz_ j):=by
 refine as_ ?_
 simp only [dc_,bN_,ab_ (eV_ h),ao_,af_,gz_]
 cases hj:cB_ j with
 |false=>simp
 |true=>
  simp only [ab_ (gY_ 6 j (of_decide_eq_true hj)),ao_,af_]
  cases decide (((FEnc 6 j).length:Int) > 6000)<;>simp
end Go.Pi
end
section
namespace Go.Pi
def d2_ (ns:List Bs) (x:Bs):Nat:=ns.findIdx (fun y => !Op.bytesLess y x)
def f2_ (ns:List Bs) (x:Bs):Nat:=if ns.getD (d2_ ns x) []=x∧d2_ ns x<ns.length then d2_ ns x+1 else d2_ ns x
def nQ_ {α:Type} (ns:List Bs) (x:Bs) (l:List α) (y:α):List α:=l.take (d2_ ns x)++[y]++l.drop (f2_ ns x)
theorem hg_ {α:Type} (d:α) {a m:List α} {i q:Nat} (p:Nat) (hi:i<a.length) (h:q≤i):a.take p++m++(a.take (i+1)).drop q=a.take p++m++(a.take i).drop q++[a.getD i d]:=by
 rw [cC_ d hi,List.drop_append_of_le_length (by simp;omega)]
 simp
theorem put_idx {ns:List Bs} {x:Bs} {i:Nat} (hi:i<ns.length) (hle:i≤d2_ ns x):(!Op.bytesLess (ns.getD i []) x)=decide (i=d2_ ns x):=by
 rw [List.getD_eq_getElem?_getD,List.getElem?_eq_getElem hi,Option.getD_some]
 unfold d2_ at hle ⊢
 by_cases h:i=ns.findIdx (fun y => !Op.bytesLess y x)
 · rw [decide_eq_true h]
   have:=List.findIdx_getElem (xs:=ns) (p:=fun y => !Op.bytesLess y x) (w:=by omega)
   simp only [←h] at this
   exact this
 · rw [decide_eq_false h]
   exact List.not_of_lt_findIdx (xs:=ns) (p:=fun y => !Op.bytesLess y x) (i:=i) (by omega)
theorem ia_ {o j:aa_} {x:Bs} (hk:o.names.length≤2000000) (he:o.list.length=o.names.length) (hlt:∀ y,Op.bytesLess y x=true→(y == x)=false) (hne:∀ i,f2_ o.names x≤i→i<o.names.length→(o.names.getD i [] == x)=false) :
  Ev (fun n _=>bx_ n o x j) (aa_.mk 5 0 [] (nQ_ o.names x o.list j) (nQ_ o.names x o.names x)):=by
 refine as_ ?_
 have ht:o.names.length≤bR_:=by simp only [bR_];omega
 obtain ⟨p,hp⟩:∃ p,p=d2_ o.names x:=⟨_,rfl⟩
 have hpl:p≤o.names.length:=by rw [hp];exact List.findIdx_le_length
 obtain ⟨q,hq⟩:∃ q,q=f2_ o.names x:=⟨_,rfl⟩
 have hqp:p≤q∧q≤p+1:=by rw [hq,hp];unfold f2_;split<;>omega
 have hT:o.list.take o.names.length=o.list:=List.take_of_length_le (by omega)
 let S:Nat→Bool × List aa_ × List Bs:=fun i=>if i≤p then (false,o.list.take i,o.names.take i) else (true,o.list.take p++[j]++(o.list.take i).drop q,o.names.take p++[x]++(o.names.take i).drop q)
 have hS0:S 0=(false,[],[]):=by simp [S]
 simp only [bx_]
 have:=dT_ S o.names.length (fun n N i (s:Bool × List aa_ × List Bs)=>bx_.loop5 n (fun xy1 xy2 xy3 xy4 xy5 xy6 xy7 xy8 xy9 xy10 xy11 xy12 xy13 xy14 xy15=>(cond (!xy2) (bm_ (xy15.length+([xy1]:List Bs).length) 16 (bm_ (xy14.length+([(aa_.mk xy3 xy4 xy5 xy6 xy7)]:List aa_).length) 80 (some (aa_.mk xy11 xy12 xy13 (xy14++([(aa_.mk xy3 xy4 xy5 xy6 xy7)]:List aa_)) (xy15++([xy1]:List Bs)))))) (some (aa_.mk xy11 xy12 xy13 xy14 xy15)))) N x s.1 (i:Int) o.kind o.n_ o.s o.list o.names j.kind j.n_ j.s j.list j.names 0 0 [] 5 0 [] s.2.1 s.2.2)
  (aa_.mk 5 0 [] (nQ_ o.names x o.list j) (nQ_ o.names x o.names x)) (fun i hi F hF => ?_) ?_
 · rw [hS0] at this;exact this
 · have hx:=put_idx (ns:=o.names) (x:=x) hi
   rw [←hp] at hx
   have hln:(S i).2.2.length≤o.names.length+1:=by simp only [S];split<;>simp<;>omega
   have hll:(S i).2.1.length≤o.names.length+1:=by simp only [S];split<;>simp<;>omega
   have hil:i<o.list.length:=by omega
   simp only [bx_.turn5,bx_.step5,eU_,bN_,Int.toNat_natCast,W_up hi ht,ao_,bl_,bn_,ct_ hi,b9_ hi,b9_ hil]
   by_cases hle:i≤p
   · have s1:S i=(false,o.list.take i,o.names.take i):=by simp only [S,if_pos hle]
     rw [s1] at hln hll ⊢
     by_cases e:i=p
     · have hb:(!Op.bytesLess (o.names.getD i []) x)=true:=by rw [hx hle];exact decide_eq_true e
       subst e
       by_cases hs:o.names.getD i []=x
       · have hqv:q=i+1:=by rw [hq];unfold f2_;rw [←hp,if_pos ⟨hs,hi⟩]
         have s2:S (i+1)=(true,o.list.take i++[j],o.names.take i++[x]):=by
          simp only [S,if_neg (show ¬ i+1≤i by omega)]
          rw [List.drop_eq_nil_of_le (by simp;omega),List.drop_eq_nil_of_le (by simp;omega),List.append_nil,List.append_nil]
         rw [s2] at hF
         have hs':(o.names.getD i [] == x)=true:=by simpa using hs
         simp only [hb,hs',cond_true,cond_false,Bool.not_true,Bool.not_false]
         repeat' (first|apply And.intro|intro _)
         all_goals (first|contradiction|exact hF|trivial|(simp;omega))
       · have hqv:q=i:=by rw [hq];unfold f2_;rw [←hp,if_neg (fun h=>hs h.1)]
         have s2:S (i+1)=(true,o.list.take i++[j]++[o.list.getD i aa_.dflt],o.names.take i++[x]++[o.names.getD i []]):=by
          simp only [S,if_neg (show ¬ i+1≤i by omega),hqv]
          rw [hg_ aa_.dflt i hil (Nat.le_refl _),hg_ [] i hi (Nat.le_refl _),List.drop_eq_nil_of_le (by simp;omega),List.drop_eq_nil_of_le (by simp;omega),List.append_nil,List.append_nil]
         rw [s2] at hF
         have hs':(o.names.getD i [] == x)=false:=by simpa using hs
         simp only [hb,hs',cond_true,cond_false,Bool.not_true,Bool.not_false]
         repeat' (first|apply And.intro|intro _)
         all_goals (first|contradiction|exact hF|trivial|(simp;omega))
     · have hb:(!Op.bytesLess (o.names.getD i []) x)=false:=by rw [hx hle];exact decide_eq_false e
       have hs':(o.names.getD i [] == x)=false:=hlt (o.names.getD i []) (by rw [Bool.not_eq_false'] at hb;exact hb)
       have s2:S (i+1)=(false,o.list.take i++[o.list.getD i aa_.dflt],o.names.take i++[o.names.getD i []]):=by
        simp only [S,if_pos (show i+1≤p by omega),cC_ aa_.dflt hil,cC_ [] hi]
       rw [s2] at hF
       simp only [hb,hs',cond_true,cond_false,Bool.not_true,Bool.not_false]
       repeat' (first|apply And.intro|intro _)
       all_goals (first|contradiction|exact hF|trivial|(simp;omega))
   · have s1:S i=(true,o.list.take p++[j]++(o.list.take i).drop q,o.names.take p++[x]++(o.names.take i).drop q):=by simp only [S,if_neg hle]
     have s2:S (i+1)=(true,o.list.take p++[j]++(o.list.take i).drop q++[o.list.getD i aa_.dflt],o.names.take p++[x]++(o.names.take i).drop q++[o.names.getD i []]):=by
      simp only [S,if_neg (show ¬ i+1≤p by omega)]
      rw [hg_ aa_.dflt p hil (by omega),hg_ [] p hi (by omega)]
     have hs':=hne i (by omega) hi
     rw [s1] at hln hll ⊢
     rw [s2] at hF
     simp only [hs',cond_true,cond_false,Bool.not_true,Bool.not_false]
     repeat' (first|apply And.intro|intro _)
     all_goals (first|contradiction|exact hF|trivial|(simp at hln hll ⊢;omega))
 · simp only [bx_.turn5,bx_.step5,eU_,b7_,cond_false,ao_,bn_,af_]
   unfold nQ_
   rw [←hp,←hq]
   by_cases hle:o.names.length≤p
   · have e:p=o.names.length:=by omega
     have hqv:q=p:=by rw [hq];unfold f2_;rw [←hp,if_neg (fun h=>by omega)]
     have s1:S o.names.length=(false,o.list,o.names):=by simp only [S,if_pos hle,List.take_length];rw [List.take_of_length_le (by omega)]
     rw [s1,hqv,e,List.take_of_length_le (l:=o.list) (by omega),List.drop_eq_nil_of_le (show o.list.length≤o.names.length by omega),List.take_length,List.drop_length]
     refine ⟨fun _=>⟨by simp;omega,by simp;omega,by simp⟩,fun h=>(by cases h)⟩
   · have s1:S o.names.length=(true,o.list.take p++[j]++o.list.drop q,o.names.take p++[x]++o.names.drop q):=by simp only [S,if_neg hle,List.take_length];rw [hT]
     rw [s1]
     exact ⟨fun h=>(by cases h),fun _=>rfl⟩
end Go.Pi
end
section
namespace Go.Pi
theorem fu_:∀ (x y:Bs),Op.bytesLess x y=decide (x<y)
 |[],[]=>by simp [Op.bytesLess]
 |_::_,[]=>by simp [Op.bytesLess]
 |[],_::_=>by simp [Op.bytesLess]
 |a::x,b::y=>by
  rw [Op.bytesLess,fu_ x y]
  simp only [List.cons_lt_cons_iff]
  by_cases h1:a<b<;>by_cases h2:a=b<;>by_cases h3:x<y<;>simp [h1,h2,h3]
theorem less_ne {x y:Bs} (h:Op.bytesLess y x=true):(y == x)=false:=by
 rw [fu_] at h
 exact beq_eq_false_iff_ne.2 fun e=>by subst e;exact List.lt_irrefl y (of_decide_eq_true h)
end Go.Pi
end
section
namespace Go.Pi
def is_:aa_:=aa_.mk 0 0 [] [] []
def da_ (j:aa_):aa_:=cond (cB_ j) j is_
theorem iq_ {j:aa_} (h:gh_ 6 j):Ev (fun n _=>cD_ n j) (da_ j):=by
 refine as_ ?_
 simp only [cD_,bN_,ab_ (eV_ h),ao_,af_,da_,is_]
 cases cB_ j<;>simp
end Go.Pi
end
section
namespace Go.Pi
theorem m3_ {d:Nat} {j:aa_} (h:cs_ (d+1) j≤400):j.names.length≤400:=by
 have h1:=iu_ h
 have ho:=(hi_ h).1
 by_cases hk:j.kind=5
 · have:=(ho.obj hk).1;omega
 · have:FOwn j=true:=by
    simp only [cs_] at h
    cases hf:FOwn j with
    |true=>rfl
    |false=>rw [hf,cond_false] at h;omega
   unfold FOwn at this
   simp only [Bool.and_eq_true,Bool.or_eq_true] at this
   rcases this.2.1 with h2|h2
   · have:=of_decide_eq_true h2;omega
   · exact absurd (by simpa using h2) hk
theorem el_:∀ (d:Nat) (j:aa_),cs_ d j≤400→Ev (fun n _=>aS_ n j) j
 |0,j,h=>by simp only [cs_] at h;omega
 |d+1,j,h=>by
  have hll:=iu_ h
  have hnl:=m3_ h
  refine as_ ?_
  have hc:Ev (fun n _=>cz_ n j.names) j.names:=as_ (by simp only [cz_,bn_,af_,List.nil_append,List.length_nil,and_true];omega)
  simp only [aS_,ab_ hc]
  have:=dT_ (fun i=>j.list.take i) j.list.length (fun n N i (o:List aa_)=>aS_.loop4 n (aS_ n) (fun xy3 xy4 xy5 xy6 xy7 xy8 xy9 xy10=>(some (aa_.mk xy6 xy7 xy8 xy9 xy10))) N j.list (j.list.length:Int) (i:Int) 0 0 [] j.kind j.n_ j.s o j.names) j (fun i hi F hF => ?_) ?_
  · exact this
  · have hp:=j4_ h hi
    have hx:=el_ d (j.list.getD i aa_.dflt) hp.size
    rw [cC_ aa_.dflt hi] at hF
    simp only [aS_.turn4,aS_.step4,bN_,Int.toNat_natCast,W_up hi (show j.list.length≤bR_ by simp only [bR_];omega),ao_,bl_,bn_,ct_ hi,b9_ hi,ab_ hx]
    exact ⟨fun _=>⟨trivial,by simp;omega,hF⟩,fun h=>(by cases h)⟩
  · simp only [aS_.turn4,aS_.step4,b7_,cond_false,List.take_length,af_,eU_]
theorem eR_:∀ (d:Nat) (j:aa_),cs_ d j≤400→Ev (fun n _=>bd_ n j) j
 |0,j,h=>by simp only [cs_] at h;omega
 |d+1,j,h=>by
  have hll:=iu_ h
  have hnl:=m3_ h
  refine as_ ?_
  simp only [bd_,bn_,List.nil_append,List.length_nil]
  refine ⟨by omega,?_⟩
  have:=dT_ (fun i=>j.list.take i) j.list.length (fun n N i (o:List aa_)=>bd_.loop4 n (bd_ n) (fun xy2 xy3 xy4 xy5 xy6 xy7 xy8 xy9=>(some (aa_.mk xy5 xy6 xy7 xy8 xy9))) N (i:Int) j.kind j.n_ j.s j.list j.names 0 0 [] j.kind j.n_ j.s o j.names) j (fun i hi F hF => ?_) ?_
  · exact this
  · have hp:=j4_ h hi
    have hx:=eR_ d (j.list.getD i aa_.dflt) hp.size
    rw [cC_ aa_.dflt hi] at hF
    simp only [bd_.turn4,bd_.step4,bN_,Int.toNat_natCast,W_up hi (show j.list.length≤bR_ by simp only [bR_];omega),ao_,bl_,bn_,ct_ hi,b9_ hi,ab_ hx]
    exact ⟨fun _=>⟨trivial,by simp;omega,hF⟩,fun h=>(by cases h)⟩
  · simp only [bd_.turn4,bd_.step4,b7_,cond_false,List.take_length,af_,eU_]
def oJ_ (j:aa_):Bool:=(j.kind == 0)&&((j.n_ == 0)&&((j.s == [])&&(decide (j.list.length=0)&&decide (j.names.length=0))))
theorem len_zero {α:Type} (l:List α):((l.length:Int) == 0)=decide (l.length=0):=by
 by_cases h:l.length=0
 · rw [h];rfl
 · rw [decide_eq_false h];simp;intro e;exact h (by rw [e];rfl)
theorem kY_ {j:aa_}:Ev (fun n _=>dB_ n j) (oJ_ j):=by
 refine as_ ?_
 simp only [dB_,ao_,af_,oJ_,len_zero]
 cases (j.kind == 0)<;>cases (j.n_ == 0)<;>cases (j.s == [])<;>cases decide (j.list.length=0)<;>simp
theorem qm_ (d:Nat) (j:aa_):ee_ (d+1) j is_=oJ_ j:=by
 simp only [ee_,is_,ha_,oJ_,List.length_nil]
 by_cases h1:j.names.length=0
 · by_cases h2:j.list.length=0
   · rw [h1,h2];simp [g6_,fw_]
   · have h2:j.list≠[]:=fun e=>h2 (by rw [e];rfl)
     simp [h2]
 · have h1:j.names≠[]:=fun e=>h1 (by rw [e];rfl)
   simp [h1]
def pI_ (w:List Bs):Bool:=g6_ (fun i=>jt_ (w.getD i [])) w.length
def kI_ (o:TOp):Bool:=inn o.kind 1 4&&(decide (o.way.length≤6)&&(cB_ o.value&&(pI_ o.way&&((o.kind != 2)||oJ_ o.value))))
def n8_ (o:TOp):Prop:=lenNs bR_ o.way∧gh_ 6 o.value
theorem j6_ (o:TOp):TOp.mk o.kind o.way o.value=o:=rfl
theorem gt_le {n:Nat}:decide ((n:Int) > 6) = !decide (n≤6):=by
 by_cases h:n≤6
 · rw [decide_eq_true h,decide_eq_false (by omega)];rfl
 · rw [decide_eq_false h,decide_eq_true (by omega)];rfl
theorem le_le {n:Nat}:decide ((n:Int)≤6)=decide (n≤6):=by
 by_cases h:n≤6
 · rw [decide_eq_true h,decide_eq_true (by omega)]
 · rw [decide_eq_false h,decide_eq_false (by omega)]
theorem mM_ {o:TOp} (h:n8_ o):Ev (fun n _=>cb_ n o) (kI_ o):=by
 refine as_ ?_
 simp only [cb_,bN_,e9_,ab_ (dW_ h.2),ao_,af_,gt_le,kI_]
 cases hj:cB_ o.value with
 |false=>cases inn o.kind 1 4<;>cases decide (o.way.length≤6)<;>simp
 |true=>
  have hS:=fQ_ 6 o.value is_ (hu_ 6 o.value (of_decide_eq_true hj)) h.2
  rw [qm_] at hS
  unfold is_ at hS
  have hl:Ev (fun n _=>cb_.loop6 n (fun xy4 xy5 xy6 xy7 xy8 xy9 xy10=>(cond (xy4 != 2) (some true) ((av_ n (aa_.mk xy6 xy7 xy8 xy9 xy10) (aa_.mk 0 0 [] [] [])).bind fun xr11=>(some xr11)))) n 0 o.kind o.way o.value.kind o.value.n_ o.value.s o.value.list o.value.names) (pI_ o.way&&((o.kind != 2)||oJ_ o.value)):=by
   refine d5_ (fun n N i=>cb_.loop6 n (fun xy4 xy5 xy6 xy7 xy8 xy9 xy10=>(cond (xy4 != 2) (some true) ((av_ n (aa_.mk xy6 xy7 xy8 xy9 xy10) (aa_.mk 0 0 [] [] [])).bind fun xr11=>(some xr11)))) N (i:Int) o.kind o.way o.value.kind o.value.n_ o.value.s o.value.list o.value.names) _ (fun i w hi ih => ?_) ?_
   · simp only [cb_.turn6,cb_.step6,Int.toNat_natCast,W_up hi h.1.1,ao_,bl_,ab_ (fP_ (iC_ h.1 i)),af_,c0_ ih,ct_ hi,b9_ hi]
     cases jt_ (o.way.getD i [])<;>simp
   · simp only [cb_.turn6,cb_.step6,b7_,cond_false,eU_,ao_,ab_ hS,af_]
     cases (o.kind != 2)<;>simp
  simp only [c0_ hl]
  cases inn o.kind 1 4<;>cases decide (o.way.length≤6)<;>simp
theorem nj_ {o:TOp} (h:n8_ o):Ev (fun n _=>cg_ n o) (kI_ o):=by
 refine as_ ?_
 simp only [cg_]
 have e:kI_ o=(pI_ o.way&&(inn o.kind 1 4&&(decide (o.way.length≤6)&&(cB_ o.value&&((o.kind != 2)||oJ_ o.value))))):=by
  unfold kI_
  cases inn o.kind 1 4<;>cases decide (o.way.length≤6)<;>cases cB_ o.value<;>cases pI_ o.way<;>simp
 rw [e]
 refine d5_ (fun n N i=>cg_.loop3 n (fun xy2 xy3 xy4 xy5 xy6 xy7 xy8=>((az_ n xy2 1 4).bind fun xr9=>(cond xr9 (cond (decide ((xy3.length:Int)≤6)) ((cZ_ n (aa_.mk xy4 xy5 xy6 xy7 xy8)).bind fun xr10=>(cond xr10 (cond (xy2 != 2) (some true) ((dB_ n (aa_.mk xy4 xy5 xy6 xy7 xy8)).bind fun xr11=>(some xr11))) (some false))) (some false)) (some false)))) N o.way (o.way.length:Int) (i:Int) o.kind o.way o.value.kind o.value.n_ o.value.s o.value.list o.value.names) _ (fun i w hi ih => ?_) ?_
 · simp only [cg_.turn3,cg_.step3,Int.toNat_natCast,W_up hi h.1.1,ao_,bl_,ab_ (fV_ (iC_ h.1 i)),af_,c0_ ih,ct_ hi,b9_ hi]
   cases jt_ (o.way.getD i [])<;>simp
 · simp only [cg_.turn3,cg_.step3,b7_,cond_false,eU_,ao_,h8_,le_le,ab_ (eV_ h.2),ab_ kY_,af_]
   cases inn o.kind 1 4<;>cases decide (o.way.length≤6)<;>cases cB_ o.value<;>cases (o.kind != 2)<;>simp
def gw_ (k:Int):Bs:=cond (k == 1) [97,100,100] (cond (k == 2) [114,101,109,111,118,101] (cond (k == 3) [114,101,112,108,97,99,101] [116,101,115,116]))
def txtJ (s:Bs):aa_:=aa_.mk 3 0 s [] []
abbrev nmOp:Bs:=[111,112]
abbrev j7_:Bs:=[112,97,116,104]
abbrev iQ_:Bs:=[118,97,108,117,101]
def jj_ (o:TOp):aa_:=cond (o.kind == 2) (aa_.mk 5 0 [] [txtJ (gw_ o.kind),txtJ (FWay o.way)] [nmOp,j7_]) (aa_.mk 5 0 [] [txtJ (gw_ o.kind),txtJ (FWay o.way),o.value] [nmOp,j7_,iQ_])
def dD_ (o:TOp):aa_:=cond (kI_ o) (da_ (jj_ o)) is_
theorem oa_:∀ (d:Nat) (j:aa_),gh_ (d+1) j→gh_ d j
 |0,_,_=>trivial
 |d+1,j,h=>⟨h.1,h.2.1,fun x hx=>oa_ d x (h.2.2 x hx)⟩
theorem jz_ {s:Bs} (h:s.length≤bR_):∀ d,gh_ d (txtJ s)
 |0=>trivial
 |d+1=>⟨⟨h,Nat.zero_le _,fun x hx=>(by cases hx)⟩,Nat.zero_le _,fun x hx=>(by cases hx)⟩
theorem fr_:∀ d,gh_ d is_
 |0=>trivial
 |d+1=>⟨⟨Nat.zero_le _,Nat.zero_le _,fun x hx=>(by cases hx)⟩,Nat.zero_le _,fun x hx=>(by cases hx)⟩
structure OpIs (o:TOp):Prop where
 kind:o.kind=1∨o.kind=2∨o.kind=3∨o.kind=4
 way:o.way.length≤6
 text:∀ s ∈ o.way,s.length≤60
 val:cs_ 6 o.value≤400
theorem op_is {o:TOp} (h:kI_ o=true):OpIs o:=by
 unfold kI_ at h
 simp only [Bool.and_eq_true] at h
 obtain ⟨h1,h2,h3,h4,_⟩:=h
 have hk:=hn_ h1
 refine ⟨by omega,of_decide_eq_true h2,fun s hs => ?_,of_decide_eq_true h3⟩
 obtain ⟨i,hi,e⟩:=List.mem_iff_getElem.1 hs
 have:=fi_.1 h4 i hi
 rw [List.getD_eq_getElem?_getD,List.getElem?_eq_getElem hi,Option.getD_some,e] at this
 exact kF_ this
theorem name_len (k:Int):(gw_ k).length≤60:=by
 unfold gw_
 cases (k == 1)<;>cases (k == 2)<;>cases (k == 3)<;>simp
theorem iR_ {o:TOp} (h:n8_ o) (ho:OpIs o):gh_ 6 (jj_ o):=by
 have hw:=my_ ho.text
 have hwl:=ho.way
 have hw2:(FWay o.way).length≤bR_:=by simp only [bR_];omega
 have hn:(gw_ o.kind).length≤bR_:=by have:=name_len o.kind;simp only [bR_];omega
 have hv:=oa_ 5 _ h.2
 unfold jj_
 cases (o.kind == 2) with
 |true=>
  refine ⟨⟨Nat.zero_le _,by show 2≤bR_;decide,fun x hx => ?_⟩,by show 2≤bR_;decide,fun x hx => ?_⟩
  · simp at hx;rcases hx with e|e<;>(rw [e];decide)
  · simp at hx;rcases hx with e|e
    · rw [e];exact jz_ hn 5
    · rw [e];exact jz_ hw2 5
 |false=>
  refine ⟨⟨Nat.zero_le _,by show 3≤bR_;decide,fun x hx => ?_⟩,by show 3≤bR_;decide,fun x hx => ?_⟩
  · simp at hx;rcases hx with e|e|e<;>(rw [e];decide)
  · simp at hx;rcases hx with e|e|e
    · rw [e];exact jz_ hn 5
    · rw [e];exact jz_ hw2 5
    · rw [e];exact hv
theorem n9_ {o:TOp} (h:n8_ o):gh_ 6 (dD_ o):=by
 unfold dD_
 cases ho:kI_ o with
 |false=>exact fr_ 6
 |true=>
  unfold da_
  cases cB_ (jj_ o) with
  |false=>exact fr_ 6
  |true=>exact iR_ h (op_is ho)
theorem put_value (a b v:aa_):Ev (fun n _=>bx_ n (aa_.mk 5 0 [] [a,b] [nmOp,j7_]) iQ_ v) (aa_.mk 5 0 [] [a,b,v] [nmOp,j7_,iQ_]) :=
 ia_ (o:=aa_.mk 5 0 [] [a,b] [nmOp,j7_]) (j:=v) (x:=iQ_) (by show 2≤2000000;decide) rfl (fun _=>less_ne) (fun i h1 h2=>by
  have:f2_ [nmOp,j7_] iQ_=2:=by decide
  have h2:i<2:=h2
  have h1:f2_ [nmOp,j7_] iQ_≤i:=h1
  omega)
theorem hE_ {o:TOp} (h:n8_ o):Ev (fun n _=>dJ_ n o) (dD_ o):=by
 refine as_ ?_
 have hN:Ev (fun n _=>dt_ n ()) [[],[97,100,100],[114,101,109,111,118,101],[114,101,112,108,97,99,101],[116,101,115,116]]:=as_ (by simp only [dt_,af_])
 simp only [dJ_,bN_,j6_,ab_ (mM_ h),ao_,af_]
 unfold dD_
 cases ho:kI_ o with
 |false=>exact ⟨fun _=>rfl,fun h=>(by cases h)⟩
 |true=>
  refine ⟨fun h=>(by cases h),fun _ => ?_⟩
  have hi:=op_is ho
  have hV:=dW_ (iR_ h hi)
  have hCp:=eR_ 6 o.value hi.val
  simp only [ab_ hN,bl_,ab_ (jR_ hi.way hi.text)]
  unfold da_ is_ jj_ txtJ gw_
  unfold jj_ txtJ gw_ at hV
  rcases hi.kind with hk|hk|hk|hk
  all_goals (
   simp only [hk,Int.reduceBEq,cond_true,cond_false] at hV
   simp only [hk,Int.reduceBEq,cond_true,cond_false,bne,Bool.not_false,Bool.not_true,Int.reduceToNat,List.getD_cons_succ,List.getD_cons_zero,ao_,ab_ hCp,ab_ (put_value _ _ _),ab_ hV,af_]
   refine ⟨⟨by decide,by decide⟩,?_⟩
   generalize cB_ _=q
   cases q<;>simp)
theorem hL_ {o:TOp} (h:n8_ o):Ev (fun n _=>dO_ n o) (dD_ o):=by
 refine as_ ?_
 have hN:Ev (fun n _=>dx_ n ()) [[97,100,100],[114,101,109,111,118,101],[114,101,112,108,97,99,101],[116,101,115,116]]:=as_ (by simp only [dx_,af_])
 simp only [dO_,bN_,j6_,ab_ (nj_ h),ao_,af_]
 unfold dD_
 cases ho:kI_ o with
 |false=>exact ⟨fun _=>rfl,fun h=>(by cases h)⟩
 |true=>
  refine ⟨fun h=>(by cases h),fun _ => ?_⟩
  have hi:=op_is ho
  have hV:=iq_ (iR_ h hi)
  have hCp:=el_ 6 o.value hi.val
  simp only [ab_ hN,bl_,ab_ (kp_ hi.way hi.text)]
  simp only [cond_true]
  unfold jj_ txtJ gw_
  unfold jj_ txtJ gw_ at hV
  have w1:W ((1:Int) - 1)=0:=by rw [W_id (by decide) (by decide)];rfl
  have w2:W ((2:Int) - 1)=1:=by rw [W_id (by decide) (by decide)];rfl
  have w3:W ((3:Int) - 1)=2:=by rw [W_id (by decide) (by decide)];rfl
  have w4:W ((4:Int) - 1)=3:=by rw [W_id (by decide) (by decide)];rfl
  rcases hi.kind with hk|hk|hk|hk
  all_goals (
   simp only [hk,Int.reduceBEq,cond_true,cond_false] at hV
   simp only [hk,w1,w2,w3,w4,Int.reduceBEq,cond_true,cond_false,bne,Bool.not_false,Bool.not_true,Int.reduceToNat,List.getD_cons_succ,List.getD_cons_zero,List.cons_append,List.nil_append,ao_,bn_,ab_ hCp,ab_ hV,af_,true_implies,false_implies,reduceCtorEq,and_true,true_and]
   simp only [List.length_cons,List.length_nil]
   decide)
end Go.Pi
end
section
namespace Go.Pi
theorem isNaN_ev {x:Bs}:Ev (fun n _=>b5_ n x) false:=as_ (by simp [b5_,af_])
theorem isNaN2_ev {x:Bs}:Ev (fun n _=>cu_ n x) false:=as_ (by simp [cu_,af_])
theorem qj_ {x y:Bs}:Ev (fun n _=>cK_ n x y) (Op.bytesLess x y):=by
 refine as_ ?_
 simp only [cK_,ab_ isNaN2_ev,ao_,af_]
 cases Op.bytesLess x y<;>simp
theorem half {i j:Nat} (h:i+j≤4000000):W (Int.fdiv (IntKind.u64.wrap (W ((i:Int)+(j:Int)))) (2 ^ min (1:Int).toNat (IntKind.bits .u64)))=(((i+j) / 2:Nat):Int):=by
 have e1:W ((i:Int)+(j:Int))=((i+j:Nat):Int):=by rw [W_id (by omega) (by omega)];omega
 have e2:IntKind.u64.wrap ((i+j:Nat):Int)=((i+j:Nat):Int):=by
  show (((i+j:Nat):Int)) % _=_
  exact Int.emod_eq_of_lt (by omega) (by have:((i+j:Nat):Int)≤4000000:=by omega
                                         exact Int.lt_of_le_of_lt this (by decide))
 have e3:(2:Int) ^ min (1:Int).toNat (IntKind.bits .u64)=2:=by decide
 rw [e1,e2,e3,Int.fdiv_eq_ediv_of_nonneg _ (by decide)]
 rw [W_id (by omega) (by omega)];omega
theorem kQ_ {ns:List Bs} {x:Bs} (hl:ns.length≤2000000) (hM:∀ h,h<ns.length→Op.bytesLess (ns.getD h []) x=decide (h<d2_ ns x)) :
  Ev (fun n _=>ak_ n ns x) ((d2_ ns x:Int),decide (d2_ ns x<ns.length)&&(ns.getD (d2_ ns x) [] == x)):=by
 refine as_ ?_
 have hpl:d2_ ns x≤ns.length:=List.findIdx_le_length
 obtain ⟨p,hp⟩:∃ p,p=d2_ ns x:=⟨_,rfl⟩
 rw [←hp] at hpl hM ⊢
 simp only [ak_]
 have key:∀ (d i j:Nat),j - i≤d→i≤p→p≤j→j≤ns.length→Ev (fun n N=>ak_.loop4 n (fun xy3 xy4 xy5 xy6=>(cond (decide (xy6<xy5)) (inB xy6 xy3.length (cond ((xy3.getD xy6.toNat []) == xy4) (some (xy6,true)) (inB xy6 xy3.length ((b5_ n (xy3.getD xy6.toNat [])).bind fun xr7=>(cond xr7 ((b5_ n xy4).bind fun xr8=>(some (xy6,xr8))) (some (xy6,false))))))) (some (xy6,false)))) N ns x (ns.length:Int) (i:Int) (j:Int)) ((p:Int),decide (p<ns.length)&&(ns.getD p [] == x)):=by
  intro d
  induction d with
  |zero=>
   intro i j hd h1 h2 h3
   have e:i=p:=by omega
   have e':j=p:=by omega
   subst e;subst e'
   refine cr_ ?_
   simp only [ak_.turn4,ak_.step4,Int.lt_irrefl,decide_false,cond_false,ao_,bl_,af_,Int.toNat_natCast,ab_ isNaN_ev]
   by_cases hc:j<ns.length
   · rw [decide_eq_true hc,decide_eq_true (show (j:Int)<(ns.length:Int) by omega)]
     cases hs:(ns.getD j [] == x)<;>simp<;>omega
   · rw [decide_eq_false hc,decide_eq_false (show ¬ (j:Int)<(ns.length:Int) by omega)]
     exact ⟨fun h=>(by cases h),fun _=>rfl⟩
  |succ d ih=>
   intro i j hd h1 h2 h3
   by_cases hij:i<j
   · have hh:=half (i:=i) (j:=j) (by omega)
     have hm:(i+j) / 2<ns.length:=by omega
     refine cr_ ?_
     simp only [ak_.turn4,ak_.step4,hh,decide_eq_true (show (i:Int)<(j:Int) by omega),cond_true,ao_,bl_,Int.toNat_natCast,ab_ qj_,b9_ hm,hM _ hm,W_up hm (show ns.length≤bR_ by simp only [bR_];omega)]
     refine ⟨trivial,fun hc => ?_,fun hc => ?_⟩
     · have hc:=of_decide_eq_true hc
       exact ih ((i+j) / 2+1) j (by omega) (by omega) h2 h3
     · have hc:=of_decide_eq_false hc
       exact ih i ((i+j) / 2) (by omega) h1 (by omega) (by omega)
   · exact ih i j (by omega) h1 h2 h3
 exact en_ (f:=fun n N=>ak_.loop4 n _ N ns x (ns.length:Int) 0 (ns.length:Int)) (key ns.length 0 ns.length (by omega) (Nat.zero_le _) hpl (Nat.le_refl _))
end Go.Pi
end
section
namespace Go.Pi
def ins (x:Bs) (y:Int):List (Bs × Int)→List (Bs × Int)
 |[]=>[(x,y)]
 |(k,v)::l=>if k<x then (k,v)::ins x y l else if k=x then (x,y)::l else (x,y)::(k,v)::l
def eL_:List (Bs × Int)→Prop
 |[]=>True
 |(k,_)::l=>(∀ p ∈ l,k<p.1)∧eL_ l
theorem mg_ {x:Bs} {y:Int}:∀ {l:List (Bs × Int)} {p:Bs × Int},p ∈ ins x y l→p=(x,y)∨p ∈ l
 |[],p,h=>by simp only [ins,List.mem_singleton] at h;exact .inl h
 |(k,v)::l,p,h=>by
  simp only [ins] at h
  split at h
  · rcases List.mem_cons.1 h with h|h
    · exact .inr (h ▸ List.mem_cons_self ..)
    · rcases mg_ h with h|h
      · exact .inl h
      · exact .inr (List.mem_cons_of_mem _ h)
  · split at h
    · rcases List.mem_cons.1 h with h|h
      · exact .inl h
      · exact .inr (List.mem_cons_of_mem _ h)
    · rcases List.mem_cons.1 h with h|h
      · exact .inl h
      · exact .inr h
theorem mY_ {a b:Bs} (h1:¬ a<b) (h2:a≠b):b<a:=by
 rcases Decidable.em (b<a) with h|h
 · exact h
 · exact absurd (List.le_antisymm (List.not_lt.1 h) (List.not_lt.1 h1)) h2
theorem oe_ {x:Bs} {y:Int}:∀ {l:List (Bs × Int)},eL_ l→eL_ (ins x y l)
 |[],_=>⟨fun p hp=>(by cases hp),trivial⟩
 |(k,v)::l,h=>by
  simp only [ins]
  split
  · rename_i hk
    exact ⟨fun p hp=>(mg_ hp).elim (fun e=>e ▸ hk) (h.1 p),oe_ h.2⟩
  · split
    · rename_i h1 h2
      subst h2
      exact ⟨h.1,h.2⟩
    · rename_i h1 h2
      have hx:=mY_ h1 h2
      exact ⟨fun p hp=>by
       rcases List.mem_cons.1 hp with e|hp
       · rw [e];exact hx
       · exact List.lt_trans hx (h.1 p hp),h⟩
end Go.Pi
end
section
namespace Go.Pi
theorem tri (a b:Bs):a<b∧¬ b<a∧a≠b∧b≠a∨a=b∧¬ a<b∧¬ b<a∨b<a∧¬ a<b∧a≠b∧b≠a:=by
 by_cases h1:a<b
 · exact .inl ⟨h1,List.lt_asymm h1,fun e=>List.lt_irrefl b (e ▸ h1),fun e=>List.lt_irrefl b (e ▸ h1)⟩
 · by_cases h2:a=b
   · subst h2;exact .inr (.inl ⟨rfl,h1,h1⟩)
   · exact .inr (.inr ⟨mY_ h1 h2,h1,h2,fun e=>h2 e.symm⟩)
theorem pi_ {x x':Bs} {y y':Int} (hne:x≠x'):∀ l:List (Bs × Int),ins x y (ins x' y' l)=ins x' y' (ins x y l)
 |[]=>by
  rcases tri x x' with ⟨h1,h2,h3,h4⟩|⟨h1,_⟩|⟨h1,h2,h3,h4⟩
  · simp only [ins,if_pos h1,if_neg h2,if_neg h4]
  · exact absurd h1 hne
  · simp only [ins,if_pos h1,if_neg h2,if_neg h3]
 |(k,v)::l=>by
  have ih:=pi_ (y:=y) (y':=y') hne l
  rcases tri x x' with ⟨h1,h2,h3,h4⟩|⟨h1,_⟩|⟨h1,h2,h3,h4⟩
  · rcases tri k x with ⟨a1,a2,a3,a4⟩|⟨a1,a2,a3⟩|⟨a1,a2,a3,a4⟩
    · have b1:k<x':=List.lt_trans a1 h1
      simp only [ins,if_pos a1,if_pos b1,ih]
    · subst a1
      simp only [ins,if_pos h1,if_neg a2,if_true]
    · rcases tri k x' with ⟨b1,b2,b3,b4⟩|⟨b1,b2,b3⟩|⟨b1,b2,b3,b4⟩
      · simp only [ins,if_pos b1,if_neg a2,if_neg a3,if_pos h1]
      · subst b1
        simp only [ins,if_neg a2,if_neg a3,if_neg b2,if_pos h1,if_neg h2,if_neg h4,if_true]
      · simp only [ins,if_neg a2,if_neg a3,if_neg b2,if_neg b3,if_pos h1,if_neg h2,if_neg h4]
  · exact absurd h1 hne
  · rcases tri k x' with ⟨a1,a2,a3,a4⟩|⟨a1,a2,a3⟩|⟨a1,a2,a3,a4⟩
    · have b1:k<x:=List.lt_trans a1 h1
      simp only [ins,if_pos a1,if_pos b1,ih]
    · subst a1
      simp only [ins,if_pos h1,if_neg a2,if_true]
    · rcases tri k x with ⟨b1,b2,b3,b4⟩|⟨b1,b2,b3⟩|⟨b1,b2,b3,b4⟩
      · simp only [ins,if_pos b1,if_neg a2,if_neg a3,if_pos h1]
      · subst b1
        simp only [ins,if_neg a2,if_neg a3,if_neg b2,if_pos h1,if_neg h2,if_neg h3,if_true]
      · simp only [ins,if_neg a2,if_neg a3,if_neg b2,if_neg b3,if_pos h1,if_neg h2,if_neg h3]
end Go.Pi
end
section
namespace Go.Pi
theorem putL_nil {α:Type} {x:Bs} {y:α}:nQ_ [] x [] y=[y]:=by
 simp [nQ_]
theorem putL_cons {α:Type} {k x:Bs} {ns:List Bs} {a y:α} {l:List α}:nQ_ (k::ns) x (a::l) y=if k<x then a::nQ_ ns x l y else if k=x then y::l else y::a::l:=by
 by_cases h:k<x
 · have hb:Op.bytesLess k x=true:=by rw [fu_];exact decide_eq_true h
   have e1:d2_ (k::ns) x=d2_ ns x+1:=by unfold d2_;rw [List.findIdx_cons];simp [hb]
   have e2:f2_ (k::ns) x=f2_ ns x+1:=by
    unfold f2_
    rw [e1]
    simp only [List.getD_cons_succ,List.length_cons,Nat.add_lt_add_iff_right]
    split<;>rfl
   rw [if_pos h]
   unfold nQ_
   rw [e1,e2];simp
 · have hb:Op.bytesLess k x=false:=by rw [fu_];exact decide_eq_false h
   have e1:d2_ (k::ns) x=0:=by unfold d2_;rw [List.findIdx_cons];simp [hb]
   rw [if_neg h]
   unfold nQ_ f2_
   rw [e1]
   by_cases h2:k=x
   · simp [h2]
   · simp [h2]
theorem io_ {α:Type} (g:Bs × Int→α) (x:Bs) (y:Int):∀ l:List (Bs × Int),nQ_ (l.map (·.1)) x (l.map g) (g (x,y))=(ins x y l).map g
 |[]=>by simp only [List.map_nil,ins,List.map_cons];exact putL_nil
 |(k,v)::l=>by
  simp only [List.map_cons,putL_cons,ins]
  split
  · rw [io_ g x y l];rfl
  · split<;>rfl
end Go.Pi
end
section
namespace Go.Pi
theorem pS_ {k x:Bs} {ns:List Bs}:f2_ (k::ns) x=if k<x then f2_ ns x+1 else if k=x then 1 else 0:=by
 by_cases h:k<x
 · have hb:Op.bytesLess k x=true:=by rw [fu_];exact decide_eq_true h
   have e1:d2_ (k::ns) x=d2_ ns x+1:=by unfold d2_;rw [List.findIdx_cons];simp [hb]
   unfold f2_
   rw [e1,if_pos h]
   simp only [List.getD_cons_succ,List.length_cons,Nat.add_lt_add_iff_right]
   split<;>rfl
 · have hb:Op.bytesLess k x=false:=by rw [fu_];exact decide_eq_false h
   have e1:d2_ (k::ns) x=0:=by unfold d2_;rw [List.findIdx_cons];simp [hb]
   rw [if_neg h]
   unfold f2_
   rw [e1]
   by_cases h2:k=x
   · simp [h2]
   · simp [h2]
theorem asc_ne {x:Bs}:∀ {l:List (Bs × Int)},eL_ l→∀ i,f2_ (l.map (·.1)) x≤i→i<(l.map (·.1)).length→((l.map (·.1)).getD i [] == x)=false
 |[],_,i,_,hi=>by simp at hi
 |(k,v)::l,h,i,hp,hi=>by
  simp only [List.map_cons,pS_] at hp
  have later:∀ i',i'<(l.map (·.1)).length→k<(l.map (·.1)).getD i' []:=fun i' hi'=>by
   have hm:=bH_ (d:=([]:Bs)) (a:=l.map (·.1)) (i:=i') hi'
   obtain ⟨p,hp,e⟩:=List.mem_map.1 hm
   rw [←e];exact h.1 p hp
  cases i with
  |zero=>
   simp only [List.map_cons,List.getD_cons_zero]
   by_cases h1:k<x
   · rw [if_pos h1] at hp;omega
   · rw [if_neg h1] at hp
     by_cases h2:k=x
     · rw [if_pos h2] at hp;omega
     · exact beq_eq_false_iff_ne.2 h2
  |succ i=>
   have hi':i<(l.map (·.1)).length:=by simpa using hi
   simp only [List.map_cons,List.getD_cons_succ]
   by_cases h1:k<x
   · rw [if_pos h1] at hp
     exact asc_ne h.2 i (by omega) hi'
   · refine beq_eq_false_iff_ne.2 fun e=>h1 ?_
     rw [←e];exact later i hi'
def hH_ (n:Int):aa_:=aa_.mk 2 n [] [] []
def nR_ (l:List (Bs × Int)):aa_:=aa_.mk 5 0 [] (l.map fun p=>hH_ p.2) (l.map (·.1))
theorem ke_ {l:List (Bs × Int)} {x:Bs} {y:Int} (h:eL_ l) (hl:l.length≤2000000):Ev (fun n _=>bx_ n (nR_ l) x (hH_ y)) (nR_ (ins x y l)):=by
 have:=ia_ (o:=nR_ l) (j:=hH_ y) (x:=x) (by simp [nR_];exact hl) (by simp [nR_]) (fun z hz=>by
  rw [fu_] at hz
  exact beq_eq_false_iff_ne.2 fun e=>by subst e;exact List.lt_irrefl z (of_decide_eq_true hz)) (fun i h1 h2=>asc_ne h i h1 h2)
 refine eA_ this ?_
 have e1:=io_ (fun p=>hH_ p.2) x y l
 have e2:=io_ (fun p=>p.1) x y l
 show aa_.mk 5 0 [] (nQ_ (l.map (·.1)) x (l.map fun p=>hH_ p.2) (hH_ y)) (nQ_ (l.map (·.1)) x (l.map (·.1)) x)=_
 rw [e1,e2];rfl
end Go.Pi
end
section
namespace Go.Pi
def dval (l:Bs):Nat:=l.foldl (fun a c=>10*a+(c.toNat - 48)) 0
theorem dval_snoc (l:Bs) (c:UInt8):dval (l++[c])=10*dval l+(c.toNat - 48):=by simp [dval]
theorem go_ {u:Nat} (h:u<10):(UInt8.ofNat (48+u)).toNat=48+u:=by
 rw [UInt8.toNat_ofNat'];omega
theorem jB_ (u:Nat):dval (Lib.decDigits u)=u:=by
 induction u using Nat.strongRecOn with
 |_ u ih=>
  rw [Lib.decDigits]
  by_cases h:u<10
  · rw [dif_pos h];simp only [dval,List.foldl_cons,List.foldl_nil,go_ h];omega
  · rw [dif_neg h,dval_snoc,ih _ (by omega),go_ (Nat.mod_lt _ (by decide))];omega
theorem dec_all (u:Nat):∀ c ∈ Lib.decDigits u,48≤c.toNat∧c.toNat≤57:=by
 induction u using Nat.strongRecOn with
 |_ u ih=>
  rw [Lib.decDigits]
  by_cases h:u<10
  · rw [dif_pos h];intro c hc
    rw [List.mem_singleton.1 hc,go_ h];omega
  · rw [dif_neg h];intro c hc
    rcases List.mem_append.1 hc with hc|hc
    · exact ih _ (by omega) c hc
    · rw [List.mem_singleton.1 hc,go_ (Nat.mod_lt _ (by decide))];omega
theorem nx_ {u:Nat} {l:Bs}:Lib.decDigits u≠45::l:=fun e=>by
 have:=(dec_all u 45 (by rw [e];exact List.mem_cons_self ..)).1
 revert this;decide
theorem itoa_inj {x y:Int} (h:Lib.itoa x=Lib.itoa y):x=y:=by
 unfold Lib.itoa at h
 by_cases hx:x<0<;>by_cases hy:y<0
 · rw [if_pos hx,if_pos hy] at h
   have:=congrArg dval (List.cons.inj h).2
   rw [jB_,jB_] at this;omega
 · rw [if_pos hx,if_neg hy] at h;exact absurd h.symm nx_
 · rw [if_neg hx,if_pos hy] at h;exact absurd h nx_
 · rw [if_neg hx,if_neg hy] at h
   have:=congrArg dval h
   rw [jB_,jB_] at this;omega
def eo_ (c:Int):Bs:=99::Lib.itoa c
theorem kw_ {x y:Int} (h:eo_ x=eo_ y):x=y:=itoa_inj (List.cons.inj h).2
def eC_ (r:TRow) (c:Int):Bs × Int:=(eo_ c,eF_ r c)
def cT_ (ps:List (Bs × Int)) (l:List (Bs × Int)):List (Bs × Int):=ps.foldl (fun l p=>ins p.1 p.2 l) l
theorem gj_ (ps:List (Bs × Int)) (p:Bs × Int) (l:List (Bs × Int)):cT_ (ps++[p]) l=ins p.1 p.2 (cT_ ps l):=by simp [cT_]
theorem f4_:∀ (ps:List (Bs × Int)) {l:List (Bs × Int)},eL_ l→eL_ (cT_ ps l)
 |[],_,h=>h
 |p::ps,_,h=>f4_ ps (oe_ h)
theorem hm_:∀ {ps:List (Bs × Int)} {l:List (Bs × Int)} {p:Bs × Int},p ∈ cT_ ps l→p ∈ ps∨p ∈ l
 |[],_,_,h=>.inr h
 |q::ps,l,p,h=>by
  rcases hm_ (ps:=ps) h with h|h
  · exact .inl (List.mem_cons_of_mem _ h)
  · rcases mg_ h with h|h
    · exact .inl (h ▸ List.mem_cons_self ..)
    · exact .inr h
theorem mh_ {x:Bs} {y:Int}:∀ {l:List (Bs × Int)},(ins x y l).length≤l.length+1
 |[]=>Nat.le_refl _
 |(k,v)::l=>by
  have:=mh_ (x:=x) (y:=y) (l:=l)
  simp only [ins]
  split
  · simp only [List.length_cons];omega
  · split<;>simp only [List.length_cons]<;>omega
theorem fo_:∀ {ps:List (Bs × Int)} {l:List (Bs × Int)},(cT_ ps l).length≤l.length+ps.length
 |[],_=>Nat.le_refl _
 |p::ps,l=>by
  have:=fo_ (ps:=ps) (l:=ins p.1 p.2 l)
  have h:=mh_ (x:=p.1) (y:=p.2) (l:=l)
  simp only [List.length_cons]
  show (cT_ ps (ins p.1 p.2 l)).length≤_
  omega
theorem ins_has {x:Bs} {y:Int}:∀ {l:List (Bs × Int)},eL_ l→(x,y) ∈ l→ins x y l=l
 |[],_,h=>by cases h
 |(k,v)::l,ha,h=>by
  simp only [ins]
  rcases List.mem_cons.1 h with e|h
  · cases e;rw [if_neg (List.lt_irrefl _),if_pos rfl]
  · have hk:=ha.1 _ h
    rw [if_pos hk,ins_has ha.2 h]
theorem jd_ {x:Bs} {y:Int}:∀ {l:List (Bs × Int)},(x,y) ∈ ins x y l
 |[]=>List.mem_cons_self ..
 |(k,v)::l=>by
  simp only [ins]
  split
  · exact List.mem_cons_of_mem _ jd_
  · split<;>exact List.mem_cons_self ..
theorem mem_ins {x x':Bs} {y y':Int} (hne:x≠x'):∀ {l:List (Bs × Int)},(x,y) ∈ l→(x,y) ∈ ins x' y' l
 |[],h=>by cases h
 |(k,v)::l,h=>by
  simp only [ins]
  split
  · rcases List.mem_cons.1 h with e|h
    · exact e ▸ List.mem_cons_self ..
    · exact List.mem_cons_of_mem _ (mem_ins hne h)
  · split
    · rename_i h1 h2
      rcases List.mem_cons.1 h with e|h
      · cases e;exact absurd h2 hne
      · exact List.mem_cons_of_mem _ h
    · exact List.mem_cons_of_mem _ h
def dS_ (l:List Int):Nat→List Int
 |0=>[]
 |i+1=>if l.getD i 0 ∈ l.take i then dS_ l i else dS_ l i++[l.getD i 0]
theorem iZ_ {l:List Int}:∀ {i:Nat} {c:Int},i≤l.length→(c ∈ dS_ l i↔c ∈ l.take i)
 |0,c,_=>by simp [dS_]
 |i+1,c,h=>by
  simp only [dS_]
  rw [cC_ 0 (show i<l.length by omega)]
  split
  · rename_i hm
    rw [iZ_ (by omega),List.mem_append,List.mem_singleton]
    exact ⟨.inl,fun h=>h.elim id fun e=>e ▸ hm⟩
  · rw [List.mem_append,List.mem_append,iZ_ (by omega)]
theorem hr_ {l:List Int}:∀ {i:Nat},(dS_ l i).length≤i
 |0=>Nat.le_refl _
 |i+1=>by
  have:=hr_ (l:=l) (i:=i)
  simp only [dS_]
  split
  · omega
  · simp;omega
theorem g2_ {l:List Int}:∀ {i:Nat},i≤l.length→(dS_ l i).Nodup
 |0,_=>List.nodup_nil
 |i+1,h=>by
  simp only [dS_]
  split
  · exact g2_ (by omega)
  · rename_i hm
    rw [List.nodup_append]
    refine ⟨g2_ (by omega),by simp,fun a ha b hb => ?_⟩
    rw [List.mem_singleton.1 hb]
    rw [iZ_ (by omega)] at ha
    exact fun e=>hm (e ▸ ha)
theorem p5_ {r:TRow} {l0:List (Bs × Int)} {cs:List Int} {c:Int} (h:c ∈ cs):eC_ r c ∈ cT_ (cs.map (eC_ r)) l0:=by
 induction cs generalizing l0 with
 |nil=>cases h
 |cons d cs ih=>
  show eC_ r c ∈ cT_ (cs.map (eC_ r)) (ins (eo_ d) (eF_ r d) l0)
  by_cases hc:c ∈ cs
  · exact ih hc
  · have e:c=d:=(List.mem_cons.1 h).resolve_right hc
    subst e
    have key:∀ (es:List Int) (m:List (Bs × Int)),c ∉ es→eC_ r c ∈ m→eC_ r c ∈ cT_ (es.map (eC_ r)) m:=by
     intro es
     induction es with
     |nil=>exact fun m _ h=>h
     |cons e es ih=>
      intro m hn hm
      refine ih _ (fun h=>hn (List.mem_cons_of_mem _ h)) (mem_ins (fun h=>hn ?_) hm)
      rw [kw_ h];exact List.mem_cons_self ..
    exact key cs _ hc jd_
theorem iy_ {r:TRow} {l0:List (Bs × Int)} (h0:eL_ l0) {l:List Int}:∀ {i:Nat},i≤l.length→cT_ ((dS_ l i).map (eC_ r)) l0=cT_ ((l.take i).map (eC_ r)) l0
 |0,_=>by simp [dS_]
 |i+1,h=>by
  rw [cC_ 0 (show i<l.length by omega),List.map_append]
  simp only [dS_]
  have ih:=iy_ (r:=r) h0 (l:=l) (i:=i) (by omega)
  have e:=gj_ ((l.take i).map (eC_ r)) (eC_ r (l.getD i 0)) l0
  split
  · rename_i hm
    rw [ih]
    refine Eq.symm (e.trans (ins_has (f4_ _ h0) (p5_ hm)))
  · rw [List.map_append]
    refine (gj_ _ _ _).trans ?_
    rw [ih]
    exact e.symm
theorem ln_ {x:Bs} {y:Int}:∀ {ps:List (Bs × Int)} {l:List (Bs × Int)},(∀ p ∈ ps,p.1≠x)→cT_ ps (ins x y l)=ins x y (cT_ ps l)
 |[],_,_=>rfl
 |p::ps,l,h=>by
  show cT_ ps (ins p.1 p.2 (ins x y l))=ins x y (cT_ ps (ins p.1 p.2 l))
  rw [pi_ (h p (List.mem_cons_self ..)),ln_ fun q hq=>h q (List.mem_cons_of_mem _ hq)]
end Go.Pi
end
section
namespace Go.Pi
theorem pT_ {k x:Bs} {ns:List Bs}:d2_ (k::ns) x=if k<x then d2_ ns x+1 else 0:=by
 by_cases h:k<x
 · have hb:Op.bytesLess k x=true:=by rw [fu_];exact decide_eq_true h
   rw [if_pos h];unfold d2_;rw [List.findIdx_cons];simp [hb]
 · have hb:Op.bytesLess k x=false:=by rw [fu_];exact decide_eq_false h
   rw [if_neg h];unfold d2_;rw [List.findIdx_cons];simp [hb]
theorem pA_ {x:Bs}:∀ {l:List (Bs × Int)},eL_ l→∀ h,h<(l.map (·.1)).length→Op.bytesLess ((l.map (·.1)).getD h []) x=decide (h<d2_ (l.map (·.1)) x)
 |[],_,h,hh=>by simp at hh
 |(k,v)::l,ha,h,hh=>by
  rw [fu_]
  simp only [List.map_cons,pT_]
  cases h with
  |zero=>
   simp only [List.getD_cons_zero]
   by_cases hk:k<x
   · rw [if_pos hk,decide_eq_true hk];simp
   · rw [if_neg hk,decide_eq_false hk];simp
  |succ h=>
   have hh':h<(l.map (·.1)).length:=by simpa using hh
   simp only [List.getD_cons_succ]
   by_cases hk:k<x
   · have:=pA_ (x:=x) ha.2 h hh'
     rw [fu_] at this
     rw [if_pos hk,this]
     simp
   · rw [if_neg hk]
     have hm:=bH_ (d:=([]:Bs)) (a:=l.map (·.1)) hh'
     obtain ⟨p,hp,e⟩:=List.mem_map.1 hm
     have:¬ (l.map (·.1)).getD h []<x:=fun h2=>by
      rw [←e] at h2
      exact hk (List.lt_trans (ha.1 p hp) h2)
     rw [decide_eq_false this];simp
theorem o8_ {ns:List Bs} {x:Bs} (h:x ∉ ns):f2_ ns x=d2_ ns x:=by
 unfold f2_
 rw [if_neg]
 rintro ⟨h1,h2⟩
 exact h (h1 ▸ bH_ [] h2)
theorem pW_ {α:Type} (d:α) {l:List α} (h:l.Nodup) {i:Nat} (hi:i<l.length):l.getD i d ∉ l.take i:=fun hm=>by
 have:=(List.take_sublist (i+1) l).nodup h
 rw [cC_ d hi,List.nodup_append] at this
 exact this.2.2 _ hm _ (List.mem_singleton.2 rfl) rfl
theorem gl_ {α β:Type} (f:α→β) (d:α) (e:β) {l:List α} {i:Nat} (h:i<l.length):(l.map f).getD i e=f (l.getD i d):=by
 rw [List.getD_eq_getElem?_getD,List.getD_eq_getElem?_getD,List.getElem?_map,List.getElem?_eq_getElem h];rfl
theorem mj_ {ps:List (Bs × Int)} (hl:ps.length≤2000000) (hnd:(ps.map (·.1)).Nodup):Ev (fun n _=>bL_ n (ps.map (·.1)) (ps.map (·.2))) (nR_ (cT_ ps [])):=by
 refine as_ ?_
 simp only [bL_]
 let S:Nat→List aa_ × List Bs:=fun i=>((cT_ (ps.take i) []).map (fun p=>hH_ p.2),(cT_ (ps.take i) []).map (·.1))
 have:=dT_ S ps.length (fun n N i (s:List aa_ × List Bs)=>bL_.loop4 n (fun xy4 xy5 xy6 xy7 xy8 xy9 xy10 xy11=>(some (aa_.mk xy7 xy8 xy9 xy10 xy11))) N (ps.map (·.2)) (ps.map (·.1)) ((ps.map (·.1)).length:Int) (i:Int) 0 0 [] 5 0 [] s.1 s.2) (nR_ (cT_ ps [])) (fun i hi F hF => ?_) ?_
 · exact this
 · obtain ⟨l,hlv⟩:∃ l,l=cT_ (ps.take i) []:=⟨_,rfl⟩
   obtain ⟨p,hp⟩:∃ p,p=ps.getD i ([],0):=⟨_,rfl⟩
   have e2:cT_ (ps.take (i+1)) []=ins p.1 p.2 l:=by rw [cC_ ([],0) hi,gj_,hlv,hp]
   have ha:eL_ l:=by rw [hlv];exact f4_ _ trivial
   have hll:l.length≤i:=by
    have:=fo_ (ps:=ps.take i) (l:=[])
    rw [←hlv] at this;simp at this;omega
   have hi1:i<(ps.map (·.1)).length:=by simpa using hi
   have hi2:i<(ps.map (·.2)).length:=by simpa using hi
   have hx:p.1 ∉ l.map (·.1):=fun hm=>by
    obtain ⟨q,hq,e⟩:=List.mem_map.1 hm
    rw [hlv] at hq
    have hq:=(hm_ hq).resolve_right (by simp)
    have:=pW_ [] hnd hi1
    rw [gl_ (·.1) ([],0) [] hi,←hp,←List.map_take] at this
    exact this (e ▸ List.mem_map_of_mem hq)
   have hps:((l.map (·.1)).length:Nat)=l.length:=by simp
   have hB:=kQ_ (ns:=l.map (·.1)) (x:=p.1) (by simp;omega) (pA_ ha)
   have hA:d2_ (l.map (·.1)) p.1≤l.length:=by have:=List.findIdx_le_length (xs:=l.map (·.1)) (p:=fun y => !Op.bytesLess y p.1);simpa [d2_] using this
   have hN:Ev (fun n _=>cm_ n (l.map (·.1)) (d2_ (l.map (·.1)) p.1:Int) [p.1]) ((ins p.1 p.2 l).map (·.1)):=by
    refine as_ ?_
    have e:=io_ (fun p=>p.1) p.1 p.2 l
    unfold nQ_ at e
    rw [o8_ hx] at e
    simp only [cm_,gU_,ao_,af_,c9_,Int.toNat_natCast,e]
    simp;omega
   have hJ:Ev (fun n _=>cw_ n (l.map fun p=>hH_ p.2) (d2_ (l.map (·.1)) p.1:Int) [hH_ p.2]) ((ins p.1 p.2 l).map fun p=>hH_ p.2):=by
    refine as_ ?_
    have e:=io_ (fun p=>hH_ p.2) p.1 p.2 l
    unfold nQ_ at e
    rw [o8_ hx] at e
    simp only [cw_,gU_,ao_,af_,c9_,Int.toNat_natCast,e]
    simp;omega
   have g1:(ps.map (·.1)).getD i []=p.1:=by rw [gl_ (·.1) ([],0) [] hi,hp]
   have g2:(ps.map (·.2)).getD i 0=p.2:=by rw [gl_ (·.2) ([],0) 0 hi,hp]
   simp only [S,e2,←hlv] at hF ⊢
   unfold hH_ at hJ
   simp only [bL_.turn4,bL_.step4,Int.toNat_natCast,W_up hi1 (show (ps.map (·.1)).length≤bR_ by simp [bR_];omega),ct_ hi1,b9_ hi1,b9_ hi2,g1,g2,ao_,bl_,ab_ hB,ab_ hN]
   refine ⟨fun _=>⟨trivial,trivial,?_⟩,fun h=>(by cases h)⟩
   unfold hH_ at hF ⊢
   simp only [ab_ hJ]
   exact hF
 · have e:((ps.map (·.1)).length:Int)=(ps.length:Int):=by simp
   simp only [bL_.turn4,bL_.step4,e,b7_,cond_false,af_,S,List.take_length]
   rfl
end Go.Pi
end
section
namespace Go.Pi
abbrev nmId:Bs:=[105,100]
abbrev m1_:Bs:=[107,105,100,115]
abbrev i64 (x:Int):Prop:=-9223372036854775808≤x∧x≤9223372036854775807
def jq_ (q:an_) (kids:Int):List (Bs × Int):=cond q.kids [(m1_,kids)] []
def oN_ (q:an_) (r:TRow) (kids:Int):List (Bs × Int):=cT_ (jq_ q kids) (ins nmId r.id_ (cT_ (q.show_.map (eC_ r)) []))
def fW_ (q:an_) (r:TRow) (kids:Int):aa_:=nR_ (oN_ q r kids)
theorem na_ {q:an_} {kids:Int}:(jq_ q kids).length≤1:=by unfold jq_;cases q.kids<;>simp
theorem FRowL_len {q:an_} {r:TRow} {kids:Int}:(oN_ q r kids).length≤q.show_.length+2:=by
 have h1:=fo_ (ps:=q.show_.map (eC_ r)) (l:=[])
 have h2:=mh_ (x:=nmId) (y:=r.id_) (l:=cT_ (q.show_.map (eC_ r)) [])
 have h3:=fo_ (ps:=jq_ q kids) (l:=ins nmId r.id_ (cT_ (q.show_.map (eC_ r)) []))
 have h4:=na_ (q:=q) (kids:=kids)
 simp at h1
 unfold oN_;omega
theorem ov_ {c:Int} (h:i64 c):(eo_ c).length≤22:=by
 have:=Lib.itoa_length_le c h.1 h.2
 simp only [eo_,List.length_cons];omega
theorem oM_ {q:an_} {r:TRow} {kids:Int} (hs:∀ c ∈ q.show_,i64 c):∀ p ∈ oN_ q r kids,p.1.length≤22:=fun p hp=>by
 rcases hm_ hp with h|h
 · unfold jq_ at h
   cases hq:q.kids<;>rw [hq] at h
   · cases h
   · rw [List.mem_singleton.1 h];show m1_.length≤22;decide
 · rcases mg_ h with h|h
   · rw [h];show nmId.length≤22;decide
   · rcases hm_ h with h|h
     · obtain ⟨c,hc,e⟩:=List.mem_map.1 h
       rw [←e];exact ov_ (hs c hc)
     · cases h
theorem nB_ {c:Int}:eo_ c≠nmId:=fun h=>by cases h
theorem ou_ {c:Int}:eo_ c≠m1_:=fun h=>by cases h
def kr_ (q:an_) (r:TRow) (kids:Int):List (Bs × Int):=(nmId,r.id_)::(dS_ q.show_ q.show_.length).map (eC_ r)++jq_ q kids
theorem implL_eq {q:an_} {r:TRow} {kids:Int}:cT_ (kr_ q r kids) []=oN_ q r kids:=by
 have e:cT_ (kr_ q r kids) []=cT_ (jq_ q kids) (cT_ ((dS_ q.show_ q.show_.length).map (eC_ r)) (ins nmId r.id_ [])):=by
  show List.foldl _ _ _=_
  unfold kr_ cT_
  rw [List.foldl_append];rfl
 rw [e]
 unfold oN_
 rw [ln_ (fun p hp=>by obtain ⟨c,_,e⟩:=List.mem_map.1 hp;rw [←e];exact nB_),iy_ (l0:=[]) trivial (Nat.le_refl _),List.take_length]
theorem og_ {q:an_} {r:TRow} {kids:Int}:((kr_ q r kids).map (·.1)).Nodup:=by
 have hm:((dS_ q.show_ q.show_.length).map (eC_ r)).map (·.1)=(dS_ q.show_ q.show_.length).map eo_:=by rw [List.map_map];rfl
 have hc:((dS_ q.show_ q.show_.length).map eo_).Nodup:=by
  have:=g2_ (l:=q.show_) (Nat.le_refl _)
  unfold List.Nodup at this ⊢
  rw [List.pairwise_map]
  exact this.imp fun h e=>h (kw_ e)
 unfold kr_
 rw [List.cons_append,List.map_cons,List.nodup_cons,List.map_append,hm,List.nodup_append]
 refine ⟨fun h => ?_,hc,?_,fun a ha b hb => ?_⟩
 · rcases List.mem_append.1 h with h|h
   · obtain ⟨c,_,e⟩:=List.mem_map.1 h
     exact nB_ e
   · unfold jq_ at h;cases hq:q.kids<;>rw [hq] at h
     · cases h
     · have:=List.mem_singleton.1 h
       change nmId=m1_ at this
       revert this;decide
 · unfold jq_;cases q.kids<;>simp
 · obtain ⟨c,_,e⟩:=List.mem_map.1 ha
   unfold jq_ at hb;cases hq:q.kids<;>rw [hq] at hb
   · cases hb
   · have hb:=List.mem_singleton.1 hb
     rw [←e,hb];exact ou_
theorem implL_len {q:an_} {r:TRow} {kids:Int}:(kr_ q r kids).length≤q.show_.length+2:=by
 have h1:=hr_ (l:=q.show_) (i:=q.show_.length)
 have h4:=na_ (q:=q) (kids:=kids)
 unfold kr_;simp;omega
theorem FOwn_num {n:Int} (d:Nat):cs_ (d+1) (hH_ n)=cs_ 1 (hH_ n):=rfl
theorem FSize_obj (l:List (Bs × Int)) (d:Nat):cs_ (d+2) (nR_ l)=cs_ 2 (nR_ l):=by
 simp only [cs_]
 have:∀ m:List (Bs × Int),hy_ (cs_ (d+1)) (m.map fun p=>hH_ p.2)=hy_ (cs_ 1) (m.map fun p=>hH_ p.2):=by
  intro m
  induction m with
  |nil=>rfl
  |cons p m ih=>simp only [List.map_cons,hy_,FOwn_num d,ih]
 show cond (FOwn (nR_ l)) (min 401 (1+hy_ (cs_ (d+1)) (l.map fun p=>hH_ p.2))) 401=cond (FOwn (nR_ l)) (min 401 (1+hy_ (cs_ 1) (l.map fun p=>hH_ p.2))) 401
 rw [this]
theorem iw_ {n:Int}:∀ d,gh_ d (hH_ n)
 |0=>trivial
 |d+1=>⟨⟨Nat.zero_le _,Nat.zero_le _,fun x hx=>(by cases hx)⟩,Nat.zero_le _,fun x hx=>(by cases hx)⟩
theorem lenJ_obj {l:List (Bs × Int)} (hl:l.length≤2000000) (hn:∀ p ∈ l,p.1.length≤22):∀ d,gh_ d (nR_ l)
 |0=>trivial
 |d+1=>⟨⟨Nat.zero_le _,by simp [nR_,bR_];omega,fun x hx=>by
   obtain ⟨p,hp,e⟩:=List.mem_map.1 hx
   rw [←e];have:=hn p hp;simp only [bR_];omega⟩,by simp [nR_,bR_];omega,fun x hx=>by
   obtain ⟨p,hp,e⟩:=List.mem_map.1 hx
   rw [←e];exact iw_ d⟩
theorem jA_ {q:an_} {r:TRow} {kids:Int} (hq:q.show_.length≤1100000) (hs:∀ c ∈ q.show_,i64 c) (d:Nat):gh_ d (fW_ q r kids) :=
 lenJ_obj (by have:=FRowL_len (q:=q) (r:=r) (kids:=kids);omega) (oM_ hs) d
end Go.Pi
end
section
namespace Go.Pi
theorem kZ_ {x:Int} (h0 : -9223372036854775808≤x) (h1:x≤9223372036854775807):Ev (fun n _=>dL_ n x) (Lib.itoa x):=by
 refine as_ ?_
 have:=oF_ h0 h1
 simp only [dL_,ab_ this,af_]
end Go.Pi
end
section
namespace Go.Pi
theorem hf_ {l:List Int} {x:Int} (hl:l.length≤bR_):Ev (fun n _=>b6_ n l x) (decide (x ∈ l)):=by
 have h:Ev (fun n _=>aX_ n l x) (if l.findIdx (fun y=>x == y)<l.length then ((l.findIdx (fun y=>x == y):Nat):Int) else -1):=by
  refine as_ ?_
  rw [←e0_ 0]
  simp only [aX_]
  refine hW_ (fun n N i=>aX_.loop3 n (some (-1)) N l x (l.length:Int) (i:Int)) _ (fun i u hi ih => ?_) ?_
  · simp only [aX_.turn3,aX_.step3,Int.toNat_natCast,W_up hi hl,ao_,bl_,af_,c0_ ih,ct_ hi,b9_ hi]
    clear ih
    cases (x == l.getD i 0)<;>simp
  · simp only [aX_.turn3,aX_.step3,b7_,cond_false,af_]
 refine as_ ?_
 simp only [b6_,ab_ h,af_]
 have e:(l.findIdx (fun y=>x == y)<l.length)↔x ∈ l:=by
  rw [List.findIdx_lt_length];simp
 by_cases hm:x ∈ l
 · rw [if_pos (e.2 hm),decide_eq_true hm,decide_eq_true (by omega)]
 · rw [if_neg (fun h=>hm (e.1 h)),decide_eq_false hm];rfl
theorem kg_ {j:aa_} (h:gh_ 6 j):Ev (fun n _=>cQ_ n j) (da_ j):=by
 refine as_ ?_
 simp only [cQ_,bN_,ab_ (dW_ h),ao_,af_,da_,is_]
 cases cB_ j<;>simp
theorem kh_ {x:Int}:Ev (fun n _=>cL_ n x) (hH_ x):=as_ (by simp only [cL_,af_,hH_])
section
variable {q:an_} {r:TRow} {kids:Int} (hq:q.show_.length≤1100000) (hs:∀ c ∈ q.show_,i64 c) (hr:r.cells.length≤bR_)
include hq hs hr
theorem hC_:Ev (fun n _=>bv_ n q r kids) (fW_ q r kids):=by
 refine as_ ?_
 simp only [bv_]
 let S:Nat→aa_:=fun i=>nR_ (cT_ ((q.show_.take i).map (eC_ r)) [])
 have:=dT_ S q.show_.length (fun n N i (s:aa_)=>bv_.loop4 n (fun xy5 xy6 xy7 xy8 xy9 xy10 xy11 xy12 xy13 xy14 xy15 xy16 xy17 xy18 xy19 xy20 xy21 xy22 xy23 xy24=>((cL_ n xy15).bind fun xr25=>((bx_ n (aa_.mk xy20 xy21 xy22 xy23 xy24) [105,100] (aa_.re xr25)).bind fun xr26=>(cond xy12 ((cL_ n xy5).bind fun xr27=>((bx_ n (aa_.re xr26) [107,105,100,115] (aa_.re xr27)).bind fun xr28=>(some (aa_.re xr28)))) (some (aa_.re xr26)))))) N kids (i:Int) q.table q.where_ q.order q.down q.first q.show_ q.kids q.kidTable q.kidCol r.id_ r.cells 0 0 [] s.kind s.n_ s.s s.list s.names) (fW_ q r kids) (fun i hi F hF => ?_) ?_
 · exact this
 · have e2:cT_ ((q.show_.take (i+1)).map (eC_ r)) []=ins (eo_ (q.show_.getD i 0)) (eF_ r (q.show_.getD i 0)) (cT_ ((q.show_.take i).map (eC_ r)) []):=by
    rw [cC_ 0 hi,List.map_append];exact gj_ _ _ _
   have ha:eL_ (cT_ ((q.show_.take i).map (eC_ r)) []):=f4_ _ trivial
   have hll:=fo_ (ps:=(q.show_.take i).map (eC_ r)) (l:=[])
   simp only [S,e2] at hF ⊢
   generalize cT_ ((q.show_.take i).map (eC_ r)) []=l at hF ha hll ⊢
   have hl2:l.length≤2000000:=by simp at hll;omega
   have hc:=hs _ (bH_ 0 hi)
   have hd:=Lib.itoa_length_le _ hc.1 hc.2
   have e0:TRow.mk r.id_ r.cells=r:=rfl
   have e3:([99]:Bs)++Lib.itoa (q.show_.getD i 0)=eo_ (q.show_.getD i 0):=rfl
   simp only [bv_.turn4,bv_.step4,Int.toNat_natCast,W_up hi (show q.show_.length≤bR_ by simp only [bR_];omega),ct_ hi,b9_ hi,eU_,bN_,e0,e3,ao_,bl_,c9_,ab_ (dQ_ hc.1 hc.2),ab_ (ef_ hr),ab_ kh_,ab_ (ke_ ha hl2)]
   simp only [bN_] at hF
   refine ⟨fun _=>⟨trivial,fun _=>⟨trivial,hF⟩,fun h => ?_⟩,fun h=>(by cases h)⟩
   have h:=of_decide_eq_false h
   simp only [List.length_singleton] at h;omega
 · have ha:eL_ (cT_ (q.show_.map (eC_ r)) []):=f4_ _ trivial
   have hll:=fo_ (ps:=q.show_.map (eC_ r)) (l:=[])
   have h2:=mh_ (x:=nmId) (y:=r.id_) (l:=cT_ (q.show_.map (eC_ r)) [])
   simp at hll
   simp only [bv_.turn4,bv_.step4,b7_,cond_false,S,List.take_length,eU_,bN_,ab_ kh_,ab_ (ke_ ha (show _≤2000000 by omega)),ab_ (ke_ (x:=m1_) (y:=kids) (oe_ (x:=nmId) (y:=r.id_) ha) (show _≤2000000 by omega)),ao_,af_]
   unfold fW_ oN_ jq_
   exact ⟨fun h=>by rw [h];rfl,fun h=>by rw [h];rfl⟩
theorem k0_:Ev (fun n _=>bB_ n q r kids) (da_ (fW_ q r kids)):=by
 refine as_ ?_
 simp only [bB_]
 have hO:Ev (fun n _=>bL_ n ((kr_ q r kids).map (·.1)) ((kr_ q r kids).map (·.2))) (fW_ q r kids):=by
  have:=mj_ (ps:=kr_ q r kids) (by have:=implL_len (q:=q) (r:=r) (kids:=kids);omega) og_
  rw [implL_eq] at this;exact this
 have hR:=iq_ (jA_ (r:=r) (kids:=kids) hq hs 6)
 have e1:∀ i,((dS_ q.show_ i).map (eC_ r)).map (·.1)=(dS_ q.show_ i).map eo_:=fun i=>by rw [List.map_map];rfl
 have e2:∀ i,((dS_ q.show_ i).map (eC_ r)).map (·.2)=(dS_ q.show_ i).map (eF_ r):=fun i=>by rw [List.map_map];rfl
 let S:Nat→List Bs × List Int:=fun i=>(nmId::(dS_ q.show_ i).map eo_,r.id_::(dS_ q.show_ i).map (eF_ r))
 have:=dT_ S q.show_.length (fun n N i (s:List Bs × List Int)=>bB_.loop4 n (fun xy4 xy5 xy6 xy7 xy8 xy9 xy10 xy11 xy12 xy13 xy14 xy15 xy16 xy17 xy18=>(cond xy11 (bm_ (xy17.length+([[107,105,100,115]]:List Bs).length) 16 (bm_ (xy18.length+([xy4]:List Int).length) 8 ((bL_ n (xy17++([[107,105,100,115]]:List Bs)) (xy18++([xy4]:List Int))).bind fun xr19=>((cD_ n (aa_.re xr19)).bind fun xr20=>(some (aa_.re xr20)))))) ((bL_ n xy17 xy18).bind fun xr21=>((cD_ n (aa_.re xr21)).bind fun xr22=>(some (aa_.re xr22)))))) N kids q.show_ (q.show_.length:Int) (i:Int) q.table q.where_ q.order q.down q.first q.show_ q.kids q.kidTable q.kidCol r.id_ r.cells 0 0 [] s.1 s.2) (da_ (fW_ q r kids)) (fun i hi F hF => ?_) ?_
 · exact this
 · have hc:=hs _ (bH_ 0 hi)
   have hd:=Lib.itoa_length_le _ hc.1 hc.2
   have hf:=hr_ (l:=q.show_) (i:=i)
   have e0:TRow.mk r.id_ r.cells=r:=rfl
   have e3:([99]:Bs)++Lib.itoa (q.show_.getD i 0)=eo_ (q.show_.getD i 0):=rfl
   have hI:Ev (fun n _=>b6_ n (q.show_.take i) (q.show_.getD i 0)) (decide (q.show_.getD i 0 ∈ q.show_.take i)):=hf_ (by simp [bR_];omega)
   simp only [bB_.turn4,bB_.step4,Int.toNat_natCast,W_up hi (show q.show_.length≤bR_ by simp only [bR_];omega),ct_ hi,b9_ hi,e0,e3,List.drop_zero,ao_,bl_,gm_,c9_,bn_,ab_ hI,ab_ (kZ_ hc.1 hc.2),ab_ (cellOf_ev hr)]
   refine ⟨fun _=>⟨trivial,⟨by omega,by omega,by omega⟩,fun hm => ?_,fun hm=>⟨fun _=>⟨by simp [S];omega,by simp [S];omega,?_⟩,fun h => ?_⟩⟩,fun h=>(by cases h)⟩
   · have hm:=of_decide_eq_true hm
     simp only [S,dS_,if_pos hm] at hF ⊢
     exact hF
   · have hm:=of_decide_eq_false hm
     simp only [S,dS_,if_neg hm,List.map_append,List.map_cons,List.map_nil] at hF ⊢
     exact hF
   · have h:=of_decide_eq_false h
     simp only [List.length_singleton] at h;omega
 · have hf:=hr_ (l:=q.show_) (i:=q.show_.length)
   simp only [bB_.turn4,bB_.step4,b7_,cond_false,S,bN_,ao_,bn_]
   unfold kr_ jq_ at hO
   refine ⟨fun h=>⟨by simp;omega,by simp;omega,?_⟩,fun h => ?_⟩
   · rw [h] at hO
     simp only [cond_true,List.cons_append,List.map_cons,List.map_append,e1,e2,List.map_nil] at hO
     simp only [List.cons_append,ab_ hO,ab_ hR,af_]
   · rw [h] at hO
     simp only [cond_false,List.append_nil,List.map_cons,e1,e2] at hO
     simp only [ab_ hO,ab_ hR,af_]
end
end Go.Pi
end
section
namespace Go.Pi
theorem ev_allS {α γ:Type} (S:Nat→α) (p:Nat→Bool) (len:Nat) (L:Nat→Nat→Nat→α→Option γ) (v bad:γ)
  (h1:∀ i,i<len→∀ F,(p i=true→Ev (fun n N=>L n N (i+1) (S (i+1))) F)→(p i=false→F=bad)→Ev (fun n N=>L n (N+1) i (S i)) F)
  (h2:Ev (fun n N=>L n (N+1) len (S len)) v):Ev (fun n _=>L n n 0 (S 0)) (cond (g6_ p len) v bad):=by
 have key:∀ d i,d+i=len→Ev (fun n N=>L n N i (S i)) (cond (fw_ p d i) v bad):=by
  intro d
  induction d with
  |zero=>intro i hd;obtain rfl:i=len:=by omega
         exact cr_ (f:=fun n N=>L n N i (S i)) h2
  |succ d ih=>intro i hd
              refine cr_ (f:=fun n N=>L n N i (S i)) (h1 i (by omega) _ (fun hp => ?_) (fun hp => ?_))
              · have:=ih (i+1) (by omega)
                simp only [fw_,hp,Bool.true_and];exact this
              · simp only [fw_,hp,Bool.false_and,cond_false]
 exact en_ (f:=fun n N=>L n N 0 (S 0)) (key len 0 (by omega))
def bt_ (l:List aq_):List Int:=l.map (·.key)
def kAt (ks:List Int) (k:Int):Int:=if ks.findIdx (fun y=>y == k)<ks.length then ((ks.findIdx (fun y=>y == k):Nat):Int) else -1
theorem me_ {ks:List Int} {k:Int}:kAt ks k<0↔k ∉ ks:=by
 have e:(ks.findIdx (fun y=>y == k)<ks.length)↔k ∈ ks:=by rw [List.findIdx_lt_length];simp
 unfold kAt
 by_cases h:k ∈ ks
 · rw [if_pos (e.2 h)];simp [h]
 · rw [if_neg (fun h'=>h (e.1 h'))];simp [h]
theorem lm_ {ks:List Int} {k:Int} (h:k ∈ ks):∃ p:Nat,kAt ks k=p∧p<ks.length∧ks.getD p 0=k:=by
 have e:ks.findIdx (fun y=>y == k)<ks.length:=by rw [List.findIdx_lt_length];simp [h]
 refine ⟨_,by unfold kAt;rw [if_pos e],e,?_⟩
 rw [List.getD_eq_getElem?_getD,List.getElem?_eq_getElem e,Option.getD_some]
 have:=List.findIdx_getElem (xs:=ks) (p:=fun y=>y == k) (w:=e)
 simpa using this
theorem kk_ {ks:List Int} {k:Int} {p:Nat} (h:kAt ks k=p):p<ks.length∧ks.getD p 0=k:=by
 have hm:k ∈ ks:=Classical.byContradiction fun hn=>by have:=me_.2 hn;omega
 obtain ⟨q,e,h1,h2⟩:=lm_ hm
 have:q=p:=by omega
 subst this;exact ⟨h1,h2⟩
theorem fF_ {ks:List Int} {k:Int} (hl:ks.length≤bR_):Ev (fun n _=>ce_ n ks k) (kAt ks k):=by
 refine as_ ?_
 unfold kAt
 rw [←e0_ 0]
 simp only [ce_]
 refine hW_ (fun n N i=>ce_.loop3 n (some (-1)) N ks k (i:Int)) _ (fun i u hi ih => ?_) ?_
 · simp only [ce_.turn3,ce_.step3,Int.toNat_natCast,W_up hi hl,ao_,bl_,af_,c0_ ih,ct_ hi,b9_ hi]
   clear ih
   cases (ks.getD i 0 == k)<;>simp
 · simp only [ce_.turn3,ce_.step3,b7_,cond_false,af_]
theorem jg_ (k:Int):∀ l:List aq_,(bt_ l).findIdx (fun y=>y == k)=l.findIdx (fun x=>x.key == k)
 |[]=>rfl
 |x::l=>by
  have ih:=jg_ k l
  unfold bt_ at ih ⊢
  simp only [List.map_cons,List.findIdx_cons,ih]
theorem b8_ (l:List aq_):(bt_ l).length=l.length:=List.length_map _
theorem nc_ (x:aq_):aq_.mk x.key x.value=x:=rfl
theorem iA_ {l:List aq_} {k:Int} (hl:l.length≤bR_):Ev (fun n _=>dY_ n l k) (kAt (bt_ l) k):=by
 have hf:∀ x:aq_,Ev (fun n _=>df_ n x k) (x.key == k):=fun x=>as_ (by simp only [df_,af_])
 have h:Ev (fun n _=>ad_ n l k) (kAt (bt_ l) k):=by
  refine as_ ?_
  unfold kAt
  rw [jg_,b8_,←e0_ aq_.dflt]
  simp only [ad_]
  refine hW_ (fun n N i=>ad_.loop3 n (some (-1)) N l k (l.length:Int) (i:Int)) _ (fun i u hi ih => ?_) ?_
  · simp only [ad_.turn3,ad_.step3,bN_,nc_,Int.toNat_natCast,W_up hi hl,ao_,bl_,ab_ (hf _),af_,c0_ ih,ct_ hi,b9_ hi]
    clear ih
    cases ((l.getD i aq_.dflt).key == k)<;>simp
  · simp only [ad_.turn3,ad_.step3,b7_,cond_false,af_]
 exact as_ (by simp only [dY_,ab_ h,af_])
def kOk (docs:List aa_) (keys:List Int):Bool:=decide (docs.length=keys.length)&&g6_ (fun i=>cB_ (docs.getD i aa_.dflt) && !decide (keys.getD i 0 ∈ keys.take i)) docs.length
def h7_ (docs:List aa_) (keys:List Int) (m:Nat):List aq_:=(List.range m).map fun i=>aq_.mk (keys.getD i 0) (docs.getD i aa_.dflt)
theorem zipK_succ {docs:List aa_} {keys:List Int} {m:Nat}:h7_ docs keys (m+1)=h7_ docs keys m++[aq_.mk (keys.getD m 0) (docs.getD m aa_.dflt)]:=by
 unfold h7_;rw [List.range_succ,List.map_append];rfl
theorem fb_ {docs:List aa_} {keys:List Int} {m:Nat}:(h7_ docs keys m).length=m:=by unfold h7_;simp
theorem ju_ {l:List Int} {i:Nat} {x:Int} (hl:l.length≤bR_):Ev (fun n _=>b6_ n (l.take i) x) (decide (x ∈ l.take i)):=hf_ (by simp;omega)
theorem g0_ {docs:List aa_} {keys:List Int} (hd:docs.length≤2000000) (hJ:∀ j ∈ docs,gh_ 6 j):Ev (fun n _=>bk_ n docs keys) (cond (kOk docs keys) (h7_ docs keys docs.length,true) ([],false)):=by
 refine as_ ?_
 have ht:docs.length≤bR_:=by simp only [bR_];omega
 simp only [bk_,lj_,ao_,af_,kOk]
 by_cases hl:docs.length=keys.length
 · rw [decide_eq_true hl,Bool.true_and]
   refine ⟨fun h=>(by cases h),fun _ => ?_⟩
   refine ev_allS (fun i=>h7_ docs keys i) (fun i=>cB_ (docs.getD i aa_.dflt) && !decide (keys.getD i 0 ∈ keys.take i)) docs.length (fun n N i (o:List aq_)=>bk_.loop7 n (fun xy3=>(some (xy3,true))) N keys docs (docs.length:Int) (i:Int) o) (h7_ docs keys docs.length,true) ([],false) (fun i hi F h1 h2 => ?_) ?_
   · have hk:i<keys.length:=by omega
     rw [zipK_succ] at h1
     have hol:=fb_ (docs:=docs) (keys:=keys) (m:=i)
     generalize h7_ docs keys i=o at h1 hol ⊢
     simp only [bk_.turn7,bk_.step7,bN_,Int.toNat_natCast,List.drop_zero,W_up hi ht,ct_ hi,b9_ hi,b9_ hk,ao_,bl_,gm_,bn_,ab_ (eV_ (hJ _ (bH_ aa_.dflt hi))),ab_ (ju_ (l:=keys) (i:=i) (x:=keys.getD i 0) (by omega)),af_,cond_true]
     cases hj:cB_ (docs.getD i aa_.dflt) with
     |false=>rw [hj] at h2;exact ⟨trivial,fun _=>(h2 rfl).symm,fun h=>(by cases h)⟩
     |true=>
      rw [hj,Bool.true_and] at h1 h2
      refine ⟨trivial,fun h=>(by cases h),fun _=>⟨⟨by omega,by omega,by omega⟩,trivial,fun hc => ?_,fun hc => ?_⟩⟩
      · exact (h2 (by rw [hc];rfl)).symm
      · exact ⟨trivial,by simp;omega,h1 (by rw [hc];rfl)⟩
   · simp only [bk_.turn7,bk_.step7,b7_,cond_false,af_]
 · rw [decide_eq_false hl,Bool.false_and]
   exact ⟨fun _=>rfl,fun h=>(by cases h)⟩
theorem allN_and {p q:Nat→Bool} {len:Nat}:g6_ (fun i=>p i&&q i) len=(g6_ p len&&g6_ q len):=by
 rw [Bool.eq_iff_iff,Bool.and_eq_true,fi_,fi_,fi_]
 exact ⟨fun h=>⟨fun i hi=>(Bool.and_eq_true_iff.1 (h i hi)).1,fun i hi=>(Bool.and_eq_true_iff.1 (h i hi)).2⟩,fun h i hi=>by rw [h.1 i hi,h.2 i hi];rfl⟩
theorem hB_ {docs:List aa_} {keys:List Int} (hd:docs.length≤2000000) (hk:keys.length≤2000000) (hJ:∀ j ∈ docs,gh_ 6 j):Ev (fun n _=>aH_ n keys docs) (kOk docs keys):=by
 refine as_ ?_
 have ht:docs.length≤bR_:=by simp only [bR_];omega
 have htk:keys.length≤bR_:=by simp only [bR_];omega
 have e:kOk docs keys=(g6_ (fun i => !decide (keys.getD i 0 ∈ keys.take i)) keys.length&&(g6_ (fun i=>cB_ (docs.getD i aa_.dflt)) docs.length&&((keys.length:Int) == (docs.length:Int)))):=by
  unfold kOk
  by_cases hl:docs.length=keys.length
  · rw [decide_eq_true hl,allN_and,←hl]
    simp [Bool.and_comm]
  · rw [decide_eq_false hl]
    have:((keys.length:Int) == (docs.length:Int))=false:=by rw [beq_eq_false_iff_ne];omega
    rw [this];simp
 rw [e]
 simp only [aH_]
 have hin:Ev (fun n _=>aH_.loop11 n (fun xy5 xy6=>(some ((xy5.length:Int) == (xy6.length:Int)))) n keys docs 0) (g6_ (fun i=>cB_ (docs.getD i aa_.dflt)) docs.length&&((keys.length:Int) == (docs.length:Int))):=by
  refine d5_ (fun n N i=>aH_.loop11 n (fun xy5 xy6=>(some ((xy5.length:Int) == (xy6.length:Int)))) N keys docs (i:Int)) _ (fun i w hi ih => ?_) ?_
  · simp only [aH_.turn11,aH_.step11,bN_,Int.toNat_natCast,W_up hi ht,ao_,bl_,ab_ (dW_ (hJ _ (bH_ aa_.dflt hi))),af_,c0_ ih,ct_ hi,b9_ hi]
    cases cB_ (docs.getD i aa_.dflt)<;>simp
  · simp only [aH_.turn11,aH_.step11,b7_,cond_false,af_]
 refine d5_ (fun n N i=>aH_.loop3 n (fun xy2 xy3=>(aH_.loop11 n (fun xy5 xy6=>(some ((xy5.length:Int) == (xy6.length:Int)))) n xy2 xy3 0)) N keys docs (i:Int)) _ (fun i w hi ih => ?_) ?_
 · have hA:=fF_ (ks:=keys.take i) (k:=keys.getD i 0) (by simp;omega)
   have hg:decide (kAt (keys.take i) (keys.getD i 0)≥0)=decide (keys.getD i 0 ∈ keys.take i):=by
    have:=me_ (ks:=keys.take i) (k:=keys.getD i 0)
    by_cases hm:keys.getD i 0 ∈ keys.take i
    · rw [decide_eq_true hm,decide_eq_true];exact Int.not_lt.1 fun h=>this.1 h hm
    · rw [decide_eq_false hm,decide_eq_false];intro h;exact absurd (this.2 hm) (by omega)
   simp only [aH_.turn3,aH_.step3,Int.toNat_natCast,List.drop_zero,W_up hi htk,ao_,bl_,gm_,ab_ hA,hg,af_,c0_ ih,ct_ hi,b9_ hi]
   cases decide (keys.getD i 0 ∈ keys.take i)<;>simp<;>omega
 · simp only [aH_.turn3,aH_.step3,b7_,cond_false]
   exact hin
end Go.Pi
end
