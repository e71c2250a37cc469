/- FnHeard: what is cut off of a drawn text leaves whoever listens with what came ahead of it: a version that was, never a later one. No condition. Text 6 of 8. -/
import Derived.Test.YtmgcfhlcdhlafaaGreatDoorHdE
import Derived.Lib.ItoaLen
import Derived.Lib.AtoiAllCases
set_option linter.unusedVariables false
set_option maxRecDepth 100000
set_option linter.unusedSimpArgs false
namespace Go.Pi
theorem ce_.turn4 {n N k}:ce_.loop4 n k (N+1)=ce_.step4 n k (ce_.loop4 n k N):=rfl
theorem aK_.turn4 {n N k}:aK_.loop4 n k (N+1)=aK_.step4 n k (aK_.loop4 n k N):=rfl
theorem a1_.turn3 {n N k}:a1_.loop3 n k (N+1)=a1_.step3 n k (a1_.loop3 n k N):=rfl
theorem a5_.turn4 {n N k}:a5_.loop4 n k (N+1)=a5_.step4 n k (a5_.loop4 n k N):=rfl
theorem cf_.turn3 {n N k}:cf_.loop3 n k (N+1)=cf_.step3 n k (cf_.loop3 n k N):=rfl
theorem bh_.turn5 {n N k}:bh_.loop5 n k (N+1)=bh_.step5 n k (bh_.loop5 n k N):=rfl
theorem bG_.turn6 {n N k}:bG_.loop6 n k (N+1)=bG_.step6 n k (bG_.loop6 n k N):=rfl
theorem aZ_.turn4 {n N k}:aZ_.loop4 n k (N+1)=aZ_.step4 n k (aZ_.loop4 n k N):=rfl
theorem aP_.turn4 {n N k}:aP_.loop4 n k (N+1)=aP_.step4 n k (aP_.loop4 n k N):=rfl
theorem ah_.turn7 {n N k}:ah_.loop7 n k (N+1)=ah_.step7 n k (ah_.loop7 n k N):=rfl
theorem ah_.turn16 {n N k}:ah_.loop16 n k (N+1)=ah_.step16 n k (ah_.loop16 n k N):=rfl
theorem cl_.turn6 {n N k}:cl_.loop6 n k (N+1)=cl_.step6 n k (cl_.loop6 n k N):=rfl
theorem b3_.turn3 {n N k}:b3_.loop3 n k (N+1)=b3_.step3 n k (b3_.loop3 n k N):=rfl
theorem bD_.turn6 {n N k}:bD_.loop6 n k (N+1)=bD_.step6 n k (bD_.loop6 n k N):=rfl
theorem ay_.turn7 {n N k}:ay_.loop7 n k (N+1)=ay_.step7 n k (ay_.loop7 n k N):=rfl
theorem ay_.turn16 {n N k}:ay_.loop16 n k (N+1)=ay_.step16 n k (ay_.loop16 n k N):=rfl
theorem bR_.turn3 {n N k}:bR_.loop3 n k (N+1)=bR_.step3 n k (bR_.loop3 n k N):=rfl
theorem bW_.turn5 {n N k}:bW_.loop5 n k (N+1)=bW_.step5 n k (bW_.loop5 n k N):=rfl
theorem bL_.turn8 {n N k}:bL_.loop8 n k (N+1)=bL_.step8 n k (bL_.loop8 n k N):=rfl
theorem aQ_.turn5 {n N k}:aQ_.loop5 n k (N+1)=aQ_.step5 n k (aQ_.loop5 n k N):=rfl
theorem b2_.turn8 {n N k}:b2_.loop8 n k (N+1)=b2_.step8 n k (b2_.loop8 n k N):=rfl
theorem bX_.turn4 {n N k}:bX_.loop4 n k (N+1)=bX_.step4 n k (bX_.loop4 n k N):=rfl
theorem b7_.turn3 {n N k}:b7_.loop3 n k (N+1)=b7_.step3 n k (b7_.loop3 n k N):=rfl
theorem ba_.turn4 {n N k}:ba_.loop4 n k (N+1)=ba_.step4 n k (ba_.loop4 n k N):=rfl
theorem aN_.turn7 {n N k}:aN_.loop7 n k (N+1)=aN_.step7 n k (aN_.loop7 n k N):=rfl
theorem bM_.turn5 {n N k}:bM_.loop5 n k (N+1)=bM_.step5 n k (bM_.loop5 n k N):=rfl
theorem bQ_.turn4 {n N k}:bQ_.loop4 n k (N+1)=bQ_.step4 n k (bQ_.loop4 n k N):=rfl
theorem b5_.turn3 {n N k}:b5_.loop3 n k (N+1)=b5_.step3 n k (b5_.loop3 n k N):=rfl
theorem ad_.turn6 {n N k}:ad_.loop6 n k (N+1)=ad_.step6 n k (ad_.loop6 n k N):=rfl
theorem aR_.turn23 {n N k0 k1}:aR_.loop23 n k0 k1 (N+1)=aR_.step23 n k0 k1 (aR_.loop23 n k0 k1 N):=rfl
theorem cg_.turn4 {n N k}:cg_.loop4 n k (N+1)=cg_.step4 n k (cg_.loop4 n k N):=rfl
theorem an_.turn6 {n N k0 k1}:an_.loop6 n k0 k1 (N+1)=an_.step6 n k0 k1 (an_.loop6 n k0 k1 N):=rfl
theorem an_.turn14 {n N k0 k1}:an_.loop14 n k0 k1 (N+1)=an_.step14 n k0 k1 (an_.loop14 n k0 k1 N):=rfl
theorem bK_.turn3 {n N k}:bK_.loop3 n k (N+1)=bK_.step3 n k (bK_.loop3 n k N):=rfl
theorem b0_.turn3 {n N k}:b0_.loop3 n k (N+1)=b0_.step3 n k (b0_.loop3 n k N):=rfl
theorem bq_.turn5 {n N k}:bq_.loop5 n k (N+1)=bq_.step5 n k (bq_.loop5 n k N):=rfl
theorem cA_.turn3 {n N k}:cA_.loop3 n k (N+1)=cA_.step3 n k (cA_.loop3 n k N):=rfl
theorem aJ_.turn3 {n N k}:aJ_.loop3 n k (N+1)=aJ_.step3 n k (aJ_.loop3 n k N):=rfl
theorem aJ_.turn11 {n N k}:aJ_.loop11 n k (N+1)=aJ_.step11 n k (aJ_.loop11 n k N):=rfl
theorem aF_.turn4 {n N k0 k1}:aF_.loop4 n k0 k1 (N+1)=aF_.step4 n k0 k1 (aF_.loop4 n k0 k1 N):=rfl
theorem aG_.turn5 {n N k}:aG_.loop5 n k (N+1)=aG_.step5 n k (aG_.loop5 n k N):=rfl
theorem aG_.turn13 {n N k}:aG_.loop13 n k (N+1)=aG_.step13 n k (aG_.loop13 n k N):=rfl
theorem cd_.turn4 {n N k}:cd_.loop4 n k (N+1)=cd_.step4 n k (cd_.loop4 n k N):=rfl
theorem cs_.turn6 {n N k}:cs_.loop6 n k (N+1)=cs_.step6 n k (cs_.loop6 n k N):=rfl
theorem aE_.turn10 {n N k}:aE_.loop10 n k (N+1)=aE_.step10 n k (aE_.loop10 n k N):=rfl
theorem aE_.turn4 {n N k}:aE_.loop4 n k (N+1)=aE_.step4 n k (aE_.loop4 n k N):=rfl
theorem bv_.turn4 {n N k}:bv_.loop4 n k (N+1)=bv_.step4 n k (bv_.loop4 n k N):=rfl
theorem aO_.turn17 {n N k0 k1}:aO_.loop17 n k0 k1 (N+1)=aO_.step17 n k0 k1 (aO_.loop17 n k0 k1 N):=rfl
theorem a3_.turn4 {n N k}:a3_.loop4 n k (N+1)=a3_.step4 n k (a3_.loop4 n k N):=rfl
theorem bx_.turn4 {n N k}:bx_.loop4 n k (N+1)=bx_.step4 n k (bx_.loop4 n k N):=rfl
theorem az_.turn5 {n N k}:az_.loop5 n k (N+1)=az_.step5 n k (az_.loop5 n k N):=rfl
theorem br_.turn12 {n N k}:br_.loop12 n k (N+1)=br_.step12 n k (br_.loop12 n k N):=rfl
theorem aS_.turn4 {n N k}:aS_.loop4 n k (N+1)=aS_.step4 n k (aS_.loop4 n k N):=rfl
theorem aq_.turn7 {n N k}:aq_.loop7 n k (N+1)=aq_.step7 n k (aq_.loop7 n k N):=rfl
theorem bP_.turn4 {n N k}:bP_.loop4 n k (N+1)=bP_.step4 n k (bP_.loop4 n k N):=rfl
theorem aL_.turn6 {n N k}:aL_.loop6 n k (N+1)=aL_.step6 n k (aL_.loop6 n k N):=rfl
theorem aD_.turn4 {n N k}:aD_.loop4 n k (N+1)=aD_.step4 n k (aD_.loop4 n k N):=rfl
theorem aB_.turn3 {n N k}:aB_.loop3 n k (N+1)=aB_.step3 n k (aB_.loop3 n k N):=rfl
theorem as_.turn7 {n N k0 k1}:as_.loop7 n k0 k1 (N+1)=as_.step7 n k0 k1 (as_.loop7 n k0 k1 N):=rfl
theorem av_.turn3 {n N k}:av_.loop3 n k (N+1)=av_.step3 n k (av_.loop3 n k N):=rfl
theorem au_.turn3 {n N k}:au_.loop3 n k (N+1)=au_.step3 n k (au_.loop3 n k N):=rfl
theorem bI_.turn7 {n N k0 k1}:bI_.loop7 n k0 k1 (N+1)=bI_.step7 n k0 k1 (bI_.loop7 n k0 k1 N):=rfl
theorem bY_.turn4 {n N k}:bY_.loop4 n k (N+1)=bY_.step4 n k (bY_.loop4 n k N):=rfl
theorem a9_.turn4 {n N k0 k1}:a9_.loop4 n k0 k1 (N+1)=a9_.step4 n k0 k1 (a9_.loop4 n k0 k1 N):=rfl
theorem aC_.turn3 {n N k}:aC_.loop3 n k (N+1)=aC_.step3 n k (aC_.loop3 n k N):=rfl
theorem aw_.turn4 {n N k0 k1}:aw_.loop4 n k0 k1 (N+1)=aw_.step4 n k0 k1 (aw_.loop4 n k0 k1 N):=rfl
theorem bT_.turn4 {n N k}:bT_.loop4 n k (N+1)=bT_.step4 n k (bT_.loop4 n k N):=rfl
theorem bE_.turn7 {n N k}:bE_.loop7 n k (N+1)=bE_.step7 n k (bE_.loop7 n k N):=rfl
theorem cu_.turn3 {n N k}:cu_.loop3 n k (N+1)=cu_.step3 n k (cu_.loop3 n k N):=rfl
theorem aH_.turn6 {n N k}:aH_.loop6 n k (N+1)=aH_.step6 n k (aH_.loop6 n k N):=rfl
theorem af_.turn6 {n N k0 k1}:af_.loop6 n k0 k1 (N+1)=af_.step6 n k0 k1 (af_.loop6 n k0 k1 N):=rfl
theorem ch_.turn4 {n N k}:ch_.loop4 n k (N+1)=ch_.step4 n k (ch_.loop4 n k N):=rfl
theorem bs_.turn4 {n N k}:bs_.loop4 n k (N+1)=bs_.step4 n k (bs_.loop4 n k N):=rfl
theorem cv_.turn5 {n N k}:cv_.loop5 n k (N+1)=cv_.step5 n k (cv_.loop5 n k N):=rfl
theorem al_.turn4 {n N k}:al_.loop4 n k (N+1)=al_.step4 n k (al_.loop4 n k N):=rfl
theorem bl_.turn7 {n N k}:bl_.loop7 n k (N+1)=bl_.step7 n k (bl_.loop7 n k N):=rfl
theorem bc_.turn4 {n N k}:bc_.loop4 n k (N+1)=bc_.step4 n k (bc_.loop4 n k N):=rfl
theorem b1_.turn3 {n N k}:b1_.loop3 n k (N+1)=b1_.step3 n k (b1_.loop3 n k N):=rfl
theorem bk_.turn5 {n N k}:bk_.loop5 n k (N+1)=bk_.step5 n k (bk_.loop5 n k N):=rfl
theorem aU_.turn7 {n N k}:aU_.loop7 n k (N+1)=aU_.step7 n k (aU_.loop7 n k N):=rfl
theorem aV_.turn4 {n N k}:aV_.loop4 n k (N+1)=aV_.step4 n k (aV_.loop4 n k N):=rfl
theorem bt_.turn8 {n N k0 k1}:bt_.loop8 n k0 k1 (N+1)=bt_.step8 n k0 k1 (bt_.loop8 n k0 k1 N):=rfl
theorem cL_.turn3 {n N k}:cL_.loop3 n k (N+1)=cL_.step3 n k (cL_.loop3 n k N):=rfl
theorem a4_.turn6 {n N k}:a4_.loop6 n k (N+1)=a4_.step6 n k (a4_.loop6 n k N):=rfl
theorem bz_.turn7 {n N k}:bz_.loop7 n k (N+1)=bz_.step7 n k (bz_.loop7 n k N):=rfl
theorem ae_.turn20 {n N k}:ae_.loop20 n k (N+1)=ae_.step20 n k (ae_.loop20 n k N):=rfl
theorem ae_.turn5 {n N k}:ae_.loop5 n k (N+1)=ae_.step5 n k (ae_.loop5 n k N):=rfl
theorem ct_.turn8 {n N k}:ct_.loop8 n k (N+1)=ct_.step8 n k (ct_.loop8 n k N):=rfl
theorem bw_.turn7 {n N k}:bw_.loop7 n k (N+1)=bw_.step7 n k (bw_.loop7 n k N):=rfl
theorem bo_.turn7 {n N k}:bo_.loop7 n k (N+1)=bo_.step7 n k (bo_.loop7 n k N):=rfl
theorem bb_.turn4 {n N k}:bb_.loop4 n k (N+1)=bb_.step4 n k (bb_.loop4 n k N):=rfl
def iV_ (p:Nat->Bool):Nat->Nat->Bool
 |0,_=>true
 |d+1,i=>p i&&iV_ p d (i+1)
def jm_ (p:Nat->Bool)(len:Nat):Bool:=iV_ p len 0
theorem fv_ (L:Nat->Nat->Nat->Option Bool)(p:Nat->Bool){len:Nat}{v:Bool}
  (h:∀ i w,i<len->Ev (fun n N=>L n N (i+1)) w->Ev (fun n N=>L n (N+1) i) (p i&&w)) (m:Ev (fun n N=>L n (N+1) len) v) :
  Ev (fun n _=>L n n 0) (jm_ p len&&v):=by
 have k:∀ d i,d+i=len->Ev (fun n N=>L n N i) (iV_ p d i&&v):=by
  intro d;induction d with
  |zero=>
   intro i hd;obtain rfl:i=len:=by omega
   simpa [iV_] using aY_ (f:=fun n N=>L n N i) m
  |succ d ih=>
   intro i hd;have:=h i _ (by omega) (ih (i+1) (by omega));rw [<-Bool.and_assoc] at this;exact aY_ (f:=fun n N=>L n N i) this
 exact c3_ (f:=fun n N=>L n N 0) (k len 0 (by omega))
theorem gJ_ {α:Type}{f:Nat->Nat->Option α}{v w:α}(h:Ev f v)(e:v=w):Ev f w:=e ▸ h
def inn (x lo hi:Int):Bool:=decide (lo<=x)&&decide (x<=hi)
theorem hv_ {x lo hi:Int}:inn x lo hi=true↔lo<=x/\x<=hi:=by simp [inn]
theorem l1In_ev {x lo hi:Int}:Ev (fun n _=>b4_ n x lo hi) (inn x lo hi):=by
 refine ak_ ?_;simp only [b4_,ag_,ac_,inn]
 grind
theorem jY_ {x lo hi:Int}:Ev (fun n _=>aI_ n x lo hi) (inn x lo hi):=by
 refine ak_ ?_;simp only [aI_,ag_,ac_,inn]
 grind
section
variable {β:Type} {x lo hi:Int} {g:Nat->Nat->Bool->Option β} {v:β}
theorem gl_:Ev (fun n N=>(b4_ n x lo hi).bind (g n N)) v↔Ev (fun n N=>g n N (inn x lo hi)) v:=ab_ l1In_ev
theorem hd_:Ev (fun n N=>(aI_ n x lo hi).bind (g n N)) v↔Ev (fun n N=>g n N (inn x lo hi)) v:=ab_ jY_
theorem isNum_b:Ev (fun n N=>(bm_ n x).bind (g n N)) v↔Ev (fun n N=>g n N (inn x (-1000000000) 1000000000)) v :=
 ab_ (ak_ (by simp only [bm_,hd_,ac_]))
end
theorem cD_ {i len:Nat}(h:i<len):decide ((i:Int)<(len:Int))=true:=by simp;omega
theorem cj_ {len:Nat}:decide ((len:Int)<(len:Int))=false:=by simp
theorem cb_ {i len:Nat}(h:i<len):((0:Int)<=(i:Int)/\(i:Int)<(len:Int))↔True:=by simp;omega
abbrev cap:Nat:=1048576
def fU_ {α:Type}(f:α->Nat):List α->Nat
 |[]=>0
 |x::xs=>f x+fU_ f xs
def o1_ {α:Type}(f:α->Nat)(l:List α):Nat:=l.length+fU_ f l
def lenL {α:Type}(P:α->Prop)(l:List α):Prop:=l.length<=b9_/\∀ x ∈ l,P x
def szB (s:Bs):Nat:=s.length
def lenI (_:Int):Prop:=True
theorem mp_ {α:Type}(f:α->Nat)(d:α){a:List α}{i:Nat}(h:i<a.length):fU_ f (a.drop i)=f (a.getD i d)+fU_ f (a.drop (i+1)):=by rw [dA_ d h];rfl
theorem jC_ {α:Type}(f:α->Nat){a:List α}{x:α}(h:x ∈ a):f x<=fU_ f a:=by
 induction a with
 |nil=>cases h
 |cons y a ih=>
  simp only [fU_];rcases List.mem_cons.1 h with rfl|h
  . omega
  . have:=ih h;omega
theorem W_dn {i:Nat}(h:i<=b9_):W ((i:Int) - 1)=(i:Int) - 1:=by rw [W_id (by omega) (by simp only [b9_] at h;omega)]
theorem l4_ {i:Nat}:((i:Int) - 1).toNat=i - 1:=by omega
theorem gH_ {x lo hi:Int}(h:inn x lo hi=true):lo<=x/\x<=hi:=hv_.1 h
def hm_ {α:Type}(s:Nat->α->α)(v:α):Nat->Nat->α
 |0,_=>v
 |d+1,i=>s i (hm_ s v d (i+1))
theorem ni_ {α:Type}(L:Nat->Nat->Nat->Option α)(s:Nat->α->α){len:Nat}{v:α}
  (h:∀ i w,i<len->Ev (fun n N=>L n N (i+1)) w->Ev (fun n N=>L n (N+1) i) (s i w)) (m:Ev (fun n N=>L n (N+1) len) v) :
  Ev (fun n _=>L n n 0) (hm_ s v len 0):=by
 have k:∀ d i,d+i=len->Ev (fun n N=>L n N i) (hm_ s v d i):=by
  intro d;induction d with
  |zero=>
   intro i hd;obtain rfl:i=len:=by omega
   exact aY_ (f:=fun n N=>L n N i) m
  |succ d ih=>
   intro i hd;exact aY_ (f:=fun n N=>L n N i) (h i _ (by omega) (ih (i+1) (by omega)))
 exact c3_ (f:=fun n N=>L n N 0) (k len 0 (by omega))
theorem a6_ {α:Type}{n b:Nat}{f:Nat->Nat->Option α}{v:α}:Ev (fun m N=>bj_ n b (f m N)) v↔n*b<=140737488355328/\Ev f v:=by unfold bj_;rw [ag_];by_cases h:n*b<=140737488355328<;>simp [h,do_]
theorem qY_ {α β γ:Type}(d:α)(a:List α)(f:α->β)(L:Nat->Nat->Nat->List β->Option γ)(v:γ)
  (p:∀ i s,i<a.length->s.length=i->∀ F,Ev (fun n N=>L n N (i+1) (s++[f (a.getD i d)])) F->Ev (fun n N=>L n (N+1) i s) F)
  (m:Ev (fun n N=>L n (N+1) a.length (a.map f)) v):Ev (fun n _=>L n n 0 []) v:=by
 have k:∀ j i,j+i=a.length->Ev (fun n N=>L n N i ((a.take i).map f)) v:=by
  intro j;induction j with
  |zero=>
   intro i hi;have:i=a.length:=by omega
   subst this;rw [List.take_of_length_le (Nat.le_refl _)];exact aY_ m
  |succ j ih=>
   intro i hi;refine aY_ (p i _ (by omega) (by simp;omega) _ ?_);have:=ih (i+1) (by omega);rw [List.take_add_one,List.map_append] at this;have e:a[i]?.toList=[a.getD i d]:=by rw [List.getD_eq_getElem?_getD,List.getElem?_eq_getElem (by omega)];rfl
   rw [e] at this;exact this
 have:=k a.length 0 (by omega);exact c3_ (f:=fun n N=>L n N 0 []) this
abbrev fI_:Nat:=1073741824
theorem eR_ {α γ:Type}(S:Nat->α)(len:Nat)(L:Nat->Nat->Nat->α->Option γ)(v:γ)
  (p:∀ i,i<len->∀ F,Ev (fun n N=>L n N (i+1) (S (i+1))) F->Ev (fun n N=>L n (N+1) i (S i)) F)
  (m:Ev (fun n N=>L n (N+1) len (S len)) v):Ev (fun n _=>L n n 0 (S 0)) v:=by
 have k:∀ j i,j+i=len->Ev (fun n N=>L n N i (S i)) v:=by
  intro j;induction j with
  |zero=>
   intro i hi;have:i=len:=by omega
   subst this;exact aY_ m
  |succ j ih=>exact fun i hi=>aY_ (p i (by omega) _ (ih (i+1) (by omega)))
 exact c3_ (f:=fun n N=>L n N 0 (S 0)) (k len 0 (by omega))
theorem cz_ {α:Type}(d:α){a:List α}{i:Nat}(h:i<a.length):a.take (i+1)=a.take i++[a.getD i d]:=by rw [List.take_add_one,List.getD_eq_getElem?_getD,List.getElem?_eq_getElem h];rfl
theorem hl_ {α:Type}(d:α)(P:α->Bool):∀ (rows:List α),hm_ (fun i (x:Int)=>cond (P (rows.getD i d)) (i:Int) x) (-1) rows.length 0=if rows.findIdx P<rows.length then (rows.findIdx P:Int) else -1:=by
 intro rows;have B:∀ j i,j+i=rows.length->(∀ k,k<i->P (rows.getD k d)=false)->hm_ (fun i (x:Int)=>cond (P (rows.getD i d)) (i:Int) x) (-1) j i=if rows.findIdx P<rows.length then (rows.findIdx P:Int) else -1:=by
  intro j;induction j with
  |zero=>
   intro i hi u;have:¬ rows.findIdx P<rows.length:=by intro h;have J:=List.findIdx_getElem (w:=h);have m:=u _ (show rows.findIdx P<i by omega);rw [List.getD_eq_getElem?_getD,List.getElem?_eq_getElem h] at m;simp only [Option.getD_some] at m;rw [J] at m;cases m
   rw [if_neg this];rfl
  |succ j ih=>
   intro i hi u;simp only [hm_];cases z:P (rows.getD i d) with
   |true=>
    have p:i<rows.length:=by omega
    rw [List.getD_eq_getElem?_getD,List.getElem?_eq_getElem p] at z;have e:rows.findIdx P=i:=by
     apply Nat.le_antisymm
     . exact Nat.le_of_not_lt fun h=>by have:=List.not_of_lt_findIdx h;rw [Option.getD_some] at z;rw [z] at this;cases this
     . exact Nat.le_of_not_lt fun h=>by
        have m:=u _ h;have hl:rows.findIdx P<rows.length:=by omega
        rw [List.getD_eq_getElem?_getD,List.getElem?_eq_getElem hl] at m;rw [Option.getD_some,List.findIdx_getElem (w:=hl)] at m;cases m
    rw [e,if_pos p];rfl
   |false=>
    rw [cond_false];exact ih (i+1) (by omega) fun k I=>by
     by_cases e:k=i
     . subst e;exact z
     . exact u k (by omega)
 exact B rows.length 0 (by omega) fun k u=>by omega
theorem eH_ {α:Type}{lo hi:Int}{len:Nat}{f:Nat->Nat->Option α}{v:α}:Ev (fun n N=>fF_ lo hi len (f n N)) v↔(0<=lo/\lo<=hi/\hi<=(len:Int))/\Ev f v:=by unfold fF_;simp only [ag_,do_];by_cases p:0<=lo<;>by_cases m:lo<=hi<;>by_cases k:hi<=(len:Int)<;>simp [p,m,k]
theorem e7_ {p:Nat->Bool}{len:Nat}:jm_ p len=true↔∀ i,i<len->p i=true:=by
 have u:∀ d i,d+i=len->(iV_ p d i=true↔∀ k,i<=k->k<len->p k=true):=by
  intro d;induction d with
  |zero=>intro i hi;simp only [iV_,true_iff];intro k z m;omega
  |succ d ih=>
   intro i hi;simp only [iV_,Bool.and_eq_true,ih (i+1) (by omega)];constructor
   . rintro ⟨z,m⟩ k I B
     by_cases e:k=i
     . subst e;exact z
     . exact m k (by omega) B
   . exact fun h=>⟨h i (Nat.le_refl _) (by omega),fun k z m=>h k (by omega) m⟩
 have:=u len 0 (by omega);unfold jm_;rw [this];exact ⟨fun h i hi=>h i (Nat.zero_le _) hi,fun h i _ hi=>h i hi⟩
section
variable {α β σ:Type}
def Ans (f:Nat->Nat->Option α)(Q:α->Prop):Prop:=∃ v,Ev f v/\Q v
theorem ans_ev {f:Nat->Nat->Option α}{v:α}(h:Ev f v){Q:α->Prop}:Ans f Q↔Q v :=
 ⟨fun ⟨w,m,k⟩=>(dZ_ h).1 m ▸ k,fun hq=>⟨v,h,hq⟩⟩
theorem a8_ {v:α}{Q:α->Prop}:Ans (fun _ _=>some v) Q↔Q v:=ans_ev (ac_.2 rfl)
theorem tr_ {Q:α->Prop}:Ans (fun _ _=>none) Q↔False :=
 ⟨fun ⟨_,h,_⟩=>do_.1 h,fun h=>h.elim⟩
theorem bZ_ {f:Nat->Nat->Option α}{a:α}(h:Ev f a){g:Nat->Nat->α->Option β}{Q:β->Prop}:Ans (fun n N=>(f n N).bind (g n N)) Q↔Ans (fun n N=>g n N a) Q:=by unfold Ans;simp only [ab_ h]
theorem bJ_ {f:Nat->Nat->Option α}{P:α->Prop}(h:Ans f P){g:Nat->Nat->α->Option β}{Q:β->Prop} (k:∀ v,P v->Ans (fun n N=>g n N v) Q):Ans (fun n N=>(f n N).bind (g n N)) Q:=by obtain ⟨v,p,m⟩:=h;exact (bZ_ p).2 (k v m)
theorem cr_ {c:Bool}{f g:Nat->Nat->Option α}{Q:α->Prop}:Ans (fun n N=>cond c (f n N) (g n N)) Q↔(c=true->Ans f Q)/\(c=false->Ans g Q):=by cases c<;>simp
theorem eo_ {i:Int}{len:Nat}{f:Nat->Nat->Option α}{Q:α->Prop}:Ans (fun n N=>inB i len (f n N)) Q↔(0<=i/\i<(len:Int))/\Ans f Q:=by unfold Ans;simp only [a2_];exact ⟨fun ⟨v,⟨p,m⟩,k⟩=>⟨p,v,m,k⟩,fun ⟨p,v,m,k⟩=>⟨v,⟨p,m⟩,k⟩⟩
theorem gq_ {n b:Nat}{f:Nat->Nat->Option α}{Q:α->Prop}:Ans (fun m N=>bj_ n b (f m N)) Q↔n*b<=140737488355328/\Ans f Q:=by unfold Ans;simp only [a6_];exact ⟨fun ⟨v,⟨u,p⟩,k⟩=>⟨u,v,p,k⟩,fun ⟨u,v,p,k⟩=>⟨v,⟨u,p⟩,k⟩⟩
theorem h4_ {lo hi:Int}{len:Nat}{f:Nat->Nat->Option α}{Q:α->Prop}:Ans (fun n N=>fF_ lo hi len (f n N)) Q↔(0<=lo/\lo<=hi/\hi<=(len:Int))/\Ans f Q:=by unfold Ans;simp only [eH_];exact ⟨fun ⟨v,⟨p,m⟩,k⟩=>⟨p,v,m,k⟩,fun ⟨p,v,m,k⟩=>⟨v,⟨p,m⟩,k⟩⟩
theorem c5_ {f:Nat->Nat->Option α}{Q:α->Prop} (h:Ans (fun n N=>f (n+1) N) Q):Ans f Q :=
 let ⟨v,h1,h2⟩:=h;⟨v,ak_ h1,h2⟩
theorem dn_ {f:Nat->Nat->Option α}{Q:α->Prop} (h:Ans (fun n N=>f n (N+1)) Q):Ans f Q :=
 let ⟨v,h1,h2⟩:=h;⟨v,aY_ h1,h2⟩
theorem ge_ {f:Nat->Nat->Option α}{Q:α->Prop}(h:Ans f Q):Ans (fun n _=>f n n) Q :=
 let ⟨v,h1,h2⟩:=h;⟨v,c3_ h1,h2⟩
theorem ev_ans {f:Nat->Nat->Option α}{v:α}(h:Ans f fun w=>w=v):Ev f v:=let ⟨_,m,k⟩:=h;k ▸ m
end
theorem aM_ (j:aa_):aa_.re j=j:=by cases j;rfl
def jo_ (s:Bs):Bool:=jm_ (fun i=>inn ((s.getD i 0).toNat:Int) 32 126) s.length&&decide ((s.length:Int)<=60)
theorem tp_ (b:UInt8):W ((b.toNat:Int))=(b.toNat:Int):=W_id (by omega) (by have:=b.toNat_lt;omega)
theorem hp_ {s:Bs}(hs:s.length<=b9_):Ev (fun n _=>b5_ n s) (jo_ s):=by
 refine ak_ ?_;simp only [b5_];refine fv_ (fun n N i=>b5_.loop3 n (fun B1=>(some (decide ((B1.length:Int)<=60)))) N s (i:Int)) _ (fun i w hi ih => ?_) ?_
 . simp only [b5_.turn3,b5_.step3,Int.toNat_natCast,ag_,a2_,ac_,W_up hi hs,dZ_ ih,cD_ hi,cb_ hi]
   clear ih;simp only [inn];by_cases m:(((s.getD i 0).toNat:Nat):Int)<32<;>by_cases k:(((s.getD i 0).toNat:Nat):Int) > 126<;>simp [m,k]<;>(intros;omega)
 . simp only [b5_.turn3,b5_.step3,cj_,cond_false,ac_]
theorem hw_ {s:Bs}(hs:s.length<=b9_):Ev (fun n _=>av_ n s) (jo_ s):=by
 refine ak_ ?_;simp only [av_];refine fv_ (fun n N i=>av_.loop3 n (fun B1=>(some (decide ((B1.length:Int)<=60)))) N s (s.length:Int) (i:Int)) _ (fun i w hi ih => ?_) ?_
 . simp only [av_.turn3,av_.step3,Int.toNat_natCast,ag_,a2_,hd_,tp_,ac_,W_up hi hs,dZ_ ih,cD_ hi,cb_ hi]
   clear ih
   grind
 . simp only [av_.turn3,av_.step3,cj_,cond_false,ac_]
def tV_ (c:Nat)(l:List Bs):Prop:=l.length<=c/\∀ x ∈ l,x.length<=c
theorem kq_ {c:Nat}{l:List Bs}(h:tV_ c l)(i:Nat):(l.getD i []).length<=c:=by
 by_cases hi:i<l.length
 . exact h.2 _ (bB_ [] hi)
 . rw [List.getD_eq_getElem?_getD,List.getElem?_eq_none (by omega)];exact Nat.zero_le _
def kC_ (l:List Bs):Bool:=jm_ (fun i=>jo_ (l.getD i [])&&(decide (i=0)||Op.bytesLess (l.getD (i - 1) []) (l.getD i []))) l.length
theorem m9_ {l:List Bs}(h:tV_ b9_ l):Ev (fun n _=>au_ n l) (kC_ l):=by
 refine ak_ ?_;simp only [au_];refine gJ_ (fv_ (fun n N i=>au_.loop3 n (some true) N l l (l.length:Int) (i:Int)) (fun i=>jo_ (l.getD i [])&&(decide (i=0)||Op.bytesLess (l.getD (i - 1) []) (l.getD i []))) (len:=l.length) (v:=true) (fun i w hi ih => ?_) ?_) (by rw [Bool.and_true];rfl)
 . simp only [au_.turn3,au_.step3,Int.toNat_natCast,W_up hi h.1,W_dn (i:=i) (by have:=h.1;omega),l4_,ag_,a2_,ab_ (hw_ (kq_ h i)),ac_,dZ_ ih,cD_ hi,cb_ hi]
   clear ih
   repeat' (first|apply And.intro|intro _)
   all_goals (try rw [Bool.eq_iff_iff])
   all_goals (try simp only [Bool.not_eq_true',Bool.not_eq_false',decide_eq_true_eq,decide_eq_false_iff_not,Bool.and_eq_true,Bool.or_eq_true,Bool.and_eq_false_iff,Bool.or_eq_false_iff] at *)
   all_goals grind
 . simp only [au_.turn3,au_.step3,cj_,cond_false,ac_]
def sj_ (j:aa_):Bool:=cond (j.kind != 5) ((j.names.length:Int)==0) (kC_ j.names&&((j.names.length:Int)==(j.list.length:Int)))
theorem mw_ {j:aa_}(h:tV_ b9_ j.names):Ev (fun n _=>ad_ n j) (sj_ j):=by
 refine ak_ ?_;have hl:Ev (fun n _=>ad_.loop6 n (fun B2 B3 B4 B5 B6=>(some ((B6.length:Int)==(B5.length:Int)))) n 0 j.kind j.n_ j.s j.list j.names) (kC_ j.names&&((j.names.length:Int)==(j.list.length:Int))):=by
  refine fv_ (fun n N i=>ad_.loop6 n (fun B2 B3 B4 B5 B6=>(some ((B6.length:Int)==(B5.length:Int)))) N (i:Int) j.kind j.n_ j.s j.list j.names) _ (fun i w hi ih => ?_) ?_
  . simp only [ad_.turn6,ad_.step6,Int.toNat_natCast,W_up hi h.1,W_dn (i:=i) (by have:=h.1;omega),l4_,ag_,a2_,ab_ (hp_ (kq_ h i)),ac_,dZ_ ih,cD_ hi,cb_ hi]
    clear ih
    repeat' (first|apply And.intro|intro _)
    all_goals (try rw [Bool.eq_iff_iff])
    all_goals (try simp only [Bool.not_eq_true',Bool.not_eq_false',decide_eq_true_eq,decide_eq_false_iff_not,Bool.and_eq_true,Bool.or_eq_true,Bool.and_eq_false_iff,Bool.or_eq_false_iff] at *)
    all_goals grind
  . simp only [ad_.turn6,ad_.step6,cj_,cond_false,ac_]
 simp only [ad_,ag_,ac_,dZ_ hl,sj_];cases (j.kind != 5)<;>simp
def bi (l:Bs):List Int:=l.map fun c=>((c.toNat:Nat):Int)
theorem kJ_ (l:Bs):i6_ (bi l)=l:=by unfold i6_ bi;rw [List.map_map];refine (List.map_congr_left fun c _ => ?_).trans (List.map_id l);simp
theorem lH_ (l:Bs):(bi l).length=l.length:=List.length_map _
theorem bi_app (a b:Bs):bi (a++b)=bi a++bi b:=List.map_append
theorem lG_ (c:UInt8)(k:Nat)(d:UInt8)(hd:d.toNat=k):(((c.toNat:Nat):Int)==(k:Int))=decide (c=d):=by
 by_cases h:c=d
 . subst h;rw [hd];simp
 . rw [decide_eq_false h,beq_eq_false_iff_ne]
   intro e;exact h (UInt8.toNat_inj.1 (by omega))
theorem byte34 (c:UInt8):(((c.toNat:Nat):Int)==34)=decide (c=34):=lG_ c 34 34 rfl
theorem byte92 (c:UInt8):(((c.toNat:Nat):Int)==92)=decide (c=92):=lG_ c 92 92 rfl
theorem byte126 (c:UInt8):(((c.toNat:Nat):Int)==126)=decide (c=126):=lG_ c 126 126 rfl
theorem byte47 (c:UInt8):(((c.toNat:Nat):Int)==47)=decide (c=47):=lG_ c 47 47 rfl
theorem gI_ (f:UInt8->Bs) (h:∀ c,(f c).length<=2):∀ s:Bs,(s.flatMap f).length<=2*s.length
 |[]=>Nat.le_refl _
 |c::s=>by have:=gI_ f h s;have:=h c;simp only [List.flatMap_cons,List.length_append,List.length_cons];omega
theorem qT_ (f:UInt8->Bs){s:Bs}{i:Nat}(h:i<s.length):(s.take (i+1)).flatMap f=(s.take i).flatMap f++f (s.getD i 0):=by rw [cz_ 0 h,List.flatMap_append];simp
def gh_ (c:UInt8):Bs:=if c=34\/c=92 then [92,c] else [c]
theorem kd_ (c:UInt8):(gh_ c).length<=2:=by unfold gh_;split<;>simp
def dG_ (s:Bs):Bs:=34::s.flatMap gh_++[34]
theorem gQ_ (s:Bs):(dG_ s).length<=2*s.length+2:=by have:=gI_ gh_ kd_ s;simp only [dG_,List.cons_append,List.length_cons,List.length_append,List.length_nil];omega
theorem q2 (o:Bs)(c:UInt8):bi (34::(o++[92,c]))=(bi (34::o)++[92])++[((c.toNat:Nat):Int)]:=by simp [bi]
theorem q1 (o:Bs)(c:UInt8):bi (34::(o++[c]))=bi (34::o)++[((c.toNat:Nat):Int)]:=by simp [bi]
theorem qEnd (o:Bs):i6_ (bi (34::o)++[34])=34::o++[34]:=by
 have:bi (34::o)++[34]=bi (34::o++[34]):=by simp [bi]
 rw [this,kJ_]
theorem ir_ {s:Bs}(hs:s.length<=1000000):Ev (fun n _=>bv_ n s) (dG_ s):=by
 refine ak_ ?_;have u:s.length<=b9_:=by simp only [b9_];omega
 simp only [bv_];have:=eR_ (fun i=>bi (34::(s.take i).flatMap gh_)) s.length (fun n N i (o:List Int)=>bv_.loop4 n (fun B1=>(bj_ (B1.length+([34]:List Int).length) 1 (some (i6_ (B1++([34]:List Int)))))) N s (i:Int) o) (dG_ s) (fun i hi F k => ?_) ?_
 . exact this
 . have hl:=gI_ gh_ kd_ (s.take i)
   rw [List.length_take] at hl;rw [qT_ gh_ hi] at k;generalize (s.take i).flatMap gh_=o at k hl ⊢;have hb:=lH_ (34::o);simp only [List.length_cons] at hb;simp only [bv_.turn4,bv_.step4,Int.toNat_natCast,W_up hi u,ag_,a2_,a6_,cD_ hi,cb_ hi,byte34,byte92];generalize s.getD i 0=c at k ⊢;unfold gh_ at k;by_cases p:c=34
   . rw [if_pos (.inl p),q2] at k
     simp only [p,decide_true] at k ⊢
     repeat' (first|apply And.intro|intro _)
     all_goals (first|contradiction|exact k|trivial|(simp [hb];omega))
   . by_cases m:c=92
     . rw [if_pos (.inr m),q2] at k
       simp only [m,decide_true] at k ⊢
       repeat' (first|apply And.intro|intro _)
       all_goals (first|contradiction|exact k|trivial|(simp [hb];omega))
     . rw [if_neg (fun h=>h.elim p m),q1] at k
       simp only [p,m,decide_false] at k ⊢
       repeat' (first|apply And.intro|intro _)
       all_goals (first|contradiction|exact k|trivial|(simp [hb];omega))
 . have hl:=gI_ gh_ kd_ s
   have hb:=lH_ (34::s.flatMap gh_);simp only [List.length_cons] at hb;simp only [bv_.turn4,bv_.step4,cj_,cond_false,a6_,List.take_length,ac_,qEnd];exact ⟨by simp only [hb,List.length_cons,List.length_nil];omega,rfl⟩
theorem jv_ {s:Bs}(hs:s.length<=1000000):Ev (fun n _=>bY_ n s) (dG_ s):=by
 refine ak_ ?_;have u:s.length<=b9_:=by simp only [b9_];omega
 simp only [bY_];have:=eR_ (fun i=>bi (34::(s.take i).flatMap gh_)) s.length (fun n N i (o:List Int)=>bY_.loop4 n (fun B1=>(bj_ (B1.length+([34]:List Int).length) 1 (some (i6_ (B1++([34]:List Int)))))) N s (s.length:Int) (i:Int) o) (dG_ s) (fun i hi F k => ?_) ?_
 . exact this
 . have hl:=gI_ gh_ kd_ (s.take i)
   rw [List.length_take] at hl;rw [qT_ gh_ hi] at k;generalize (s.take i).flatMap gh_=o at k hl ⊢;have hb:=lH_ (34::o);simp only [List.length_cons] at hb;simp only [bY_.turn4,bY_.step4,Int.toNat_natCast,W_up hi u,ag_,a2_,a6_,cD_ hi,cb_ hi,byte34,byte92];generalize s.getD i 0=c at k ⊢;unfold gh_ at k;by_cases p:c=34
   . rw [if_pos (.inl p),q2] at k
     simp only [p,decide_true] at k ⊢
     repeat' (first|apply And.intro|intro _)
     all_goals (first|contradiction|exact k|trivial|(simp [hb];omega))
   . by_cases m:c=92
     . rw [if_pos (.inr m),q2] at k
       simp only [m,decide_true] at k ⊢
       repeat' (first|apply And.intro|intro _)
       all_goals (first|contradiction|exact k|trivial|(simp [hb];omega))
     . rw [if_neg (fun h=>h.elim p m),q1] at k
       simp only [p,m,decide_false] at k ⊢
       repeat' (first|apply And.intro|intro _)
       all_goals (first|contradiction|exact k|trivial|(simp [hb];omega))
 . have hl:=gI_ gh_ kd_ s
   have hb:=lH_ (34::s.flatMap gh_);simp only [List.length_cons] at hb;simp only [bY_.turn4,bY_.step4,cj_,cond_false,a6_,List.take_length,ac_,qEnd];exact ⟨by simp only [hb,List.length_cons,List.length_nil];omega,rfl⟩
theorem gO_ (a b:UInt8)(l:Bs):Lib.index (b::l) [a]=if a=b then 0 else if Lib.index l [a] = -1 then -1 else Lib.index l [a]+1:=by
 rw [Lib.index];have:List.isPrefixOf [a] (b::l)=decide (a=b):=by simp only [List.isPrefixOf,Bool.and_true];exact Bool.eq_iff_iff.2 (by simp)
 rw [this];by_cases h:a=b
 . rw [decide_eq_true h,if_pos rfl,if_pos h]
 . rw [decide_eq_false h,if_neg (by simp),if_neg h]
   by_cases k:Lib.index l [a] = -1
   . rw [k,if_pos rfl,if_pos (by decide)]
   . rw [if_neg k,if_neg (by simpa using k)]
theorem rt_ {a b:UInt8}(h:a≠b)(new l:Bs):∀ k,Lib.replaceK [a] new k (b::l)=b::Lib.replaceK [a] new k l
 |0=>rfl
 |k+1=>by
  rw [Lib.replaceK,Lib.replaceK,gO_,if_neg h];by_cases m:Lib.index l [a] = -1
  . rw [if_pos m,if_pos (by decide),m,if_pos (by decide)]
  . have:=Lib.index_ge l [a]
    obtain ⟨i,hi⟩:∃ i:Nat,Lib.index l [a]=i:=⟨(Lib.index l [a]).toNat,by omega⟩
    rw [if_neg m,if_neg (by rw [hi];simp<;>omega),if_neg (by rw [hi];simp<;>omega),hi,show ((i:Int)+1).toNat=i+1 by omega,show ((i:Int)).toNat=i by omega];rfl
theorem ru_ (a:UInt8)(new l:Bs)(k:Nat):Lib.replaceK [a] new (k+1) (a::l)=new++Lib.replaceK [a] new k l:=by rw [Lib.replaceK,gO_,if_pos rfl,if_neg (by decide)];rfl
theorem iB_ (a:UInt8)(new:Bs):∀ (s:Bs)(k:Nat),s.count a<=k->Lib.replaceK [a] new k s=s.flatMap fun c=>if c=a then new else [c]
 |[],0,_=>rfl
 |[],k+1,_=>by rw [Lib.replaceK];have:Lib.index [] [a] = -1:=rfl;rw [this,if_pos (by decide)];rfl
 |b::l,k,h=>by
  by_cases e:b=a
  . subst e
    rw [List.count_cons_self] at h;obtain ⟨k,rfl⟩:∃ m,k=m+1:=⟨k - 1,by omega⟩
    rw [ru_,iB_ b new l k (by omega),List.flatMap_cons,if_pos rfl]
  . rw [List.count_cons_of_ne e] at h
    rw [rt_ (fun h=>e h.symm),iB_ a new l k h,List.flatMap_cons,if_neg e];rfl
theorem h0_ (a:UInt8):∀ (s:Bs)(f:Nat),s.length<f->Lib.countFrom [a] f s=s.count a
 |[],f+1,_=>by rw [Lib.countFrom];have:Lib.index [] [a] = -1:=rfl;rw [this,if_pos (by decide)];rfl
 |b::l,f+1,h=>by
  have hl:l.length<f:=by simpa using h
  by_cases e:a=b
  . subst e
    rw [List.count_cons_self,Lib.countFrom,gO_,if_pos rfl,if_neg (by decide)];show 1+Lib.countFrom [a] f l=_;rw [h0_ a l f hl];omega
  . rw [List.count_cons_of_ne (fun h=>e h.symm),<-h0_ a l (f+1) (by omega),Lib.countFrom,Lib.countFrom,gO_,if_neg e]
    by_cases k:Lib.index l [a] = -1
    . rw [if_pos k,if_pos (by decide),k,if_pos (by decide)]
    . have:=Lib.index_ge l [a]
      obtain ⟨i,hi⟩:∃ i:Nat,Lib.index l [a]=i:=⟨(Lib.index l [a]).toNat,by omega⟩
      rw [if_neg k,if_neg (by rw [hi];simp<;>omega),if_neg (by rw [hi];simp<;>omega),hi,show ((i:Int)+1).toNat=i+1 by omega,show ((i:Int)).toNat=i by omega];rfl
theorem nn_ (a:UInt8)(s:Bs):Lib.count s [a]=s.count a:=h0_ a s _ (Nat.lt_succ_self _)
theorem nQ_ (a:UInt8)(new s:Bs) (k:([a]==new)=false):Lib.replaceAll s [a] new=s.flatMap fun c=>if c=a then new else [c]:=by unfold Lib.replaceAll Lib.replace Lib.replaceNum;rw [k,if_neg (by simp),if_pos (.inl (by decide)),nn_];exact iB_ a new s _ (Nat.le_refl _)
theorem ky_ {a b c:UInt8}{s:Bs}(hs:s.length<=1000000) (k:([a]==[b,c])=false):Ev (fun n _=>strings_ReplaceAll n s [a] [b,c]) (s.flatMap fun x=>if x=a then [b,c] else [x]):=by refine ak_ ?_;have:=List.count_le_length (a:=a) (l:=s);simp only [strings_ReplaceAll,gX_,nn_,nQ_ a [b,c] s k,ag_,ac_,do_];refine ⟨fun _=>trivial,fun h => ?_⟩;have e1:decide (s.length<4294967281)=true:=decide_eq_true (by omega);have e2:decide (1<=[a].length)=true:=rfl;have e3:decide (s.length+List.count a s*[b,c].length<=140737488355328)=true:=decide_eq_true (by simp only [List.length_cons,List.length_nil];omega);rw [e1,e2,e3] at h;cases h
def ha_ (c:UInt8):Bs:=if c=126 then [126,48] else if c=47 then [126,49] else [c]
theorem sq_ (c:UInt8):(ha_ c).length<=2:=by
 unfold ha_;split
 . simp
 . split<;>simp
theorem wesc_two (s:Bs):((s.flatMap fun x=>if x=126 then [126,48] else [x]).flatMap fun x=>if x=47 then [126,49] else [x])=s.flatMap ha_:=by
 induction s with
 |nil=>rfl
 |cons c s ih=>
  rw [List.flatMap_cons,List.flatMap_append,ih,List.flatMap_cons]
  congr 1
  unfold ha_;by_cases m:c=126
  . subst m;rfl
  . by_cases k:c=47
    . subst k;rfl
    . rw [if_neg m,if_neg m,if_neg k];simp [k]
def FWay (w:List Bs):Bs:=w.flatMap fun s=>47::s.flatMap ha_
theorem sr_ {w:List Bs}{i:Nat}(h:i<w.length):FWay (w.take (i+1))=FWay (w.take i)++(47::(w.getD i []).flatMap ha_):=by unfold FWay;rw [cz_ [] h,List.flatMap_append];simp
theorem pX_ {w:List Bs}{c:Nat}(h:∀ s ∈ w,s.length<=c):(FWay w).length<=w.length*(2*c+1):=by
 induction w with
 |nil=>exact Nat.zero_le _
 |cons s w ih=>
  have p:=gI_ ha_ sq_ s;have m:=h s (List.mem_cons_self ..);have k:=ih fun x hx=>h x (List.mem_cons_of_mem _ hx);have e:FWay (s::w)=(47::s.flatMap ha_)++FWay w:=rfl;rw [e,List.length_append,List.length_cons,List.length_cons,Nat.add_mul];omega
theorem sw_ {w:List Bs}{c:Nat}(h:∀ s ∈ w,s.length<=c)(i:Nat):∀ s ∈ w.take i,s.length<=c:=fun s hs=>h s (List.mem_of_mem_take hs)
theorem iK_ {w:List Bs}(z:w.length<=6)(hs:∀ s ∈ w,s.length<=60):Ev (fun n _=>bT_ n w) (FWay w):=by
 refine ak_ ?_;have p:w.length<=b9_:=by simp only [b9_];omega
 simp only [bT_];have:=eR_ (fun i=>FWay (w.take i)) w.length (fun n N i (o:Bs)=>bT_.loop4 n (fun B3=>(some B3)) N o w (w.length:Int) (i:Int)) (FWay w) (fun i hi F k => ?_) ?_
 . exact this
 . have I:=hs _ (bB_ [] hi)
   have u:=gI_ ha_ sq_ (w.getD i []);have m:=pX_ (sw_ hs i);rw [List.length_take] at m;rw [sr_ hi] at k;have r1:=ky_ (a:=126) (b:=126) (c:=48) (s:=w.getD i []) (by omega) (by decide);have B:=gI_ (fun x=>if x=126 then [126,48] else [x]) (fun c=>by split<;>simp) (w.getD i []);have r2:=ky_ (a:=47) (b:=126) (c:=49) (s:=(w.getD i []).flatMap fun x=>if x=126 then [126,48] else [x]) (by omega) (by decide);rw [wesc_two] at r2;generalize FWay (w.take i)=o at k m ⊢;simp only [bT_.turn4,bT_.step4,Int.toNat_natCast,W_up hi p,ag_,a2_,do_,cD_ hi,cb_ hi,ab_ r1,ab_ r2];generalize (w.getD i []).flatMap ha_=e at k u ⊢;have e2:([47]:Bs)++e=47::e:=rfl;rw [e2];refine ⟨fun _=>⟨trivial,fun _=>⟨fun _=>k,fun h => ?_⟩,fun h => ?_⟩,fun h=>(by cases h)⟩
   . have h:=of_decide_eq_false h
     simp only [List.length_cons] at h;omega
   . have h:=of_decide_eq_false h
     simp only [List.length_cons,List.length_nil] at h;omega
 . simp only [bT_.turn4,bT_.step4,cj_,cond_false,List.take_length,ac_]
theorem m7_ {α:Type}{i len:Nat}{x:Option α}(h:i<len):inB (i:Int) len x=x:=by unfold inB;rw [decide_eq_true (by omega),decide_eq_true (by omega)];rfl
theorem l6_ {α:Type}{n b:Nat}{x:Option α}(h:n*b<=140737488355328):bj_ n b x=x:=by unfold bj_;rw [decide_eq_true h];rfl
theorem td_ {α:Type}{f g:Nat->Nat->Option α}{v:α}(M:Nat)(h:∀ n N,M<=n->f n N=g n N)(k:Ev g v):Ev f v:=by obtain ⟨M',hM⟩:=k;exact ⟨max M M',fun n N p m=>by rw [h n N (by omega)];exact hM n N (by omega) (by omega)⟩
theorem p7_ (n:Nat)(k2:List Bs->Int->List Int->Option Bs){w:List Bs}{i:Nat}(hi:i<w.length) (hl:(w.getD i []).length<=1000000):∀ (d j m:Nat)(o:List Int),j+d=(w.getD i []).length->d<m->o.length+2*d<=100000000 ->
  aE_.loop10 n k2 m w (i:Int) (j:Int) o=k2 w (i:Int) (o++bi (((w.getD i []).drop j).flatMap ha_))
 |0,j,m+1,o,hj,_,_=>by
  have e:(j:Int)=((w.getD i []).length:Int):=by omega
  have e2:(w.getD i []).drop j=[]:=List.drop_eq_nil_of_le (by omega);rw [aE_.turn10,aE_.step10,Int.toNat_natCast,m7_ hi,e,cj_,e2];simp [bi]
 |d+1,j,m+1,o,hj,hm,ho=>by
  have k:j<(w.getD i []).length:=by omega
  have ih:=fun o=>p7_ n k2 hi hl d (j+1) m o (by omega) (by omega);have e1:(w.getD i []).drop j=(w.getD i []).getD j 0::(w.getD i []).drop (j+1):=dA_ 0 k;rw [aE_.turn10,aE_.step10,Int.toNat_natCast,Int.toNat_natCast,m7_ hi,m7_ hi,m7_ hi,m7_ k,m7_ k,cD_ k,W_up k (show (w.getD i []).length<=b9_ by simp only [b9_];omega),byte126,byte47,e1,List.flatMap_cons,bi_app,<-List.append_assoc];generalize (w.getD i []).getD j 0=c;rw [l6_ (by simp;omega),l6_ (by simp;omega),l6_ (by simp;omega)];unfold ha_;by_cases p:c=126
  . rw [decide_eq_true p,if_pos p]
    exact ih _ (by simp;omega)
  . by_cases u:c=47
    . rw [decide_eq_false p,decide_eq_true u,if_neg p,if_pos u]
      exact ih _ (by simp;omega)
    . rw [decide_eq_false p,decide_eq_false u,if_neg p,if_neg u]
      exact ih _ (by simp;omega)
theorem mx_ {w:List Bs}(u:w.length<=6)(hs:∀ s ∈ w,s.length<=60):Ev (fun n _=>aE_ n w) (FWay w):=by
 refine ak_ ?_;have p:w.length<=b9_:=by simp only [b9_];omega
 simp only [aE_];have:=eR_ (fun i=>bi (FWay (w.take i))) w.length (fun n N i (o:List Int)=>aE_.loop4 n (fun B4=>(some (i6_ B4))) N w (i:Int) o) (FWay w) (fun i hi F k => ?_) ?_
 . exact this
 . have z:=hs _ (bB_ [] hi)
   have m:=pX_ (sw_ hs i);rw [List.length_take] at m;rw [sr_ hi] at k;generalize FWay (w.take i)=o at k m ⊢;have hb:=lH_ o;simp only [aE_.turn4,aE_.step4,cD_ hi,cond_true,a6_];refine ⟨by simp [hb];omega,td_ 61 (fun n N hn=>p7_ n _ hi (by omega) (w.getD i []).length 0 n _ (by omega) (by omega) (by simp only [hb,List.length_append,List.length_cons,List.length_nil];omega)) ?_⟩;simp only [W_up hi p,List.drop_zero];have e:bi (o++47::(w.getD i []).flatMap ha_)=bi o++([47]:List Int)++bi ((w.getD i []).flatMap ha_):=by simp [bi]
   rw [e] at k;exact k
 . simp only [aE_.turn4,aE_.step4,cj_,cond_false,List.take_length,ac_,kJ_]
theorem m4_ (k:Int):k=0\/k=1\/k=2\/k=3\/k=4\/k=5\/(k≠0/\k≠1/\k≠2/\k≠3/\k≠4/\k≠5):=by omega
theorem pp_ {α:Type}(l:List α):decide (l.length=0) = !decide ((l.length:Int) > 0):=by
 by_cases k:l.length=0
 . rw [k];rfl
 . rw [decide_eq_false k,decide_eq_true (show (l.length:Int) > 0 by omega)];rfl
def FOwnK (j:aa_):Bool :=
 cond (j.kind==1) (inn j.n_ 0 1) (cond (j.kind==2) (inn j.n_ (-1000000000) 1000000000) (cond (j.kind==3) (jo_ j.s) (cond (j.kind==5) (((j.names.length:Int)==(j.list.length:Int))&&kC_ j.names) ((j.kind==0)||(j.kind==4)))))
def FOwn (j:aa_):Bool :=
 (decide (j.list.length=0)||((j.kind==4)||(j.kind==5)))&&((decide (j.names.length=0)||(j.kind==5))&&(((j.n_==0)||((j.kind==1)||(j.kind==2)))&&(((j.s==[])||(j.kind==3))&&FOwnK j)))
def lenJ1 (j:aa_):Prop:=j.s.length<=b9_/\tV_ b9_ j.names
theorem pB_ {j:aa_}(h:lenJ1 j):Ev (fun n _=>fn_ n j) (FOwn j):=by
 refine ak_ ?_;simp only [fn_,ag_,hd_,isNum_b,ab_ (hw_ h.1),ab_ (m9_ h.2),ac_];unfold FOwn FOwnK;have e1:=pp_ j.list;have e2:=pp_ j.names;rw [e1,e2];generalize decide ((j.list.length:Int) > 0)=a;generalize decide ((j.names.length:Int) > 0)=b;generalize (j.s==[])=c;have e3:(j.n_ != 0) = !(j.n_==0):=rfl;rw [e3];generalize hd:(j.n_==0)=d;generalize jo_ j.s=ft;generalize kC_ j.names=fn;generalize ((j.names.length:Int)==(j.list.length:Int))=eq;rcases m4_ j.kind with k|k|k|k|k|k|⟨k0,k1,k2,k3,k4,k5⟩
 all_goals (first|simp only [k]|simp only [beq_eq_false_iff_ne.2 k0,beq_eq_false_iff_ne.2 k1,beq_eq_false_iff_ne.2 k2,beq_eq_false_iff_ne.2 k3,beq_eq_false_iff_ne.2 k4,beq_eq_false_iff_ne.2 k5,bne])
 all_goals (cases a<;>cases b<;>cases c<;>cases d<;>simp)
 all_goals (cases eq<;>simp)
def bp_:Nat->aa_->Nat
 |0,_=>401
 |d+1,j=>cond (FOwn j) (min 401 (1+fU_ (bp_ d) j.list)) 401
theorem FSize_le:∀ (d:Nat)(j:aa_),bp_ d j<=401
 |0,_=>Nat.le_refl _
 |d+1,j=>by simp only [bp_];cases FOwn j<;>simp only [cond_true,cond_false]<;>omega
def gk_:Nat->aa_->Prop
 |0,_=>True
 |d+1,j=>lenJ1 j/\j.list.length<=b9_/\∀ x ∈ j.list,gk_ d x
theorem getD_json {d:Nat}{l:List aa_}(h:∀ x ∈ l,gk_ d x){i:Nat}(hi:i<l.length):gk_ d (l.getD i aa_.dflt):=h _ (bB_ _ hi)
theorem ju_:∀ (d:Nat)(j:aa_),d<=1000->gk_ d j->Ev (fun n _=>bI_ n j (d:Int)) (bp_ d j:Int)
 |0,j,_,_=>by refine ak_ ?_;simp only [bI_,ag_,ac_];exact ⟨fun _=>rfl,fun h=>by simp at h⟩
 |d+1,j,hd,h=>by
  refine ak_ ?_;have J:W (((d+1:Nat):Int) - 1)=(d:Int):=by rw [W_id (by omega) (by omega)];omega
  simp only [bI_,aM_,ag_,ab_ (pB_ h.1),ac_,bp_];refine ⟨fun hc=>by have:=of_decide_eq_true hc;omega,fun _ => ?_⟩;cases O:FOwn j with
  |false=>exact ⟨fun _=>rfl,fun h=>by cases h⟩
  |true=>
   refine ⟨fun h=>(by cases h),fun _ => ?_⟩;have B:=h.2.1;have p:∀ (k i s:Nat),k+i=j.list.length->s<=400->Ev (fun n N=>bI_.loop7 n (bI_ n) (fun B3=>some B3) N ((d+1:Nat):Int) (s:Int) j.list (j.list.length:Int) (i:Int)) ((min 401 (s+fU_ (bp_ d) (j.list.drop i)):Nat):Int):=by
    intro k;induction k with
    |zero=>
     intro i s hi hs;have:i=j.list.length:=by omega
     subst this;refine aY_ ?_;simp only [bI_.turn7,bI_.step7,cj_,cond_false,ac_,List.drop_length,fU_];omega
    |succ k ih=>
     intro i s hi hs;have m:i<j.list.length:=by omega
     refine aY_ ?_;have hc:=ju_ d (j.list.getD i aa_.dflt) (by omega) (getD_json h.2.2 m);have I:=FSize_le d (j.list.getD i aa_.dflt);have z:W ((s:Int)+(bp_ d (j.list.getD i aa_.dflt):Int))=((s+bp_ d (j.list.getD i aa_.dflt):Nat):Int):=by rw [W_id (by omega) (by omega)];omega
     simp only [bI_.turn7,bI_.step7,aM_,Int.toNat_natCast,J,W_up m B,ag_,a2_,cD_ m,cb_ m,ab_ hc,z,ac_];rw [mp_ (bp_ d) aa_.dflt m];refine ⟨fun _=>⟨trivial,fun u => ?_,fun u => ?_⟩,fun h=>(by cases h)⟩
     . have:=of_decide_eq_true u;omega
     . have:=of_decide_eq_false u
       rw [show s+(bp_ d (j.list.getD i aa_.dflt)+fU_ (bp_ d) (j.list.drop (i+1)))=(s+bp_ d (j.list.getD i aa_.dflt))+fU_ (bp_ d) (j.list.drop (i+1)) by omega];exact ih (i+1) _ (by omega) (by omega)
   have:=p j.list.length 0 1 (by omega) (by omega);rw [List.drop_zero] at this;exact c3_ (f:=fun n N=>bI_.loop7 n (bI_ n) (fun B3=>some B3) N ((d+1:Nat):Int) 1 j.list (j.list.length:Int) 0) this
def bU_ (j:aa_):Bool:=decide (bp_ 6 j<=400)
theorem dW_ {j:aa_}(h:gk_ 6 j):Ev (fun n _=>c0_ n j) (bU_ j):=by
 refine ak_ ?_;have e:Ev (fun n _=>bI_ n j 6) (bp_ 6 j:Int):=ju_ 6 j (by omega) h;simp only [c0_,aM_,ab_ e,ac_,bU_];by_cases hq:bp_ 6 j<=400
 . rw [decide_eq_true hq,decide_eq_true (by omega)]
 . rw [decide_eq_false hq,decide_eq_false (by omega)]
def Great (d:Nat)(j:aa_):Prop:=∃ v:Nat,v<=401+401*d/\min 401 v=bp_ d j/\Ev (fun n _=>aR_ n j (d:Int)) (v:Int)
theorem t6_ {d:Nat}{l:List aa_}(hd:d<=1000)(T:l.length<=b9_)(ih:∀ x ∈ l,Great d x)(kd nn:Int)(s:Bs)(ns:List Bs) :
  ∃ w:Nat,w<=401+401*(d+1)/\min 401 w=min 401 (1+fU_ (bp_ d) l)/\∀ (K:Nat->aR_.K23_1)(F:Int),Ev (fun n N=>K n 401 (w:Int) kd nn s l ns) F->Ev (fun n _=>aR_.loop23 n (aR_ n) (K n) n ((d+1:Nat):Int) 401 1 0 kd nn s l ns) F:=by
 have U:W (((d+1:Nat):Int) - 1)=(d:Int):=by rw [W_id (by omega) (by omega)];omega
 have z:∀ (k i m:Nat),k+i=l.length->m<=401+401*(d+1)->∃ w:Nat,w<=401+401*(d+1)/\min 401 w=min 401 (m+fU_ (bp_ d) (l.drop i))/\∀ (K:Nat->aR_.K23_1)(F:Int),Ev (fun n N=>K n 401 (w:Int) kd nn s l ns) F ->
   Ev (fun n N=>aR_.loop23 n (aR_ n) (K n) N ((d+1:Nat):Int) 401 (m:Int) (i:Int) kd nn s l ns) F:=by
  intro k;induction k with
  |zero=>
   intro i m hi J;have:i=l.length:=by omega
   subst this;refine ⟨m,J,by simp [fU_],fun K F u=>aY_ ?_⟩;simp only [aR_.turn23,aR_.step23,cj_,cond_false];exact u
  |succ k ihk=>
   intro i m hi J;have p:i<l.length:=by omega
   by_cases V:m<=400
   . obtain ⟨v,S,I,B⟩:=ih _ (bB_ aa_.dflt p)
     have O:W ((m:Int)+(v:Int))=((m+v:Nat):Int):=by rw [W_id (by omega) (by omega)];omega
     obtain ⟨w,a1,a2,a3⟩:=ihk (i+1) (m+v) (by omega) (by omega);refine ⟨w,a1,?_,fun K F u=>aY_ ?_⟩
     . rw [a2,mp_ (bp_ d) aa_.dflt p,<-I];omega
     . simp only [aR_.turn23,aR_.step23,aM_,Int.toNat_natCast,U,W_up p T,ag_,a2_,cD_ p,cb_ p,ab_ B,O]
       exact ⟨fun _=>⟨fun _=>⟨trivial,a3 K F u⟩,fun h=>by have:=of_decide_eq_false h;omega⟩,fun h=>(by cases h)⟩
   . refine ⟨m,J,by omega,fun K F u=>aY_ ?_⟩
     simp only [aR_.turn23,aR_.step23,Int.toNat_natCast,ag_,cD_ p];exact ⟨fun _=>⟨fun h=>by have:=of_decide_eq_true h;omega,fun _=>u⟩,fun h=>(by cases h)⟩
 obtain ⟨w,a1,a2,a3⟩:=z l.length 0 1 (by omega) (by omega);rw [List.drop_zero] at a2;exact ⟨w,a1,a2,fun K F u=>c3_ (f:=fun n N=>aR_.loop23 n (aR_ n) (K n) N ((d+1:Nat):Int) 401 1 0 kd nn s l ns) (a3 K F u)⟩
theorem dx_ (j:aa_):aa_.mk j.kind j.n_ j.s j.list j.names=j:=by cases j;rfl
theorem is_:∀ (d:Nat)(j:aa_),d<=1000->gk_ d j->Great d j
 |0,j,_,_=>by refine ⟨401,by omega,rfl,ak_ ?_⟩;simp only [aR_,ag_,ac_];exact ⟨fun _=>rfl,fun h=>by simp at h⟩
 |d+1,j,hd,h=>by
  obtain ⟨w,w1,w2,w3⟩:=t6_ (d:=d) (l:=j.list) (by omega) h.2.1 (fun x hx=>is_ d x (by omega) (h.2.2 x hx)) j.kind j.n_ j.s j.names;have B:((((d+1:Nat):Int))==0)=false:=by simp;omega
  have m:=mw_ (j:=j) h.1.2;obtain ⟨v,I⟩:∃ v:Nat,v=cond (FOwn j) (cond ((j.kind==4)||(j.kind==5)) w 1) 401:=⟨_,rfl⟩
  refine ⟨v,?_,?_,ak_ ?_⟩
  . rw [I];cases FOwn j<;>cases ((j.kind==4)||(j.kind==5))<;>simp only [cond_true,cond_false]<;>omega
  . rw [I]
    simp only [bp_];cases u:FOwn j with
    |false=>rfl
    |true=>
     cases k:((j.kind==4)||(j.kind==5)) with
     |true=>simp only [cond_true];exact w2
     |false=>
      have:j.list=[]:=by unfold FOwn at u;rw [k,Bool.or_false] at u;simp only [Bool.and_eq_true,decide_eq_true_eq] at u;exact List.eq_nil_of_length_eq_zero u.1
      rw [this];rfl
  . have z:=hp_ (s:=j.s) h.1.1
    have e1:=pp_ j.list;have e2:=pp_ j.names;have e4:((j.names.length:Int)==0) = !decide ((j.names.length:Int) > 0):=by
     by_cases B:j.names.length=0
     . rw [B];rfl
     . rw [beq_eq_false_iff_ne.2 (show (j.names.length:Int)≠0 by omega),decide_eq_true (show (j.names.length:Int) > 0 by omega)];rfl
    subst I;unfold FOwn FOwnK;unfold sj_ at m;rw [e1,e2];rw [e4] at m;simp only [aR_,aM_,B,cond_false,ag_,gl_,ab_ z,ab_ m,ac_,bne];rcases m4_ j.kind with k|k|k|k|k|k|⟨k0,k1,k2,k3,k4,k5⟩
    case inr.inr.inr.inr.inl=>
     have p:aa_.mk 4 j.n_ j.s j.list j.names=j:=by rw [<-k];exact dx_ j
     rw [k] at w3;simp only [k,Int.reduceBEq,Int.reduceLT,Int.reduceLE,Int.reduceNeg,ge_iff_le,gt_iff_lt,decide_true,decide_false,Bool.not_false,Bool.not_true,Bool.or_true,Bool.true_or,Bool.or_false,Bool.false_or,Bool.and_true,Bool.true_and,Bool.not_not,forall_const,reduceCtorEq,false_implies,true_and,and_true,implies_true,cond_true,cond_false] at m ⊢;refine w3 _ _ ?_;simp only [p,ag_,ab_ m,ac_,Int.reduceBEq,Int.reduceLT,Int.reduceLE,Int.reduceNeg,ge_iff_le,gt_iff_lt,decide_true,decide_false,Bool.not_false,Bool.not_true,Bool.or_true,Bool.true_or,Bool.or_false,Bool.false_or,Bool.and_true,Bool.true_and,Bool.not_not,forall_const,reduceCtorEq,false_implies,true_and,and_true,implies_true,cond_true,cond_false];clear m w3 z e1 e2 e4 p;generalize decide (0<(j.names.length:Int))=b;generalize (j.s==[])=c;generalize hd:(j.n_==0)=dd;cases b<;>cases c<;>cases dd<;>simp
    case inr.inr.inr.inr.inr.inl=>
     have p:aa_.mk 5 j.n_ j.s j.list j.names=j:=by rw [<-k];exact dx_ j
     rw [k] at w3;simp only [k,Int.reduceBEq,Int.reduceLT,Int.reduceLE,Int.reduceNeg,ge_iff_le,gt_iff_lt,decide_true,decide_false,Bool.not_false,Bool.not_true,Bool.or_true,Bool.true_or,Bool.or_false,Bool.false_or,Bool.and_true,Bool.true_and,Bool.not_not,forall_const,reduceCtorEq,false_implies,true_and,and_true,implies_true,cond_true,cond_false] at m ⊢;refine w3 _ _ ?_;simp only [p,ag_,ab_ m,ac_,Int.reduceBEq,Int.reduceLT,Int.reduceLE,Int.reduceNeg,ge_iff_le,gt_iff_lt,decide_true,decide_false,Bool.not_false,Bool.not_true,Bool.or_true,Bool.true_or,Bool.or_false,Bool.false_or,Bool.and_true,Bool.true_and,Bool.not_not,forall_const,reduceCtorEq,false_implies,true_and,and_true,implies_true,cond_true,cond_false];clear m w3 z e1 e2 e4 p;generalize kC_ j.names=fn;generalize ((j.names.length:Int)==(j.list.length:Int))=eq;generalize (j.s==[])=c;generalize hd:(j.n_==0)=dd;cases fn<;>cases eq<;>cases c<;>cases dd<;>simp
    case inr.inr.inr.inr.inr.inr=>
     simp only [beq_eq_false_iff_ne.2 k0,beq_eq_false_iff_ne.2 k1,beq_eq_false_iff_ne.2 k2,beq_eq_false_iff_ne.2 k3,beq_eq_false_iff_ne.2 k4,beq_eq_false_iff_ne.2 k5,Int.reduceBEq,Int.reduceLT,Int.reduceLE,Int.reduceNeg,ge_iff_le,gt_iff_lt,decide_true,decide_false,Bool.not_false,Bool.not_true,Bool.or_true,Bool.true_or,Bool.or_false,Bool.false_or,Bool.and_true,Bool.true_and,Bool.not_not,forall_const,reduceCtorEq,false_implies,true_and,and_true,implies_true,cond_true,cond_false,Bool.and_false,Bool.false_and];rfl
    all_goals (
     simp only [k,Int.reduceBEq,Int.reduceLT,Int.reduceLE,Int.reduceNeg,ge_iff_le,gt_iff_lt,decide_true,decide_false,Bool.not_false,Bool.not_true,Bool.or_true,Bool.true_or,Bool.or_false,Bool.false_or,Bool.and_true,Bool.true_and,Bool.not_not,forall_const,reduceCtorEq,false_implies,true_and,and_true,implies_true,cond_true,cond_false];clear m w3 z e1 e2 e4;generalize decide (0<(j.names.length:Int))=b;generalize decide (0<(j.list.length:Int))=a;generalize (j.s==[])=c;generalize hd:(j.n_==0)=dd;generalize inn j.n_ 0 1=i1;generalize inn j.n_ (-1000000000) 1000000000=i2;generalize jo_ j.s=ft;cases a<;>cases b<;>cases c<;>cases dd<;>cases i1<;>cases i2<;>cases ft<;>simp)
theorem dc_ {j:aa_}(h:gk_ 6 j):Ev (fun n _=>cH_ n j) (bU_ j):=by
 refine ak_ ?_;obtain ⟨v,v1,v2,v3⟩:=is_ 6 j (by omega) h;have e:Ev (fun n _=>aR_ n j 6) (v:Int):=v3;simp only [cH_,aM_,ab_ e,ac_,bU_];by_cases hq:bp_ 6 j<=400
 . rw [decide_eq_true hq,decide_eq_true (by omega)]
 . rw [decide_eq_false hq,decide_eq_false (by omega)]
def digs (u:Nat):Bs:=if u=0 then [] else Lib.decDigits u
theorem digs_step {u:Nat}(h:u≠0):digs u=digs (u / 10)++[UInt8.ofNat (48+u % 10)]:=by
 unfold digs;rw [if_neg h,Lib.decDigits];by_cases k:u<10
 . rw [dif_pos k,if_pos (by omega),Nat.mod_eq_of_lt k];rfl
 . rw [dif_neg k,if_neg (by omega)]
theorem tj_ {d:Nat}(h:d<10):i6_ ([(IntKind.u8.wrap (W (48+(d:Int))))]:List Int)=[UInt8.ofNat (48+d)]:=by
 have e1:W (48+(d:Int))=((48+d:Nat):Int):=by rw [W_id (by omega) (by omega)];omega
 rw [e1];have e2:IntKind.u8.wrap (((48+d:Nat):Int))=((48+d:Nat):Int):=by
  have:d=0\/d=1\/d=2\/d=3\/d=4\/d=5\/d=6\/d=7\/d=8\/d=9:=by omega
  rcases this with rfl|rfl|rfl|rfl|rfl|rfl|rfl|rfl|rfl|rfl<;>rfl
 rw [e2];rfl
theorem db_ {x:Int}(h0 : -9223372036854775808<=x)(h1:x<=9223372036854775807):Ev (fun n _=>aN_ n x) (Lib.itoa x):=by
 refine ak_ ?_;simp only [aN_,ag_,ac_];refine ⟨fun h => ?_,fun h => ?_⟩
 . have:x=0:=by simpa using h
   subst this;unfold Lib.itoa;rw [if_neg (by decide)];show _=Lib.decDigits 0;rw [Lib.decDigits_one (by decide)];rfl
 have Y:x≠0:=by simpa using h
 have I:∀ (k:Nat)(y:Int)(out:Bs),y.natAbs<10 ^ k -> -9223372036854775808<=y->y<=9223372036854775807->out.length+k<=100 ->
   Ev (fun n N=>aN_.loop7 n (fun B3 B4=>(cond B3 (cond (decide ([45].length+B4.length<=9223372036854775807)) (some (([45]:Bs)++B4)) none) (some B4))) N y (decide (x<0)) out) (cond (decide (x<0)) ([45]++(digs y.natAbs++out)) (digs y.natAbs++out)):=by
  intro k;induction k with
  |zero=>
   intro y out J _ _ ho;have:y=0:=by simp at J;omega
   subst this;refine aY_ ?_;simp only [aN_.turn7,aN_.step7,bne_self_eq_false,cond_false,ag_,ac_,do_];refine ⟨fun hb=>⟨fun _=>by rw [hb];rfl,fun hc=>by have:=of_decide_eq_false hc;simp at this;omega⟩,fun hb=>by rw [hb];rfl⟩
  |succ k ih=>
   intro y out J V U ho;by_cases T:y=0
   . subst T
     refine aY_ ?_;simp only [aN_.turn7,aN_.step7,bne_self_eq_false,cond_false,ag_,ac_,do_];refine ⟨fun hb=>⟨fun _=>by rw [hb];rfl,fun hc=>by have:=of_decide_eq_false hc;simp at this;omega⟩,fun hb=>by rw [hb];rfl⟩
   . have hm:(Int.tmod y 10).natAbs=y.natAbs % 10:=by rw [Int.natAbs_tmod];rfl
     have hd:(Int.tdiv y 10).natAbs=y.natAbs / 10:=by rw [Int.natAbs_tdiv];rfl
     have hW:W (Int.tdiv y 10)=Int.tdiv y 10:=W_id (by omega) (by omega);have u:y.natAbs % 10<10:=Nat.mod_lt _ (by decide);have S:(Int.tdiv y 10).natAbs<10 ^ k:=by rw [hd];rw [Nat.pow_succ] at J;omega
     have p:=ih (Int.tdiv y 10) ([UInt8.ofNat (48+y.natAbs % 10)]++out) S (by omega) (by omega) (by simp;omega);have B:digs (Int.tdiv y 10).natAbs++([UInt8.ofNat (48+y.natAbs % 10)]++out)=digs y.natAbs++out:=by rw [hd,digs_step (show y.natAbs≠0 by omega),List.append_assoc]
     rw [B] at p;have O:(y != 0)=true:=by simpa using T
     refine aY_ ?_;simp only [aN_.turn7,aN_.step7,O,cond_true,ag_,do_,hW];refine ⟨fun m => ?_,fun m => ?_⟩
     . have m:=of_decide_eq_true m
       have e:W (0 - Int.tmod y 10)=((y.natAbs % 10:Nat):Int):=by rw [W_id (by omega) (by omega)];omega
       rw [e,tj_ u];exact ⟨fun _=>p,fun hc=>by have:=of_decide_eq_false hc;simp at this;omega⟩
     . have m:=of_decide_eq_false m
       have e:Int.tmod y 10=((y.natAbs % 10:Nat):Int):=by omega
       rw [e,tj_ u];exact ⟨fun _=>p,fun hc=>by have:=of_decide_eq_false hc;simp at this;omega⟩
 have z:=I 19 x [] (by omega) h0 h1 (by simp);have Z:Lib.itoa x=cond (decide (x<0)) ([45]++(digs x.natAbs++[])) (digs x.natAbs++[]):=by
  unfold Lib.itoa digs;rw [if_neg (show x.natAbs≠0 by omega)];by_cases hn:x<0
  . rw [if_pos hn,decide_eq_true hn];simp
  . rw [if_neg hn,decide_eq_false hn,cond_false,List.append_nil,show x.toNat=x.natAbs by omega]
 rw [Z];exact c3_ z
theorem pW_ {x:Int}(m : -9223372036854775808<=x)(k:x<=9223372036854775807):Ev (fun n _=>strconv_Itoa n x) (Lib.itoa x) :=
 ak_ (by simp only [strconv_Itoa,nItoa,ag_,ac_,do_];exact ⟨fun _=>trivial,fun h=>by simp at h;omega⟩)
theorem join_snoc (x sep:Bs):∀ l:List Bs,Lib.join (l++[x]) sep=if l=[] then x else Lib.join l sep++sep++x
 |[]=>by rw [if_pos rfl];exact Lib.join_one x sep
 |y::l=>by rw [if_neg (by simp),List.cons_append,Lib.join_cons,Lib.join_cons];simp [Lib.joinTail]
theorem sy_ {α:Type}(f:α->Nat):∀ a b:List α,fU_ f (a++b)=fU_ f a+fU_ f b
 |[],b=>by simp [fU_]
 |x::a,b=>by simp only [List.cons_append,fU_,sy_ f a b];omega
theorem sx_ {α:Type}(f:α->Nat)(h:∀ x,1<=f x):∀ a:List α,a.length<=fU_ f a
 |[]=>Nat.le_refl _
 |x::a=>by have:=sx_ f h a;have:=h x;simp only [fU_,List.length_cons];omega
theorem re_:∀ (d:Nat)(j:aa_),1<=bp_ d j
 |0,_=>by simp only [bp_];omega
 |d+1,j=>by simp only [bp_];cases FOwn j<;>simp only [cond_true,cond_false]<;>omega
theorem iZ_ {s:Bs}(h:jo_ s=true):s.length<=60:=by unfold jo_ at h;rw [Bool.and_eq_true] at h;have:=of_decide_eq_true h.2;omega
theorem jk_ {l:List Bs}(h:kC_ l=true){i:Nat}(hi:i<l.length):(l.getD i []).length<=60:=by have:=e7_.1 h i hi;rw [Bool.and_eq_true] at this;exact iZ_ this.1
structure Own (j:aa_):Prop where
 kind:j.kind=0\/j.kind=1\/j.kind=2\/j.kind=3\/j.kind=4\/j.kind=5
 list:j.kind≠4->j.kind≠5->j.list=[]
 bool:j.kind=1->0<=j.n_/\j.n_<=1
 num:j.kind=2 -> -1000000000<=j.n_/\j.n_<=1000000000
 text:j.kind=3->j.s.length<=60
 obj:j.kind=5->j.names.length=j.list.length/\kC_ j.names=true
theorem FOwn_own {j:aa_}(h:FOwn j=true):Own j:=by
 unfold FOwn FOwnK at h;simp only [Bool.and_eq_true,Bool.or_eq_true] at h;obtain ⟨p,B,z,u,m⟩:=h;refine ⟨?_,fun k4 k5 => ?_,fun k => ?_,fun k => ?_,fun k => ?_,fun k => ?_⟩
 . rcases m4_ j.kind with k|k|k|k|k|k|⟨k0,k1,k2,k3,k4,k5⟩
   . exact .inl k
   . exact .inr (.inl k)
   . exact .inr (.inr (.inl k))
   . exact .inr (.inr (.inr (.inl k)))
   . exact .inr (.inr (.inr (.inr (.inl k))))
   . exact .inr (.inr (.inr (.inr (.inr k))))
   . simp only [beq_eq_false_iff_ne.2 k0,beq_eq_false_iff_ne.2 k1,beq_eq_false_iff_ne.2 k2,beq_eq_false_iff_ne.2 k3,beq_eq_false_iff_ne.2 k4,beq_eq_false_iff_ne.2 k5,cond_false,Bool.or_false] at m
     cases m
 . rcases p with p|p|p
   . exact List.eq_nil_of_length_eq_zero (of_decide_eq_true p)
   . exact absurd (by simpa using p) k4
   . exact absurd (by simpa using p) k5
 . simp only [k,Int.reduceBEq,cond_true,cond_false] at m;exact gH_ m
 . simp only [k,Int.reduceBEq,cond_true,cond_false] at m;exact gH_ m
 . simp only [k,Int.reduceBEq,cond_true,cond_false] at m;exact iZ_ m
 . simp only [k,Int.reduceBEq,cond_true,cond_false,Bool.and_eq_true] at m
   exact ⟨by have:=m.1;simp at this;omega,m.2⟩
def d0_ (enc:aa_->Bs)(j:aa_)(i:Nat):Bs:=cond (j.kind==5) (dG_ (j.names.getD i [])++([58]++enc (j.list.getD i aa_.dflt))) (enc (j.list.getD i aa_.dflt))
def eJ_ (enc:aa_->Bs)(j:aa_)(m:Nat):Bs:=Lib.join ((List.range m).map (d0_ enc j)) [44]
def FEnc:Nat->aa_->Bs
 |0,_=>[]
 |d+1,j=>cond (j.kind==0) [110,117,108,108] (cond (j.kind==1) (cond (j.n_==1) [116,114,117,101] [102,97,108,115,101]) (cond (j.kind==2) (Lib.itoa j.n_) (cond (j.kind==3) (dG_ j.s)
   (cond (j.kind==5) ([123]++eJ_ (FEnc d) j j.list.length++[125]) ([91]++eJ_ (FEnc d) j j.list.length++[93])))))
theorem oN_ (enc:aa_->Bs)(j:aa_):eJ_ enc j 0=[]:=rfl
theorem i2_ (enc:aa_->Bs)(j:aa_):eJ_ enc j 1=d0_ enc j 0:=Lib.join_one _ _
theorem hN_ (enc:aa_->Bs)(j:aa_){m:Nat}(h:0<m):eJ_ enc j (m+1)=eJ_ enc j m++[44]++d0_ enc j m:=by unfold eJ_;rw [List.range_succ,List.map_append,List.map_cons,List.map_nil,join_snoc,if_neg];intro e;have:=congrArg List.length e;simp at this;omega
theorem dj_ {d:Nat}{j:aa_} (h:bp_ (d+1) j<=400):Own j/\bp_ (d+1) j=1+fU_ (bp_ d) j.list:=by
 simp only [bp_] at h ⊢;cases k:FOwn j with
 |false=>rw [k,cond_false] at h;omega
 |true=>
  rw [k,cond_true] at h;exact ⟨FOwn_own k,by rw [cond_true];omega⟩
theorem enc_len:∀ (d:Nat)(j:aa_),bp_ d j<=400->(FEnc d j).length+150<=300*bp_ d j
 |0,j,h=>by simp only [bp_] at h;omega
 |d+1,j,h=>by
  obtain ⟨p,hs⟩:=dj_ h;have hJ:∀ m,m<=j.list.length->(eJ_ (FEnc d) j m).length<=300*fU_ (bp_ d) (j.list.take m):=by
   intro m;induction m with
   |zero=>intro _;exact Nat.zero_le _
   |succ m ih=>
    intro B;have hi:m<j.list.length:=by omega
    have S:=ih (by omega);have O:=jC_ (bp_ d) (bB_ aa_.dflt hi);have J:=enc_len d (j.list.getD m aa_.dflt) (by omega);have I:(d0_ (FEnc d) j m).length<=123+(FEnc d (j.list.getD m aa_.dflt)).length:=by
     unfold d0_;cases k:(j.kind==5) with
     |false=>rw [cond_false];omega
     |true=>
      obtain ⟨e1,e2⟩:=p.obj (by simpa using k);have:=jk_ e2 (i:=m) (by omega);have:=gQ_ (j.names.getD m []);rw [cond_true];simp only [List.length_append,List.length_cons,List.length_nil];omega
    rw [cz_ aa_.dflt hi,sy_];simp only [fU_,Nat.mul_add];by_cases z:m=0
    . subst z;rw [i2_];omega
    . rw [hN_ _ _ (by omega)];simp only [List.length_append,List.length_cons,List.length_nil];omega
  have u:=hJ j.list.length (Nat.le_refl _);rw [List.take_length] at u;rw [hs];rcases p.kind with k|k|k|k|k|k
  . simp only [FEnc,k,Int.reduceBEq,cond_true,cond_false,List.length_cons,List.length_nil];omega
  . simp only [FEnc,k,Int.reduceBEq,cond_true,cond_false]
    cases (j.n_==1)<;>simp only [cond_true,cond_false,List.length_cons,List.length_nil]<;>omega
  . have:=p.num k
    have:=Lib.itoa_length_le j.n_ (by omega) (by omega);simp only [FEnc,k,Int.reduceBEq,cond_true,cond_false];omega
  . have:=p.text k
    have:=gQ_ j.s;simp only [FEnc,k,Int.reduceBEq,cond_true,cond_false];omega
  . simp only [FEnc,k,Int.reduceBEq,cond_true,cond_false,List.length_append,List.length_cons,List.length_nil];omega
  . simp only [FEnc,k,Int.reduceBEq,cond_true,cond_false,List.length_append,List.length_cons,List.length_nil];omega
structure Part (d:Nat) (j:aa_) (i:Nat):Prop where
 size:bp_ d (j.list.getD i aa_.dflt)<=400
 enc:(FEnc d (j.list.getD i aa_.dflt)).length<=120000
 name:j.kind=5->i<j.names.length/\(j.names.getD i []).length<=60
theorem f0_ {d:Nat}{j:aa_} (h:bp_ (d+1) j<=400) {i:Nat} (hi:i<j.list.length):Part d j i:=by obtain ⟨k,hs⟩:=dj_ h;have u:=jC_ (bp_ d) (bB_ aa_.dflt hi);have p:=enc_len d (j.list.getD i aa_.dflt) (by omega);exact ⟨by omega,by omega,fun m=>⟨by have:=(k.obj m).1;omega,jk_ (k.obj m).2 (by have:=(k.obj m).1;omega)⟩⟩
theorem py_ {d:Nat}{j:aa_} (h:bp_ (d+1) j<=400):∀ m,m<=j.list.length->(eJ_ (FEnc d) j m).length<=m*120200:=by
 intro m;induction m with
 |zero=>intro _;exact Nat.zero_le _
 |succ m ih=>
  intro z;have k:=f0_ h (i:=m) (by omega);have I:=ih (by omega);have B:(d0_ (FEnc d) j m).length<=123+120000:=by
   have:=k.enc;unfold d0_;cases p:(j.kind==5) with
   |false=>rw [cond_false];omega
   |true=>
    have:=(k.name (by simpa using p)).2;have:=gQ_ (j.names.getD m []);rw [cond_true];simp only [List.length_append,List.length_cons,List.length_nil];omega
  by_cases u:m=0
  . subst u;rw [i2_];omega
  . rw [hN_ _ _ (by omega)];simp only [List.length_append,List.length_cons,List.length_nil];omega
theorem gd_ {d:Nat}{j:aa_} (h:bp_ (d+1) j<=400):j.list.length<=400:=by have:=(dj_ h).2;have:=sx_ (bp_ d) (re_ d) j.list;omega
def fV_ (c:UInt8):Prop:=48<=c.toNat/\c.toNat<=57
theorem kt_ {d:Nat}(h:d<10):(UInt8.ofNat (48+d)).toNat=48+d:=by rw [UInt8.toNat_ofNat'];omega
theorem hZ_:∀ (u:Nat),∀ c ∈ Lib.decDigits u,fV_ c:=by
 intro u;induction u using Nat.strongRecOn with
 |ind u ih=>
  intro c hc;rw [Lib.decDigits] at hc;by_cases h:u<10
  . rw [dif_pos h] at hc
    obtain rfl:=List.mem_singleton.1 hc;unfold fV_;rw [kt_ h];omega
  . rw [dif_neg h] at hc
    rcases List.mem_append.1 hc with hc|hc
    . exact ih (u / 10) (by omega) c hc
    . obtain rfl:=List.mem_singleton.1 hc
      unfold fV_;rw [kt_ (by omega)];omega
theorem nm_ (u:Nat):1<=(Lib.decDigits u).length:=by
 rw [Lib.decDigits];by_cases h:u<10
 . rw [dif_pos h];simp
 . rw [dif_neg h];simp
theorem pO_:∀ (k u:Nat),u<10 ^ (k+1)->(Lib.decDigits u).length<=k+1
 |0,u,h=>by rw [Lib.decDigits,dif_pos (by simpa using h)];simp
 |k+1,u,h=>by
  rw [Lib.decDigits];by_cases m:u<10
  . rw [dif_pos m];simp
  . rw [dif_neg m,List.length_append]
    have:=pO_ k (u / 10) (by rw [Nat.pow_succ] at h;omega);simp;omega
def jZ_ (x:Nat)(l:Bs):Nat:=l.foldl (fun x c=>10*x+(c.toNat - 48)) x
theorem val_nil (x:Nat):jZ_ x []=x:=rfl
theorem i5_ (x:Nat)(c:UInt8)(l:Bs):jZ_ x (c::l)=jZ_ (10*x+(c.toNat - 48)) l:=by unfold jZ_;rw [List.foldl_cons]
theorem val_app (x:Nat)(a b:Bs):jZ_ x (a++b)=jZ_ (jZ_ x a) b:=List.foldl_append
theorem mn_:∀ (u:Nat),jZ_ 0 (Lib.decDigits u)=u:=by
 intro u;induction u using Nat.strongRecOn with
 |ind u ih=>
  rw [Lib.decDigits];by_cases h:u<10
  . rw [dif_pos h,i5_,val_nil,kt_ h];omega
  . rw [dif_neg h,val_app,ih (u / 10) (by omega)]
    have e:=kt_ (d:=u % 10) (by omega);rw [i5_,val_nil,e];omega
theorem val_le:∀ (x:Nat)(l:Bs),x<=jZ_ x l
 |_,[]=>Nat.le_refl _
 |x,c::l=>by rw [i5_];exact Nat.le_trans (by omega) (val_le _ l)
theorem pu_val:∀ (x:Nat)(l:Bs),(∀ c ∈ l,fV_ c)->jZ_ x l<=1000000000000000000->Lib.parseUint10 x l = .ok (jZ_ x l)
 |_,[],_,_=>rfl
 |x,c::l,h,k=>by have hc:=h c (List.mem_cons_self ..);have m:=val_le (10*x+(c.toNat - 48)) l;rw [i5_] at k ⊢;unfold fV_ at hc;rw [Lib.parseUint10,if_pos hc,if_neg (by omega),if_neg (by omega),show x*10+(c.toNat - 48)=10*x+(c.toNat - 48) by omega];exact pu_val _ l (fun c hc=>h c (List.mem_cons_of_mem _ hc)) k
theorem iU_ {n:Int}(B : -1000000000<=n)(z:n<=1000000000):Lib.atoiAll (Lib.itoa n) = .ok n:=by
 unfold Lib.itoa;have k:∀ u:Nat,u<=1000000000->Lib.parseMag (Lib.decDigits u) = .ok u:=by intro u p;have:=nm_ u;unfold Lib.parseMag;rw [if_neg (fun e=>by rw [e] at this;simp at this),pu_val 0 _ (hZ_ u) (by rw [mn_];omega),mn_]
 by_cases hn:n<0
 . rw [if_pos hn,Lib.atoiAll_minus,k n.natAbs (by omega)]
   show (if 9223372036854775808<n.natAbs then Lib.NumEnd.range else .ok (-(n.natAbs:Int)))=_;rw [if_neg (by omega),show (-(n.natAbs:Int))=n by omega]
 . rw [if_neg hn]
   have e:=k n.toNat (by omega);have m:=nm_ n.toNat;have hd:=hZ_ n.toNat;generalize Lib.decDigits n.toNat=l at e m hd ⊢;cases l with
   |nil=>simp at m
   |cons c r=>
    have hc:=hd c (List.mem_cons_self ..);unfold fV_ at hc;rw [Lib.atoiAll_plain c r (by omega) (by omega),e];show (if 9223372036854775808<=n.toNat then Lib.NumEnd.range else .ok (n.toNat:Int))=_;rw [if_neg (by omega),show (n.toNat:Int)=n by omega]
def d6_ (enc:aa_->Bs)(j:aa_):Nat->Nat->Bs
 |0,_=>[]
 |k+1,i=>(if i=0 then [] else [44])++(d0_ enc j i++d6_ enc j k (i+1))
theorem oO_ (enc:aa_->Bs)(j:aa_):∀ k i,eJ_ enc j i++d6_ enc j k i=eJ_ enc j (i+k)
 |0,i=>by rw [d6_,List.append_nil];rfl
 |k+1,i=>by
  rw [d6_,show i+(k+1)=i+1+k by omega,<-oO_ enc j k (i+1)];by_cases h:i=0
  . subst h;rw [oN_,i2_,if_pos rfl];simp
  . rw [if_neg h,hN_ enc j (by omega)];simp
theorem ny_ (enc:aa_->Bs)(j:aa_)(m:Nat):eJ_ enc j m=d6_ enc j m 0:=by have:=oO_ enc j m 0;rw [oN_,List.nil_append,Nat.zero_add] at this;exact this.symm
def Stop (r:Bs):Prop:=∀ c t,r=c::t->¬ fV_ c
theorem oT_:Stop []:=fun c t h=>(by cases h)
theorem mq_ {c:UInt8}{t:Bs}(h:¬ fV_ c):Stop (c::t):=fun d u e=>by cases e;exact h
theorem hI_ (n:Int):∃ c t,Lib.itoa n=c::t/\(c=45\/fV_ c):=by
 unfold Lib.itoa;by_cases h:n<0
 . rw [if_pos h];exact ⟨45,_,rfl,.inl rfl⟩
 . rw [if_neg h]
   have k:=nm_ n.toNat;have hd:=hZ_ n.toNat;generalize Lib.decDigits n.toNat=l at k hd ⊢;cases l with
   |nil=>simp at k
   |cons c r=>exact ⟨c,r,rfl,.inr (hd c (List.mem_cons_self ..))⟩
theorem enc_head {d:Nat}{j:aa_}(h:bp_ d j<=400):∃ c t,FEnc d j=c::t/\c.toNat≠93/\c.toNat≠125/\c.toNat≠44:=by
 cases d with
 |zero=>simp only [bp_] at h;omega
 |succ d=>
  have m:=(dj_ h).1;rcases m.kind with k|k|k|k|k|k
  . exact ⟨110,[117,108,108],by simp only [FEnc,k,Int.reduceBEq,cond_true],by decide⟩
  . cases hb:(j.n_==1) with
    |true=>exact ⟨116,[114,117,101],by simp only [FEnc,k,hb,Int.reduceBEq,cond_true,cond_false],by decide⟩
    |false=>exact ⟨102,[97,108,115,101],by simp only [FEnc,k,hb,Int.reduceBEq,cond_true,cond_false],by decide⟩
  . obtain ⟨c,t,e,hc⟩:=hI_ j.n_
    refine ⟨c,t,by simp only [FEnc,k,Int.reduceBEq,cond_true,cond_false,e],?_⟩;rcases hc with rfl|hc
    . decide
    . unfold fV_ at hc;omega
  . exact ⟨34,j.s.flatMap gh_++[34],by simp only [FEnc,k,Int.reduceBEq,cond_true,cond_false,dG_];rfl,by decide⟩
  . exact ⟨91,eJ_ (FEnc d) j j.list.length++[93],by simp only [FEnc,k,Int.reduceBEq,cond_true,cond_false];rfl,by decide⟩
  . exact ⟨123,eJ_ (FEnc d) j j.list.length++[125],by simp only [FEnc,k,Int.reduceBEq,cond_true,cond_false];rfl,by decide⟩
theorem oK_ {d:Nat}{j:aa_} (h:bp_ (d+1) j<=400) {i:Nat} (hi:i<j.list.length):∃ c t,d0_ (FEnc d) j i=c::t/\c.toNat≠93/\c.toNat≠125/\c.toNat≠44:=by
 unfold d0_;cases (j.kind==5) with
 |true=>exact ⟨34,(j.names.getD i []).flatMap gh_++[34]++([58]++FEnc d (j.list.getD i aa_.dflt)),by simp only [cond_true,dG_];rfl,by decide⟩
 |false=>exact enc_head (f0_ h hi).size
theorem qesc_nl {s:Bs}(h:∀ c ∈ s,c≠10):∀ c ∈ dG_ s,c≠10:=by
 intro c hc;unfold dG_ at hc;simp only [List.cons_append,List.mem_cons,List.mem_append,List.mem_flatMap,List.not_mem_nil,or_false] at hc;rcases hc with rfl|⟨b,hb,hc⟩|rfl
 . decide
 . have:=h b hb
   unfold gh_ at hc;split at hc
   . simp only [List.mem_cons,List.not_mem_nil,or_false] at hc
     rcases hc with rfl|rfl
     . decide
     . exact this
   . obtain rfl:=List.mem_singleton.1 hc;exact this
 . decide
theorem text_nl {s:Bs}(h:jo_ s=true):∀ c ∈ s,c≠10:=by
 intro c hc e;subst e;unfold jo_ at h;rw [Bool.and_eq_true] at h;obtain ⟨i,hi,e⟩:=List.getElem_of_mem hc;have:=e7_.1 h.1 i hi;rw [List.getD_eq_getElem?_getD,List.getElem?_eq_getElem hi,Option.getD_some,e] at this
 revert this;decide
theorem hu_ (n:Int):∀ c ∈ Lib.itoa n,c≠10:=by
 intro c hc e;subst e;unfold Lib.itoa at hc;have k:∀ u,(10:UInt8) ∈ Lib.decDigits u->False:=fun u h=>by have:=hZ_ u 10 h;unfold fV_ at this;revert this;decide
 split at hc
 . rcases List.mem_cons.1 hc with h|h
   . revert h;decide
   . exact k _ h
 . exact k _ hc
structure Own2 (j:aa_):Prop where
 text:j.kind=3->jo_ j.s=true
 n0:j.kind≠1->j.kind≠2->j.n_=0
 s0:j.kind≠3->j.s=[]
 ns0:j.kind≠5->j.names=[]
theorem fw_ {j:aa_}(h:FOwn j=true):Own2 j:=by
 unfold FOwn FOwnK at h;simp only [Bool.and_eq_true,Bool.or_eq_true] at h;obtain ⟨B,z,u,p,m⟩:=h;refine ⟨fun k => ?_,fun k1 k2 => ?_,fun k3 => ?_,fun k5 => ?_⟩
 . simpa only [k,Int.reduceBEq,cond_true,cond_false] using m
 . rcases u with h|h|h
   . simpa using h
   . exact absurd (by simpa using h) k1
   . exact absurd (by simpa using h) k2
 . rcases p with h|h
   . simpa using h
   . exact absurd (by simpa using h) k3
 . rcases z with h|h
   . exact List.eq_nil_of_length_eq_zero (of_decide_eq_true h)
   . exact absurd (by simpa using h) k5
theorem fc_ {d:Nat}{j:aa_} (h:bp_ (d+1) j<=400):FOwn j=true:=by
 simp only [bp_] at h;cases k:FOwn j with
 |false=>rw [k,cond_false] at h;omega
 |true=>rfl
theorem enc_nl:∀ (d:Nat)(j:aa_),bp_ d j<=400->∀ c ∈ FEnc d j,c≠10
 |0,j,h=>by simp only [bp_] at h;omega
 |d+1,j,h=>by
  have u:=(dj_ h).1;have p:=fw_ (fc_ h);have hJ:∀ k i,i+k<=j.list.length->∀ c ∈ d6_ (FEnc d) j k i,c≠10:=by
   intro k;induction k with
   |zero=>intro i _ c hc;cases hc
   |succ k ih=>
    intro i hi c hc;have B:=f0_ h (i:=i) (by omega);simp only [d6_,List.mem_append] at hc;rcases hc with hc|hc|hc
    . split at hc
      . cases hc
      . obtain rfl:=List.mem_singleton.1 hc;decide
    . have he:=enc_nl d _ B.size
      unfold d0_ at hc;cases m:(j.kind==5) with
      |false=>rw [m,cond_false] at hc;exact he c hc
      |true=>
       obtain ⟨e1,e2⟩:=u.obj (by simpa using m);have hn:=e7_.1 e2 i (by omega);rw [Bool.and_eq_true] at hn;rw [m,cond_true] at hc;simp only [List.mem_append] at hc;rcases hc with hc|hc|hc
       . exact qesc_nl (text_nl hn.1) c hc
       . obtain rfl:=List.mem_singleton.1 hc;decide
       . exact he c hc
    . exact ih (i+1) (by omega) c hc
  have z:=hJ j.list.length 0 (by omega);rw [<-ny_] at z;intro c hc;rcases u.kind with m|m|m|m|m|m
  . simp only [FEnc,m,Int.reduceBEq,cond_true] at hc
    intro e;subst e;revert hc;decide
  . simp only [FEnc,m,Int.reduceBEq,cond_true,cond_false] at hc
    intro e;subst e;revert hc;cases (j.n_==1)<;>decide
  . simp only [FEnc,m,Int.reduceBEq,cond_true,cond_false] at hc
    exact hu_ _ c hc
  . simp only [FEnc,m,Int.reduceBEq,cond_true,cond_false] at hc
    exact qesc_nl (text_nl (p.text m)) c hc
  all_goals (
   simp only [FEnc,m,Int.reduceBEq,cond_true,cond_false,List.mem_append,List.mem_singleton] at hc;rcases hc with (rfl|hc)|rfl
   . decide
   . exact z c hc
   . decide)
def fa_ (b:UInt8):Bs->List Bs
 |[]=>[[]]
 |c::l=>if c=b then []::fa_ b l else match fa_ b l with
  |[]=>[[c]]
  |p::ps=>(c::p)::ps
theorem kM_ (b:UInt8):∀ l,∃ p ps,fa_ b l=p::ps
 |[]=>⟨[],[],rfl⟩
 |c::l=>by
  obtain ⟨p,ps,e⟩:=kM_ b l;unfold fa_;by_cases h:c=b
  . rw [if_pos h];exact ⟨_,_,rfl⟩
  . rw [if_neg h,e];exact ⟨_,_,rfl⟩
theorem kL_ (b:UInt8):∀ (s:Bs)(k:Nat),s.count b<=k->Lib.splitK [b] 0 k s=fa_ b s
 |[],0,_=>rfl
 |[],k+1,_=>by rw [Lib.splitK];have:Lib.index [] [b] = -1:=rfl;rw [this,if_pos (by decide)];rfl
 |c::l,k,h=>by
  unfold fa_;by_cases e:c=b
  . subst e
    rw [List.count_cons_self] at h;obtain ⟨k,rfl⟩:∃ m,k=m+1:=⟨k - 1,by omega⟩
    rw [Lib.splitK,gO_,if_pos rfl,if_neg (by decide),if_pos rfl];show []::Lib.splitK [c] 0 k l=_;rw [kL_ c l k (by omega)]
  . rw [List.count_cons_of_ne e] at h
    have ih:=kL_ b l k h;rw [if_neg e,<-ih];cases k with
    |zero=>rfl
    |succ k=>
     have hx:Lib.index (c::l) [b]=if Lib.index l [b] = -1 then -1 else Lib.index l [b]+1:=by rw [gO_,if_neg (show ¬ b=c from fun h=>e h.symm)]
     rw [Lib.splitK,Lib.splitK,hx];by_cases p:Lib.index l [b] = -1
     . rw [if_pos p,if_pos (by decide),p,if_pos (by decide)]
     . have:=Lib.index_ge l [b]
       obtain ⟨i,hi⟩:∃ i:Nat,Lib.index l [b]=i:=⟨(Lib.index l [b]).toNat,by omega⟩
       rw [if_neg p,if_neg (by rw [hi];simp<;>omega),if_neg (by rw [hi];simp<;>omega),hi,show ((i:Int)+1).toNat=i+1 by omega,show ((i:Int)).toNat=i by omega];rfl
theorem split_one (b:UInt8)(s:Bs):Lib.split s [b]=fa_ b s:=by unfold Lib.split;rw [nn_];exact kL_ b s _ (Nat.le_refl _)
theorem n8_ (b:UInt8):∀ (s:Bs),(fa_ b s).length<=s.length+1/\∀ p ∈ fa_ b s,p.length<=s.length
 |[]=>⟨Nat.le_refl _,fun p u=>by obtain rfl:=List.mem_singleton.1 u;exact Nat.le_refl _⟩
 |c::l=>by
  obtain ⟨m,k⟩:=n8_ b l;obtain ⟨p,ps,e⟩:=kM_ b l;unfold fa_;by_cases h:c=b
  . rw [if_pos h]
    refine ⟨by simp;omega,fun q hq => ?_⟩;rcases List.mem_cons.1 hq with rfl|hq
    . simp
    . have:=k q hq;simp;omega
  . rw [if_neg h,e]
    rw [e] at m k;refine ⟨by simp at m ⊢;omega,fun q hq => ?_⟩;rcases List.mem_cons.1 hq with rfl|hq
    . have:=k p (List.mem_cons_self ..);simp;omega
    . have:=k q (List.mem_cons_of_mem _ hq);simp;omega
theorem kN_ (b:UInt8)(r:Bs):∀ (a:Bs),(∀ c ∈ a,c≠b)->fa_ b (a++b::r)=a::fa_ b r
 |[],_=>by rw [List.nil_append,fa_,if_pos rfl]
 |c::a,h=>by rw [List.cons_append,fa_,if_neg (h c (List.mem_cons_self ..)),kN_ b r a fun x hx=>h x (List.mem_cons_of_mem _ hx)]
theorem n9_ (b:UInt8):∀ (a:Bs),(∀ c ∈ a,c≠b)->fa_ b a=[a]
 |[],_=>rfl
 |c::a,h=>by rw [fa_,if_neg (h c (List.mem_cons_self ..)),n9_ b a fun x hx=>h x (List.mem_cons_of_mem _ hx)]
theorem wesc_sl (s:Bs):∀ c ∈ s.flatMap ha_,c≠47:=by
 intro c hc;obtain ⟨b,_,hc⟩:=List.mem_flatMap.1 hc;unfold ha_ at hc;split at hc
 . intro e;subst e;revert hc;decide
 . split at hc
   . intro e;subst e;revert hc;decide
   . obtain rfl:=List.mem_singleton.1 hc;assumption
theorem qg_:∀ (w:List Bs),fa_ 47 (FWay w)=[]::w.map fun s=>s.flatMap ha_
 |[]=>rfl
 |s::w=>by
  have e:FWay (s::w)=[]++47::(s.flatMap ha_++FWay w):=rfl;rw [e,kN_ 47 _ [] (fun c h=>by cases h)]
  congr 1
  cases w with
  |nil=>
   have:FWay ([]:List Bs)=[]:=rfl;rw [this,List.append_nil,n9_ 47 _ (wesc_sl s)];rfl
  |cons t w=>
   have ih:=qg_ (t::w);have e2:FWay (t::w)=47::(t.flatMap ha_++FWay w):=rfl;rw [e2,fa_,if_pos rfl] at ih;rw [e2,kN_ 47 _ _ (wesc_sl s),List.map_cons,List.cons.inj ih |>.2]
def hB_ (a b:UInt8)(new:Bs):Bs->Bs
 |[]=>[]
 |[x]=>[x]
 |x::y::l=>if x=a/\y=b then new++hB_ a b new l else x::hB_ a b new (y::l)
theorem lB_ (a b x:UInt8)(l:Bs):Lib.index (x::l) [a,b]=if x=a/\l.head?=some b then 0 else if Lib.index l [a,b] = -1 then -1 else Lib.index l [a,b]+1:=by
 rw [Lib.index];have:List.isPrefixOf [a,b] (x::l)=decide (x=a/\l.head?=some b):=by
  refine Bool.eq_iff_iff.2 ?_;cases l with
  |nil=>simp [List.isPrefixOf]
  |cons y l=>
   simp only [List.isPrefixOf,List.head?_cons,Option.some.injEq,decide_eq_true_eq,Bool.and_true,Bool.and_eq_true,beq_iff_eq];exact ⟨fun ⟨m,k⟩=>⟨m.symm,k.symm⟩,fun ⟨m,k⟩=>⟨m.symm,k.symm⟩⟩
 rw [this];by_cases h:x=a/\l.head?=some b
 . rw [decide_eq_true h,if_pos rfl,if_pos h]
 . rw [decide_eq_false h,if_neg (by simp),if_neg h]
   by_cases k:Lib.index l [a,b] = -1
   . rw [k,if_pos rfl,if_pos (by decide)]
   . rw [if_neg k,if_neg (by simpa using k)]
def cnt2 (a b:UInt8):Bs->Nat
 |[]=>0
 |[_]=>0
 |x::y::l=>if x=a/\y=b then 1+cnt2 a b l else cnt2 a b (y::l)
theorem r1_ (a b:UInt8):∀ l:Bs,cnt2 a b l<=l.length
 |[]=>Nat.le_refl _
 |[_]=>by simp [cnt2]
 |x::y::l=>by
  unfold cnt2;have m:=r1_ a b l;have k:=r1_ a b (y::l);split
  . simp;omega
  . simp at k ⊢;omega
theorem le_ (a b:UInt8):∀ (s:Bs)(f:Nat),s.length<f->Lib.countFrom [a,b] f s=cnt2 a b s
 |[],f+1,_=>by rw [Lib.countFrom];have:Lib.index [] [a,b] = -1:=rfl;rw [this,if_pos (by decide)];rfl
 |[x],f+1,_=>by
  rw [Lib.countFrom];have:Lib.index [x] [a,b] = -1:=by rw [lB_,if_neg (by simp)];rfl
  rw [this,if_pos (by decide)];rfl
 |x::y::l,f+1,h=>by
  have hl:l.length+1<f:=by simpa using h
  unfold cnt2;by_cases e:x=a/\y=b
  . have hx:Lib.index (x::y::l) [a,b]=0:=by rw [lB_,if_pos (show x=a/\(y::l).head?=some b by simpa using e)]
    rw [if_pos e,Lib.countFrom,hx,if_neg (by decide)];show 1+Lib.countFrom [a,b] f l=_;rw [le_ a b l f (by omega)]
  . have hx:Lib.index (x::y::l) [a,b]=if Lib.index (y::l) [a,b] = -1 then -1 else Lib.index (y::l) [a,b]+1:=by rw [lB_,if_neg (show ¬ (x=a/\(y::l).head?=some b) by simpa using e)]
    rw [if_neg e,<-le_ a b (y::l) (f+1) (by simp;omega),Lib.countFrom,Lib.countFrom,hx];by_cases k:Lib.index (y::l) [a,b] = -1
    . rw [if_pos k,if_pos (by decide),k,if_pos (by decide)]
    . have:=Lib.index_ge (y::l) [a,b]
      obtain ⟨i,hi⟩:∃ i:Nat,Lib.index (y::l) [a,b]=i:=⟨(Lib.index (y::l) [a,b]).toNat,by omega⟩
      rw [if_neg k,if_neg (by rw [hi];simp<;>omega),if_neg (by rw [hi];simp<;>omega),hi,show ((i:Int)+1).toNat=i+1 by omega,show ((i:Int)).toNat=i by omega];rfl
theorem count2 (a b:UInt8)(s:Bs):Lib.count s [a,b]=cnt2 a b s:=le_ a b s _ (Nat.lt_succ_self _)
theorem mO_ (a b:UInt8)(new:Bs):∀ (s:Bs)(k:Nat),cnt2 a b s<=k->Lib.replaceK [a,b] new k s=hB_ a b new s
 |[],0,_=>rfl
 |[],k+1,_=>by rw [Lib.replaceK];have:Lib.index [] [a,b] = -1:=rfl;rw [this,if_pos (by decide)];rfl
 |[x],0,_=>rfl
 |[x],k+1,_=>by
  rw [Lib.replaceK];have:Lib.index [x] [a,b] = -1:=by rw [lB_,if_neg (by simp)];rfl
  rw [this,if_pos (by decide)];rfl
 |x::y::l,k,h=>by
  unfold cnt2 at h;unfold hB_;by_cases e:x=a/\y=b
  . rw [if_pos e] at h ⊢
    obtain ⟨k,rfl⟩:∃ m,k=m+1:=⟨k - 1,by omega⟩
    have hx:Lib.index (x::y::l) [a,b]=0:=by rw [lB_,if_pos (show x=a/\(y::l).head?=some b by simpa using e)]
    rw [Lib.replaceK,hx,if_neg (by decide)];show []++new++Lib.replaceK [a,b] new k l=_;rw [mO_ a b new l k (by omega)];rfl
  . rw [if_neg e] at h ⊢
    have ih:=mO_ a b new (y::l) k h;rw [<-ih];cases k with
    |zero=>rfl
    |succ k=>
     have hx:Lib.index (x::y::l) [a,b]=if Lib.index (y::l) [a,b] = -1 then -1 else Lib.index (y::l) [a,b]+1:=by rw [lB_,if_neg (show ¬ (x=a/\(y::l).head?=some b) by simpa using e)]
     rw [Lib.replaceK,Lib.replaceK,hx];by_cases p:Lib.index (y::l) [a,b] = -1
     . rw [if_pos p,if_pos (by decide),p,if_pos (by decide)]
     . have:=Lib.index_ge (y::l) [a,b]
       obtain ⟨i,hi⟩:∃ i:Nat,Lib.index (y::l) [a,b]=i:=⟨(Lib.index (y::l) [a,b]).toNat,by omega⟩
       rw [if_neg p,if_neg (by rw [hi];simp<;>omega),if_neg (by rw [hi];simp<;>omega),hi,show ((i:Int)+1).toNat=i+1 by omega,show ((i:Int)).toNat=i by omega];rfl
theorem rv_ (a b:UInt8)(new s:Bs) (k:([a,b]==new)=false):Lib.replaceAll s [a,b] new=hB_ a b new s:=by unfold Lib.replaceAll Lib.replace Lib.replaceNum;rw [k,if_neg (by simp),if_pos (.inl (by decide)),count2];exact mO_ a b new s _ (Nat.le_refl _)
theorem kb_ (a b c:UInt8):∀ l:Bs,(hB_ a b [c] l).length<=l.length
 |[]=>Nat.le_refl _
 |[_]=>Nat.le_refl _
 |x::y::l=>by
  unfold hB_;have m:=kb_ a b c l;have k:=kb_ a b c (y::l);split
  . simp;omega
  . simp at k ⊢;omega
theorem sF_ (a b:UInt8)(new l:Bs):hB_ a b new (a::b::l)=new++hB_ a b new l:=by rw [hB_,if_pos ⟨rfl,rfl⟩]
theorem mP_ {a b x:UInt8}(h:x≠a)(new l:Bs):hB_ a b new (x::l)=x::hB_ a b new l:=by
 cases l with
 |nil=>rfl
 |cons y l=>rw [hB_,if_neg fun e=>h e.1]
theorem tI_ {a b y:UInt8}(h:y≠b)(new l:Bs)(k:y≠a):hB_ a b new (a::y::l)=a::y::hB_ a b new l:=by rw [hB_,if_neg fun e=>h e.2,mP_ k]
def p6_ (c:UInt8):Bs:=if c=126 then [126,48] else [c]
theorem unesc1:∀ (s:Bs),hB_ 126 49 [47] (s.flatMap ha_)=s.flatMap p6_
 |[]=>rfl
 |c::s=>by
  have ih:=unesc1 s;rw [List.flatMap_cons,List.flatMap_cons];generalize s.flatMap ha_=x at ih ⊢;generalize s.flatMap p6_=y at ih ⊢;by_cases k:c=126
  . have e1:ha_ c=[126,48]:=if_pos k
    have e2:p6_ c=[126,48]:=if_pos k;rw [e1,e2];show hB_ 126 49 [47] (126::48::x)=126::48::y;rw [tI_ (by decide) _ _ (by decide),ih]
  . have e2:p6_ c=[c]:=if_neg k
    by_cases m:c=47
    . have e1:ha_ c=[126,49]:=by unfold ha_;rw [if_neg k,if_pos m]
      rw [e1,e2];show hB_ 126 49 [47] (126::49::x)=c::y;rw [sF_,ih,m];rfl
    . have e1:ha_ c=[c]:=by unfold ha_;rw [if_neg k,if_neg m]
      rw [e1,e2];show hB_ 126 49 [47] (c::x)=c::y;rw [mP_ k,ih]
theorem unesc2:∀ (s:Bs),hB_ 126 48 [126] (s.flatMap p6_)=s
 |[]=>rfl
 |c::s=>by
  have ih:=unesc2 s;rw [List.flatMap_cons];generalize s.flatMap p6_=y at ih ⊢;by_cases k:c=126
  . have e2:p6_ c=[126,48]:=if_pos k
    rw [e2];show hB_ 126 48 [126] (126::48::y)=_;rw [sF_,ih,k];rfl
  . have e2:p6_ c=[c]:=if_neg k
    rw [e2];show hB_ 126 48 [126] (c::y)=_;rw [mP_ k,ih]
theorem ic_:∀ (d:Nat)(j:aa_),bp_ d j<=400->Ev (fun n _=>aO_ n j) (FEnc d j)
 |0,j,h=>by simp only [bp_] at h;omega
 |d+1,j,h=>by
  have U:=(dj_ h).1;have V:=gd_ h;refine ak_ ?_;have z:(j.kind=4\/j.kind=5)->∀ (K:Nat->Bs->Int->Int->Bs->List aa_->List Bs->Option Bs)(v:Bs),Ev (fun n N=>K n (eJ_ (FEnc d) j j.list.length) j.kind j.n_ j.s j.list j.names) v->Ev (fun n _=>aO_.loop17 n (aO_ n) (K n) n [] 0 j.kind j.n_ j.s j.list j.names) v:=by
   intro J K v Y;refine eR_ (fun i=>eJ_ (FEnc d) j i) j.list.length (fun n N i (o:Bs)=>aO_.loop17 n (aO_ n) (K n) N o (i:Int) j.kind j.n_ j.s j.list j.names) v (fun i hi F k => ?_) ?_
   . have T:=f0_ h hi
     have hx:=ic_ d (j.list.getD i aa_.dflt) T.size;have p:=py_ h i (by omega);have he:=T.enc;have S:=W_up hi (show j.list.length<=b9_ by simp only [b9_];omega);rcases J with m|m
     . have u:(j.kind==5)=false:=by rw [m];rfl
       by_cases O:i=0
       . have B:decide ((i:Int) > 0)=false:=decide_eq_false (by omega)
         have e0:eJ_ (FEnc d) j i=[]:=by rw [O];rfl
         have e1:eJ_ (FEnc d) j (i+1)=d0_ (FEnc d) j i:=by rw [O];exact i2_ _ _
         rw [e1] at k;unfold d0_ at k;rw [u,cond_false] at k;simp only [e0,aO_.turn17,aO_.step17,aM_,Int.toNat_natCast,S,u,B,reduceCtorEq,false_implies,true_implies,true_and,and_true,ag_,a2_,do_,cD_ hi,cb_ hi,ab_ hx,List.nil_append];generalize FEnc d (j.list.getD i aa_.dflt)=x at k he ⊢
         repeat' (first|apply And.intro|intro _)
         all_goals (first|contradiction|exact k|trivial|(rename_i hc;have hc:=of_decide_eq_false hc;simp only [List.length_append,List.length_cons,List.length_nil] at hc;omega))
       . rw [hN_ _ _ (by omega)] at k
         unfold d0_ at k;rw [u,cond_false] at k;have B:decide ((i:Int) > 0)=true:=decide_eq_true (by omega);simp only [aO_.turn17,aO_.step17,aM_,Int.toNat_natCast,S,u,B,ag_,a2_,do_,cD_ hi,cb_ hi,ab_ hx];generalize FEnc d (j.list.getD i aa_.dflt)=x at k he ⊢;generalize eJ_ (FEnc d) j i=o at k p ⊢
         repeat' (first|apply And.intro|intro _)
         all_goals (first|contradiction|exact k|trivial|(rename_i hc;have hc:=of_decide_eq_false hc;simp only [List.length_append,List.length_cons,List.length_nil] at hc;omega))
     . have u:(j.kind==5)=true:=by rw [m];rfl
       have hn:=T.name m;have hq:=ir_ (s:=j.names.getD i []) (by omega);have I:=gQ_ (j.names.getD i []);by_cases O:i=0
       . have B:decide ((i:Int) > 0)=false:=decide_eq_false (by omega)
         have e0:eJ_ (FEnc d) j i=[]:=by rw [O];rfl
         have e1:eJ_ (FEnc d) j (i+1)=d0_ (FEnc d) j i:=by rw [O];exact i2_ _ _
         rw [e1] at k;unfold d0_ at k;rw [u,cond_true] at k;simp only [e0,aO_.turn17,aO_.step17,aM_,Int.toNat_natCast,S,u,B,reduceCtorEq,false_implies,true_implies,true_and,and_true,ag_,a2_,do_,cD_ hi,cb_ hi,cb_ hn.1,ab_ hx,ab_ hq,List.nil_append];generalize FEnc d (j.list.getD i aa_.dflt)=x at k he ⊢;generalize dG_ (j.names.getD i [])=y at k I ⊢;rw [<-List.append_assoc] at k
         repeat' (first|apply And.intro|intro _)
         all_goals (first|contradiction|exact k|trivial|(rename_i hc;have hc:=of_decide_eq_false hc;simp only [List.length_append,List.length_cons,List.length_nil] at hc;omega))
       . rw [hN_ _ _ (by omega)] at k
         unfold d0_ at k;rw [u,cond_true] at k;have B:decide ((i:Int) > 0)=true:=decide_eq_true (by omega);simp only [aO_.turn17,aO_.step17,aM_,Int.toNat_natCast,S,u,B,ag_,a2_,do_,cD_ hi,cb_ hi,cb_ hn.1,ab_ hx,ab_ hq];generalize FEnc d (j.list.getD i aa_.dflt)=x at k he ⊢;generalize dG_ (j.names.getD i [])=y at k I ⊢;generalize eJ_ (FEnc d) j i=o at k p ⊢;rw [<-List.append_assoc,<-List.append_assoc] at k
         repeat' (first|apply And.intro|intro _)
         all_goals (first|contradiction|exact k|trivial|(rename_i hc;have hc:=of_decide_eq_false hc;simp only [List.length_append,List.length_cons,List.length_nil] at hc;omega))
   . simp only [aO_.turn17,aO_.step17,cj_,cond_false]
     exact Y
  have p:=py_ h j.list.length (Nat.le_refl _);simp only [aO_,aM_];rcases U.kind with m|m|m|m|m|m
  . simp only [FEnc,m,Int.reduceBEq,cond_true,ac_]
  . simp only [FEnc,m,Int.reduceBEq,cond_true,cond_false,ag_,ac_]
    cases (j.n_==1)<;>simp
  . have hn:=U.num m
    simp only [FEnc,m,Int.reduceBEq,cond_true,cond_false,ab_ (db_ (x:=j.n_) (by omega) (by omega)),ac_]
  . have hs:=U.text m
    simp only [FEnc,m,Int.reduceBEq,cond_true,cond_false,ab_ (ir_ (s:=j.s) (by omega)),ac_]
  all_goals (
   have e0:(j.kind==0)=false:=by rw [m];rfl
   have e1:(j.kind==1)=false:=by rw [m];rfl
   have e2:(j.kind==2)=false:=by rw [m];rfl
   have e3:(j.kind==3)=false:=by rw [m];rfl
   simp only [FEnc,e0,e1,e2,e3,cond_false];refine z (by omega) _ _ ?_;generalize eJ_ (FEnc d) j j.list.length=o at p ⊢;simp only [m,Int.reduceBEq,cond_true,cond_false,ag_,ac_,do_];refine ⟨fun _=>⟨fun _=>trivial,fun hc => ?_⟩,fun hc => ?_⟩
   . have hc:=of_decide_eq_false hc
     simp only [List.length_append,List.length_cons,List.length_nil] at hc;omega
   . have hc:=of_decide_eq_false hc
     simp only [List.length_append,List.length_cons,List.length_nil] at hc;omega)
theorem Join_ev {l:List Bs}{sep:Bs}(hl:l.length<=1000000) (k:(Lib.join l sep).length<=1000000000):Ev (fun n _=>strings_Join n l sep) (Lib.join l sep):=by refine ak_ ?_;simp only [strings_Join,nJoin,ag_,ac_,do_];refine ⟨fun _=>trivial,fun h => ?_⟩;rw [decide_eq_true (by omega),decide_eq_true (by omega)] at h;cases h
theorem iI_:∀ (d:Nat)(j:aa_),bp_ d j<=400->Ev (fun n _=>a9_ n j) (FEnc d j)
 |0,j,h=>by simp only [bp_] at h;omega
 |d+1,j,h=>by
  have I:=(dj_ h).1;have T:=gd_ h;refine ak_ ?_;have u:∀ (K:Nat->Int->Int->Bs->List aa_->List Bs->List Bs->Option Bs)(v:Bs),Ev (fun n N=>K n j.kind j.n_ j.s j.list j.names ((List.range j.list.length).map (d0_ (FEnc d) j))) v->Ev (fun n _=>a9_.loop4 n (a9_ n) (K n) n j.list (j.list.length:Int) 0 j.kind j.n_ j.s j.list j.names []) v:=by
   intro K v U;refine eR_ (fun i=>(List.range i).map (d0_ (FEnc d) j)) j.list.length (fun n N i (o:List Bs)=>a9_.loop4 n (a9_ n) (K n) N j.list (j.list.length:Int) (i:Int) j.kind j.n_ j.s j.list j.names o) v (fun i hi F p => ?_) ?_
   . have O:=f0_ h hi
     have hx:=iI_ d (j.list.getD i aa_.dflt) O.size;have he:=O.enc;have S:=W_up hi (show j.list.length<=b9_ by simp only [b9_];omega);have k:((List.range i).map (d0_ (FEnc d) j)).length=i:=by simp
     rw [List.range_succ,List.map_append,List.map_cons,List.map_nil] at p;unfold d0_ at p;cases B:(j.kind==5) with
     |false=>
      simp only [B,cond_false] at p;unfold d0_ at k ⊢;simp only [B,cond_false] at k ⊢;simp only [a9_.turn4,a9_.step4,aM_,Int.toNat_natCast,S,B,cond_false,ag_,a2_,do_,a6_,cD_ hi,cb_ hi,ab_ hx];generalize FEnc d (j.list.getD i aa_.dflt)=x at p he ⊢;generalize (List.range i).map _=o at p k ⊢;exact ⟨fun _=>⟨trivial,by simp;omega,p⟩,fun h=>(by cases h)⟩
     |true=>
      have hn:=O.name (by simpa using B);have hq:=jv_ (s:=j.names.getD i []) (by omega);have J:=gQ_ (j.names.getD i []);simp only [B,cond_true] at p;unfold d0_ at k ⊢;simp only [B,cond_true] at k ⊢;simp only [a9_.turn4,a9_.step4,aM_,Int.toNat_natCast,S,B,cond_true,ag_,a2_,do_,a6_,cD_ hi,cb_ hi,cb_ hn.1,ab_ hx,ab_ hq];generalize FEnc d (j.list.getD i aa_.dflt)=x at p he ⊢;generalize dG_ (j.names.getD i [])=y at p J ⊢;generalize (List.range i).map _=o at p k ⊢;rw [<-List.append_assoc] at p
      repeat' (first|apply And.intro|intro _)
      all_goals (first|contradiction|exact p|trivial|(rename_i hc;have hc:=of_decide_eq_false hc;simp only [List.length_append,List.length_cons,List.length_nil] at hc;omega)|(simp;omega))
   . simp only [a9_.turn4,a9_.step4,cj_,cond_false]
     exact U
  have z:=py_ h j.list.length (Nat.le_refl _);have hJ:=Join_ev (l:=(List.range j.list.length).map (d0_ (FEnc d) j)) (sep:=[44]) (by simp;omega) (by unfold eJ_ at z;omega);simp only [a9_,aM_];refine u _ _ ?_;rcases I.kind with m|m|m|m|m|m
  . simp only [FEnc,m,Int.reduceBEq,cond_true,ac_]
  . have hb:=I.bool m
    simp only [FEnc,m,Int.reduceBEq,cond_true,cond_false,a2_,ac_];have:j.n_=0\/j.n_=1:=by omega
    rcases this with e|e<;>rw [e]<;>exact ⟨⟨by decide,by decide⟩,rfl⟩
  . have hn:=I.num m
    simp only [FEnc,m,Int.reduceBEq,cond_true,cond_false,ab_ (pW_ (x:=j.n_) (by omega) (by omega)),ac_]
  . have hs:=I.text m
    simp only [FEnc,m,Int.reduceBEq,cond_true,cond_false,ab_ (jv_ (s:=j.s) (by omega)),ac_]
  all_goals (
   simp only [FEnc,m,Int.reduceBEq,cond_true,cond_false,ab_ hJ];unfold eJ_ at z ⊢;generalize Lib.join ((List.range j.list.length).map (d0_ (FEnc d) j)) [44]=o at z ⊢;simp only [ag_,ac_,do_];refine ⟨fun _=>⟨fun _=>trivial,fun hc => ?_⟩,fun hc => ?_⟩
   . have hc:=of_decide_eq_false hc
     simp only [List.length_append,List.length_cons,List.length_nil] at hc;omega
   . have hc:=of_decide_eq_false hc
     simp only [List.length_append,List.length_cons,List.length_nil] at hc;omega)
def bC_ (j:aa_):Bs:=cond (bU_ j) (cond (decide (((FEnc 6 j).length:Int) > 6000)) [] (FEnc 6 j)) []
theorem eC_ {j:aa_}(h:gk_ 6 j):Ev (fun n _=>c9_ n j) (bC_ j):=by
 refine ak_ ?_;simp only [c9_,aM_,ab_ (dc_ h),ag_,ac_,bC_];cases k:bU_ j with
 |false=>simp
 |true=>
  simp only [ab_ (ic_ 6 j (of_decide_eq_true k)),ag_,ac_];cases decide (((FEnc 6 j).length:Int) > 6000)<;>simp
theorem e3_ {j:aa_}(h:gk_ 6 j):Ev (fun n _=>dL_ n j) (bC_ j):=by
 refine ak_ ?_;simp only [dL_,aM_,ab_ (dW_ h),ag_,ac_,bC_];cases k:bU_ j with
 |false=>simp
 |true=>
  simp only [ab_ (iI_ 6 j (of_decide_eq_true k)),ag_,ac_];cases decide (((FEnc 6 j).length:Int) > 6000)<;>simp
def uh_:Nat->aa_->Prop
 |0,_=>False
 |d+1,j=>∀ x ∈ j.list,uh_ d x
theorem fE_:∀ (d:Nat)(j:aa_),bp_ d j<=400->uh_ d j
 |0,j,h=>by simp only [bp_] at h;omega
 |d+1,j,h=>fun x hx=>by
  refine fE_ d x ?_;simp only [bp_] at h;have:=jC_ (bp_ d) hx;cases k:FOwn j with
  |false=>rw [k] at h;simp only [cond_false] at h;omega
  |true=>rw [k] at h;simp only [cond_true] at h;omega
def jS_ (a b:List Bs):Bool:=decide (a.length=b.length)&&jm_ (fun i=>a.getD i []==b.getD i []) a.length
def eT_:Nat->aa_->aa_->Bool
 |0,_,_=>true
 |d+1,a,b=>(a.kind==b.kind)&&((a.n_==b.n_)&&((a.s==b.s)&&(jS_ a.names b.names&&(decide (a.list.length=b.list.length)&&jm_ (fun i=>eT_ d (a.list.getD i aa_.dflt) (b.list.getD i aa_.dflt)) a.list.length))))
theorem sL_ {n m:Nat}:((n:Int) != (m:Int)) = !decide (n=m):=by
 by_cases h:n=m
 . rw [h,decide_eq_true rfl];simp
 . rw [decide_eq_false h];simp;omega
theorem e0_:∀ (d:Nat)(a b:aa_),uh_ d a->gk_ d a->Ev (fun n _=>an_ n a b) (eT_ d a b)
 |0,a,b,h,_=>h.elim
 |d+1,a,b,h,hl=>by
  refine ak_ ?_;simp only [an_,sL_,ag_,ac_,eT_,jS_];by_cases hq:a.list.length=b.list.length
  . by_cases k:a.names.length=b.names.length
    . have m:Ev (fun n _=>an_.loop14 n (an_ n) (some true) n 0 a.kind a.n_ a.s a.list a.names b.kind b.n_ b.s b.list b.names) (jm_ (fun i=>a.names.getD i []==b.names.getD i []) a.names.length):=by
       refine gJ_ (fv_ (fun n N i=>an_.loop14 n (an_ n) (some true) N (i:Int) a.kind a.n_ a.s a.list a.names b.kind b.n_ b.s b.list b.names) (fun i=>a.names.getD i []==b.names.getD i []) (len:=a.names.length) (v:=true) (fun i w hi ih => ?_) ?_) (by rw [Bool.and_true])
       . simp only [an_.turn14,an_.step14,Int.toNat_natCast,W_up hi hl.1.2.1,ag_,a2_,ac_,dZ_ ih,cD_ hi,cb_ hi,cb_ (k ▸ hi)]
         cases (a.names.getD i []==b.names.getD i [])<;>simp
       . simp only [an_.turn14,an_.step14,cj_,cond_false,ac_]
      have p:Ev (fun n _=>an_.loop6 n (an_ n) (fun B2 B3 B4 B5 B6 B7 B8 B9 B10 B11=>(an_.loop14 n (an_ n) (some true) n 0 B2 B3 B4 B5 B6 B7 B8 B9 B10 B11)) n 0 a.kind a.n_ a.s a.list a.names b.kind b.n_ b.s b.list b.names) (jm_ (fun i=>eT_ d (a.list.getD i aa_.dflt) (b.list.getD i aa_.dflt)) a.list.length&&jm_ (fun i=>a.names.getD i []==b.names.getD i []) a.names.length):=by
       refine fv_ (fun n N i=>an_.loop6 n (an_ n) (fun B2 B3 B4 B5 B6 B7 B8 B9 B10 B11=>(an_.loop14 n (an_ n) (some true) n 0 B2 B3 B4 B5 B6 B7 B8 B9 B10 B11)) N (i:Int) a.kind a.n_ a.s a.list a.names b.kind b.n_ b.s b.list b.names) _ (fun i w hi ih => ?_) ?_
       . have hx:=e0_ d (a.list.getD i aa_.dflt) (b.list.getD i aa_.dflt) (h _ (bB_ _ hi)) (hl.2.2 _ (bB_ _ hi))
         simp only [an_.turn6,an_.step6,aM_,Int.toNat_natCast,W_up hi hl.2.1,ag_,a2_,ab_ hx,ac_,dZ_ ih,cD_ hi,cb_ hi,cb_ (hq ▸ hi)];cases eT_ d (a.list.getD i aa_.dflt) (b.list.getD i aa_.dflt)<;>simp
       . simp only [an_.turn6,an_.step6,cj_,cond_false]
         exact m
      rw [decide_eq_true hq,decide_eq_true k];simp only [dZ_ p,bne];generalize jm_ (fun i=>eT_ d (a.list.getD i aa_.dflt) (b.list.getD i aa_.dflt)) a.list.length=u;generalize jm_ (fun i=>a.names.getD i []==b.names.getD i []) a.names.length=w;cases (a.kind==b.kind)<;>cases (a.n_==b.n_)<;>cases (a.s==b.s)<;>cases u<;>cases w<;>simp
    . rw [decide_eq_false k]
      simp only [bne];cases (a.kind==b.kind)<;>cases (a.n_==b.n_)<;>cases (a.s==b.s)<;>cases decide (a.list.length=b.list.length)<;>simp
  . rw [decide_eq_false hq]
    simp only [bne];cases (a.kind==b.kind)<;>cases (a.n_==b.n_)<;>cases (a.s==b.s)<;>simp
def el_ (ns:List Bs)(x:Bs):Nat:=ns.findIdx (fun y => !Op.bytesLess y x)
def gW_ (ns:List Bs)(x:Bs):Nat:=if ns.getD (el_ ns x) []=x/\el_ ns x<ns.length then el_ ns x+1 else el_ ns x
def lu_ {α:Type}(ns:List Bs)(x:Bs)(l:List α)(y:α):List α:=l.take (el_ ns x)++[y]++l.drop (gW_ ns x)
theorem i7_ {α:Type}(d:α){a m:List α}{i q:Nat}(p:Nat)(hi:i<a.length)(h:q<=i):a.take p++m++(a.take (i+1)).drop q=a.take p++m++(a.take i).drop q++[a.getD i d]:=by rw [cz_ d hi,List.drop_append_of_le_length (by simp;omega)];simp
theorem put_idx {ns:List Bs}{x:Bs}{i:Nat}(hi:i<ns.length)(k:i<=el_ ns x):(!Op.bytesLess (ns.getD i []) x)=decide (i=el_ ns x):=by
 rw [List.getD_eq_getElem?_getD,List.getElem?_eq_getElem hi,Option.getD_some];unfold el_ at k ⊢;by_cases h:i=ns.findIdx (fun y => !Op.bytesLess y x)
 . rw [decide_eq_true h]
   have:=List.findIdx_getElem (xs:=ns) (p:=fun y => !Op.bytesLess y x) (w:=by omega);simp only [<-h] at this;exact this
 . rw [decide_eq_false h]
   exact List.not_of_lt_findIdx (xs:=ns) (p:=fun y => !Op.bytesLess y x) (i:=i) (by omega)
theorem hQ_ {o j:aa_}{x:Bs}(hk:o.names.length<=2000000)(he:o.list.length=o.names.length) (U:∀ y,Op.bytesLess y x=true->(y==x)=false) (T:∀ i,gW_ o.names x<=i->i<o.names.length->(o.names.getD i []==x)=false) :
  Ev (fun n _=>bM_ n o x j) (aa_.mk 5 0 [] (lu_ o.names x o.list j) (lu_ o.names x o.names x)):=by
 refine ak_ ?_;have Y:o.names.length<=b9_:=by simp only [b9_];omega
 obtain ⟨p,I⟩:∃ p,p=el_ o.names x:=⟨_,rfl⟩
 have hpl:p<=o.names.length:=by rw [I];exact List.findIdx_le_length
 obtain ⟨q,hq⟩:∃ q,q=gW_ o.names x:=⟨_,rfl⟩
 have Z:p<=q/\q<=p+1:=by rw [hq,I];unfold gW_;split<;>omega
 have hT:o.list.take o.names.length=o.list:=List.take_of_length_le (by omega)
 let S:Nat->Bool×List aa_×List Bs:=fun i=>if i<=p then (false,o.list.take i,o.names.take i) else (true,o.list.take p++[j]++(o.list.take i).drop q,o.names.take p++[x]++(o.names.take i).drop q)
 have V:S 0=(false,[],[]):=by simp [S]
 simp only [bM_];have:=eR_ S o.names.length (fun n N i (s:Bool×List aa_×List Bs)=>bM_.loop5 n (fun B1 B2 B3 B4 B5 B6 B7 B8 B9 B10 B11 B12 B13 B14 B15=>(cond (!B2) (bj_ (B15.length+([B1]:List Bs).length) 16 (bj_ (B14.length+([(aa_.mk B3 B4 B5 B6 B7)]:List aa_).length) 80 (some (aa_.mk B11 B12 B13 (B14++([(aa_.mk B3 B4 B5 B6 B7)]:List aa_)) (B15++([B1]:List Bs)))))) (some (aa_.mk B11 B12 B13 B14 B15)))) N x s.1 (i:Int) o.kind o.n_ o.s o.list o.names j.kind j.n_ j.s j.list j.names 0 0 [] 5 0 [] s.2.1 s.2.2)
  (aa_.mk 5 0 [] (lu_ o.names x o.list j) (lu_ o.names x o.names x)) (fun i hi F B => ?_) ?_
 . rw [V] at this;exact this
 . have hx:=put_idx (ns:=o.names) (x:=x) hi
   rw [<-I] at hx;have J:(S i).2.2.length<=o.names.length+1:=by simp only [S];split<;>simp<;>omega
   have O:(S i).2.1.length<=o.names.length+1:=by simp only [S];split<;>simp<;>omega
   have z:i<o.list.length:=by omega
   simp only [bM_.turn5,bM_.step5,dx_,aM_,Int.toNat_natCast,W_up hi Y,ag_,a2_,a6_,cD_ hi,cb_ hi,cb_ z];by_cases m:i<=p
   . have s1:S i=(false,o.list.take i,o.names.take i):=by simp only [S,if_pos m]
     rw [s1] at J O ⊢;by_cases e:i=p
     . have hb:(!Op.bytesLess (o.names.getD i []) x)=true:=by rw [hx m];exact decide_eq_true e
       subst e;by_cases hs:o.names.getD i []=x
       . have u:q=i+1:=by rw [hq];unfold gW_;rw [<-I,if_pos ⟨hs,hi⟩]
         have s2:S (i+1)=(true,o.list.take i++[j],o.names.take i++[x]):=by simp only [S,if_neg (show ¬ i+1<=i by omega)];rw [List.drop_eq_nil_of_le (by simp;omega),List.drop_eq_nil_of_le (by simp;omega),List.append_nil,List.append_nil]
         rw [s2] at B;have k:(o.names.getD i []==x)=true:=by simpa using hs
         simp only [hb,k,cond_true,cond_false,Bool.not_true,Bool.not_false]
         repeat' (first|apply And.intro|intro _)
         all_goals (first|contradiction|exact B|trivial|(simp;omega))
       . have u:q=i:=by rw [hq];unfold gW_;rw [<-I,if_neg (fun h=>hs h.1)]
         have s2:S (i+1)=(true,o.list.take i++[j]++[o.list.getD i aa_.dflt],o.names.take i++[x]++[o.names.getD i []]):=by simp only [S,if_neg (show ¬ i+1<=i by omega),u];rw [i7_ aa_.dflt i z (Nat.le_refl _),i7_ [] i hi (Nat.le_refl _),List.drop_eq_nil_of_le (by simp;omega),List.drop_eq_nil_of_le (by simp;omega),List.append_nil,List.append_nil]
         rw [s2] at B;have k:(o.names.getD i []==x)=false:=by simpa using hs
         simp only [hb,k,cond_true,cond_false,Bool.not_true,Bool.not_false]
         repeat' (first|apply And.intro|intro _)
         all_goals (first|contradiction|exact B|trivial|(simp;omega))
     . have hb:(!Op.bytesLess (o.names.getD i []) x)=false:=by rw [hx m];exact decide_eq_false e
       have k:(o.names.getD i []==x)=false:=U (o.names.getD i []) (by rw [Bool.not_eq_false'] at hb;exact hb);have s2:S (i+1)=(false,o.list.take i++[o.list.getD i aa_.dflt],o.names.take i++[o.names.getD i []]):=by simp only [S,if_pos (show i+1<=p by omega),cz_ aa_.dflt z,cz_ [] hi]
       rw [s2] at B;simp only [hb,k,cond_true,cond_false,Bool.not_true,Bool.not_false]
       repeat' (first|apply And.intro|intro _)
       all_goals (first|contradiction|exact B|trivial|(simp;omega))
   . have s1:S i=(true,o.list.take p++[j]++(o.list.take i).drop q,o.names.take p++[x]++(o.names.take i).drop q):=by simp only [S,if_neg m]
     have s2:S (i+1)=(true,o.list.take p++[j]++(o.list.take i).drop q++[o.list.getD i aa_.dflt],o.names.take p++[x]++(o.names.take i).drop q++[o.names.getD i []]):=by simp only [S,if_neg (show ¬ i+1<=p by omega)];rw [i7_ aa_.dflt p z (by omega),i7_ [] p hi (by omega)]
     have k:=T i (by omega) hi;rw [s1] at J O ⊢;rw [s2] at B;simp only [k,cond_true,cond_false,Bool.not_true,Bool.not_false]
     repeat' (first|apply And.intro|intro _)
     all_goals (first|contradiction|exact B|trivial|(simp at J O ⊢;omega))
 . simp only [bM_.turn5,bM_.step5,dx_,cj_,cond_false,ag_,a6_,ac_]
   unfold lu_;rw [<-I,<-hq];by_cases m:o.names.length<=p
   . have e:p=o.names.length:=by omega
     have u:q=p:=by rw [hq];unfold gW_;rw [<-I,if_neg (fun h=>by omega)]
     have s1:S o.names.length=(false,o.list,o.names):=by simp only [S,if_pos m,List.take_length];rw [List.take_of_length_le (by omega)]
     rw [s1,u,e,List.take_of_length_le (l:=o.list) (by omega),List.drop_eq_nil_of_le (show o.list.length<=o.names.length by omega),List.take_length,List.drop_length];refine ⟨fun _=>⟨by simp;omega,by simp;omega,by simp⟩,fun h=>(by cases h)⟩
   . have s1:S o.names.length=(true,o.list.take p++[j]++o.list.drop q,o.names.take p++[x]++o.names.drop q):=by simp only [S,if_neg m,List.take_length];rw [hT]
     rw [s1];exact ⟨fun h=>(by cases h),fun _=>rfl⟩
theorem f6_:∀ (x y:Bs),Op.bytesLess x y=decide (x<y)
 |[],[]=>by simp [Op.bytesLess]
 |_::_,[]=>by simp [Op.bytesLess]
 |[],_::_=>by simp [Op.bytesLess]
 |a::x,b::y=>by rw [Op.bytesLess,f6_ x y];simp only [List.cons_lt_cons_iff];by_cases p:a<b<;>by_cases m:a=b<;>by_cases k:x<y<;>simp [p,m,k]
theorem less_ne {x y:Bs}(h:Op.bytesLess y x=true):(y==x)=false:=by rw [f6_] at h;exact beq_eq_false_iff_ne.2 fun e=>by subst e;exact List.lt_irrefl y (of_decide_eq_true h)
def gi_:aa_:=aa_.mk 0 0 [] [] []
def fe_ (j:aa_):aa_:=cond (bU_ j) j gi_
theorem orNull_ev {j:aa_}(h:gk_ 6 j):Ev (fun n _=>eD_ n j) (fe_ j):=by refine ak_ ?_;simp only [eD_,aM_,ab_ (dW_ h),ag_,ac_,fe_,gi_];cases bU_ j<;>simp
theorem gj_ {d:Nat}{j:aa_} (h:bp_ (d+1) j<=400):j.names.length<=400:=by
 have z:=gd_ h;have p:=(dj_ h).1;by_cases m:j.kind=5
 . have:=(p.obj m).1;omega
 . have:FOwn j=true:=by
    simp only [bp_] at h;cases u:FOwn j with
    |true=>rfl
    |false=>rw [u,cond_false] at h;omega
   unfold FOwn at this;simp only [Bool.and_eq_true,Bool.or_eq_true] at this;rcases this.2.1 with k|k
   . have:=of_decide_eq_true k;omega
   . exact absurd (by simpa using k) m
theorem d4_:∀ (d:Nat)(j:aa_),bp_ d j<=400->Ev (fun n _=>aw_ n j) j
 |0,j,h=>by simp only [bp_] at h;omega
 |d+1,j,h=>by
  have u:=gd_ h;have p:=gj_ h;refine ak_ ?_;have hc:Ev (fun n _=>dh_ n j.names) j.names:=ak_ (by simp only [dh_,a6_,ac_,List.nil_append,List.length_nil,and_true];omega);simp only [aw_,ab_ hc];have:=eR_ (fun i=>j.list.take i) j.list.length (fun n N i (o:List aa_)=>aw_.loop4 n (aw_ n) (fun B3 B4 B5 B6 B7 B8 B9 B10=>(some (aa_.mk B6 B7 B8 B9 B10))) N j.list (j.list.length:Int) (i:Int) 0 0 [] j.kind j.n_ j.s o j.names) j (fun i hi F k => ?_) ?_
  . exact this
  . have m:=f0_ h hi
    have hx:=d4_ d (j.list.getD i aa_.dflt) m.size;rw [cz_ aa_.dflt hi] at k;simp only [aw_.turn4,aw_.step4,aM_,Int.toNat_natCast,W_up hi (show j.list.length<=b9_ by simp only [b9_];omega),ag_,a2_,a6_,cD_ hi,cb_ hi,ab_ hx];exact ⟨fun _=>⟨trivial,by simp;omega,k⟩,fun h=>(by cases h)⟩
  . simp only [aw_.turn4,aw_.step4,cj_,cond_false,List.take_length,ac_,dx_]
theorem dq_:∀ (d:Nat)(j:aa_),bp_ d j<=400->Ev (fun n _=>aF_ n j) j
 |0,j,h=>by simp only [bp_] at h;omega
 |d+1,j,h=>by
  have u:=gd_ h;have p:=gj_ h;refine ak_ ?_;simp only [aF_,a6_,List.nil_append,List.length_nil];refine ⟨by omega,?_⟩;have:=eR_ (fun i=>j.list.take i) j.list.length (fun n N i (o:List aa_)=>aF_.loop4 n (aF_ n) (fun B2 B3 B4 B5 B6 B7 B8 B9=>(some (aa_.mk B5 B6 B7 B8 B9))) N (i:Int) j.kind j.n_ j.s j.list j.names 0 0 [] j.kind j.n_ j.s o j.names) j (fun i hi F k => ?_) ?_
  . exact this
  . have m:=f0_ h hi
    have hx:=dq_ d (j.list.getD i aa_.dflt) m.size;rw [cz_ aa_.dflt hi] at k;simp only [aF_.turn4,aF_.step4,aM_,Int.toNat_natCast,W_up hi (show j.list.length<=b9_ by simp only [b9_];omega),ag_,a2_,a6_,cD_ hi,cb_ hi,ab_ hx];exact ⟨fun _=>⟨trivial,by simp;omega,k⟩,fun h=>(by cases h)⟩
  . simp only [aF_.turn4,aF_.step4,cj_,cond_false,List.take_length,ac_,dx_]
def jR_ (j:aa_):Bool:=(j.kind==0)&&((j.n_==0)&&((j.s==[])&&(decide (j.list.length=0)&&decide (j.names.length=0))))
theorem po_ {α:Type}(l:List α):((l.length:Int)==0)=decide (l.length=0):=by
 by_cases h:l.length=0
 . rw [h];rfl
 . rw [decide_eq_false h];simp;intro e;exact h (by rw [e];rfl)
theorem jw_ {j:aa_}:Ev (fun n _=>em_ n j) (jR_ j):=by refine ak_ ?_;simp only [em_,ag_,ac_,jR_,po_];cases (j.kind==0)<;>cases (j.n_==0)<;>cases (j.s==[])<;>cases decide (j.list.length=0)<;>simp
theorem ul_ (d:Nat)(j:aa_):eT_ (d+1) j gi_=jR_ j:=by
 simp only [eT_,gi_,jS_,jR_,List.length_nil];by_cases m:j.names.length=0
 . by_cases k:j.list.length=0
   . rw [m,k];simp [jm_,iV_]
   . have k:j.list≠[]:=fun e=>k (by rw [e];rfl)
     simp [k]
 . have m:j.names≠[]:=fun e=>m (by rw [e];rfl)
   simp [m]
def tx_ (w:List Bs):Bool:=jm_ (fun i=>jo_ (w.getD i [])) w.length
def hc_ (o:TOp):Bool:=inn o.kind 1 4&&(decide (o.way.length<=6)&&(bU_ o.value&&(tx_ o.way&&((o.kind != 2)||jR_ o.value))))
def lT_ (o:TOp):Prop:=tV_ b9_ o.way/\gk_ 6 o.value
theorem fu_ (o:TOp):TOp.mk o.kind o.way o.value=o:=rfl
theorem gt_le {n:Nat}:decide ((n:Int) > 6) = !decide (n<=6):=by
 by_cases h:n<=6
 . rw [decide_eq_true h,decide_eq_false (by omega)];rfl
 . rw [decide_eq_false h,decide_eq_true (by omega)];rfl
theorem le_le {n:Nat}:decide ((n:Int)<=6)=decide (n<=6):=by
 by_cases h:n<=6
 . rw [decide_eq_true h,decide_eq_true (by omega)]
 . rw [decide_eq_false h,decide_eq_false (by omega)]
theorem ls_ {o:TOp}(h:lT_ o):Ev (fun n _=>cs_ n o) (hc_ o):=by
 refine ak_ ?_;simp only [cs_,aM_,gl_,ab_ (dc_ h.2),ag_,ac_,gt_le,hc_];cases m:bU_ o.value with
 |false=>cases inn o.kind 1 4<;>cases decide (o.way.length<=6)<;>simp
 |true=>
  have k:=e0_ 6 o.value gi_ (fE_ 6 o.value (of_decide_eq_true m)) h.2;rw [ul_] at k;unfold gi_ at k;have hl:Ev (fun n _=>cs_.loop6 n (fun B4 B5 B6 B7 B8 B9 B10=>(cond (B4 != 2) (some true) ((an_ n (aa_.mk B6 B7 B8 B9 B10) (aa_.mk 0 0 [] [] [])).bind fun A11=>(some A11)))) n 0 o.kind o.way o.value.kind o.value.n_ o.value.s o.value.list o.value.names) (tx_ o.way&&((o.kind != 2)||jR_ o.value)):=by
   refine fv_ (fun n N i=>cs_.loop6 n (fun B4 B5 B6 B7 B8 B9 B10=>(cond (B4 != 2) (some true) ((an_ n (aa_.mk B6 B7 B8 B9 B10) (aa_.mk 0 0 [] [] [])).bind fun A11=>(some A11)))) N (i:Int) o.kind o.way o.value.kind o.value.n_ o.value.s o.value.list o.value.names) _ (fun i w hi ih => ?_) ?_
   . simp only [cs_.turn6,cs_.step6,Int.toNat_natCast,W_up hi h.1.1,ag_,a2_,ab_ (hp_ (kq_ h.1 i)),ac_,dZ_ ih,cD_ hi,cb_ hi]
     cases jo_ (o.way.getD i [])<;>simp
   . simp only [cs_.turn6,cs_.step6,cj_,cond_false,dx_,ag_,ab_ k,ac_]
     cases (o.kind != 2)<;>simp
  simp only [dZ_ hl];cases inn o.kind 1 4<;>cases decide (o.way.length<=6)<;>simp
theorem iL_ {o:TOp}(h:lT_ o):Ev (fun n _=>cu_ n o) (hc_ o):=by
 refine ak_ ?_;simp only [cu_];have e:hc_ o=(tx_ o.way&&(inn o.kind 1 4&&(decide (o.way.length<=6)&&(bU_ o.value&&((o.kind != 2)||jR_ o.value))))):=by unfold hc_;cases inn o.kind 1 4<;>cases decide (o.way.length<=6)<;>cases bU_ o.value<;>cases tx_ o.way<;>simp
 rw [e];refine fv_ (fun n N i=>cu_.loop3 n (fun B2 B3 B4 B5 B6 B7 B8=>((aI_ n B2 1 4).bind fun A9=>(cond A9 (cond (decide ((B3.length:Int)<=6)) ((c0_ n (aa_.mk B4 B5 B6 B7 B8)).bind fun A10=>(cond A10 (cond (B2 != 2) (some true) ((em_ n (aa_.mk B4 B5 B6 B7 B8)).bind fun A11=>(some A11))) (some false))) (some false)) (some false)))) N o.way (o.way.length:Int) (i:Int) o.kind o.way o.value.kind o.value.n_ o.value.s o.value.list o.value.names) _ (fun i w hi ih => ?_) ?_
 . simp only [cu_.turn3,cu_.step3,Int.toNat_natCast,W_up hi h.1.1,ag_,a2_,ab_ (hw_ (kq_ h.1 i)),ac_,dZ_ ih,cD_ hi,cb_ hi]
   cases jo_ (o.way.getD i [])<;>simp
 . simp only [cu_.turn3,cu_.step3,cj_,cond_false,dx_,ag_,hd_,le_le,ab_ (dW_ h.2),ab_ jw_,ac_]
   cases inn o.kind 1 4<;>cases decide (o.way.length<=6)<;>cases bU_ o.value<;>cases (o.kind != 2)<;>simp
def gx_ (k:Int):Bs:=cond (k==1) [97,100,100] (cond (k==2) [114,101,109,111,118,101] (cond (k==3) [114,101,112,108,97,99,101] [116,101,115,116]))
def tA_ (s:Bs):aa_:=aa_.mk 3 0 s [] []
abbrev nmOp:Bs:=[111,112]
abbrev iE_:Bs:=[112,97,116,104]
abbrev jL_:Bs:=[118,97,108,117,101]
def eZ_ (o:TOp):aa_:=cond (o.kind==2) (aa_.mk 5 0 [] [tA_ (gx_ o.kind),tA_ (FWay o.way)] [nmOp,iE_]) (aa_.mk 5 0 [] [tA_ (gx_ o.kind),tA_ (FWay o.way),o.value] [nmOp,iE_,jL_])
def cN_ (o:TOp):aa_:=cond (hc_ o) (fe_ (eZ_ o)) gi_
theorem pr_:∀ (d:Nat)(j:aa_),gk_ (d+1) j->gk_ d j
 |0,_,_=>trivial
 |d+1,j,h=>⟨h.1,h.2.1,fun x hx=>pr_ d x (h.2.2 x hx)⟩
theorem mb_ {s:Bs}(h:s.length<=b9_):∀ d,gk_ d (tA_ s)
 |0=>trivial
 |d+1=>⟨⟨h,Nat.zero_le _,fun x hx=>(by cases hx)⟩,Nat.zero_le _,fun x hx=>(by cases hx)⟩
theorem fP_:∀ d,gk_ d gi_
 |0=>trivial
 |d+1=>⟨⟨Nat.zero_le _,Nat.zero_le _,fun x hx=>(by cases hx)⟩,Nat.zero_le _,fun x hx=>(by cases hx)⟩
structure OpIs (o:TOp):Prop where
 kind:o.kind=1\/o.kind=2\/o.kind=3\/o.kind=4
 way:o.way.length<=6
 text:∀ s ∈ o.way,s.length<=60
 val:bp_ 6 o.value<=400
theorem tM_ {o:TOp}(h:hc_ o=true):OpIs o:=by unfold hc_ at h;simp only [Bool.and_eq_true] at h;obtain ⟨u,p,m,k,_⟩:=h;have z:=gH_ u;refine ⟨by omega,of_decide_eq_true p,fun s hs => ?_,of_decide_eq_true m⟩;obtain ⟨i,hi,e⟩:=List.mem_iff_getElem.1 hs;have:=e7_.1 k i hi;rw [List.getD_eq_getElem?_getD,List.getElem?_eq_getElem hi,Option.getD_some,e] at this;exact iZ_ this
theorem name_len (k:Int):(gx_ k).length<=60:=by unfold gx_;cases (k==1)<;>cases (k==2)<;>cases (k==3)<;>simp
theorem kY_ {o:TOp}(h:lT_ o)(m:OpIs o):gk_ 6 (eZ_ o):=by
 have z:=pX_ m.text;have p:=m.way;have k:(FWay o.way).length<=b9_:=by simp only [b9_];omega
 have hn:(gx_ o.kind).length<=b9_:=by have:=name_len o.kind;simp only [b9_];omega
 have u:=pr_ 5 _ h.2;unfold eZ_;cases (o.kind==2) with
 |true=>
  refine ⟨⟨Nat.zero_le _,by show 2<=b9_;decide,fun x hx => ?_⟩,by show 2<=b9_;decide,fun x hx => ?_⟩
  . simp at hx;rcases hx with e|e<;>(rw [e];decide)
  . simp at hx;rcases hx with e|e
    . rw [e];exact mb_ hn 5
    . rw [e];exact mb_ k 5
 |false=>
  refine ⟨⟨Nat.zero_le _,by show 3<=b9_;decide,fun x hx => ?_⟩,by show 3<=b9_;decide,fun x hx => ?_⟩
  . simp at hx;rcases hx with e|e|e<;>(rw [e];decide)
  . simp at hx;rcases hx with e|e|e
    . rw [e];exact mb_ hn 5
    . rw [e];exact mb_ k 5
    . rw [e];exact u
theorem rD_ {o:TOp}(h:lT_ o):gk_ 6 (cN_ o):=by
 unfold cN_;cases k:hc_ o with
 |false=>exact fP_ 6
 |true=>
  unfold fe_;cases bU_ (eZ_ o) with
  |false=>exact fP_ 6
  |true=>exact kY_ h (tM_ k)
theorem put_value (a b v:aa_):Ev (fun n _=>bM_ n (aa_.mk 5 0 [] [a,b] [nmOp,iE_]) jL_ v) (aa_.mk 5 0 [] [a,b,v] [nmOp,iE_,jL_]) :=
 hQ_ (o:=aa_.mk 5 0 [] [a,b] [nmOp,iE_]) (j:=v) (x:=jL_) (by show 2<=2000000;decide) rfl (fun _=>less_ne) (fun i m k=>by
  have:gW_ [nmOp,iE_] jL_=2:=by decide
  have k:i<2:=k;have m:gW_ [nmOp,iE_] jL_<=i:=m;omega)
theorem ft_ {o:TOp}(h:lT_ o):Ev (fun n _=>ek_ n o) (cN_ o):=by
 refine ak_ ?_;have z:Ev (fun n _=>dD_ n ()) [[],[97,100,100],[114,101,109,111,118,101],[114,101,112,108,97,99,101],[116,101,115,116]]:=ak_ (by simp only [dD_,ac_]);simp only [ek_,aM_,fu_,ab_ (ls_ h),ag_,ac_];unfold cN_;cases u:hc_ o with
 |false=>exact ⟨fun _=>rfl,fun h=>(by cases h)⟩
 |true=>
  refine ⟨fun h=>(by cases h),fun _ => ?_⟩;have hi:=tM_ u;have m:=dc_ (kY_ h hi);have p:=dq_ 6 o.value hi.val;simp only [ab_ z,a2_,ab_ (mx_ hi.way hi.text)];unfold fe_ gi_ eZ_ tA_ gx_;unfold eZ_ tA_ gx_ at m;rcases hi.kind with k|k|k|k;all_goals (
   simp only [k,Int.reduceBEq,cond_true,cond_false] at m;simp only [k,Int.reduceBEq,cond_true,cond_false,bne,Bool.not_false,Bool.not_true,Int.reduceToNat,List.getD_cons_succ,List.getD_cons_zero,ag_,ab_ p,ab_ (put_value _ _ _),ab_ m,ac_];refine ⟨⟨by decide,by decide⟩,?_⟩;generalize bU_ _=q;cases q<;>simp)
theorem hy_ {o:TOp}(h:lT_ o):Ev (fun n _=>eF_ n o) (cN_ o):=by
 refine ak_ ?_;have z:Ev (fun n _=>dF_ n ()) [[97,100,100],[114,101,109,111,118,101],[114,101,112,108,97,99,101],[116,101,115,116]]:=ak_ (by simp only [dF_,ac_]);simp only [eF_,aM_,fu_,ab_ (iL_ h),ag_,ac_];unfold cN_;cases u:hc_ o with
 |false=>exact ⟨fun _=>rfl,fun h=>(by cases h)⟩
 |true=>
  refine ⟨fun h=>(by cases h),fun _ => ?_⟩;have hi:=tM_ u;have m:=orNull_ev (kY_ h hi);have p:=d4_ 6 o.value hi.val;simp only [ab_ z,a2_,ab_ (iK_ hi.way hi.text)];simp only [cond_true];unfold eZ_ tA_ gx_;unfold eZ_ tA_ gx_ at m;have w1:W ((1:Int) - 1)=0:=by rw [W_id (by decide) (by decide)];rfl
  have w2:W ((2:Int) - 1)=1:=by rw [W_id (by decide) (by decide)];rfl
  have w3:W ((3:Int) - 1)=2:=by rw [W_id (by decide) (by decide)];rfl
  have w4:W ((4:Int) - 1)=3:=by rw [W_id (by decide) (by decide)];rfl
  rcases hi.kind with k|k|k|k;all_goals (
   simp only [k,Int.reduceBEq,cond_true,cond_false] at m;simp only [k,w1,w2,w3,w4,Int.reduceBEq,cond_true,cond_false,bne,Bool.not_false,Bool.not_true,Int.reduceToNat,List.getD_cons_succ,List.getD_cons_zero,List.cons_append,List.nil_append,ag_,a6_,ab_ p,ab_ m,ac_,true_implies,false_implies,reduceCtorEq,and_true,true_and];simp only [List.length_cons,List.length_nil];decide)
def pfx (p s:Bs):Bool:=p.isPrefixOf s
theorem qr_ {a c:UInt8}(h:c≠a)(p t:Bs):pfx (a::p) (c::t)=false:=by have e:(a==c)=false:=beq_eq_false_iff_ne.2 fun e=>h e.symm;show (a==c&&List.isPrefixOf p t)=false;rw [e];rfl
theorem jI_ (p t:Bs):pfx p (p++t)=true:=List.isPrefixOf_iff_prefix.2 (List.prefix_append p t)
theorem mT_ {p t:Bs}(h:pfx p t=true):p.length<=t.length:=(List.isPrefixOf_iff_prefix.1 h).length_le
theorem l9_ (p s:Bs):pfx p s=((s.take p.length).drop 0==p):=by rw [List.drop_zero];refine Bool.eq_iff_iff.2 ?_;rw [beq_iff_eq];exact ⟨fun h=>(List.prefix_iff_eq_take.1 (List.isPrefixOf_iff_prefix.1 h)).symm,fun h=>List.isPrefixOf_iff_prefix.2 (List.prefix_iff_eq_take.2 h.symm)⟩
section
variable {β:Type} {g:Nat->Nat->Bool->Option β} {v:β}
theorem iX_ {s p:Bs}:Ev (fun n _=>bi_ n s p) (pfx p s):=by
 refine ak_ ?_;simp only [bi_,ag_,eH_,ac_,Int.toNat_natCast];refine ⟨fun h => ?_,fun h => ?_⟩
 . have h:=of_decide_eq_true h
   exact ⟨⟨by omega,by omega,by omega⟩,(l9_ p s).symm⟩
 . have h:=of_decide_eq_false h
   cases e:pfx p s with
   |false=>rfl
   |true=>have:=mT_ e;omega
theorem i3_ {s p:Bs}:Ev (fun n _=>cX_ n s p) (cond (pfx p s) (s.drop p.length,true) (s,false)):=by
 have:Ev (fun n _=>bS_ n s p) (cond (pfx p s) (s.drop p.length,true) (s,false)):=by
  refine ak_ ?_;simp only [bS_,ab_ iX_,ag_,eH_,ac_,Int.toNat_natCast,List.take_length];cases e:pfx p s with
  |false=>exact ⟨fun _=>rfl,fun h=>(by cases h)⟩
  |true=>exact ⟨fun h=>(by cases h),fun _=>⟨⟨by omega,by have:=mT_ e;omega,by omega⟩,rfl⟩⟩
 exact ak_ (by simp only [cX_,ab_ this,ac_])
theorem kx_ {s p:Bs}:Ev (fun n _=>cR_ n s p) (cond (pfx p s) (s.drop p.length) s):=by
 have:Ev (fun n _=>bH_ n s p) (cond (pfx p s) (s.drop p.length) s):=by
  refine ak_ ?_;simp only [bH_,ab_ iX_,ag_,eH_,ac_,Int.toNat_natCast,List.take_length];cases e:pfx p s with
  |false=>exact ⟨fun h=>(by cases h),fun _=>rfl⟩
  |true=>exact ⟨fun _=>⟨⟨by omega,by have:=mT_ e;omega,by omega⟩,rfl⟩,fun h=>(by cases h)⟩
 exact ak_ (by simp only [cR_,ab_ this,ac_])
end
def ip_ (r:bu_)(p:Bs):Bool×bu_:=cond (pfx p r.text) (!r.bad,⟨r.text.drop p.length,r.bad⟩) (false,⟨r.text,r.bad⟩)
def uu_ (r:bu_)(p:Bs):bu_:=cond (pfx p r.text) ⟨r.text.drop p.length,r.bad⟩ ⟨r.text,true⟩
theorem take_ev {r:bu_}{p:Bs}:Ev (fun n _=>bN_ n r p) (ip_ r p):=by refine ak_ ?_;simp only [bN_,ab_ i3_,ag_,ac_,ip_];cases pfx p r.text<;>simp
theorem want_ev {r:bu_}{p:Bs}:Ev (fun n _=>cy_ n r p) (uu_ r p):=by refine ak_ ?_;simp only [cy_,ab_ take_ev,ag_,ac_,ip_,uu_];cases pfx p r.text<;>cases r.bad<;>simp
section
variable {β:Type} {Q:β->Prop} {v:β}
theorem gf_ {r:bu_}{p:Bs}{g:Nat->Nat->Bool×bu_->Option β}:Ev (fun n N=>(bN_ n r p).bind (g n N)) v↔Ev (fun n N=>g n N (ip_ r p)) v:=ab_ take_ev
theorem ss_ {r:bu_}{p:Bs}{g:Nat->Nat->bu_->Option β}:Ev (fun n N=>(cy_ n r p).bind (g n N)) v↔Ev (fun n N=>g n N (uu_ r p)) v:=ab_ want_ev
end
theorem jM_ {s p:Bs}:Ev (fun n _=>de_ n s p) (pfx p s):=ak_ (by simp only [de_,ab_ iX_,ac_])
theorem gA_ (p t:Bs):ip_ ⟨p++t,false⟩ p=(true,⟨t,false⟩):=by unfold ip_;rw [jI_,List.drop_left];rfl
theorem c6_ {a c:UInt8}(h:c≠a)(p t:Bs)(b:Bool):ip_ ⟨c::t,b⟩ (a::p)=(false,⟨c::t,b⟩):=by unfold ip_;rw [qr_ h];rfl
theorem l3_ (p t:Bs):uu_ ⟨p++t,false⟩ p=⟨t,false⟩:=by unfold uu_;rw [jI_,List.drop_left];rfl
theorem pT_ (o:Bs)(c:UInt8):bi o++[((c.toNat:Nat):Int)]=bi (o++[c]):=by simp [bi]
theorem kT_ {s r:Bs} (hl:(dG_ s++r).length<=1000000000000):Ev (fun n _=>aD_ n ⟨dG_ s++r,false⟩) (s,⟨r,false⟩):=by
 have hq:=gQ_ s;have u:s.length<=(dG_ s).length:=by
  have:∀ s:Bs,s.length<=(s.flatMap gh_).length:=by
   intro s;induction s with
   |nil=>exact Nat.le_refl _
   |cons c s ih=>
    rw [List.flatMap_cons,List.length_append,List.length_cons];have:1<=(gh_ c).length:=by unfold gh_;split<;>simp
    omega
  have:=this s;simp only [dG_,List.cons_append,List.length_cons,List.length_append];omega
 simp only [List.length_append] at hl;have e:dG_ s++r=[34]++(s.flatMap gh_++34::r):=by simp [dG_]
 refine ak_ ?_;simp only [aD_,ss_,e,l3_];have:=eR_ (fun i=>((s.drop i).flatMap gh_++34::r,bi (s.take i))) s.length (fun n N i (q:Bs×List Int)=>aD_.loop4 n (fun B4 B5=>(some ([],(bu_.mk B4 B5)))) N q.1 false q.2) (s,⟨r,false⟩) (fun i hi F k => ?_) ?_
 . exact this
 . have hd:=dA_ 0 hi
   have p:=cz_ 0 hi;rw [p] at k;simp only [hd,List.flatMap_cons,List.append_assoc];have m:=lH_ (s.take i);rw [List.length_take] at m;generalize (s.drop (i+1)).flatMap gh_++34::r=T at k ⊢;generalize s.getD i 0=c at k ⊢;rw [<-pT_] at k;generalize bi (s.take i)=o at k m ⊢;simp only [aD_.turn4,aD_.step4,Bool.not_false,cond_true,gf_];by_cases hc:c=34\/c=92
   . have e1:gh_ c=[92,c]:=if_pos hc
     have e2:gh_ c++T=92::c::T:=by rw [e1];rfl
     have e3:ip_ ⟨92::c::T,false⟩ [92]=(true,⟨c::T,false⟩):=gA_ [92] (c::T);simp only [e2,gf_,c6_ (show (92:UInt8)≠34 by decide),e3,cond_false,ag_,a2_,a6_,eH_,Int.toNat_natCast,List.take_length,List.getD_cons_zero,List.drop_succ_cons,List.drop_zero]
     repeat' (first|exact k|apply And.intro|intro _)
     all_goals (first|contradiction|omega|(simp;done)|(simp;omega)|trace_state)
   . have e1:gh_ c=[c]:=if_neg hc
     have e2:gh_ c++T=c::T:=by rw [e1];rfl
     simp only [e2,gf_,c6_ (show c≠34 from fun e=>hc (.inl e)),c6_ (show c≠92 from fun e=>hc (.inr e)),cond_false,ag_,a2_,a6_,eH_,Int.toNat_natCast,List.take_length,List.getD_cons_zero,List.drop_succ_cons,List.drop_zero]
     repeat' (first|exact k|apply And.intro|intro _)
     all_goals (first|contradiction|omega|(simp;done)|(simp;omega)|trace_state)
 . have e3:ip_ ⟨34::r,false⟩ [34]=(true,⟨r,false⟩):=gA_ [34] r
   simp only [List.drop_length,List.take_length,List.flatMap_nil,List.nil_append,aD_.turn4,aD_.step4,Bool.not_false,cond_true,gf_,e3,kJ_,ac_]
theorem sp_ {s:Bs}(h:s.length<=281474976710656):Ev (fun n _=>dg_ n s) (endOf s (Lib.atoiAll s)) :=
 ak_ (by simp only [dg_,nAtoi,decide_eq_true h,cond_true,ac_])
theorem itoa_at (n:Int){i:Nat} (hi:i<(Lib.itoa n).length):fV_ ((Lib.itoa n).getD i 0)\/(i=0/\(Lib.itoa n).getD i 0=45):=by
 unfold Lib.itoa at hi ⊢;by_cases h:n<0
 . rw [if_pos h] at hi ⊢
   cases i with
   |zero=>exact .inr ⟨rfl,rfl⟩
   |succ i=>
    left;rw [List.getD_cons_succ];exact hZ_ n.natAbs _ (bB_ 0 (by simpa using hi))
 . rw [if_neg h] at hi ⊢
   exact .inl (hZ_ n.toNat _ (bB_ 0 hi))
theorem qR_ {a b:Bs}{i:Nat}(h:i<a.length):(a++b).getD i 0=a.getD i 0:=by rw [List.getD_eq_getElem?_getD,List.getElem?_append_left h,<-List.getD_eq_getElem?_getD]
theorem uc_ {a b:Bs}{c:UInt8}:(a++c::b).getD a.length 0=c:=by rw [List.getD_eq_getElem?_getD,List.getElem?_append_right (Nat.le_refl _)];simp
theorem inn_dig {c:UInt8}(h:fV_ c):inn (c.toNat:Int) 48 57=true:=by unfold fV_ at h;exact hv_.2 (by omega)
theorem inn_not {c:UInt8}(h:¬ fV_ c):inn (c.toNat:Int) 48 57=false:=by
 cases e:inn (c.toNat:Int) 48 57 with
 |false=>rfl
 |true=>exact absurd (by unfold fV_;have:=gH_ e;omega) h
theorem tO_ {n:Int}{r:Bs}(U : -1000000000<=n)(T:n<=1000000000)(hs:Stop r) (hl:(Lib.itoa n++r).length<=1000000000000):Ev (fun m _=>aB_ m ⟨Lib.itoa n++r,false⟩) (aa_.mk 2 n [] [] [],⟨r,false⟩):=by
 have I:=sp_ (s:=Lib.itoa n) (by simp only [List.length_append] at hl;omega);rw [iU_ U T] at I;obtain ⟨c0,t0,e0,_⟩:=hI_ n;have O:1<=(Lib.itoa n).length:=by rw [e0];simp
 have p:=fun i=>itoa_at n (i:=i);generalize Lib.itoa n=t at hl I O p ⊢;simp only [List.length_append] at hl;refine ak_ ?_;simp only [aB_];have u:∀ (K:Nat->aB_.K3)(F:aa_×bu_),Ev (fun n _=>K n (t.length:Int) (t++r) false 0 0 []) F->Ev (fun n _=>aB_.loop3 n (K n) n 0 (t++r) false 0 0 []) F:=by
  intro K F z;refine eR_ (fun _=>()) t.length (fun n N i (_:Unit)=>aB_.loop3 n (K n) N (i:Int) (t++r) false 0 0 []) F (fun i hi F B => ?_) ?_
  . have k:i<(t++r).length:=by simp;omega
    have S:=W_up k (by simp only [b9_,List.length_append];omega);simp only [aB_.turn3,aB_.step3,Int.toNat_natCast,S,cD_ k,cond_true,a2_,cb_ k,true_and,hd_,tp_,qR_ hi,ag_];rcases p i hi with hd|⟨rfl,hd⟩
    . rw [inn_dig hd]
      exact ⟨fun _=>B,fun h=>(by cases h)⟩
    . simp only [qR_ hi,hd]
      exact ⟨fun _=>B,fun _=>⟨fun _=>⟨by omega,fun _=>B,fun h=>absurd h (by decide)⟩,fun h=>(by cases h)⟩⟩
  . simp only [aB_.turn3,aB_.step3,Int.toNat_natCast]
    cases r with
    |nil=>
     rw [List.append_nil] at z ⊢;simp only [cj_,cond_false];exact z
    |cons c r=>
     have k:t.length<(t++c::r).length:=by simp
     have J:(((t.length:Nat):Int)==0)=false:=beq_eq_false_iff_ne.2 (by omega);simp only [cD_ k,cond_true,a2_,cb_ k,true_and,hd_,tp_,uc_,inn_not (hs c r rfl),J,cond_false];exact z
 refine u _ _ ?_;have e1:((t++r).take t.length).drop 0=t:=by simp
 simp only [Int.toNat_natCast,e1,List.take_length,List.drop_left,eH_,ab_ I,endOf,Bool.not_true,cond_false,ac_];exact ⟨by simp;omega,by simp;omega,trivial⟩
theorem q0_ (enc:aa_->Bs)(j:aa_)(k i:Nat):d6_ enc j (k+1) (i+1)=44::(d0_ enc j (i+1)++d6_ enc j k (i+2)):=by rw [d6_,if_neg (by omega)];rfl
theorem qf_ (enc:aa_->Bs)(j:aa_)(k i:Nat){c:UInt8}(h:¬ fV_ c)(r:Bs):Stop (d6_ enc j k (i+1)++c::r):=by
 cases k with
 |zero=>exact mq_ h
 |succ k=>rw [q0_];exact mq_ (by unfold fV_;decide)
theorem rU_ {kind:Int}{c:UInt8}(h:c.toNat=93\/c.toNat=125):¬ fV_ c:=by unfold fV_;omega
theorem qs_ {d:Nat}(hd:d<=1000){j:aa_} (h:bp_ (d+1) j<=400) (z:j.kind=4\/j.kind=5)
  (ih:∀ x,bp_ d x<=400->∀ r,Stop r->(FEnc d x++r).length<=1000000000000->Ev (fun n _=>b6_ n ⟨FEnc d x++r,false⟩ (d:Int)) (x,⟨r,false⟩))
  (c:UInt8) (hc:c.toNat=93\/c.toNat=125) (r:Bs) (hl:(eJ_ (FEnc d) j j.list.length++c::r).length<=1000000000000) :
  Ev (fun n _=>as_ n ⟨eJ_ (FEnc d) j j.list.length++c::r,false⟩ j.kind [c] ((d+1:Nat):Int)) (aa_.mk j.kind 0 [] j.list j.names,⟨r,false⟩):=by
 have U:W (((d+1:Nat):Int) - 1)=(d:Int):=by rw [W_id (by omega) (by omega)];omega
 have hll:=gd_ h;have hnl:=gj_ h;have hT:ip_ ⟨c::r,false⟩ [c]=(true,⟨r,false⟩):=gA_ [c] r;have hWa:uu_ ⟨c::r,false⟩ [c]=⟨r,false⟩:=l3_ [c] r;have Z:=(dj_ h).1;have O:=fw_ (fc_ h);rw [ny_] at hl ⊢;refine ak_ ?_;cases hm:j.list.length with
 |zero=>
  have e1:j.list=[]:=List.eq_nil_of_length_eq_zero hm;have e2:j.names=[]:=by
   rcases z with z|z
   . exact O.ns0 (by omega)
   . exact List.eq_nil_of_length_eq_zero (by rw [(Z.obj z).1,hm])
  simp only [as_,gf_,d6_,List.nil_append,hT,cond_true,ac_,e1,e2]
 |succ m=>
  obtain ⟨a,p0,ep,hp1,hp2,hp3⟩:=oK_ h (i:=0) (by omega);have e0:d6_ (FEnc d) j (m+1) 0=d0_ (FEnc d) j 0++d6_ (FEnc d) j m 1:=by rw [d6_,if_pos rfl];rfl
  have hac:a≠c:=fun e=>by subst e;omega
  have e3:d0_ (FEnc d) j 0++d6_ (FEnc d) j m 1++c::r=a::(p0++d6_ (FEnc d) j m 1++c::r):=by rw [ep];rfl
  have e4:ip_ ⟨d0_ (FEnc d) j 0++d6_ (FEnc d) j m 1++c::r,false⟩ [c]=(false,⟨d0_ (FEnc d) j 0++d6_ (FEnc d) j m 1++c::r,false⟩):=by rw [e3];exact c6_ hac [] _ false
  simp only [as_,gf_,e0,e4,cond_false];rw [hm,e0] at hl;have V:∀ (K:Nat->as_.K7_1)(F:aa_×bu_),Ev (fun n _=>K n [c] (c::r) false 0 0 [] j.kind 0 [] j.list j.names) F ->
    ∀ k i,i+1+k=j.list.length->(d0_ (FEnc d) j i++d6_ (FEnc d) j k (i+1)++c::r).length<=1000000000000 ->
    Ev (fun n N=>as_.loop7 n (b6_ n) (K n) N j.kind [c] ((d+1:Nat):Int) true (d0_ (FEnc d) j i++d6_ (FEnc d) j k (i+1)++c::r) false 0 0 [] j.kind 0 [] (j.list.take i) (j.names.take i)) F:=by
   intro K F hK k;induction k with
   |zero=>
    intro i hi p;have Y:=f0_ h (i:=i) (by omega);have hx:=ih _ Y.size (c::r) (mq_ (rU_ (kind:=0) hc));have B:ip_ ⟨c::r,false⟩ [44]=(false,⟨c::r,false⟩):=c6_ (by intro e;subst e;revert hc;decide) [] _ false;have I:∀ F,Ev (fun n _=>K n [c] (c::r) false 0 0 [] j.kind 0 [] j.list j.names) F->Ev (fun n N=>as_.loop7 n (b6_ n) (K n) N j.kind [c] ((d+1:Nat):Int) false (c::r) false 0 0 [] j.kind 0 [] j.list j.names) F:=fun F hF=>aY_ (by
     simp only [as_.turn7,as_.step7,cond_false];exact hF)
    have el:j.list.take i++[j.list.getD i aa_.dflt]=j.list:=by rw [<-cz_ aa_.dflt (by omega)];exact List.take_of_length_le (by omega)
    refine aY_ ?_;simp only [d6_,List.append_nil];simp only [d6_,List.append_nil] at p;rcases z with z|z
    . have J:(j.kind==5)=false:=by rw [z];rfl
      have en:j.names=[]:=O.ns0 (by omega);unfold d0_ at p ⊢;rw [J,cond_false] at p ⊢;simp only [as_.turn7,as_.step7,aM_,U,J,Bool.not_false,cond_true,cond_false,ab_ (hx p),a6_,gf_,B,el,en,List.take_nil];refine ⟨by simp;omega,?_⟩;have:=I F hK;rw [en] at this;exact this
    . have J:(j.kind==5)=true:=by rw [z];rfl
      obtain ⟨o1,o2⟩:=Z.obj z;have en:j.names.take i++[j.names.getD i []]=j.names:=by rw [<-cz_ [] (by omega)];exact List.take_of_length_le (by omega)
      unfold d0_ at p ⊢;rw [J,cond_true] at p ⊢;simp only [List.append_assoc] at p ⊢;have hq:=kT_ p;simp only [List.length_append] at p;have hx:=hx (by simp only [List.length_append];simp at p ⊢;omega);simp only [as_.turn7,as_.step7,aM_,U,J,Bool.not_false,cond_true,cond_false,ab_ hq,ss_,l3_,ab_ hx,a6_,gf_,B,el,en];exact ⟨by simp;omega,by simp;omega,I F hK⟩
   |succ k ihk=>
    intro i hi p;have Y:=f0_ h (i:=i) (by omega);have hx:=ih _ Y.size (d6_ (FEnc d) j (k+1) (i+1)++c::r) (qf_ _ _ _ _ (rU_ (kind:=0) hc) r);have e5:d6_ (FEnc d) j (k+1) (i+1)++c::r=[44]++(d0_ (FEnc d) j (i+1)++d6_ (FEnc d) j k (i+2)++c::r):=by rw [q0_];simp
    have B:ip_ ⟨d6_ (FEnc d) j (k+1) (i+1)++c::r,false⟩ [44]=(true,⟨d0_ (FEnc d) j (i+1)++d6_ (FEnc d) j k (i+2)++c::r,false⟩):=by rw [e5];exact gA_ _ _
    have S:(d0_ (FEnc d) j (i+1)++d6_ (FEnc d) j k (i+2)++c::r).length<=1000000000000:=by have:=congrArg List.length e5;simp only [List.length_append,List.length_cons,List.length_nil] at this p ⊢;omega
    have u:=ihk (i+1) (by omega) S;rw [cz_ aa_.dflt (show i<j.list.length by omega)] at u;refine aY_ ?_;rw [List.append_assoc] at p ⊢;generalize d6_ (FEnc d) j (k+1) (i+1)++c::r=T at hx B p ⊢;rcases z with z|z
    . have J:(j.kind==5)=false:=by rw [z];rfl
      have en:j.names=[]:=O.ns0 (by omega);have ef:d0_ (FEnc d) j i=FEnc d (j.list.getD i aa_.dflt):=by unfold d0_;rw [J];rfl
      rw [ef] at p ⊢;rw [en,List.take_nil] at u;simp only [as_.turn7,as_.step7,aM_,U,J,Bool.not_false,cond_true,cond_false,ab_ (hx p),a6_,gf_,B,en,List.take_nil];exact ⟨by simp;omega,u⟩
    . have J:(j.kind==5)=true:=by rw [z];rfl
      obtain ⟨o1,o2⟩:=Z.obj z;rw [cz_ [] (show i<j.names.length by omega)] at u;have ef:d0_ (FEnc d) j i=dG_ (j.names.getD i [])++([58]++FEnc d (j.list.getD i aa_.dflt)):=by unfold d0_;rw [J];rfl
      rw [ef] at p ⊢;simp only [List.append_assoc] at p ⊢;have hq:=kT_ p;have hx:=hx (by simp only [List.length_append] at p ⊢;simp at p ⊢;omega);simp only [as_.turn7,as_.step7,aM_,U,J,Bool.not_false,cond_true,cond_false,ab_ hq,ss_,l3_,ab_ hx,a6_,gf_,B];exact ⟨by simp;omega,by simp;omega,u⟩
  have:=V (fun n=>fun B8 B9 B10 B11 B12 B13 B14 B15 B16 B17 B18=>((cy_ n (bu_.mk B9 B10) B8).bind fun A19=>(some ((aa_.mk B14 B15 B16 B17 B18),A19)))) (aa_.mk j.kind 0 [] j.list j.names,⟨r,false⟩) (by simp only [ss_,hWa,ac_]) m 0 (by omega) hl;exact c3_ (f:=fun n N=>as_.loop7 n (b6_ n) (fun B8 B9 B10 B11 B12 B13 B14 B15 B16 B17 B18=>((cy_ n (bu_.mk B9 B10) B8).bind fun A19=>(some ((aa_.mk B14 B15 B16 B17 B18),A19)))) N j.kind [c] ((d+1:Nat):Int) true (d0_ (FEnc d) j 0++d6_ (FEnc d) j m 1++c::r) false 0 0 [] j.kind 0 [] [] []) this
theorem px_ {d:Nat}{j:aa_} (h:bp_ (d+1) j<=400) (p:j.kind=4\/j.kind=5):aa_.mk j.kind 0 [] j.list j.names=j:=by have m:=fw_ (fc_ h);have e1:=m.n0 (by omega) (by omega);have e2:=m.s0 (by omega);obtain ⟨k,n,s,l,ns⟩:=j;simp only at e1 e2 ⊢;subst e1 e2;rfl
theorem p8_:∀ (d:Nat),d<=1000->∀ j,bp_ d j<=400->∀ r,Stop r->(FEnc d j++r).length<=1000000000000->Ev (fun n _=>b6_ n ⟨FEnc d j++r,false⟩ (d:Int)) (j,⟨r,false⟩)
 |0,_,j,h,r,_,_=>by simp only [bp_] at h;omega
 |d+1,hd,j,h,r,hs,hl=>by
  have ih:=p8_ d (by omega);have u:=(dj_ h).1;have p:=fw_ (fc_ h);have J:decide (((d+1:Nat):Int)<1)=false:=decide_eq_false (by omega);refine ak_ ?_;simp only [b6_,aM_,J,cond_false,gf_,ab_ jM_];rcases u.kind with m|m|m|m|m|m
  . have e:FEnc (d+1) j=[110,117,108,108]:=by simp only [FEnc,m,Int.reduceBEq,cond_true]
    have ej:j=aa_.mk 0 0 [] [] []:=by have e1:=p.n0 (by omega) (by omega);have e2:=p.s0 (by omega);have e3:=u.list (by omega) (by omega);have e4:=p.ns0 (by omega);obtain ⟨k,n,s,l,ns⟩:=j;simp only at e1 e2 e3 e4 m;subst e1 e2 e3 e4 m;rfl
    rw [e];simp only [gA_,cond_true,ac_];rw [ej]
  . have hb:=u.bool m
    have e2:=p.s0 (by omega);have e3:=u.list (by omega) (by omega);have e4:=p.ns0 (by omega);obtain ⟨k,n,s,l,ns⟩:=j;simp only at e2 e3 e4 m hb;subst e2 e3 e4 m;have:n=0\/n=1:=by omega
    rcases this with rfl|rfl
    . have e:FEnc (d+1) (aa_.mk 1 0 [] [] [])++r=102::([97,108,115,101]++r):=rfl
      have e5:ip_ ⟨102::([97,108,115,101]++r),false⟩ [102,97,108,115,101]=(true,⟨r,false⟩):=gA_ [102,97,108,115,101] r;rw [e];simp only [gf_,ab_ jM_,c6_ (show (102:UInt8)≠110 by decide),e5,cond_false,cond_true,ac_]
    . have e:FEnc (d+1) (aa_.mk 1 1 [] [] [])++r=116::([114,117,101]++r):=rfl
      have e5:ip_ ⟨116::([114,117,101]++r),false⟩ [116,114,117,101]=(true,⟨r,false⟩):=gA_ [116,114,117,101] r;rw [e];simp only [gf_,ab_ jM_,c6_ (show (116:UInt8)≠110 by decide),c6_ (show (116:UInt8)≠102 by decide),e5,cond_false,cond_true,ac_]
  . have hn:=u.num m
    have e:FEnc (d+1) j=Lib.itoa j.n_:=by simp only [FEnc,m,Int.reduceBEq,cond_true,cond_false]
    rw [e] at hl ⊢;have B:=tO_ hn.1 hn.2 hs hl;have ej:aa_.mk 2 j.n_ [] [] []=j:=by have e2:=p.s0 (by omega);have e3:=u.list (by omega) (by omega);have e4:=p.ns0 (by omega);obtain ⟨k,n,s,l,ns⟩:=j;simp only at e2 e3 e4 m;subst e2 e3 e4 m;rfl
    rw [ej] at B;obtain ⟨c,t,ec,hc⟩:=hI_ j.n_;rw [ec] at B ⊢;have ne:∀ x:UInt8,(x.toNat<45\/x.toNat=46\/57<x.toNat)->c≠x:=by
     rintro x hx rfl
     rcases hc with rfl|hc
     . revert hx;decide
     . unfold fV_ at hc;omega
    rw [List.cons_append] at B ⊢;simp only [gf_,ab_ jM_,c6_ (ne 110 (by decide)),c6_ (ne 102 (by decide)),c6_ (ne 116 (by decide)),c6_ (ne 91 (by decide)),c6_ (ne 123 (by decide)),qr_ (ne 34 (by decide)),cond_false,ab_ B,ac_]
  . have O:=p.text m
    have e:FEnc (d+1) j=dG_ j.s:=by simp only [FEnc,m,Int.reduceBEq,cond_true,cond_false]
    rw [e] at hl ⊢;have hq:=kT_ hl;have ej:aa_.mk 3 0 j.s [] []=j:=by have e2:=p.n0 (by omega) (by omega);have e3:=u.list (by omega) (by omega);have e4:=p.ns0 (by omega);obtain ⟨k,n,s,l,ns⟩:=j;simp only at e2 e3 e4 m;subst e2 e3 e4 m;rfl
    have ec:dG_ j.s++r=34::(j.s.flatMap gh_++[34]++r):=by simp [dG_]
    rw [ec] at hq ⊢;have I:pfx [34] (34::(j.s.flatMap gh_++[34]++r))=true:=jI_ [34] _;simp only [gf_,ab_ jM_,c6_ (show (34:UInt8)≠110 by decide),c6_ (show (34:UInt8)≠102 by decide),c6_ (show (34:UInt8)≠116 by decide),I,cond_false,cond_true,ab_ hq,ac_,ej]
  . have e:FEnc (d+1) j=[91]++eJ_ (FEnc d) j j.list.length++[93]:=by simp only [FEnc,m,Int.reduceBEq,cond_true,cond_false]
    have e1:FEnc (d+1) j++r=91::(eJ_ (FEnc d) j j.list.length++93::r):=by rw [e];simp
    rw [e1] at hl ⊢;have z:=qs_ (by omega) h (.inl m) ih 93 (.inl rfl) r (by simp only [List.length_cons] at hl;omega);rw [px_ h (.inl m),m] at z;have e5:ip_ ⟨91::(eJ_ (FEnc d) j j.list.length++93::r),false⟩ [91]=(true,⟨eJ_ (FEnc d) j j.list.length++93::r,false⟩):=gA_ [91] _;simp only [gf_,ab_ jM_,c6_ (show (91:UInt8)≠110 by decide),c6_ (show (91:UInt8)≠102 by decide),c6_ (show (91:UInt8)≠116 by decide),qr_ (show (91:UInt8)≠34 by decide),e5,cond_false,cond_true,ab_ z,ac_]
  . have e:FEnc (d+1) j=[123]++eJ_ (FEnc d) j j.list.length++[125]:=by simp only [FEnc,m,Int.reduceBEq,cond_true,cond_false]
    have e1:FEnc (d+1) j++r=123::(eJ_ (FEnc d) j j.list.length++125::r):=by rw [e];simp
    rw [e1] at hl ⊢;have z:=qs_ (by omega) h (.inr m) ih 125 (.inr rfl) r (by simp only [List.length_cons] at hl;omega);rw [px_ h (.inr m),m] at z;have e5:ip_ ⟨123::(eJ_ (FEnc d) j j.list.length++125::r),false⟩ [123]=(true,⟨eJ_ (FEnc d) j j.list.length++125::r,false⟩):=gA_ [123] _;simp only [gf_,ab_ jM_,c6_ (show (123:UInt8)≠110 by decide),c6_ (show (123:UInt8)≠102 by decide),c6_ (show (123:UInt8)≠116 by decide),c6_ (show (123:UInt8)≠91 by decide),qr_ (show (123:UInt8)≠34 by decide),e5,cond_false,cond_true,ab_ z,ac_]
abbrev curC:Nat:=4194304
structure At (s:Bs) (p:Nat) (x:Bs):Prop where
 le:p<=s.length
 eq:s.drop p=x
theorem At.next {s a b:Bs}{p:Nat} (h:At s p (a++b)):At s (p+a.length) b:=by have k:=congrArg List.length h.eq;simp only [List.length_drop,List.length_append] at k;have m:=h.le;exact ⟨by omega,by rw [<-List.drop_drop,h.eq,List.drop_left]⟩
theorem At.next1 {s t:Bs}{c:UInt8}{p:Nat} (h:At s p (c::t)):At s (p+1) t:=At.next (a:=[c]) h
theorem At.lt {s t:Bs}{c:UInt8}{p:Nat} (h:At s p (c::t)):p<s.length/\s.getD p 0=c:=by
 have m:=congrArg List.length h.eq;simp only [List.length_drop,List.length_cons] at m;have k:p<s.length:=by omega
 refine ⟨k,?_⟩;have:=dA_ 0 k;rw [h.eq] at this;exact (List.cons.inj this).1.symm
theorem At.end_ {s:Bs}{p:Nat}(h:At s p []):p=s.length:=by have k:=congrArg List.length h.eq;simp only [List.length_drop,List.length_nil] at k;have:=h.le;omega
def lk_ (s:Bs)(p:Nat):Int:=cond (decide (p<s.length)) ((s.getD p 0).toNat:Int) 0
theorem gu_ {s:Bs}{p:Nat}{ok:Bool}{left:Int}:Ev (fun n _=>c7_ n ⟨s,(p:Int),ok,left⟩) (lk_ s p,⟨s,(p:Int),ok,left⟩):=by
 refine ak_ ?_;simp only [c7_,ag_,a2_,ac_,Int.toNat_natCast,lk_];by_cases h:p<s.length
 . rw [decide_eq_true h]
   exact ⟨fun hc=>by have:=of_decide_eq_true hc;omega,fun _=>⟨by omega,rfl⟩⟩
 . rw [decide_eq_false h]
   exact ⟨fun _=>rfl,fun hc=>by have:=of_decide_eq_false hc;omega⟩
theorem e4_ {s t:Bs}{c:UInt8}{p:Nat} (h:At s p (c::t)):lk_ s p=(c.toNat:Int):=by obtain ⟨m,k⟩:=h.lt;unfold lk_;rw [decide_eq_true m,k];rfl
theorem peek_end {s:Bs}{p:Nat}(h:At s p []):lk_ s p=0:=by unfold lk_;rw [decide_eq_false (by have:=h.end_;omega)];rfl
def FTk (s:Bs)(p:Nat)(ok:Bool)(left:Int)(w:Bs):be_:=cond (pfx w (s.drop p)) ⟨s,((p+w.length:Nat):Int),ok,left⟩ ⟨s,(p:Int),false,left⟩
theorem p9_ {s w:Bs}{p:Nat}{ok:Bool}{left:Int}(hs:s.length<=curC)(k:w.length<=100)(m:p<=s.length):Ev (fun n _=>cq_ n ⟨s,(p:Int),ok,left⟩ w) (FTk s p ok left w):=by
 refine ak_ ?_;simp only [curC] at hs;have e1:W ((s.length:Int) - (p:Int))=(s.length:Int) - p:=W_id (by omega) (by omega);have e2:W ((p:Int)+(w.length:Int))=((p+w.length:Nat):Int):=by rw [W_id (by omega) (by omega)];omega
 simp only [cq_,e1,e2,ag_,eH_,ac_,Int.toNat_natCast,FTk];have e3:pfx w (s.drop p)=(((s.take (p+w.length)).drop p)==w):=by rw [l9_,List.drop_zero,List.drop_take,show p+w.length - p=w.length by omega]
 refine ⟨fun h => ?_,fun h => ?_⟩
 . have h:=of_decide_eq_true h
   cases e:pfx w (s.drop p) with
   |false=>rfl
   |true=>have:=mT_ e;simp only [List.length_drop] at this;omega
 . have h:=of_decide_eq_false h
   refine ⟨by omega,?_⟩;rw [e3];cases ((s.take (p+w.length)).drop p==w)<;>simp
theorem qa_ {s w t:Bs}{p:Nat}{ok:Bool}{left:Int} (h:At s p (w++t)):FTk s p ok left w=⟨s,((p+w.length:Nat):Int),ok,left⟩:=by unfold FTk;rw [h.eq,jI_];rfl
theorem lz_ {s t r:Bs}{p:Nat}{left:Int}(hs:s.length<=curC) (h:At s p (dG_ t++r)) :
  Ev (fun n _=>aV_ n ⟨s,(p:Int),true,left⟩) (t,⟨s,((p+(dG_ t).length:Nat):Int),true,left⟩):=by
 have e:dG_ t++r=[34]++(t.flatMap gh_++34::r):=by simp [dG_]
 have eq:(dG_ t).length=1+(t.flatMap gh_).length+1:=by simp [dG_];omega
 rw [e] at h;have Y:At s (p+1) (t.flatMap gh_++34::r):=h.next;refine ak_ ?_;simp only [aV_,ab_ (p9_ (w:=[34]) hs (by simp) h.le),qa_ h];have O:=hs;simp only [curC] at hs;have J:∀ (K:Nat->aV_.K4)(F:Bs×be_),Ev (fun n _=>K n s ((p+1+(t.flatMap gh_).length:Nat):Int) true left (bi t)) F ->
   ∀ (u v:Bs)(q:Nat),v++u=t->q=p+1+(v.flatMap gh_).length->At s q (u.flatMap gh_++34::r)->Ev (fun n N=>aV_.loop4 n (K n) N s (q:Int) true left (bi v)) F:=by
  intro K F hK u;induction u with
  |nil=>
   intro v q I hq ha;rw [List.append_nil] at I;subst I hq;refine aY_ ?_;have ha:At s (p+1+(v.flatMap gh_).length) (34::r):=ha;simp only [aV_.turn4,aV_.step4,cond_true,ab_ gu_,e4_ ha];exact hK
  |cons c u ih=>
   intro v q I hq ha;have k:=ih (v++[c]) (q+(gh_ c).length) (by rw [<-I];simp) (by rw [hq];simp;omega) (by
    rw [List.flatMap_cons,List.append_assoc] at ha;exact ha.next)
   rw [<-pT_] at k;have Z:v.length<=(v.flatMap gh_).length:=by
    clear I hq k;induction v with
    |nil=>exact Nat.le_refl _
    |cons c v ih=>
     rw [List.flatMap_cons,List.length_append,List.length_cons];have:1<=(gh_ c).length:=by unfold gh_;split<;>simp
     omega
   have S:=lH_ v;rw [List.flatMap_cons,List.append_assoc] at ha;generalize bi v=o at k S ⊢;refine aY_ ?_;by_cases hc:c=34\/c=92
   . have e1:gh_ c=[92,c]:=if_pos hc
     rw [e1] at ha k;have ha:At s q (92::c::(u.flatMap gh_++34::r)):=ha;have hl:=ha.next1.lt;have U:W ((q:Int)+1)=((q+1:Nat):Int):=by rw [W_id (by omega) (by omega)];omega
     have T:W (((q+1:Nat):Int)+1)=((q+1+1:Nat):Int):=by rw [W_id (by omega) (by omega)];omega
     have B:decide (((q+1:Nat):Int)>=(s.length:Int))=false:=decide_eq_false (by omega);have z:(((92:UInt8).toNat:Int) != 34)=true:=rfl;have m:(((92:UInt8).toNat:Int)==92)=true:=rfl;simp only [aV_.turn4,aV_.step4,cond_true,cond_false,ab_ gu_,e4_ ha,z,m,U,T,B,a2_,a6_,Int.toNat_natCast,hl.2];exact ⟨by omega,by simp;omega,k⟩
   . have e1:gh_ c=[c]:=if_neg hc
     rw [e1] at ha k;have ha:At s q (c::(u.flatMap gh_++34::r)):=ha;have hl:=ha.lt;have U:W ((q:Int)+1)=((q+1:Nat):Int):=by rw [W_id (by omega) (by omega)];omega
     have B:decide ((q:Int)>=(s.length:Int))=false:=decide_eq_false (by omega);have z:((c.toNat:Int) != 34)=true:=by show (!((c.toNat:Int)==34))=true;rw [byte34,decide_eq_false fun e=>hc (.inl e)];rfl
     have m:((c.toNat:Int)==92)=false:=by rw [byte92,decide_eq_false fun e=>hc (.inr e)]
     simp only [aV_.turn4,aV_.step4,cond_true,cond_false,ab_ gu_,e4_ ha,z,m,U,B,a2_,a6_,Int.toNat_natCast,hl.2];exact ⟨by omega,by simp;omega,k⟩
 have V:At s (p+1+(t.flatMap gh_).length) (34::r):=Y.next;have:=J (fun n=>fun B4 B5 B6 B7 B8=>((cq_ n (be_.mk B4 B5 B6 B7) [34]).bind fun A9=>(some ((i6_ B8),A9)))) (t,⟨s,((p+(dG_ t).length:Nat):Int),true,left⟩) (by
  simp only [ab_ (p9_ (w:=[34]) O (by simp) V.le),qa_ (w:=[34]) V,ac_,kJ_];show (t,be_.mk s ((p+1+(t.flatMap gh_).length+1:Nat):Int) true left)=_;rw [show p+1+(t.flatMap gh_).length+1=p+(dG_ t).length by omega]) t [] (p+1) rfl rfl Y
 exact c3_ (f:=fun n N=>aV_.loop4 n (fun B4 B5 B6 B7 B8=>((cq_ n (be_.mk B4 B5 B6 B7) [34]).bind fun A9=>(some ((i6_ B8),A9)))) N s ((p+1:Nat):Int) true left []) this
theorem lA_ {s r:Bs}{p:Nat}{left:Int}{n:Int}(hs:s.length<=curC)(h0 : -1000000000<=n)(h1:n<=1000000000)(U:Stop r) (h:At s p (Lib.itoa n++r)) :
  Ev (fun m _=>aU_ m ⟨s,(p:Int),true,left⟩) (n,⟨s,((p+(Lib.itoa n).length:Nat):Int),true,left⟩):=by
 simp only [curC] at hs;have S:∀ (K:Nat->aU_.K7)(F:Int×be_)(t3:Bool)(f:Nat)(D:Bs),(∀ c ∈ D,fV_ c)->∀ (q x:Nat),f<=q->q+D.length<=f+10->jZ_ x D<=1000000000->At s q (D++r) ->
   Ev (fun n _=>K n t3 (f:Int) (jZ_ x D:Int) s ((q+D.length:Nat):Int) true left) F->Ev (fun n N=>aU_.loop7 n (K n) N t3 (f:Int) (x:Int) s (q:Int) true left) F:=by
  intro K F t3 f D;induction D with
  |nil=>
   intro _ q x hf hl T ha J;refine aY_ ?_;have J:Ev (fun n _=>K n t3 (f:Int) (x:Int) s (q:Int) true left) F:=J;have ha:At s q r:=ha;simp only [aU_.turn7,aU_.step7,ab_ gu_,ag_];have V:¬ (48<=lk_ s q/\lk_ s q<=57):=by
    cases r with
    |nil=>rw [peek_end ha];omega
    |cons c r=>rw [e4_ ha];have:=U c r rfl;unfold fV_ at this;omega
   exact ⟨fun a=>⟨fun b=>absurd ⟨of_decide_eq_true a,of_decide_eq_true b⟩ V,fun _=>J⟩,fun _=>J⟩
  |cons c D ih=>
   intro hd q x hf hl T ha J;have hc:=hd c (List.mem_cons_self ..);unfold fV_ at hc;rw [i5_] at T J;have hle:=val_le (10*x+(c.toNat - 48)) D;have ha:At s q (c::(D++r)):=ha;have Y:=ha.lt;simp only [List.length_cons] at hl;have hn:=ih (fun c hc=>hd c (List.mem_cons_of_mem _ hc)) (q+1) (10*x+(c.toNat - 48)) (by omega) (by omega) T ha.next1 (by
    rw [show q+1+D.length=q+(c::D).length by simp;omega];exact J)
   have hW:W ((q:Int)+1)=((q+1:Nat):Int):=by rw [W_id (by omega) (by omega)];omega
   have hW2:W ((q:Int) - (f:Int))=(q:Int) - f:=W_id (by omega) (by omega);have hW3:W (10*(x:Int))=((10*x:Nat):Int):=by rw [W_id (by omega) (by omega)];omega
   have hW4:W (((10*x:Nat):Int)+(c.toNat:Int))=((10*x+c.toNat:Nat):Int):=by rw [W_id (by omega) (by omega)];omega
   have Z:W (((10*x+c.toNat:Nat):Int) - 48)=((10*x+(c.toNat - 48):Nat):Int):=by rw [W_id (by omega) (by omega)];omega
   refine aY_ ?_;simp only [aU_.turn7,aU_.step7,ab_ gu_,e4_ ha,tp_,hW,hW2,hW3,hW4,Z,ag_];exact ⟨fun _=>⟨fun _=>⟨fun _=>hn,fun hx=>by have:=of_decide_eq_false hx;omega⟩,fun hx=>by have:=of_decide_eq_false hx;omega⟩,fun hx=>by have:=of_decide_eq_false hx;omega⟩
 refine ak_ ?_;by_cases hn:n<0
 . have e:Lib.itoa n=45::Lib.decDigits n.natAbs:=by unfold Lib.itoa;rw [if_pos hn]
   rw [e] at h ⊢;have z:=nm_ n.natAbs;have I:=pO_ 9 n.natAbs (by omega);have k:=hZ_ n.natAbs;have u:=mn_ n.natAbs;generalize Lib.decDigits n.natAbs=D at h z I k u ⊢;have h:At s p (45::(D++r)):=h;have Y:=h.lt;have hW:W ((p:Int)+1)=((p+1:Nat):Int):=by rw [W_id (by omega) (by omega)];omega
   have hW0:W (0 - ((n.natAbs:Nat):Int))=n:=by rw [W_id (by omega) (by omega)];omega
   have O:(((45:UInt8).toNat:Int)==45)=true:=rfl;simp only [aU_,ab_ gu_,e4_ h,O,cond_true,hW];have B:(((p+1+D.length:Nat):Int)==((p+1:Nat):Int))=false:=beq_eq_false_iff_ne.2 (by omega);have:=S (fun n=>fun B5 B6 B7 B8 B9 B10 B11=>(cond (B9==B6) (cond B5 (some ((W (0 - B7)),(be_.mk B8 B9 false B11))) (some (B7,(be_.mk B8 B9 false B11)))) (cond B5 (some ((W (0 - B7)),(be_.mk B8 B9 B10 B11))) (some (B7,(be_.mk B8 B9 B10 B11)))))) (n,⟨s,((p+(45::D).length:Nat):Int),true,left⟩) true (p+1) D k (p+1) 0 (Nat.le_refl _) (by omega) (by omega) h.next1 (by
    simp only [B,cond_false,cond_true,u,hW0,ac_,List.length_cons];congr 3;omega)
   exact c3_ (f:=fun n N=>aU_.loop7 n (fun B5 B6 B7 B8 B9 B10 B11=>(cond (B9==B6) (cond B5 (some ((W (0 - B7)),(be_.mk B8 B9 false B11))) (some (B7,(be_.mk B8 B9 false B11)))) (cond B5 (some ((W (0 - B7)),(be_.mk B8 B9 B10 B11))) (some (B7,(be_.mk B8 B9 B10 B11)))))) N true ((p+1:Nat):Int) 0 s ((p+1:Nat):Int) true left) this
 . have e:Lib.itoa n=Lib.decDigits n.toNat:=by unfold Lib.itoa;rw [if_neg hn]
   rw [e] at h ⊢;have z:=nm_ n.toNat;have I:=pO_ 9 n.toNat (by omega);have k:=hZ_ n.toNat;have u:=mn_ n.toNat;generalize Lib.decDigits n.toNat=D at h z I k u ⊢;have O:(lk_ s p==45)=false:=by
    cases D with
    |nil=>simp at z
    |cons c D=>
     have h:At s p (c::(D++r)):=h;have hc:=k c (List.mem_cons_self ..);unfold fV_ at hc;rw [e4_ h];exact beq_eq_false_iff_ne.2 (by omega)
   have hN:((n.toNat:Nat):Int)=n:=by omega
   simp only [aU_,ab_ gu_,O,cond_false];have B:(((p+D.length:Nat):Int)==(p:Int))=false:=beq_eq_false_iff_ne.2 (by omega);have:=S (fun n=>fun B12 B13 B14 B15 B16 B17 B18=>(cond (B16==B13) (cond B12 (some ((W (0 - B14)),(be_.mk B15 B16 false B18))) (some (B14,(be_.mk B15 B16 false B18)))) (cond B12 (some ((W (0 - B14)),(be_.mk B15 B16 B17 B18))) (some (B14,(be_.mk B15 B16 B17 B18)))))) (n,⟨s,((p+D.length:Nat):Int),true,left⟩) false p D k p 0 (Nat.le_refl _) (by omega) (by omega) h (by
    simp only [B,cond_false,u,hN,ac_])
   exact c3_ (f:=fun n N=>aU_.loop7 n (fun B12 B13 B14 B15 B16 B17 B18=>(cond (B16==B13) (cond B12 (some ((W (0 - B14)),(be_.mk B15 B16 false B18))) (some (B14,(be_.mk B15 B16 false B18)))) (cond B12 (some ((W (0 - B14)),(be_.mk B15 B16 B17 B18))) (some (B14,(be_.mk B15 B16 B17 B18)))))) N false (p:Int) 0 s (p:Int) true left) this
theorem sP_ {s:Bs}(hs:s.length<=curC){d:Nat}(hd:d<=1000){j:aa_} (h:bp_ (d+1) j<=400) (u:j.kind=4\/j.kind=5)
  (ih:∀ x,bp_ d x<=400->∀ (p:Nat)(r:Bs)(left:Int),Stop r->(bp_ d x:Int)<=left->left<=400->At s p (FEnc d x++r)->Ev (fun n _=>cE_ n ⟨s,(p:Int),true,left⟩ (d:Int)) (x,⟨s,((p+(FEnc d x).length:Nat):Int),true,left - bp_ d x⟩))
  (o c:UInt8) (S:(j.kind=4->o=91/\c=93)/\(j.kind=5->o=123/\c=125)) (r:Bs) (p:Nat) (left:Int) (hl:(fU_ (bp_ d) j.list:Int)<=left) (I:left<=400) (ha:At s p (o::(eJ_ (FEnc d) j j.list.length++c::r))) :
  Ev (fun n _=>bt_ n ⟨s,(p:Int),true,left⟩ ((d+1:Nat):Int)) (aa_.mk j.kind 0 [] j.list j.names,⟨s,((p+1+(eJ_ (FEnc d) j j.list.length).length+1:Nat):Int),true,left - fU_ (bp_ d) j.list⟩):=by
 have hW:W (((d+1:Nat):Int) - 1)=(d:Int):=by rw [W_id (by omega) (by omega)];omega
 have J:=hs;simp only [curC] at hs;have hll:=gd_ h;have hnl:=gj_ h;have ho:=(dj_ h).1;have ho2:=fw_ (fc_ h);have hlt:=ha.lt;have hWp:W ((p:Int)+1)=((p+1:Nat):Int):=by rw [W_id (by omega) (by omega)];omega
 have hc:c.toNat=93\/c.toNat=125:=by
  rcases u with u|u
  . rw [(S.1 u).2];exact .inl rfl
  . rw [(S.2 u).2];exact .inr rfl
 have hcd:¬ fV_ c:=rU_ (kind:=0) hc;have Z:∀ (K:Nat->bt_.K8_1)(F:aa_×be_)(k i q:Nat)(left:Int),i+k=j.list.length->(fU_ (bp_ d) (j.list.drop i):Int)<=left->left<=400->At s q (d6_ (FEnc d) j k i++c::r) ->
   Ev (fun n _=>K n [c] s ((q+(d6_ (FEnc d) j k i).length:Nat):Int) true (left - fU_ (bp_ d) (j.list.drop i)) 0 0 [] j.kind 0 [] j.list j.names) F ->
   Ev (fun n N=>bt_.loop8 n (cE_ n) (K n) N ((d+1:Nat):Int) [c] s (q:Int) true left 0 0 [] j.kind 0 [] (j.list.take i) (j.names.take i)) F:=by
  intro K F k;induction k with
  |zero=>
   intro i q left hi hl _ ha Y;have ei:i=j.list.length:=by omega
   subst ei;have en:j.names.take j.list.length=j.names:=by
    rcases u with u|u
    . rw [ho2.ns0 (by omega)];simp
    . exact List.take_of_length_le (by rw [(ho.obj u).1];exact Nat.le_refl _)
   have ha:At s q (c::r):=ha;have Y:Ev (fun n _=>K n [c] s (q:Int) true left 0 0 [] j.kind 0 [] j.list j.names) F:=by simpa [d6_,fU_] using Y
   refine aY_ ?_;have hne:((c.toNat:Int) != (([c]:Bs).getD 0 0).toNat)=false:=by simp
   simp only [bt_.turn8,bt_.step8,List.take_length,en,cond_true,ab_ gu_,e4_ ha,hne,cond_false,a2_];exact ⟨by simp,Y⟩
  |succ k ihk=>
   intro i q left hi hl I ha Y;have U:i<j.list.length:=by omega
   have hp:=f0_ h (i:=i) (by omega);rw [mp_ (bp_ d) aa_.dflt U] at hl Y;have z:=ihk (i+1);rw [cz_ aa_.dflt U] at z;have hx:=ih _ hp.size;have hst:Stop (d6_ (FEnc d) j k (i+1)++c::r):=qf_ _ _ _ _ hcd r;have etl:(j.list.take i).length=i:=by simp;omega
   have jl_:∀ (q':Nat),At s q' (d0_ (FEnc d) j i++(d6_ (FEnc d) j k (i+1)++c::r))->q'+(d0_ (FEnc d) j i).length+(d6_ (FEnc d) j k (i+1)).length=q+(d6_ (FEnc d) j (k+1) i).length ->
     Ev (fun n N=>cond (j.kind==5) ((aV_ n ⟨s,(q':Int),true,left⟩).bind fun A4=>bj_ ((j.names.take i).length+[A4.1].length) 16 ((cq_ n A4.2 [58]).bind fun A5=>(cE_ n A5 (d:Int)).bind fun A6=>bj_ ((j.list.take i).length+[A6.1].length) 80 (bt_.loop8 n (cE_ n) (K n) N ((d+1:Nat):Int) [c] A6.2.s A6.2.at_ A6.2.ok A6.2.left 0 0 [] j.kind 0 [] (j.list.take i++[A6.1]) (j.names.take i++[A4.1]))))
      ((cE_ n ⟨s,(q':Int),true,left⟩ (d:Int)).bind fun A6=>bj_ ((j.list.take i).length+[A6.1].length) 80 (bt_.loop8 n (cE_ n) (K n) N ((d+1:Nat):Int) [c] A6.2.s A6.2.at_ A6.2.ok A6.2.left 0 0 [] j.kind 0 [] (j.list.take i++[A6.1]) (j.names.take i)))) F:=by
    intro q' m O;rcases u with u|u
    . have h5:(j.kind==5)=false:=by rw [u];rfl
      have en:j.names=[]:=ho2.ns0 (by omega);have ef:d0_ (FEnc d) j i=FEnc d (j.list.getD i aa_.dflt):=by unfold d0_;rw [h5];rfl
      rw [ef] at m O;have hx:=hx q' _ left hst (by omega) I m;have hn:=z (q'+(FEnc d (j.list.getD i aa_.dflt)).length) (left - bp_ d (j.list.getD i aa_.dflt)) (by omega) (by omega) (by omega) m.next (by
       rw [O,show left - (bp_ d (j.list.getD i aa_.dflt):Int) - (fU_ (bp_ d) (j.list.drop (i+1)):Int)=left - ((bp_ d (j.list.getD i aa_.dflt)+fU_ (bp_ d) (j.list.drop (i+1)):Nat):Int) by omega];exact Y)
      rw [en,List.take_nil] at hn;simp only [h5,cond_false,ab_ hx,a6_,en,List.take_nil];exact ⟨by simp;omega,hn⟩
    . have h5:(j.kind==5)=true:=by rw [u];rfl
      obtain ⟨o1,o2⟩:=ho.obj u;have ef:d0_ (FEnc d) j i=dG_ (j.names.getD i [])++([58]++FEnc d (j.list.getD i aa_.dflt)):=by unfold d0_;rw [h5];rfl
      rw [ef] at m O;simp only [List.append_assoc] at m;have hq:=lz_ (left:=left) J m;have B:=m.next;have ha3:=B.next;have hx:=hx _ _ left hst (by omega) I ha3;rw [cz_ [] (show i<j.names.length by omega)] at z;have hn:=z _ (left - bp_ d (j.list.getD i aa_.dflt)) (by omega) (by omega) (by omega) ha3.next (by
       rw [show q'+(dG_ (j.names.getD i [])).length+([58]:Bs).length+(FEnc d (j.list.getD i aa_.dflt)).length+(d6_ (FEnc d) j k (i+1)).length=q+(d6_ (FEnc d) j (k+1) i).length by rw [<-O];simp only [List.length_append];omega,
        show left - (bp_ d (j.list.getD i aa_.dflt):Int) - (fU_ (bp_ d) (j.list.drop (i+1)):Int)=left - ((bp_ d (j.list.getD i aa_.dflt)+fU_ (bp_ d) (j.list.drop (i+1)):Nat):Int) by omega]
       exact Y)
      simp only [h5,cond_true,ab_ hq,ab_ (p9_ (w:=[58]) J (by simp) B.le),qa_ B,ab_ hx,a6_];exact ⟨by simp;omega,by simp;omega,hn⟩
   refine aY_ ?_;by_cases h0:i=0
   . have e0:d6_ (FEnc d) j (k+1) i=d0_ (FEnc d) j i++d6_ (FEnc d) j k (i+1):=by rw [d6_,if_pos h0];rfl
     have m:At s q (d0_ (FEnc d) j i++(d6_ (FEnc d) j k (i+1)++c::r)):=by rw [e0,List.append_assoc] at ha;exact ha
     have hr:=jl_ q m (by rw [e0,List.length_append];omega);obtain ⟨a,p0,ep,hp1,hp2,hp3⟩:=oK_ h (i:=i) (by omega);have V:(lk_ s q != (([c]:Bs).getD 0 0).toNat)=true:=by rw [ep] at m;rw [e4_ (t:=p0++(d6_ (FEnc d) j k (i+1)++c::r)) m];show (!((a.toNat:Int)==(c.toNat:Int)))=true;rw [beq_eq_false_iff_ne.2 (by omega)];rfl
     have hg:decide (((j.list.take i).length:Int) > 0)=false:=decide_eq_false (by omega);simp only [bt_.turn8,bt_.step8,aM_,hW,cond_true,ab_ gu_,V,hg,cond_false,a2_];exact ⟨by simp,hr⟩
   . have e0:d6_ (FEnc d) j (k+1) i=[44]++(d0_ (FEnc d) j i++d6_ (FEnc d) j k (i+1)):=by rw [d6_,if_neg h0]
     have m:At s q ([44]++(d0_ (FEnc d) j i++(d6_ (FEnc d) j k (i+1)++c::r))):=by rw [e0,List.append_assoc,List.append_assoc] at ha;exact ha
     have hr:=jl_ (q+([44]:Bs).length) m.next (by rw [e0];simp only [List.length_append];omega);have V:(lk_ s q != (([c]:Bs).getD 0 0).toNat)=true:=by rw [e4_ (c:=44) m];show (!(((44:UInt8).toNat:Int)==(c.toNat:Int)))=true;rw [beq_eq_false_iff_ne.2 (show (((44:UInt8).toNat:Int))≠(c.toNat:Int) by show (44:Int)≠_;omega)];rfl
     have hg:decide (((j.list.take i).length:Int) > 0)=true:=decide_eq_true (by omega);simp only [bt_.turn8,bt_.step8,aM_,hW,cond_true,ab_ gu_,V,hg,ab_ (p9_ (w:=[44]) J (by simp) m.le),qa_ m,a2_];exact ⟨by simp,hr⟩
 have T:=ha.next1;rw [ny_] at T ⊢;have B:=T.next;have fin:Ev (fun n (_:Nat)=>(cq_ n (be_.mk s ((p+1+(d6_ (FEnc d) j j.list.length 0).length:Nat):Int) true (left - fU_ (bp_ d) (j.list.drop 0))) [c]).bind fun A25=>some ((aa_.mk j.kind 0 [] j.list j.names),A25)) (aa_.mk j.kind 0 [] j.list j.names,⟨s,((p+1+(d6_ (FEnc d) j j.list.length 0).length+1:Nat):Int),true,left - fU_ (bp_ d) j.list⟩):=by simp only [ab_ (p9_ (w:=[c]) J (by simp) B.le),qa_ (w:=[c]) B,ac_,List.drop_zero];rfl
 refine ak_ ?_;simp only [bt_,ab_ gu_,e4_ ha,hWp];rcases u with u|u
 . obtain ⟨rfl,rfl⟩:=S.1 u
   have h1:(((91:UInt8).toNat:Int)==123)=false:=rfl;have:=Z (fun n=>fun B26 B27 B28 B29 B30 B31 B32 B33 B34 B35 B36 B37 B38=>((cq_ n (be_.mk B27 B28 B29 B30) B26).bind fun A39=>(some ((aa_.mk B34 B35 B36 B37 B38),A39)))) _ j.list.length 0 (p+1) left (by omega) (by rw [List.drop_zero];exact hl) I T fin
   rw [u] at this ⊢;simp only [h1,cond_false];exact c3_ this
 . obtain ⟨rfl,rfl⟩:=S.2 u
   have h1:(((123:UInt8).toNat:Int)==123)=true:=rfl;have:=Z (fun n=>fun B12 B13 B14 B15 B16 B17 B18 B19 B20 B21 B22 B23 B24=>((cq_ n (be_.mk B13 B14 B15 B16) B12).bind fun A25=>(some ((aa_.mk B20 B21 B22 B23 B24),A25)))) _ j.list.length 0 (p+1) left (by omega) (by rw [List.drop_zero];exact hl) I T fin
   rw [u] at this ⊢;simp only [h1,cond_true];exact c3_ this
theorem m0_ {s:Bs}(hs:s.length<=curC):∀ (d:Nat),d<=1000->∀ x,bp_ d x<=400->∀ (p:Nat)(r:Bs)(left:Int),Stop r->(bp_ d x:Int)<=left->left<=400->At s p (FEnc d x++r)->Ev (fun n _=>cE_ n ⟨s,(p:Int),true,left⟩ (d:Int)) (x,⟨s,((p+(FEnc d x).length:Nat):Int),true,left - bp_ d x⟩)
 |0,_,x,h,p,r,left,_,_,_,_=>by simp only [bp_] at h;omega
 |d+1,hd,j,h,p,r,left,S,hl,hl2,ha=>by
  have ih:=m0_ hs d (by omega);have J:=(dj_ h).1;have z:=fw_ (fc_ h);have I:=(dj_ h).2;have V:=re_ (d+1) j;have U:W (left - 1)=left - 1:=W_id (by omega) (by omega);have Y:((((d+1:Nat):Int))==0)=false:=beq_eq_false_iff_ne.2 (by omega);have T:decide (left - 1<0)=false:=decide_eq_false (by omega);refine ak_ ?_;simp only [cE_,aM_,U,Y,T,Bool.not_true,cond_false,ab_ gu_];have B:j.list=[]->left - 1=left - (bp_ (d+1) j:Int):=by intro e;rw [I,e];simp [fU_]
  rcases J.kind with u|u|u|u|u|u
  . have e:FEnc (d+1) j=[110,117,108,108]:=by simp only [FEnc,u,Int.reduceBEq,cond_true]
    have e3:=J.list (by omega) (by omega);rw [<-B e3];have ej:j=aa_.mk 0 0 [] [] []:=by have e1:=z.n0 (by omega) (by omega);have e2:=z.s0 (by omega);have e4:=z.ns0 (by omega);obtain ⟨k,n,s,l,ns⟩:=j;simp only at e1 e2 e3 e4 u;subst e1 e2 e3 e4 u;rfl
    rw [e] at ha ⊢;have m:=e4_ (c:=110) (t:=[117,108,108]++r) ha;have c1:(((110:UInt8).toNat:Int)==110)=true:=rfl;simp only [m,c1,cond_true,ab_ (p9_ (w:=[110,117,108,108]) hs (by simp) ha.le),qa_ ha,ac_];rw [ej]
  . have hb:=J.bool u
    have e2:=z.s0 (by omega);have e3:=J.list (by omega) (by omega);have e4:=z.ns0 (by omega);rw [<-B e3];obtain ⟨k,n,ss,l,ns⟩:=j;simp only at e2 e3 e4 u hb;subst e2 e3 e4 u;have:n=0\/n=1:=by omega
    rcases this with rfl|rfl
    . have e:FEnc (d+1) (aa_.mk 1 0 [] [] [])=[102,97,108,115,101]:=rfl
      rw [e] at ha ⊢;have m:=e4_ (c:=102) (t:=[97,108,115,101]++r) ha;have c1:(((102:UInt8).toNat:Int)==110)=false:=rfl;have c2:(((102:UInt8).toNat:Int)==116)=false:=rfl;have c3:(((102:UInt8).toNat:Int)==102)=true:=rfl;simp only [m,c1,c2,c3,cond_true,cond_false,ab_ (p9_ (w:=[102,97,108,115,101]) hs (by simp) ha.le),qa_ ha,ac_]
    . have e:FEnc (d+1) (aa_.mk 1 1 [] [] [])=[116,114,117,101]:=rfl
      rw [e] at ha ⊢;have m:=e4_ (c:=116) (t:=[114,117,101]++r) ha;have c1:(((116:UInt8).toNat:Int)==110)=false:=rfl;have c2:(((116:UInt8).toNat:Int)==116)=true:=rfl;simp only [m,c1,c2,cond_true,cond_false,ab_ (p9_ (w:=[116,114,117,101]) hs (by simp) ha.le),qa_ ha,ac_]
  . have hn:=J.num u
    have e:FEnc (d+1) j=Lib.itoa j.n_:=by simp only [FEnc,u,Int.reduceBEq,cond_true,cond_false]
    have e3:=J.list (by omega) (by omega);rw [<-B e3];rw [e] at ha ⊢;have Z:=lA_ (left:=left - 1) hs hn.1 hn.2 S ha;have ej:aa_.mk 2 j.n_ [] [] []=j:=by have e2:=z.s0 (by omega);have e4:=z.ns0 (by omega);obtain ⟨k,n,s,l,ns⟩:=j;simp only at e2 e3 e4 u;subst e2 e3 e4 u;rfl
    obtain ⟨c,t,ec,hc⟩:=hI_ j.n_;have m:lk_ s p=(c.toNat:Int):=by rw [ec] at ha;exact e4_ (t:=t++r) ha
    have ne:∀ x:Int,(x<45\/x=46\/57<x)->((c.toNat:Int)==x)=false:=by
     intro x hx;refine beq_eq_false_iff_ne.2 ?_;rcases hc with rfl|hc
     . show (45:Int)≠x;omega
     . unfold fV_ at hc;omega
    simp only [m,ne 110 (by decide),ne 116 (by decide),ne 102 (by decide),ne 34 (by decide),ne 91 (by decide),ne 123 (by decide),cond_false,ab_ Z,ac_,ej]
  . have ht:=z.text u
    have e:FEnc (d+1) j=dG_ j.s:=by simp only [FEnc,u,Int.reduceBEq,cond_true,cond_false]
    have e3:=J.list (by omega) (by omega);rw [<-B e3];rw [e] at ha ⊢;have hq:=lz_ (left:=left - 1) hs ha;have ej:aa_.mk 3 0 j.s [] []=j:=by have e2:=z.n0 (by omega) (by omega);have e4:=z.ns0 (by omega);obtain ⟨k,n,s,l,ns⟩:=j;simp only at e2 e3 e4 u;subst e2 e3 e4 u;rfl
    have m:lk_ s p=((34:UInt8).toNat:Int):=e4_ (c:=34) (t:=j.s.flatMap gh_++[34]++r) (by
     have:dG_ j.s++r=34::(j.s.flatMap gh_++[34]++r):=by simp [dG_]
     rw [<-this];exact ha)
    have c1:(((34:UInt8).toNat:Int)==110)=false:=rfl;have c2:(((34:UInt8).toNat:Int)==116)=false:=rfl;have c3:(((34:UInt8).toNat:Int)==102)=false:=rfl;have c4:(((34:UInt8).toNat:Int)==34)=true:=rfl;simp only [m,c1,c2,c3,c4,cond_true,cond_false,ab_ hq,ac_,ej]
  . have e:FEnc (d+1) j=[91]++eJ_ (FEnc d) j j.list.length++[93]:=by simp only [FEnc,u,Int.reduceBEq,cond_true,cond_false]
    have e1:FEnc (d+1) j++r=91::(eJ_ (FEnc d) j j.list.length++93::r):=by rw [e];simp
    have e2:p+(FEnc (d+1) j).length=p+1+(eJ_ (FEnc d) j j.list.length).length+1:=by rw [e];simp;omega
    rw [e1] at ha;rw [e2];have O:=sP_ hs (by omega) h (.inl u) ih 91 93 ⟨fun _=>⟨rfl,rfl⟩,fun h=>by omega⟩ r p (left - 1) (by omega) (by omega) ha;rw [px_ h (.inl u),show left - 1 - (fU_ (bp_ d) j.list:Int)=left - (bp_ (d+1) j:Int) by rw [I];omega] at O;have m:=e4_ ha;have c1:(((91:UInt8).toNat:Int)==110)=false:=rfl;have c2:(((91:UInt8).toNat:Int)==116)=false:=rfl;have c3:(((91:UInt8).toNat:Int)==102)=false:=rfl;have c4:(((91:UInt8).toNat:Int)==34)=false:=rfl;have c5:(((91:UInt8).toNat:Int)==91)=true:=rfl;simp only [m,c1,c2,c3,c4,c5,cond_true,cond_false,ab_ O,ac_]
  . have e:FEnc (d+1) j=[123]++eJ_ (FEnc d) j j.list.length++[125]:=by simp only [FEnc,u,Int.reduceBEq,cond_true,cond_false]
    have e1:FEnc (d+1) j++r=123::(eJ_ (FEnc d) j j.list.length++125::r):=by rw [e];simp
    have e2:p+(FEnc (d+1) j).length=p+1+(eJ_ (FEnc d) j j.list.length).length+1:=by rw [e];simp;omega
    rw [e1] at ha;rw [e2];have O:=sP_ hs (by omega) h (.inr u) ih 123 125 ⟨fun h=>by omega,fun _=>⟨rfl,rfl⟩⟩ r p (left - 1) (by omega) (by omega) ha;rw [px_ h (.inr u),show left - 1 - (fU_ (bp_ d) j.list:Int)=left - (bp_ (d+1) j:Int) by rw [I];omega] at O;have m:=e4_ ha;have c1:(((123:UInt8).toNat:Int)==110)=false:=rfl;have c2:(((123:UInt8).toNat:Int)==116)=false:=rfl;have c3:(((123:UInt8).toNat:Int)==102)=false:=rfl;have c4:(((123:UInt8).toNat:Int)==34)=false:=rfl;have c5:(((123:UInt8).toNat:Int)==91)=false:=rfl;have c6:(((123:UInt8).toNat:Int)==123)=true:=rfl;simp only [m,c1,c2,c3,c4,c5,c6,cond_true,cond_false,ab_ O,ac_]
theorem nD_ {a b:List Bs}(ha:a.length<=b9_):Ev (fun n _=>aH_ n a b) (jS_ a b):=by
 refine ak_ ?_;simp only [aH_,sL_,ag_,ac_];unfold jS_;by_cases hl:a.length=b.length
 . rw [decide_eq_true hl]
   refine ⟨fun h=>(by cases h),fun _ => ?_⟩;refine gJ_ (fv_ (fun n N i=>aH_.loop6 n (some true) N a b (a.length:Int) (i:Int)) (fun i=>a.getD i []==b.getD i []) (len:=a.length) (v:=true) (fun i w hi ih => ?_) ?_) (by rw [Bool.and_true,Bool.true_and])
   . simp only [aH_.turn6,aH_.step6,Int.toNat_natCast,W_up hi ha,ag_,a2_,ac_,dZ_ ih,cD_ hi,cb_ hi,cb_ (hl ▸ hi)]
     cases (a.getD i []==b.getD i [])<;>simp
   . simp only [aH_.turn6,aH_.step6,cj_,cond_false,ac_]
 . rw [decide_eq_false hl]
   exact ⟨fun _=>rfl,fun h=>(by cases h)⟩
theorem hX_:∀ (d:Nat)(a b:aa_),uh_ d a->gk_ d a->Ev (fun n _=>d2_ n a b) (eT_ d a b)
 |0,a,b,h,_=>h.elim
 |d+1,a,b,h,hl=>by
  refine ak_ ?_;have k:Ev (fun n _=>af_ n a.list b.list) (decide (a.list.length=b.list.length)&&jm_ (fun i=>eT_ d (a.list.getD i aa_.dflt) (b.list.getD i aa_.dflt)) a.list.length):=by
   refine ak_ ?_;simp only [af_,sL_,ag_,ac_];by_cases hq:a.list.length=b.list.length
   . rw [decide_eq_true hq]
     refine ⟨fun h=>(by cases h),fun _ => ?_⟩;refine gJ_ (fv_ (fun n N i=>af_.loop6 n (d2_ n) (some true) N b.list a.list (a.list.length:Int) (i:Int)) (fun i=>eT_ d (a.list.getD i aa_.dflt) (b.list.getD i aa_.dflt)) (len:=a.list.length) (v:=true) (fun i w hi ih => ?_) ?_) (by rw [Bool.and_true,Bool.true_and])
     . have hx:=hX_ d (a.list.getD i aa_.dflt) (b.list.getD i aa_.dflt) (h _ (bB_ _ hi)) (hl.2.2 _ (bB_ _ hi))
       simp only [af_.turn6,af_.step6,aM_,Int.toNat_natCast,W_up hi hl.2.1,ag_,a2_,ab_ hx,ac_,dZ_ ih,cD_ hi,cb_ hi,cb_ (hq ▸ hi)];cases eT_ d (a.list.getD i aa_.dflt) (b.list.getD i aa_.dflt)<;>simp
     . simp only [af_.turn6,af_.step6,cj_,cond_false,ac_]
   . rw [decide_eq_false hq]
     exact ⟨fun _=>rfl,fun h=>(by cases h)⟩
  simp only [d2_,ag_,ab_ (nD_ (b:=b.names) hl.1.2.1),ab_ k,ac_,eT_];cases (a.kind==b.kind)<;>cases (a.n_==b.n_)<;>cases (a.s==b.s)<;>cases jS_ a.names b.names<;>simp
def g7_ (a b:aa_):Bool:=bU_ a&&(bU_ b&&eT_ 6 a b)
theorem lZ_ {a b:aa_}(ha:gk_ 6 a)(hb:gk_ 6 b):Ev (fun n _=>ea_ n a b) (g7_ a b):=by
 refine ak_ ?_;simp only [ea_,aM_,ab_ (dW_ ha),ab_ (dW_ hb),ag_,ac_,g7_];cases k:bU_ a with
 |false=>simp
 |true=>
  have hd:uh_ 6 a:=fE_ 6 a (of_decide_eq_true k);simp only [ab_ (hX_ 6 a b hd ha),ac_];cases bU_ b<;>simp
theorem if_ {a b:aa_}(ha:gk_ 6 a)(hb:gk_ 6 b):Ev (fun n _=>dT_ n a b) (g7_ a b):=by
 refine ak_ ?_;simp only [dT_,aM_,ab_ (dc_ ha),ab_ (dc_ hb),ag_,ac_,g7_];cases k:bU_ a with
 |false=>simp
 |true=>
  have hd:uh_ 6 a:=fE_ 6 a (of_decide_eq_true k);simp only [ab_ (e0_ 6 a b hd ha),ac_];cases bU_ b<;>simp
theorem gN_ {d:Nat}{j:aa_} (h:bp_ (d+1) j<=400) {x:aa_} (hx:x ∈ j.list):bp_ d x<=400:=by have:=(dj_ h).2;have:=jC_ (bp_ d) hx;omega
theorem cQ_:∀ (d:Nat)(j:aa_),bp_ d j<=400->gk_ d j
 |0,_,_=>trivial
 |d+1,j,h=>by
  have p:=(dj_ h).1;have k:=fw_ (fc_ h);have z:=gd_ h;have u:=gj_ h;refine ⟨⟨?_,by simp only [b9_];omega,fun x hx => ?_⟩,by simp only [b9_];omega,fun x hx=>cQ_ d x (gN_ h hx)⟩
  . by_cases m:j.kind=3
    . have:=iZ_ (k.text m);simp only [b9_];omega
    . rw [k.s0 m];exact Nat.zero_le _
  . by_cases m:j.kind=5
    . obtain ⟨i,hi,e⟩:=List.getElem_of_mem hx
      have:=jk_ (p.obj m).2 hi;rw [List.getD_eq_getElem?_getD,List.getElem?_eq_getElem hi,Option.getD_some,e] at this;simp only [b9_];omega
    . rw [k.ns0 m] at hx;cases hx
theorem n7_ {α:Type}{f g:α->Nat}:∀ {l:List α},(∀ x ∈ l,f x=g x)->fU_ f l=fU_ g l
 |[],_=>rfl
 |x::l,h=>by simp only [fU_];rw [h x (List.mem_cons_self ..),n7_ fun y k=>h y (List.mem_cons_of_mem _ k)]
theorem ty_:∀ (d:Nat)(j:aa_),bp_ d j<=400->bp_ (d+1) j=bp_ d j
 |0,j,h=>by simp only [bp_] at h;omega
 |d+1,j,h=>by have hs:=(dj_ h).2;have k:=fc_ h;have e:fU_ (bp_ (d+1)) j.list=fU_ (bp_ d) j.list:=n7_ fun x hx=>ty_ d x (gN_ h hx);rw [bp_,k,cond_true,e,<-hs];omega
theorem tP_:bp_ 6 gi_<=400:=by decide
theorem lE_ {j:aa_}(h:bC_ j≠[]):bp_ 6 j<=400/\bC_ j=FEnc 6 j/\(FEnc 6 j).length<=6000:=by
 unfold bC_ at h ⊢;cases k:bU_ j with
 |false=>rw [k] at h;exact absurd rfl h
 |true=>
  rw [k] at h;simp only [cond_true] at h ⊢;cases hl:decide (((FEnc 6 j).length:Int) > 6000) with
  |true=>rw [hl] at h;exact absurd rfl h
  |false=>have:=of_decide_eq_false hl;exact ⟨of_decide_eq_true k,rfl,by omega⟩
theorem iO_ {j:aa_}(h:bC_ j≠[]):Ev (fun n _=>eG_ n (bC_ j)) (j,true):=by
 obtain ⟨p,m,z⟩:=lE_ h;have k:=p8_ 6 (by omega) j p [] oT_ (by rw [List.append_nil];omega);rw [List.append_nil,<-m] at k;have k:Ev (fun n _=>b6_ n ⟨bC_ j,false⟩ 6) (j,⟨[],false⟩):=k;have u:=e3_ (cQ_ 6 j p);have hl:decide (((bC_ j).length:Int) > 6000)=false:=by rw [m];exact decide_eq_false (by omega)
 refine ak_ ?_;simp only [eG_,aM_,hl,cond_false,ab_ k,ab_ u,beq_self_eq_true,Bool.not_true,ac_]
theorem ix_ {j:aa_}(h:bC_ j≠[]):Ev (fun n _=>eX_ n (bC_ j)) (j,true):=by
 obtain ⟨p,m,B⟩:=lE_ h;have u:(bC_ j).length<=6000:=by rw [m];exact B
 have k:=m0_ (s:=bC_ j) (by simp only [curC];omega) 6 (by omega) j p 0 [] 400 oT_ (by omega) (by omega) ⟨Nat.zero_le _,by rw [List.append_nil,<-m];rfl⟩;have k:Ev (fun n _=>cE_ n ⟨bC_ j,0,true,400⟩ 6) (j,⟨bC_ j,((0+(FEnc 6 j).length:Nat):Int),true,400 - bp_ 6 j⟩):=k;have z:=eC_ (cQ_ 6 j p);have hl:decide (((bC_ j).length:Int) > 6000)=false:=decide_eq_false (by omega);have hn:(bC_ j==[])=false:=beq_eq_false_iff_ne.2 h;have ha:(((0+(FEnc 6 j).length:Nat):Int) != ((bC_ j).length:Int))=false:=by rw [m];simp
 refine ak_ ?_;simp only [eX_,aM_,hl,hn,cond_false,ab_ k,ha,ab_ z,beq_self_eq_true,Bool.not_true,ac_]
def FIdx (l:List Bs)(x:Bs):Int:=if l.findIdx (fun y=>y==x)<l.length then ((l.findIdx (fun y=>y==x):Nat):Int) else -1
theorem lr_ {j:aa_}{x:Bs}(h:j.names.length<=b9_):Ev (fun n _=>cL_ n j x) (FIdx j.names x):=by
 refine ak_ ?_;unfold FIdx;rw [<-hl_ ([]:Bs) (fun y=>y==x) j.names];simp only [cL_];refine ni_ (fun n N i=>cL_.loop3 n (some (-1)) N x (i:Int) j.kind j.n_ j.s j.list j.names) _ (fun i u hi ih => ?_) ?_
 . simp only [cL_.turn3,cL_.step3,Int.toNat_natCast,W_up hi h,ag_,a2_,ac_,dZ_ ih,cD_ hi,cb_ hi]
   cases (j.names.getD i []==x)<;>simp
 . simp only [cL_.turn3,cL_.step3,cj_,cond_false,ac_]
theorem g3_ {l:List Bs}{x:Bs}(h:l.length<=b9_):Ev (fun n _=>aC_ n l x) (FIdx l x):=by
 refine ak_ ?_;unfold FIdx;rw [<-hl_ ([]:Bs) (fun y=>y==x) l];simp only [aC_];refine ni_ (fun n N i=>aC_.loop3 n (some (-1)) N l x (l.length:Int) (i:Int)) _ (fun i u hi ih => ?_) ?_
 . simp only [aC_.turn3,aC_.step3,Int.toNat_natCast,W_up hi h,ag_,a2_,ac_,dZ_ ih,cD_ hi,cb_ hi]
   rw [show (x==l.getD i [])=(l.getD i []==x) from BEq.comm];cases (l.getD i []==x)<;>simp
 . simp only [aC_.turn3,aC_.step3,cj_,cond_false,ac_]
def kE_ (j:aa_)(x:Bs):aa_×Bool:=if FIdx j.names x<0 then (gi_,false) else (j.list.getD (FIdx j.names x).toNat aa_.dflt,true)
theorem idx_lt {l:List Bs}{x:Bs}(h:¬ FIdx l x<0):0<=FIdx l x/\FIdx l x<(l.length:Int):=by
 unfold FIdx at h ⊢;split at h
 . rename_i hl;rw [if_pos hl];omega
 . exact absurd (by decide) h
theorem pK_ {j:aa_}(h:bp_ 6 j<=400){x:Bs}(hx:¬ FIdx j.names x<0):(FIdx j.names x).toNat<j.list.length/\j.kind=5:=by
 have hi:=idx_lt hx;by_cases k:j.kind=5
 . have:=((dj_ h).1.obj k).1;exact ⟨by omega,k⟩
 . rw [(fw_ (fc_ h)).ns0 k] at hi;simp at hi;omega
theorem rT_ {j:aa_}(h:bp_ 6 j<=400)(x:Bs):bp_ 6 (kE_ j x).1<=400:=by
 unfold kE_;by_cases hx:FIdx j.names x<0
 . rw [if_pos hx];exact tP_
 . rw [if_neg hx]
   have:=(f0_ h (pK_ h hx).1).size;rw [ty_ 5 _ this];exact this
theorem j7_ {j:aa_}(h:bp_ 6 j<=400){x:Bs}:Ev (fun n _=>ep_ n j x) (kE_ j x):=by
 have hJ:=dc_ (cQ_ 6 j h);have hn:=gj_ h;have k:bU_ j=true:=decide_eq_true h;refine ak_ ?_;simp only [ep_,aM_,ab_ (lr_ (j:=j) (x:=x) (by simp only [b9_];omega)),ab_ hJ,k,Bool.not_true,cond_false,kE_];by_cases hx:FIdx j.names x<0
 . rw [if_pos hx,decide_eq_true hx]
   simp only [cond_true,ag_,ac_];exact ⟨fun _=>rfl,fun _=>rfl⟩
 . obtain ⟨z,u⟩:=pK_ h hx
   have hi:=idx_lt hx;have p:=dq_ 5 (j.list.getD (FIdx j.names x).toNat aa_.dflt) (f0_ h z).size;have m:(j.kind != 5)=false:=by rw [u];rfl
   rw [if_neg hx,decide_eq_false hx,m];simp only [cond_false,a2_,ab_ p,ac_];exact ⟨by omega,trivial⟩
theorem pD_ {j:aa_}(h:bp_ 6 j<=400){x:Bs}:Ev (fun n _=>eN_ n j x) (kE_ j x):=by
 have hJ:=dW_ (cQ_ 6 j h);have hn:=gj_ h;have k:bU_ j=true:=decide_eq_true h;refine ak_ ?_;simp only [eN_,aM_,ab_ (g3_ (l:=j.names) (x:=x) (by simp only [b9_];omega)),ab_ hJ,k,Bool.not_true,cond_false,kE_];by_cases hx:FIdx j.names x<0
 . rw [if_pos hx,decide_eq_true hx]
   simp only [cond_true,ac_];rfl
 . obtain ⟨p,u⟩:=pK_ h hx
   have hi:=idx_lt hx;have m:=d4_ 5 (j.list.getD (FIdx j.names x).toNat aa_.dflt) (f0_ h p).size;rw [if_neg hx,decide_eq_false hx];simp only [cond_false,a2_,ab_ m,ac_];exact ⟨by omega,trivial⟩
def fin (w:List Bs):List Bs×Bool:=if w.length > 6 then ([],false) else (w,true)
def wr (out:List Bs)(now:Bs):Bs->List Bs×Bool
 |[]=>fin (out++[now])
 |[c]=>if c=47 then fin (out++[now]++[[]]) else if c=126 then ([],false) else fin (out++[now++[c]])
 |c::e::l=>if c=47 then wr (out++[now]) [] (e::l) else if c=126 then (if e=48 then wr out (now++[126]) l else if e=49 then wr out (now++[47]) l else ([],false)) else wr out (now++[c]) (e::l)
theorem wr_sl (out:List Bs)(now l:Bs):wr out now (47::l)=wr (out++[now]) [] l:=by
 cases l with
 |nil=>rfl
 |cons e l=>rw [wr,if_pos rfl]
theorem wr_c {c:UInt8}(m:c≠47)(k:c≠126)(out:List Bs)(now l:Bs):wr out now (c::l)=wr out (now++[c]) l:=by
 cases l with
 |nil=>
  show (if c=47 then fin (out++[now]++[[]]) else if c=126 then ([],false) else fin (out++[now++[c]]))=fin (out++[now++[c]]);rw [if_neg m,if_neg k]
 |cons e l=>rw [wr,if_neg m,if_neg k]
theorem wr_t (e:UInt8)(out:List Bs)(now l:Bs):wr out now (126::e::l)=if e=48 then wr out (now++[126]) l else if e=49 then wr out (now++[47]) l else ([],false):=by rw [wr,if_neg (by decide),if_pos rfl]
def FWr (s:Bs):List Bs×Bool:=match s with
 |[]=>([],true)
 |c::l=>if c=47 then wr [] [] l else ([],false)
theorem wr_enc:∀ (w:List Bs)(u now:Bs)(out:List Bs),wr out now (u.flatMap ha_++FWay w)=fin (out++[now++u]++w)
 |[],[],now,out=>by simp [FWay,wr]
 |s::w,[],now,out=>by have e:([]:Bs).flatMap ha_++FWay (s::w)=47::(s.flatMap ha_++FWay w):=rfl;rw [e,wr_sl,wr_enc w s [] _];simp
 |w,c::u,now,out=>by
  have ih:=fun x=>wr_enc w u (now++[x]) out;rw [List.flatMap_cons,List.append_assoc];by_cases k:c=126
  . have e:ha_ c=[126,48]:=if_pos k
    rw [e];show wr out now (126::48::(u.flatMap ha_++FWay w))=_;rw [wr_t,if_pos rfl,ih 126,k];simp
  . by_cases m:c=47
    . have e:ha_ c=[126,49]:=by unfold ha_;rw [if_neg k,if_pos m]
      rw [e];show wr out now (126::49::(u.flatMap ha_++FWay w))=_;rw [wr_t,if_neg (by decide),if_pos rfl,ih 47,m];simp
    . have e:ha_ c=[c]:=by unfold ha_;rw [if_neg k,if_neg m]
      rw [e];show wr out now (c::(u.flatMap ha_++FWay w))=_;rw [wr_c m k,ih c];simp
theorem FWr_enc {w:List Bs}(h:w.length<=6):FWr (FWay w)=(w,true):=by
 cases w with
 |nil=>rfl
 |cons s w=>
  have e:FWay (s::w)=47::(s.flatMap ha_++FWay w):=rfl;rw [e];show (if (47:UInt8)=47 then wr [] [] (s.flatMap ha_++FWay w) else ([],false))=_;rw [if_pos rfl,wr_enc];unfold fin
  rw [if_neg (by simp at h ⊢;omega)];simp
def WrOk (B:Nat)(x:List Bs×Bool):Prop:=x.1.length<=6/\∀ y ∈ x.1,y.length<=B
theorem my_ {s:Bs}(hs:s.length<=1000000):Ev (fun n _=>a4_ n s) (FWr s):=by
 have B:∀ (K:Nat->a4_.K6),(∀ out now,out.length<=1000000->s≠[]->Ev (fun n _=>K n s [] out (bi now)) (fin (out++[now]))) ->
   ∀ (m i:Nat)(out:List Bs)(now:Bs),s.length - i<=m->1<=i->i<=s.length->out.length<=i->now.length<=i ->
   Ev (fun n N=>a4_.loop6 n (K n) N s (i:Int) [] out (bi now)) (wr out now (s.drop i)):=by
  intro K z m;induction m with
  |zero=>
   intro i out now hm u h2 h3 h4;have:i=s.length:=by omega
   subst this;rw [List.drop_length];refine aY_ ?_;simp only [a4_.turn6,a4_.step6,cj_,cond_false];exact z out now (by omega) (fun e=>by rw [e] at u;simp at u)
  |succ m ih=>
   intro i out now hm u h2 h3 h4;by_cases hi:i<s.length
   . have hd:=dA_ 0 hi
     have hbl:=lH_ now;have T:W ((i:Int)+1)=((i+1:Nat):Int):=by rw [W_id (by omega) (by omega)];omega
     have S:W (((i+1:Nat):Int)+1)=((i+2:Nat):Int):=by rw [W_id (by omega) (by omega)];omega
     have Z:((i:Int)==0)=false:=beq_eq_false_iff_ne.2 (by omega);have hg:decide ((i:Int) > 0)=true:=decide_eq_true (by omega);refine aY_ ?_;simp only [a4_.turn6,a4_.step6,cD_ hi,cond_true,a2_,cb_ hi,true_and,Int.toNat_natCast,T,S,Z,hg,cond_false,byte47,byte126,kJ_,a6_];rw [hd];generalize hc:s.getD i 0=c;by_cases c47:c=47
     . subst c47
       rw [wr_sl,decide_eq_true rfl];simp only [cond_true,a6_];exact ⟨by simp;omega,ih (i+1) (out++[now]) [] (by omega) (by omega) (by omega) (by simp;omega) (by simp)⟩
     . rw [decide_eq_false c47]
       simp only [cond_false];by_cases c126:c=126
       . subst c126
         rw [decide_eq_true rfl];simp only [cond_true];by_cases k:i+1<s.length
         . have O:=dA_ 0 k
           have p:(((i+1:Nat):Int)==(s.length:Int))=false:=beq_eq_false_iff_ne.2 (by omega);rw [O,wr_t];simp only [p,cond_false,a2_,cb_ k,true_and,Int.toNat_natCast];generalize s.getD (i+1) 0=e;have V:((e.toNat:Int)==48)=decide (e=48):=lG_ e 48 48 rfl;have U:((e.toNat:Int)==49)=decide (e=49):=lG_ e 49 49 rfl;have n1:=ih (i+2) out (now++[126]) (by omega) (by omega) (by omega) (by omega) (by simp;omega);have n2:=ih (i+2) out (now++[47]) (by omega) (by omega) (by omega) (by omega) (by simp;omega);rw [<-pT_] at n1 n2;simp only [bne,V,U];by_cases d48:e=48
           . subst d48
             simp only [decide_true,Bool.not_true,cond_false,cond_true,a2_,cb_ hi,cb_ k,true_and,a6_,if_true];exact ⟨by simp;omega,n1⟩
           . by_cases d49:e=49
             . subst d49
               simp only [d48,decide_true,decide_false,Bool.not_true,Bool.not_false,cond_false,cond_true,a2_,cb_ hi,cb_ k,true_and,a6_,if_true,if_false];exact ⟨by simp;omega,n2⟩
             . simp only [d48,d49,decide_false,Bool.not_false,cond_true,a2_,cb_ hi,cb_ k,true_and,ac_,if_false]
         . have p:(((i+1:Nat):Int)==(s.length:Int))=true:=by simp;omega
           have J:s.drop (i+1)=[]:=th_ (by omega);rw [J];simp only [p,cond_true,a2_,cb_ hi,true_and,ac_];rfl
       . rw [wr_c c47 c126,decide_eq_false c126]
         have n1:=ih (i+1) out (now++[c]) (by omega) (by omega) (by omega) (by omega) (by simp;omega);rw [<-pT_] at n1;simp only [cond_false,a2_,cb_ hi,true_and,a6_];exact ⟨by simp;omega,n1⟩
   . have:i=s.length:=by omega
     subst this;rw [List.drop_length];refine aY_ ?_;simp only [a4_.turn6,a4_.step6,cj_,cond_false];exact z out now (by omega) (fun e=>by rw [e] at u;simp at u)
 refine ak_ ?_;simp only [a4_];cases s with
 |nil=>
  refine c3_ (f:=fun n N=>a4_.loop6 n (fun B1 B2 B3 B4=>(cond (!(B1==[])) (bj_ (B3.length+([(i6_ B4)]:List Bs).length) 16 (cond (decide (((B3++([(i6_ B4)]:List Bs)).length:Int) > 6)) (some (B2,false)) (some ((B3++([(i6_ B4)]:List Bs)),true)))) (cond (decide ((B3.length:Int) > 6)) (some (B2,false)) (some (B3,true))))) N [] 0 [] [] []) (aY_ ?_);exact ⟨0,fun _ _ _ _=>rfl⟩
 |cons c l=>
  have z:∀ out now,out.length<=1000000->c::l≠[]->Ev (fun n (_:Nat)=>(cond (!(c::l==[])) (bj_ (out.length+([(i6_ (bi now))]:List Bs).length) 16 (cond (decide (((out++([(i6_ (bi now))]:List Bs)).length:Int) > 6)) (some (([]:List Bs),false)) (some ((out++([(i6_ (bi now))]:List Bs)),true)))) (cond (decide ((out.length:Int) > 6)) (some ([],false)) (some (out,true))))) (fin (out++[now])):=by
   intro out now u _;have e:(!(c::l==[]))=true:=rfl;rw [e,kJ_];simp only [cond_true,a6_,ag_,ac_];unfold fin
   refine ⟨by simp;omega,fun h => ?_,fun h => ?_⟩
   . have h:=of_decide_eq_true h;rw [if_pos (by omega)]
   . have h:=of_decide_eq_false h;rw [if_neg (by omega)]
  refine c3_ (f:=fun n N=>a4_.loop6 n (fun B1 B2 B3 B4=>(cond (!(B1==[])) (bj_ (B3.length+([(i6_ B4)]:List Bs).length) 16 (cond (decide (((B3++([(i6_ B4)]:List Bs)).length:Int) > 6)) (some (B2,false)) (some ((B3++([(i6_ B4)]:List Bs)),true)))) (cond (decide ((B3.length:Int) > 6)) (some (B2,false)) (some (B3,true))))) N (c::l) 0 [] [] []) (aY_ ?_);have Y:=B (fun _=>fun B1 B2 B3 B4=>(cond (!(B1==[])) (bj_ (B3.length+([(i6_ B4)]:List Bs).length) 16 (cond (decide (((B3++([(i6_ B4)]:List Bs)).length:Int) > 6)) (some (B2,false)) (some ((B3++([(i6_ B4)]:List Bs)),true)))) (cond (decide ((B3.length:Int) > 6)) (some (B2,false)) (some (B3,true))))) z l.length 1 [] [] (by simp) (Nat.le_refl _) (by simp) (by simp) (by simp);have c0:decide ((0:Int)<(((c::l).length:Nat):Int))=true:=decide_eq_true (by simp);have cg:decide ((0:Int) > 0)=false:=rfl;have cz:((0:Int)==0)=true:=rfl;have T:W ((0:Int)+1)=((1:Nat):Int):=rfl;have I:(c::l).getD (0:Int).toNat 0=c:=rfl;simp only [a4_.turn6,a4_.step6,c0,cond_true,a2_,I,byte47,cg,cz,cond_false,T];refine ⟨by simp,?_⟩;unfold FWr;by_cases c47:c=47
  . rw [decide_eq_true c47]
    simp only [c47,if_true,cond_true];rw [c47] at Y;exact Y
  . rw [decide_eq_false c47]
    simp only [c47,if_false,cond_false,ac_]
def FWi (s:Bs):List Bs×Bool:=if s=[] then ([],true) else
 if (((fa_ 47 s).drop 1).map fun p=>hB_ 126 48 [126] (hB_ 126 49 [47] p)).length > 6 then ([],false) else
 if FWay (((fa_ 47 s).drop 1).map fun p=>hB_ 126 48 [126] (hB_ 126 49 [47] p))=s then (((fa_ 47 s).drop 1).map fun p=>hB_ 126 48 [126] (hB_ 126 49 [47] p),true) else ([],false)
theorem jA_ {a b c:UInt8}{s:Bs}(hs:s.length<=1000000) (k:([a,b]==[c])=false):Ev (fun n _=>strings_ReplaceAll n s [a,b] [c]) (hB_ a b [c] s):=by refine ak_ ?_;have:=r1_ a b s;simp only [strings_ReplaceAll,gX_,count2,rv_ a b [c] s k,ag_,ac_,do_];refine ⟨fun _=>trivial,fun h => ?_⟩;have e1:decide (s.length<4294967281)=true:=decide_eq_true (by omega);have e2:decide (1<=[a,b].length)=true:=rfl;have e3:decide (s.length+cnt2 a b s*[c].length<=140737488355328)=true:=decide_eq_true (by simp only [List.length_cons,List.length_nil];omega);rw [e1,e2,e3] at h;cases h
theorem Split_ev {s:Bs}{b:UInt8}(hs:s.length<=1000000):Ev (fun n _=>strings_Split n s [b]) (fa_ b s):=by refine ak_ ?_;have e1:decide (s.length<4294967281)=true:=decide_eq_true (by omega);have e2:decide (1<=[b].length)=true:=rfl;simp only [strings_Split,sM_,split_one,e1,e2,Bool.and_self,cond_true,ac_]
theorem na_ {s:Bs}(hs:s.length<=60):Ev (fun n _=>bE_ n s) (FWi s):=by
 refine ak_ ?_;simp only [bE_,ag_,ac_,ab_ (Split_ev (s:=s) (b:=47) (by omega))];unfold FWi;by_cases m:s=[]
 . rw [if_pos m,m]
   exact ⟨fun _=>rfl,fun h=>(by cases h)⟩
 . rw [if_neg m,beq_eq_false_iff_ne.2 m]
   refine ⟨fun h=>(by cases h),fun _ => ?_⟩;obtain ⟨hl,z⟩:=n8_ 47 s;obtain ⟨p,ps,e⟩:=kM_ 47 s;rw [e] at hl z ⊢;have e1:(((p::ps).length:Nat):Int).toNat=ps.length+1:=by simp
   have e2:((p::ps).take (ps.length+1)).drop 1=ps:=by rw [List.take_of_length_le (by simp)];rfl
   have e3:(ps.length+1 - 1:Nat)=ps.length:=rfl;have e4:(p::ps).drop 1=ps:=rfl;simp only [e1,e2,e3,e4,eH_];refine ⟨by simp only [List.length_cons] at hl ⊢;omega,?_⟩;simp only [List.length_cons] at hl;have k:∀ q ∈ ps,q.length<=60:=fun q hq=>by have:=z q (List.mem_cons_of_mem _ hq);omega
   refine qY_ [] ps (fun p=>hB_ 126 48 [126] (hB_ 126 49 [47] p)) (fun n N i (o:List Bs)=>bE_.loop7 n (fun B4 B5=>(cond (decide ((B5.length:Int) > 6)) (some (([]:List Bs),false)) ((bT_ n B5).bind fun A6=>(cond (!(A6==B4)) (some (([]:List Bs),false)) (some (B5,true)))))) N s ps (ps.length:Int) (i:Int) o) _ (fun i o hi S F O => ?_) ?_
   . have hq:=k _ (bB_ [] hi)
     have r1:=jA_ (a:=126) (b:=49) (c:=47) (s:=ps.getD i []) (by omega) rfl;have B:=kb_ 126 49 47 (ps.getD i []);have r2:=jA_ (a:=126) (b:=48) (c:=126) (s:=hB_ 126 49 [47] (ps.getD i [])) (by omega) rfl;have J:=W_up hi (show ps.length<=b9_ by simp only [b9_];omega);simp only [bE_.turn7,bE_.step7,cD_ hi,cond_true,a2_,cb_ hi,true_and,Int.toNat_natCast,J,ab_ r1,ab_ r2,a6_];exact ⟨by simp;omega,O⟩
   . generalize I:ps.map (fun p=>hB_ 126 48 [126] (hB_ 126 49 [47] p))=w
     have u:∀ q ∈ w,q.length<=60:=by intro q hq;rw [<-I] at hq;obtain ⟨x,hx,rfl⟩:=List.mem_map.1 hq;have:=kb_ 126 49 47 x;have:=kb_ 126 48 126 (hB_ 126 49 [47] x);have:=k x hx;omega
     simp only [bE_.turn7,bE_.step7,cj_,cond_false,ag_,ac_];refine ⟨fun h => ?_,fun h => ?_⟩
     . have h:=of_decide_eq_true h;rw [if_pos (by omega)]
     . have h:=of_decide_eq_false h
       rw [if_neg (by omega)];simp only [ab_ (iK_ (w:=w) (by omega) u),ag_,ac_];by_cases he:FWay w=s
       . rw [he,if_pos rfl];simp
       . rw [if_neg he,beq_eq_false_iff_ne.2 he];simp
theorem FWi_enc {w:List Bs}(h:w.length<=6):FWi (FWay w)=(w,true):=by
 unfold FWi;cases w with
 |nil=>rfl
 |cons s w=>
  have e:FWay (s::w)≠[]:=by show 47::_≠[];intro e;cases e
  have e2:((fa_ 47 (FWay (s::w))).drop 1).map (fun p=>hB_ 126 48 [126] (hB_ 126 49 [47] p))=s::w:=by rw [qg_];show (((s::w).map fun s=>s.flatMap ha_).map fun p=>hB_ 126 48 [126] (hB_ 126 49 [47] p))=_;rw [List.map_map];refine (List.map_congr_left fun x _ => ?_).trans (List.map_id _);show hB_ 126 48 [126] (hB_ 126 49 [47] (x.flatMap ha_))=x;rw [unesc1,unesc2]
  rw [if_neg e,e2,if_neg (by omega),if_pos rfl]
theorem oE_:∀ (d:Nat)(j:aa_),eT_ d j j=true
 |0,_=>rfl
 |d+1,j=>by simp only [eT_,jS_,beq_self_eq_true,decide_true,Bool.true_and,Bool.and_eq_true];exact ⟨e7_.2 fun i _=>by simp,e7_.2 fun i _=>oE_ d _⟩
theorem qm_ {j:aa_}(h:bp_ 6 j<=400):g7_ j j=true:=by unfold g7_ bU_;rw [decide_eq_true h,oE_];rfl
theorem text_len {j:aa_}(h:bp_ 6 j<=400):j.s.length<=60:=by
 have k:=fw_ (fc_ h);by_cases m:j.kind=3
 . exact iZ_ (k.text m)
 . rw [k.s0 m];exact Nat.zero_le _
theorem lenOp_of {k:Int}{x:List Bs×Bool}{v:aa_}{s:Bs}(hs:s.length<=60)(m:WrOk s.length x)(u:bp_ 6 v<=400):lT_ (TOp.mk k x.1 v) :=
 ⟨⟨by have:=m.1;show x.1.length<=b9_;simp only [b9_];omega,fun y p=>by have:=m.2 y p;simp only [b9_];omega⟩,cQ_ 6 v u⟩
abbrev gF_:List Bs:=[[97,100,100],[114,101,109,111,118,101],[114,101,112,108,97,99,101],[116,101,115,116]]
theorem tN_:Ev (fun n _=>dF_ n ()) gF_:=ak_ (by simp only [dF_,ac_])
theorem tX_:Ev (fun n _=>dD_ n ()) ([]::gF_):=ak_ (by simp only [dD_,ac_])
structure OpIn (o:TOp):Prop where
 ok:hc_ o=true
 val:cN_ o=eZ_ o
 size:bp_ 6 (eZ_ o)<=400
theorem op_in {o:TOp} (h:(cN_ o).kind≠0):OpIn o:=by
 unfold cN_ at h;cases k:hc_ o with
 |false=>rw [k] at h;exact absurd rfl h
 |true=>
  rw [k,cond_true] at h;unfold fe_ at h;cases m:bU_ (eZ_ o) with
  |false=>rw [m] at h;exact absurd rfl h
  |true=>
   refine ⟨k,?_,of_decide_eq_true m⟩;unfold cN_ fe_;rw [k,m];rfl
theorem p5_ {j:aa_}(h:jR_ j=true):j=gi_:=by unfold jR_ at h;simp only [Bool.and_eq_true,beq_iff_eq,decide_eq_true_eq] at h;obtain ⟨B,z,u,p,m⟩:=h;obtain ⟨k,n,s,l,ns⟩:=j;simp only at B z u p m;rw [B,z,u,List.eq_nil_of_length_eq_zero p,List.eq_nil_of_length_eq_zero m];rfl
theorem val_of {o:TOp}(h:hc_ o=true)(k:o.kind=2):o.value=gi_:=by
 unfold hc_ at h;simp only [Bool.and_eq_true,Bool.or_eq_true] at h;rcases h.2.2.2.2 with h|h
 . rw [k] at h;exact absurd h (by decide)
 . exact p5_ h
theorem tb_ {o:TOp}:kE_ (eZ_ o) nmOp=(tA_ (gx_ o.kind),true):=by unfold eZ_;cases (o.kind==2)<;>rfl
theorem lc_ {o:TOp}:kE_ (eZ_ o) iE_=(tA_ (FWay o.way),true):=by unfold eZ_;cases (o.kind==2)<;>rfl
theorem nh_ {o:TOp}(h:hc_ o=true):(kE_ (eZ_ o) jL_).1=o.value:=by
 unfold eZ_;cases k:(o.kind==2) with
 |false=>rfl
 |true=>rw [val_of h (by simpa using k)];rfl
theorem kind_back {o:TOp}(h:OpIs o):W (1+FIdx gF_ (gx_ o.kind))=o.kind:=by rcases h.kind with e|e|e|e<;>rw [e]<;>decide
theorem rk_ {o:TOp}(h:OpIn o):(FWay o.way).length<=60:=by have:=text_len (rT_ h.size iE_);rw [lc_] at this;exact this
theorem nb_ {o:TOp}(h:OpIn o):Ev (fun n _=>eY_ n (eZ_ o)) (o,true):=by
 have hi:=tM_ h.ok;have B:lT_ o:=lenOp_of (x:=(o.way,true)) (v:=o.value) (s:=FWay o.way) (rk_ h) ⟨hi.way,fun y p=>by
  have:y.length<=(y.flatMap ha_).length:=by
   clear p;induction y with
   |nil=>exact Nat.le_refl _
   |cons c y ih=>
    rw [List.flatMap_cons,List.length_append,List.length_cons];have:1<=(ha_ c).length:=by unfold ha_;split<;>(try split)<;>simp
    omega
  have:∀ w:List Bs,y ∈ w->(y.flatMap ha_).length<=(FWay w).length:=by
   intro w;induction w with
   |nil=>intro h;cases h
   |cons s w ih=>
    intro h;have e:FWay (s::w)=(47::s.flatMap ha_)++FWay w:=rfl;rw [e,List.length_append,List.length_cons];rcases List.mem_cons.1 h with rfl|h
    . omega
    . have:=ih h;omega
  have:=this o.way p;simp only at p;omega⟩ hi.val
 have m:=tb_ (o:=o);have k:=lc_ (o:=o);have u:=nh_ h.ok;have hs:=rk_ h;have O:=kind_back hi;have J:Ev (fun n _=>bE_ n (FWay o.way)) (o.way,true):=by rw [<-FWi_enc hi.way];exact na_ hs
 have z:=lZ_ (a:=eZ_ o) (b:=eZ_ o) (cQ_ 6 _ h.size) (cQ_ 6 _ h.size);rw [qm_ h.size] at z;have hJ:=hy_ B;rw [h.val] at hJ;have I:=iL_ B;rw [h.ok] at I;unfold nmOp at m;unfold iE_ at k;refine ak_ ?_;simp only [eY_,aM_,ab_ (pD_ h.size),m,k,u,tA_,ab_ J,ab_ tN_,ab_ (g3_ (l:=gF_) (by decide)),O,Bool.not_true,cond_false,fu_,ab_ I,ab_ hJ,ab_ z,ac_]
def FK (k:Int)(s:Bs):Nat->Nat->Int->Int
 |0,_,t=>t
 |j+1,i,t=>FK k s j (i+1) (cond (k==3) (cond (s==([]::gF_).getD i []) (i:Int) t) t)
theorem rx_ {K:Nat->bz_.K7}{F:TOp×Bool}{a0 a1:Int}{a2:Bs}{a3:List aa_}{a4:List Bs}{b1 b2 b3:Int}{b4:Bs}{c2 c3:Int}{c4:Bs}{k d1:Int}{s:Bs}{e0 e1:Int}{e2:Bs}{f3:List aa_}{f4:List Bs}{g3:List aa_}{g4:List Bs} :
  ∀ (j i:Nat)(t:Int),i+j=5->Ev (fun n _=>K n a0 a1 a2 a3 a4 b1 b2 b3 b4 (FK k s j i t) c2 c3 c4 e0 e1 e2 g3 g4) F ->
    Ev (fun n N=>bz_.loop7 n (K n) N (i:Int) a0 a1 a2 a3 a4 b1 b2 b3 b4 t c2 c3 c4 k d1 s e0 e1 e2 ([]::gF_) f3 f4 g3 g4) F:=by
 have p:(([]:Bs)::gF_).length=5:=rfl;intro j;induction j with
 |zero=>
  intro i t hi m;obtain rfl:i=5:=by omega
  refine aY_ ?_;have:decide (((5:Nat):Int)<(((([]:Bs)::gF_).length:Nat):Int))=false:=by rw [p];exact decide_eq_false (by omega)
  simp only [bz_.turn7,bz_.step7,this,cond_false];exact m
 |succ j ih=>
  intro i t hi m;have u:i<(([]:Bs)::gF_).length:=by rw [p];omega
  have B:W ((i:Int)+1)=((i+1:Nat):Int):=by rw [W_id (by omega) (by omega)];omega
  refine aY_ ?_;simp only [bz_.turn7,bz_.step7,cD_ u,cond_true,Int.toNat_natCast,B,ag_,a2_,cb_ u,true_and];unfold FK at m;refine ⟨fun z => ?_,fun z => ?_⟩
  . rw [z,cond_true] at m
    exact ⟨fun he=>by rw [he,cond_true] at m;exact ih (i+1) _ (by omega) m,fun he=>by rw [he,cond_false] at m;exact ih (i+1) _ (by omega) m⟩
  . rw [z,cond_false] at m
    exact ih (i+1) _ (by omega) m
theorem tY_ {o:TOp}(h:OpIs o):FK 3 (gx_ o.kind) 4 1 0=o.kind:=by rcases h.kind with e|e|e|e<;>rw [e]<;>decide
theorem sV_ {o:TOp}(h:OpIn o):lT_ o:=by have hi:=tM_ h.ok;exact ⟨⟨by have:=hi.way;simp only [b9_];omega,fun y k=>by have:=hi.text y k;simp only [b9_];omega⟩,cQ_ 6 _ hi.val⟩
theorem mD_ {o:TOp}(h:OpIn o):Ev (fun n _=>bz_ n (eZ_ o)) (o,true):=by
 have hi:=tM_ h.ok;have J:=sV_ h;have m:=tb_ (o:=o);have k:=lc_ (o:=o);have p:=nh_ h.ok;have hs:=rk_ h;have I:=tY_ hi;have B:Ev (fun n _=>a4_ n (FWay o.way)) (o.way,true):=by rw [<-FWr_enc hi.way];exact my_ (by omega)
 have z:=if_ (a:=eZ_ o) (b:=eZ_ o) (cQ_ 6 _ h.size) (cQ_ 6 _ h.size);rw [qm_ h.size] at z;have hJ:=ft_ J;rw [h.val] at hJ;have u:(o.kind==0)=false:=beq_eq_false_iff_ne.2 (by rcases hi.kind with e|e|e|e<;>omega);unfold nmOp at m;unfold iE_ at k;refine ak_ ?_;simp only [bz_,aM_,ab_ (j7_ h.size),ab_ tX_,m,k,tA_];refine c3_ (rx_ (K:=fun n=>fun B4 B5 B6 B7 B8 B9 B10 B11 B12 B13 B14 B15 B16 B17 B18 B19 B20 B21=>((a4_ n B19).bind fun A22=>((ep_ n (aa_.mk B4 B5 B6 B7 B8) [118,97,108,117,101]).bind fun A23=>(bz_.tail15 n A22.2 B4 B5 B6 B7 B8 B9 B10 B11 B12 B13 A22.1 A23.1.kind A23.1.n_ A23.1.s A23.1.list A23.1.names)))) 4 1 0 rfl ?_);simp only [dx_,I,ab_ B,ab_ (j7_ h.size),p,bz_.tail15,aM_,Bool.not_true,u,cond_false,fu_,ab_ hJ,ab_ z,ac_]
mutual
def aa_.size:aa_->Nat
 |⟨_,_,s,l,ns⟩=>s.length+((l.length+aa_.sizes l)+o1_ szB ns)
def aa_.sizes:List aa_->Nat
 |[]=>0
 |x::l=>aa_.size x+aa_.sizes l
end
theorem aa_.sizes_eq:∀ l:List aa_,aa_.sizes l=fU_ aa_.size l
 |[]=>by simp only [aa_.sizes,fU_]
 |x::l=>by simp only [aa_.sizes,fU_,aa_.sizes_eq l]
theorem aa_.size_eq (j:aa_):aa_.size j=j.s.length+(o1_ aa_.size j.list+o1_ szB j.names):=by cases j;simp only [aa_.size,aa_.sizes_eq,o1_]
theorem aa_.dec {x:aa_}{a:List aa_}(h:x ∈ a):SizeOf.sizeOf x.list<SizeOf.sizeOf a:=by
 have m:=List.sizeOf_lt_of_mem h;have k:SizeOf.sizeOf x.list<SizeOf.sizeOf x:=by cases x;simp;omega
 omega
def fG_ (l:List TOp):Nat:=l.findIdx fun o=>(cN_ o).kind==0
def eI_ (l:List TOp):aa_:=aa_.mk 4 0 [] (l.map cN_) []
def eP_ (l:List TOp):Int:=cond (decide (fG_ l<l.length)) (-1) (cond (bC_ (eI_ l)==[]) (-1) ((bC_ (eI_ l)).length:Int))
theorem lg_ {l:List TOp}{i:Nat}(hi:i<fG_ l):((cN_ (l.getD i TOp.dflt)).kind==0)=false:=by have hl:fG_ l<=l.length:=List.findIdx_le_length;rw [List.getD_eq_getElem?_getD,List.getElem?_eq_getElem (by omega),Option.getD_some];have:=List.not_of_lt_findIdx (xs:=l) (p:=fun o=>(cN_ o).kind==0) (i:=i) hi;simpa using this
theorem bad_at {l:List TOp}(h:fG_ l<l.length):((cN_ (l.getD (fG_ l) TOp.dflt)).kind==0)=true:=by rw [List.getD_eq_getElem?_getD,List.getElem?_eq_getElem h,Option.getD_some];exact List.findIdx_getElem (xs:=l) (p:=fun o=>(cN_ o).kind==0) (w:=h)
theorem pn_ {α β:Type}(f:α->β)(d:α){a:List α}{i:Nat}(h:i<a.length):(a.take (i+1)).map f=(a.take i).map f++[f (a.getD i d)]:=by rw [cz_ d h,List.map_append];rfl
def kk_ (l:List TOp):Prop:=l.length<=4000000/\∀ o ∈ l,lT_ o
theorem kl_ {l:List TOp}(h:kk_ l):gk_ 6 (eI_ l):=by refine ⟨⟨Nat.zero_le _,Nat.zero_le _,fun x hx=>(by cases hx)⟩,by have:=h.1;simp [eI_,b9_];omega,fun x hx => ?_⟩;obtain ⟨o,k,e⟩:=List.mem_map.1 hx;rw [<-e];exact pr_ 5 _ (rD_ (h.2 o k))
theorem iJ_ {l:List TOp}(h:kk_ l):Ev (fun n _=>bs_ n l) (cond (decide (fG_ l<l.length)) (gi_,false) (eI_ l,true)):=by
 refine ak_ ?_;have hl:=h.1;have z:l.length<=b9_:=by simp only [b9_];omega
 have hb:fG_ l<=l.length:=List.findIdx_le_length;simp only [bs_];have:=eR_ (fun i=>(l.take i).map cN_) (fG_ l) (fun n N i (o:List aa_)=>bs_.loop4 n (fun B2 B3 B4 B5 B6 B7 B8=>(some ((aa_.mk B5 B6 B7 B8 ([]:List Bs)),true))) N l (l.length:Int) (i:Int) 0 0 [] 4 0 [] o) (cond (decide (fG_ l<l.length)) (gi_,false) (eI_ l,true)) (fun i hi F u => ?_) ?_
 . exact this
 . have k:i<l.length:=by omega
   have hx:=hy_ (h.2 _ (bB_ TOp.dflt k));rw [pn_ cN_ TOp.dflt k] at u;have p:((l.take i).map cN_).length<=i:=by simp;omega
   generalize (l.take i).map cN_=o at u p ⊢;simp only [bs_.turn4,bs_.step4,aM_,fu_,Int.toNat_natCast,W_up k z,cD_ k,cb_ k,lg_ hi,cond_true,cond_false,a2_,a6_,ab_ hx];exact ⟨trivial,by simp;omega,u⟩
 . by_cases m:fG_ l<l.length
   . have hx:=hy_ (h.2 _ (bB_ TOp.dflt m))
     simp only [bs_.turn4,bs_.step4,aM_,fu_,Int.toNat_natCast,cD_ m,cb_ m,bad_at m,cond_true,a2_,ab_ hx,ac_];rw [decide_eq_true m];exact ⟨trivial,rfl⟩
   . have e:fG_ l=l.length:=by omega
     rw [decide_eq_false m,cond_false];unfold eI_;rw [e,List.take_length];simp only [bs_.turn4,bs_.step4,cj_,cond_false,ac_]
theorem k7_ {l:List TOp}(h:kk_ l):Ev (fun n _=>dV_ n l) (eP_ l):=by
 refine ak_ ?_;simp only [dV_,aM_,ab_ (iJ_ h)];unfold eP_;cases k:decide (fG_ l<l.length) with
 |true=>
  simp only [cond_true,ab_ (e3_ (fP_ 6)),ag_,ac_];simp
 |false=>
  simp only [cond_false,ab_ (e3_ (kl_ h)),ag_,ac_];generalize bC_ (eI_ l)=s;cases (s==[])<;>simp
theorem lM_ {j:aa_}:Ev (fun n _=>an_ n j (aa_.mk 0 0 [] [] [])) (jR_ j):=by
 refine ak_ ?_;simp only [an_,ag_,ac_,jR_];by_cases k:j.list=[]
 . by_cases m:j.names=[]
   . have p:Ev (fun n _=>an_.loop6 n (an_ n) (fun B2 B3 B4 B5 B6 B7 B8 B9 B10 B11=>(an_.loop14 n (an_ n) (some true) n 0 B2 B3 B4 B5 B6 B7 B8 B9 B10 B11)) n 0 j.kind j.n_ j.s [] [] 0 0 [] [] []) true :=
      c3_ (f:=fun n N=>an_.loop6 n (an_ n) (fun B2 B3 B4 B5 B6 B7 B8 B9 B10 B11=>(an_.loop14 n (an_ n) (some true) n 0 B2 B3 B4 B5 B6 B7 B8 B9 B10 B11)) N 0 j.kind j.n_ j.s [] [] 0 0 [] [] []) (aY_ (c3_ (f:=fun n N=>an_.loop14 n (an_ n) (some true) N 0 j.kind j.n_ j.s [] [] 0 0 [] [] []) (aY_ ⟨0,fun _ _ _ _=>rfl⟩)))
     rw [k,m];simp only [dZ_ p,bne];cases (j.kind==0)<;>cases (j.n_==0)<;>cases (j.s==[])<;>simp
   . simp only [bne]
     rw [k];have e:((j.names.length:Int)==(([]:List Bs).length:Int))=false:=by simp only [List.length_nil];rw [beq_eq_false_iff_ne];intro e;exact m (List.eq_nil_of_length_eq_zero (by omega))
     have e2:decide (j.names.length=0)=false:=decide_eq_false fun e=>m (List.eq_nil_of_length_eq_zero e);rw [e,e2];cases (j.kind==0)<;>cases (j.n_==0)<;>cases (j.s==[])<;>simp
 . simp only [bne]
   have e:((j.list.length:Int)==(([]:List aa_).length:Int))=false:=by simp only [List.length_nil];rw [beq_eq_false_iff_ne];intro e;exact k (List.eq_nil_of_length_eq_zero (by omega))
   have e2:decide (j.list.length=0)=false:=decide_eq_false fun e=>k (List.eq_nil_of_length_eq_zero e);rw [e,e2];cases (j.kind==0)<;>cases (j.n_==0)<;>cases (j.s==[])<;>simp
theorem jq_ {l:List TOp}(h:kk_ l):Ev (fun n _=>bP_ n l) (cond (decide (fG_ l<l.length)) (aa_.mk 4 0 [] ((l.take (fG_ l)).map cN_) [],false) (eI_ l,decide ((l.length:Int)<=40) && !(bC_ (eI_ l)==[]))):=by
 refine ak_ ?_;have hl:=h.1;have B:l.length<=b9_:=by simp only [b9_];omega
 have hb:fG_ l<=l.length:=List.findIdx_le_length;simp only [bP_];have:=eR_ (fun i=>(l.take i).map cN_) (fG_ l) (fun n N i (o:List aa_)=>bP_.loop4 n (fun B2 B3 B4 B5 B6 B7 B8 B9=>(cond (decide ((B2.length:Int)<=40)) ((c9_ n (aa_.mk B6 B7 B8 B9 [])).bind fun A10=>(some ((aa_.mk B6 B7 B8 B9 ([]:List Bs)),(!(A10==[]))))) (some ((aa_.mk B6 B7 B8 B9 ([]:List Bs)),false)))) N l (i:Int) 0 0 [] 4 0 [] o) (cond (decide (fG_ l<l.length)) (aa_.mk 4 0 [] ((l.take (fG_ l)).map cN_) [],false) (eI_ l,decide ((l.length:Int)<=40) && !(bC_ (eI_ l)==[]))) (fun i hi F u => ?_) ?_
 . exact this
 . have k:i<l.length:=by omega
   have hx:=ft_ (h.2 _ (bB_ TOp.dflt k));rw [pn_ cN_ TOp.dflt k] at u;have p:((l.take i).map cN_).length<=i:=by simp;omega
   generalize (l.take i).map cN_=o at u p ⊢;simp only [bP_.turn4,bP_.step4,aM_,fu_,Int.toNat_natCast,W_up k B,cD_ k,cb_ k,lg_ hi,cond_true,cond_false,a2_,a6_,ab_ hx];exact ⟨trivial,by simp;omega,u⟩
 . by_cases m:fG_ l<l.length
   . have hx:=ft_ (h.2 _ (bB_ TOp.dflt m))
     simp only [bP_.turn4,bP_.step4,aM_,fu_,Int.toNat_natCast,cD_ m,cb_ m,bad_at m,cond_true,a2_,ab_ hx,ac_];rw [decide_eq_true m];exact ⟨trivial,rfl⟩
   . have e:fG_ l=l.length:=by omega
     have z:=eC_ (kl_ h);rw [decide_eq_false m,cond_false];unfold eI_ at z ⊢;rw [e,List.take_length];simp only [bP_.turn4,bP_.step4,cj_,cond_false,ag_,ab_ z,ac_];cases decide ((l.length:Int)<=40)<;>simp
def oL_ (l:List TOp):Bool:=(!decide (fG_ l<l.length))&&(decide ((l.length:Int)<=40) && !(bC_ (eI_ l)==[]))
def co_ (e:ar_):Bool:=inn e.version 0 100000&&cond (e.kind==1) ((e.base==0)&&(decide (e.ops.length=0) && !(bC_ e.doc==[]))) (cond (e.kind==2) (oL_ e.ops&&(inn e.base 0 (W (e.version - 1))&&jR_ e.doc)) false)
def pt_ (e:ar_):Prop:=gk_ 6 e.doc/\kk_ e.ops
theorem jy_ (e:ar_):ar_.mk e.kind e.version e.base e.doc e.ops=e:=rfl
theorem size_ok (l:List TOp):decide (eP_ l>=0)=((!decide (fG_ l<l.length)) && !(bC_ (eI_ l)==[])):=by
 unfold eP_;cases decide (fG_ l<l.length) with
 |true=>rfl
 |false=>
  cases hs:(bC_ (eI_ l)==[]) with
  |true=>rfl
  |false=>simp only [cond_false,Bool.not_false,Bool.and_true];exact decide_eq_true (by omega)
theorem iw_ {e:ar_}(h:pt_ e):Ev (fun n _=>ed_ n e) (co_ e):=by refine ak_ ?_;simp only [ed_,aM_,gl_,ag_,ab_ (eC_ h.1),ab_ (jq_ h.2),ab_ lM_,ac_,po_,co_,oL_];generalize inn e.version 0 100000=a1;generalize (e.kind==1)=a2;generalize (e.kind==2)=a3;generalize (e.base==0)=a4;generalize decide (e.ops.length=0)=a5;generalize decide (fG_ e.ops<e.ops.length)=a6;generalize decide ((e.ops.length:Int)<=40)=a7;generalize (bC_ (eI_ e.ops)==[])=a8;generalize (bC_ e.doc==[])=a9;generalize inn e.base 0 (W (e.version - 1))=b1;generalize jR_ e.doc=b2;cases a1<;>cases a2<;>cases a3<;>cases a4<;>simp only [cond_true,cond_false,Bool.not_true,Bool.not_false,Bool.false_and,Bool.true_and,reduceCtorEq,false_implies,true_implies,true_and,and_true,implies_true];all_goals (cases a5<;>cases a6<;>cases a7<;>cases a8<;>cases a9<;>cases b1<;>cases b2<;>simp)
theorem k6_ {n:Int}:Ev (fun m _=>dt_ m n) (inn n 0 100000):=ak_ (by simp only [dt_,hd_,ac_])
theorem iN_ {e:ar_}(h:pt_ e):Ev (fun n _=>ei_ n e) (co_ e):=by refine ak_ ?_;simp only [ei_,aM_,hd_,ag_,ab_ k6_,ab_ (e3_ h.1),ab_ jw_,ab_ (k7_ h.2),ac_,po_,size_ok,co_,oL_];generalize inn e.version 0 100000=a1;generalize (e.kind==1)=a2;generalize (e.kind==2)=a3;generalize (e.base==0)=a4;generalize decide (e.ops.length=0)=a5;generalize decide (fG_ e.ops<e.ops.length)=a6;generalize decide ((e.ops.length:Int)<=40)=a7;generalize (bC_ (eI_ e.ops)==[])=a8;generalize (bC_ e.doc==[])=a9;generalize inn e.base 0 (W (e.version - 1))=b1;generalize jR_ e.doc=b2;cases a1<;>cases a2<;>cases a3<;>cases a4<;>simp only [cond_true,cond_false,Bool.not_true,Bool.not_false,Bool.false_and,Bool.true_and,reduceCtorEq,false_implies,true_implies,true_and,and_true,implies_true];all_goals (cases a5<;>cases a6<;>cases a7<;>cases a8<;>cases a9<;>cases b1<;>cases b2<;>simp)
theorem hx_ {x:Int}(m : -9223372036854775808<=x)(k:x<=9223372036854775807):Ev (fun n _=>eE_ n x) (Lib.itoa x):=by refine ak_ ?_;have:=pW_ m k;simp only [eE_,ab_ this,ac_]
def n1_ (v:Int):Bs:=([105,100,58,32]++Lib.itoa v)++[10]
def fQ_ (v:Int)(d:Bs):Bs:=((([101,118,101,110,116,58,32,115,110,97,112,10]++n1_ v)++[100,97,116,97,58,32])++d)++[10,10]
def fp_ (v b:Int)(d:Bs):Bs:=((((([101,118,101,110,116,58,32,112,97,116,99,104,10]++n1_ v)++[98,97,115,101,58,32])++Lib.itoa b)++[10,100,97,116,97,58,32])++d)++[10,10]
def a0_ (e:ar_):Bs:=cond (co_ e) (cond (e.kind==1) (fQ_ e.version (bC_ e.doc)) (fp_ e.version e.base (bC_ (eI_ e.ops)))) []
theorem f9_ (j:aa_):(bC_ j).length<=6000:=by
 unfold bC_;cases bU_ j with
 |false=>exact Nat.zero_le _
 |true=>
  simp only [cond_true];cases h:decide (((FEnc 6 j).length:Int) > 6000) with
  |true=>exact Nat.zero_le _
  |false=>have:=of_decide_eq_false h;simp only [cond_false];omega
structure EvIs (e:ar_):Prop where
 ver:0<=e.version/\e.version<=100000
 base:(e.kind==1)=false->0<=e.base/\e.base<=100000
 ops:(e.kind==1)=false->decide (fG_ e.ops<e.ops.length)=false
theorem ev_is {e:ar_}(h:co_ e=true):EvIs e:=by
 unfold co_ at h;rw [Bool.and_eq_true] at h;have u:=gH_ h.1;refine ⟨by omega,fun p => ?_,fun p => ?_⟩;all_goals (
  have k:=h.2;rw [p,cond_false] at k;cases m:(e.kind==2) with
  |false=>rw [m] at k;cases k
  |true=>
   rw [m,cond_true,Bool.and_eq_true,Bool.and_eq_true] at k;have hb:=gH_ k.2.1;rw [W_id (by omega) (by omega)] at hb;unfold oL_ at k;rw [Bool.and_eq_true] at k
   first|(have:=k.1.1;simpa using this)|omega)
theorem hD_ {e:ar_}(h:pt_ e):Ev (fun n _=>ds_ n e) (a0_ e):=by
 refine ak_ ?_;simp only [ds_,aM_,jy_,ab_ (iw_ h),ag_,ac_,a0_];cases I:co_ e with
 |false=>exact ⟨fun _=>rfl,fun h=>(by cases h)⟩
 |true=>
  refine ⟨fun h=>(by cases h),fun _ => ?_⟩;have hi:=ev_is I;have hd:=hi.ver;have m:=Lib.itoa_length_le e.version (by omega) (by omega);cases z:(e.kind==1) with
  |true=>
   have u:=eC_ h.1;have k:=f9_ e.doc;simp only [ab_ (db_ (x:=e.version) (by omega) (by omega)),cond_true,ag_,do_,ab_ u,ac_,fQ_,n1_];generalize Lib.itoa e.version=a at m ⊢;generalize bC_ e.doc=b at k ⊢
   repeat' (first|apply And.intro|intro _)
   all_goals (first|trivial|rfl|(rename_i hc;have hc:=of_decide_eq_false hc;simp only [List.length_append,List.length_cons,List.length_nil] at hc;omega))
  |false=>
   have hb:=hi.base z;have p:=Lib.itoa_length_le e.base (by omega) (by omega);have B:=jq_ h.2;rw [hi.ops z,cond_false] at B;have u:=eC_ (kl_ h.2);have k:=f9_ (eI_ e.ops);simp only [ab_ (db_ (x:=e.version) (by omega) (by omega)),ab_ (db_ (x:=e.base) (by omega) (by omega)),ab_ B,cond_true,cond_false,ag_,do_,ab_ u,ac_,fp_,n1_];generalize Lib.itoa e.version=a at m ⊢;generalize Lib.itoa e.base=c at p ⊢;generalize bC_ (eI_ e.ops)=b at k ⊢
   repeat' (first|apply And.intro|intro _)
   all_goals (first|trivial|rfl|(rename_i hc;have hc:=of_decide_eq_false hc;simp only [List.length_append,List.length_cons,List.length_nil] at hc;omega))
theorem k8_ {e:ar_}(h:pt_ e):Ev (fun n _=>dX_ n e) (a0_ e):=by
 refine ak_ ?_;simp only [dX_,aM_,jy_,ab_ (iN_ h),ag_,ac_,a0_];cases I:co_ e with
 |false=>exact ⟨fun _=>rfl,fun h=>(by cases h)⟩
 |true=>
  refine ⟨fun h=>(by cases h),fun _ => ?_⟩;have hi:=ev_is I;have hd:=hi.ver;have m:=Lib.itoa_length_le e.version (by omega) (by omega);cases z:(e.kind==1) with
  |true=>
   have u:=e3_ h.1;have k:=f9_ e.doc;simp only [ab_ (hx_ (x:=e.version) (by omega) (by omega)),cond_true,ag_,do_,ab_ u,ac_,fQ_,n1_];generalize Lib.itoa e.version=a at m ⊢;generalize bC_ e.doc=b at k ⊢
   repeat' (first|apply And.intro|intro _)
   all_goals (first|trivial|rfl|(rename_i hc;have hc:=of_decide_eq_false hc;simp only [List.length_append,List.length_cons,List.length_nil] at hc;omega))
  |false=>
   have hb:=hi.base z;have p:=Lib.itoa_length_le e.base (by omega) (by omega);have B:=iJ_ h.2;rw [hi.ops z,cond_false] at B;have u:=e3_ (kl_ h.2);have k:=f9_ (eI_ e.ops);simp only [ab_ (hx_ (x:=e.version) (by omega) (by omega)),ab_ (hx_ (x:=e.base) (by omega) (by omega)),ab_ B,cond_true,cond_false,ag_,do_,ab_ u,ac_,fp_,n1_];generalize Lib.itoa e.version=a at m ⊢;generalize Lib.itoa e.base=c at p ⊢;generalize bC_ (eI_ e.ops)=b at k ⊢
   repeat' (first|apply And.intro|intro _)
   all_goals (first|trivial|rfl|(rename_i hc;have hc:=of_decide_eq_false hc;simp only [List.length_append,List.length_cons,List.length_nil] at hc;omega))
theorem ops_right {l:List TOp} (h:bp_ 6 (eI_ l)<=400):l.length<=400:=by have:=gd_ h;simpa [eI_] using this
theorem nW_ {l:List TOp}(h:∀ o ∈ l,OpIn o)(hl:l.length<=400):Ev (fun n _=>ch_ n (eI_ l)) (l,true):=by
 refine ak_ ?_;simp only [ch_,eI_];have:=eR_ (fun i=>l.take i) l.length (fun n N i (o:List TOp)=>ch_.loop4 n (fun B2 B3 B4 B5 B6 B7=>(some (B7,(B2==4)))) N (l.map cN_) ((l.map cN_).length:Int) (i:Int) 4 0 [] (l.map cN_) [] o) (l,true) (fun i hi F p => ?_) ?_
 . exact this
 . have m:=h _ (bB_ TOp.dflt hi)
   have k:i<(l.map cN_).length:=by simpa using hi
   have e:(l.map cN_).getD i aa_.dflt=eZ_ (l.getD i TOp.dflt):=by rw [<-m.val,List.getD_eq_getElem?_getD,List.getElem?_map,List.getD_eq_getElem?_getD,List.getElem?_eq_getElem hi];rfl
   rw [cz_ TOp.dflt hi] at p;simp only [ch_.turn4,ch_.step4,aM_,Int.toNat_natCast,cD_ k,cond_true,a2_,cb_ k,true_and,e,ab_ (nb_ m),Bool.not_true,cond_false,a6_,W_up hi (show l.length<=b9_ by simp only [b9_];omega)];exact ⟨by simp;omega,p⟩
 . have e:decide ((l.length:Int)<((l.map cN_).length:Int))=false:=by simp
   simp only [List.take_length,ch_.turn4,ch_.step4,e,cond_false,ac_];rfl
def FCut (s:Bs):Bs×Bs:=if Lib.indexByte s 10<0 then (s,[]) else (s.take (Lib.indexByte s 10).toNat,s.drop ((Lib.indexByte s 10).toNat+1))
theorem idx_le:∀ (s:Bs),Lib.indexByte s 10<(s.length:Int)\/s=[]
 |[]=>.inr rfl
 |b::l=>by
  left;unfold Lib.indexByte;split
  . simp only [List.length_cons];omega
  . split
    . simp only [List.length_cons];omega
    . rcases idx_le l with h|h
      . simp only [List.length_cons];omega
      . subst h;rename_i m k;exact absurd (by rfl) k
theorem Cut_ev {s:Bs}(hs:s.length<=4194304):Ev (fun n _=>(eV_ n s [10])) ((FCut s).1,(FCut s).2,decide (0<=Lib.indexByte s 10)):=by
 have m:=Lib.indexByte_ge s 10;have p:Ev (fun n _=>ca_ n s [10]) (Lib.indexByte s 10):=ak_ (by simp only [ca_,sN_,ac_]);have z:Ev (fun n _=>cm_ n s [10]) ((FCut s).1,(FCut s).2,decide (0<=Lib.indexByte s 10)):=by
  refine ak_ ?_;simp only [cm_,ab_ p,ag_,eH_,ac_];unfold FCut;refine ⟨fun h => ?_,fun h => ?_⟩
  . have h:=of_decide_eq_true h
    have k:Lib.indexByte s 10<(s.length:Int):=by
     rcases idx_le s with h|h
     . exact h
     . subst h;rename_i B;exact absurd B (by decide)
    have u:W (Lib.indexByte s 10+(([10]:Bs).length:Int))=Lib.indexByte s 10+1:=W_id (by show _<=Lib.indexByte s 10+1;omega) (by show Lib.indexByte s 10+1<_;omega);rw [u,if_neg (by omega),decide_eq_true (show 0<=Lib.indexByte s 10 by omega)];have e1:(Lib.indexByte s 10+1).toNat=(Lib.indexByte s 10).toNat+1:=by omega
    rw [e1];simp only [Int.toNat_natCast,List.take_length,List.drop_zero];exact ⟨by omega,by omega,trivial⟩
  . have h:=of_decide_eq_false h
    rw [if_pos (by omega),decide_eq_false (show ¬ 0<=Lib.indexByte s 10 by omega)]
 exact ak_ (by simp only [eV_,ab_ z,ac_])
theorem idx_app:∀ {a:Bs}(b:Bs),(∀ c ∈ a,c≠10)->Lib.indexByte (a++10::b) 10=(a.length:Int)
 |[],b,_=>rfl
 |c::a,b,h=>by have hc:=h c (List.mem_cons_self ..);have ih:=idx_app b fun x hx=>h x (List.mem_cons_of_mem _ hx);have e:(c==10)=false:=beq_eq_false_iff_ne.2 hc;rw [List.cons_append,Lib.indexByte,e,ih,if_neg (by simp),if_neg (by simp<;>omega),List.length_cons];omega
theorem cut_app {a:Bs}(b:Bs)(h:∀ c ∈ a,c≠10):FCut (a++10::b)=(a,b):=by
 unfold FCut;rw [idx_app b h,if_neg (by omega),Int.toNat_natCast,List.take_left];have:(a++10::b).drop (a.length+1)=b:=by rw [<-List.drop_drop,List.drop_left];rfl
 rw [this]
def FTrim (p s:Bs):Bs:=cond (pfx p s) (s.drop p.length) s
theorem sv_ (p s:Bs):FTrim p (p++s)=s:=by unfold FTrim;rw [jI_,List.drop_left];rfl
theorem field_ev {s p:Bs}(hs:s.length<=4194304):Ev (fun n _=>d1_ n s p) (FTrim p (FCut s).1,(FCut s).2):=by refine ak_ ?_;simp only [d1_,ab_ (Cut_ev hs),ab_ kx_,ac_,FTrim]
theorem iP_ {p a b:Bs}(k:∀ c ∈ p,c≠10)(ha:∀ c ∈ a,c≠10) (hs:(p++(a++10::b)).length<=4194304):Ev (fun n _=>d1_ n (p++(a++10::b)) p) (a,b):=by
 have e:p++(a++10::b)=(p++a)++10::b:=by simp
 have h:=field_ev (p:=p) hs;rw [e] at h ⊢;rw [cut_app b (fun c hc=>by rcases List.mem_append.1 hc with h|h;exact k c h;exact ha c h),sv_] at h;exact h
abbrev tSnap:Bs:=[101,118,101,110,116,58,32,115,110,97,112,10]
abbrev n6_:Bs:=[101,118,101,110,116,58,32,112,97,116,99,104,10]
abbrev tId:Bs:=[105,100,58,32]
abbrev kK_:Bs:=[98,97,115,101,58,32]
abbrev fJ_:Bs:=[100,97,116,97,58,32]
theorem j9_ (v:Int)(d:Bs):fQ_ v d=tSnap++(tId++(Lib.itoa v++10::(fJ_++(d++10::[10])))):=by simp [fQ_,n1_]
theorem i9_ (v b:Int)(d:Bs):fp_ v b d=n6_++(tId++(Lib.itoa v++10::(kK_++(Lib.itoa b++10::(fJ_++(d++10::[10])))))):=by simp [fp_,n1_]
structure SnapIs (e:ar_):Prop where
 ver:0<=e.version/\e.version<=100000
 base:e.base=0
 ops:e.ops=[]
 doc:bC_ e.doc≠[]
structure PatchIs (e:ar_):Prop where
 ver:0<=e.version/\e.version<=100000
 base:0<=e.base/\e.base<=100000
 doc:e.doc=gi_
 ops:∀ o ∈ e.ops,OpIn o
 enc:bC_ (eI_ e.ops)≠[]
 len:e.ops.length<=400
theorem gK_ {e:ar_}(h:co_ e=true):(e.kind=1/\SnapIs e)\/(e.kind=2/\PatchIs e):=by
 have hi:=ev_is h;unfold co_ at h;rw [Bool.and_eq_true] at h;have k:=h.2;cases u:(e.kind==1) with
 |true=>
  rw [u,cond_true] at k;simp only [Bool.and_eq_true,Bool.not_eq_true',beq_iff_eq,decide_eq_true_eq,beq_eq_false_iff_ne] at k;exact .inl ⟨by simpa using u,hi.ver,k.1,List.eq_nil_of_length_eq_zero k.2.1,k.2.2⟩
 |false=>
  rw [u,cond_false] at k;cases m:(e.kind==2) with
  |false=>rw [m] at k;cases k
  |true=>
   rw [m,cond_true] at k;unfold oL_ at k;simp only [Bool.and_eq_true,Bool.not_eq_true',decide_eq_true_eq,decide_eq_false_iff_not,beq_eq_false_iff_ne] at k;obtain ⟨⟨b1,b2,b3⟩,b4,b5⟩:=k;have p:=lE_ b3;refine .inr ⟨by simpa using m,hi.ver,hi.base u,p5_ b5,fun o B=>op_in ?_,b3,ops_right p.1⟩;intro z;have:e.ops.findIdx (fun o=>(cN_ o).kind==0)<e.ops.length:=List.findIdx_lt_length_of_exists ⟨o,B,by rw [z];rfl⟩;exact b1 this
theorem gZ_ {e:ar_}(h:co_ e=true)(k:e.kind=1):a0_ e=fQ_ e.version (bC_ e.doc):=by unfold a0_;rw [h,k];rfl
theorem go_ {e:ar_}(h:co_ e=true)(k:e.kind=2):a0_ e=fp_ e.version e.base (bC_ (eI_ e.ops)):=by unfold a0_;rw [h,k];rfl
theorem ld_ {j:aa_}(h:bC_ j≠[]):∀ c ∈ bC_ j,c≠10:=by obtain ⟨m,k,_⟩:=lE_ h;rw [k];exact enc_nl 6 j m
theorem jg_ {e:ar_}(h:co_ e=true):(a0_ e).length<=10000:=by
 rcases gK_ h with ⟨k,hs⟩|⟨k,hs⟩
 . rw [gZ_ h k,j9_]
   have:=f9_ e.doc;have:=Lib.itoa_length_le e.version (by have:=hs.ver;omega) (by have:=hs.ver;omega);simp only [List.length_append,List.length_cons,List.length_nil];omega
 . rw [go_ h k,i9_]
   have:=f9_ (eI_ e.ops);have:=Lib.itoa_length_le e.version (by have:=hs.ver;omega) (by have:=hs.ver;omega);have:=Lib.itoa_length_le e.base (by have:=hs.base;omega) (by have:=hs.base;omega);simp only [List.length_append,List.length_cons,List.length_nil];omega
theorem qZ_ {e:ar_}(h:co_ e=true):a0_ e≠[]:=by
 rcases gK_ h with ⟨k,hs⟩|⟨k,hs⟩
 . rw [gZ_ h k,j9_];intro e;cases e
 . rw [go_ h k,i9_];intro e;cases e
theorem pU_ {n:Int}(p:0<=n)(k:n<=100000):Ev (fun m _=>dg_ m (Lib.itoa n)) (n,true):=by have hl:=Lib.itoa_length_le n (by omega) (by omega);have:=sp_ (s:=Lib.itoa n) (by omega);rw [iU_ (by omega) (by omega)] at this;exact this
theorem lV_ {e:ar_}(h:co_ e=true):Ev (fun n _=>eg_ n (a0_ e)) e:=by
 have m:=jg_ h;refine ak_ ?_;rcases gK_ h with ⟨u,hs⟩|⟨u,hs⟩
 . rw [gZ_ h u,j9_] at m ⊢
   simp only [List.length_append] at m;have z:=hs.ver;have f1:=iP_ (p:=tId) (a:=Lib.itoa e.version) (b:=fJ_++(bC_ e.doc++10::[10])) (by decide) (hu_ _) (by simp only [List.length_append];omega);have f2:=iP_ (p:=fJ_) (a:=bC_ e.doc) (b:=[10]) (by decide) (ld_ hs.doc) (by simp only [List.length_append,List.length_cons] at m ⊢;omega);simp only [eg_,aM_,ab_ i3_,jI_,cond_true,List.drop_left,ab_ f1,ab_ f2,ab_ (pU_ z.1 z.2),ab_ (iO_ hs.doc),ac_];obtain ⟨k,v,b,d,o⟩:=e;have e1:=hs.base;have e2:=hs.ops;simp only at e1 e2 u;rw [e1,e2,u]
 . rw [go_ h u,i9_] at m ⊢
   simp only [List.length_append] at m;have z:=hs.ver;have hb:=hs.base;have f1:=iP_ (p:=tId) (a:=Lib.itoa e.version) (b:=kK_++(Lib.itoa e.base++10::(fJ_++(bC_ (eI_ e.ops)++10::[10])))) (by decide) (hu_ _) (by simp only [List.length_append];omega);have f2:=iP_ (p:=kK_) (a:=Lib.itoa e.base) (b:=fJ_++(bC_ (eI_ e.ops)++10::[10])) (by decide) (hu_ _) (by simp only [List.length_append,List.length_cons] at m ⊢;omega);have f3:=iP_ (p:=fJ_) (a:=bC_ (eI_ e.ops)) (b:=[10]) (by decide) (ld_ hs.enc) (by simp only [List.length_append,List.length_cons] at m ⊢;omega);have I:∀ t,pfx [101,118,101,110,116,58,32,115,110,97,112,10] (n6_++t)=false:=fun t=>rfl;have B:∀ t,cond (pfx [101,118,101,110,116,58,32,112,97,116,99,104,10] (n6_++t)) ((n6_++t).drop ([101,118,101,110,116,58,32,112,97,116,99,104,10]:Bs).length) (n6_++t)=t:=fun t=>sv_ n6_ t;simp only [eg_,aM_,ab_ i3_,I,cond_false,ab_ kx_,B,ab_ f1,ab_ f2,ab_ f3,ab_ (pU_ z.1 z.2),ab_ (pU_ hb.1 hb.2),ab_ (iO_ hs.enc),ab_ (nW_ hs.ops hs.len),ac_];obtain ⟨k,v,b,d,o⟩:=e;have e1:=hs.doc;simp only at e1 u;rw [e1,u];rfl
abbrev zeroE:ar_:=ar_.mk 0 0 0 (aa_.mk 0 0 [] [] []) []
theorem ps_ {e:ar_}(h:co_ e=true):pt_ e:=by
 rcases gK_ h with ⟨m,hs⟩|⟨m,hs⟩
 . refine ⟨cQ_ 6 _ (lE_ hs.doc).1,?_⟩
   rw [hs.ops];exact ⟨Nat.zero_le _,fun o h=>(by cases h)⟩
 . refine ⟨?_,by have:=hs.len;omega,fun o k=>sV_ (hs.ops o k)⟩
   rw [hs.doc];exact fP_ 6
theorem ko_ {e:ar_}(h:co_ e=true):Ev (fun n _=>dd_ n (a0_ e)) (e,true):=by have k:(a0_ e==[])=false:=beq_eq_false_iff_ne.2 (qZ_ h);refine ak_ ?_;simp only [dd_,aM_,jy_,ab_ (lV_ h),ab_ (k8_ (ps_ h)),k,beq_self_eq_true,Bool.not_true,cond_false,ac_]
end Go.Pi
