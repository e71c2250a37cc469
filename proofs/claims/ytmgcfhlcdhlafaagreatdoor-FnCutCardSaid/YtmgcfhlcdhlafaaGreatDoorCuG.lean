/- FnCut: of a drawn text that is cut into pieces the pieces together are it, each as long as wanted, but at the end. No condition. Text 7 of 8. -/
import Derived.Test.YtmgcfhlcdhlafaaGreatDoorCuF
set_option linter.unusedVariables false
set_option maxRecDepth 100000
set_option linter.unusedSimpArgs false
namespace Go.Pi
section
variable {n6:Int}
theorem ta_ {j:aa_} (h:bI_ 6 j<=400) {i:Nat} (hi:i<j.list.length):bI_ 6 (j.list.getD i aa_.dflt)<=400:=by have:=iz_ h (b2_ aa_.dflt hi);rw [lD_ 5 _ this];exact this
theorem ops_uni {s:Bs} {t6 a b c d e:Int} {f:Bs} {t40 t41 t42 t43 t44:Int} {t45:Bs} {t5:List Bs} {t46:List aa_} {t47:List Bs} {j:aa_} (V:bI_ 6 j<=400) :
  ∀ (m i:Nat) (o:List TOp),i+m=j.list.length->(∀ x ∈ o,fW_ x)->o.length<=4000+i->∃ M,
    (∀ n R,M<=n->M<=R->∀ k,ad_.loop20 n k R s t6 (i:Int) a b c d e f t40 t41 t42 t43 t44 t45 t5 j.kind j.n_ j.s t46 t47 o j.list j.names=some (zeroE,false)) \/
    ∃ o',o'.length<=o.length+m/\(∀ x ∈ o',fW_ x)/\∀ n R,M<=n->M<=R->∀ k,ad_.loop20 n k R s t6 (i:Int) a b c d e f t40 t41 t42 t43 t44 t45 t5 j.kind j.n_ j.s t46 t47 o j.list j.names=k s t6 a b c d e f t40 t41 t42 t43 t44 t45 t5 t46 t47 o':=by
 have hll:=eZ_ V;intro m;induction m with
 |zero=>
  intro i o hi S _;have e:i=j.list.length:=by omega
  subst e;refine ⟨1,.inr ⟨o,Nat.le_refl _,S,fun n R _ z k => ?_⟩⟩;obtain ⟨R,rfl⟩:∃ m,R=m+1:=⟨R - 1,by omega⟩
  simp only [ad_.turn20,ad_.step20,co_,cond_false]
 |succ m ih=>
  intro i o hi S Z;have p:i<j.list.length:=by omega
  obtain ⟨v,⟨M1,J⟩,Y⟩:=lY_ (ta_ V p);have hW:=W_up p (show j.list.length<=cf_ by simp only [cf_];omega);have hr:(o.length+1)*112<=140737488355328:=by omega
  cases hq:v.2 with
  |false=>
   refine ⟨max M1 1,.inl fun n R I z k => ?_⟩;obtain ⟨R,rfl⟩:∃ m,R=m+1:=⟨R - 1,by omega⟩
   simp only [ad_.turn20,ad_.step20,aY_,Int.toNat_natCast,cE_ p,cond_true,jR_ p,J n n (by omega) (by omega),Option.bind_some,hq,Bool.not_false]
  |true=>
   obtain ⟨M2,T⟩:=ih (i+1) (o++[v.1]) (by omega) (r4_ S Y) (by simp;omega);refine ⟨max M1 (M2+1),?_⟩;have u:∀ n R,max M1 (M2+1)<=n->max M1 (M2+1)<=R->∀ k,∃ R',M2<=R'/\ad_.loop20 n k R s t6 (i:Int) a b c d e f t40 t41 t42 t43 t44 t45 t5 j.kind j.n_ j.s t46 t47 o j.list j.names=ad_.loop20 n k R' s t6 ((i+1:Nat):Int) a b c d e f t40 t41 t42 t43 t44 t45 t5 j.kind j.n_ j.s t46 t47 (o++[v.1]) j.list j.names:=by
    intro n R I z k;obtain ⟨R,rfl⟩:∃ m,R=m+1:=⟨R - 1,by omega⟩
    refine ⟨R,by omega,?_⟩;have O:(o.length+[v.1].length)*112<=140737488355328:=hr;simp only [ad_.turn20,ad_.step20,aY_,hK_,Int.toNat_natCast,cE_ p,cond_true,jR_ p,J n n (by omega) (by omega),Option.bind_some,hq,Bool.not_true,cond_false,jH_ O,hW]
   rcases T with T|⟨o',g1,g2,g3⟩
   . refine .inl fun n R I z k => ?_
     obtain ⟨R',U,e⟩:=u n R I z k;rw [e];exact T n R' (by omega) U k
   . refine .inr ⟨o',by simp at g1;omega,g2,fun n R I z k => ?_⟩
     obtain ⟨R',U,e⟩:=u n R I z k;rw [e];exact g3 n R' (by omega) U k
theorem ops_any {K:Nat->Nat->ad_.K20} {Q:aC_ × Bool->Prop} {s:Bs} {t6 a b c d e:Int} {f:Bs} {t40 t41 t42 t43 t44:Int} {t45:Bs} {t5:List Bs} {t46:List aa_} {t47:List Bs} {j:aa_} (m:bI_ 6 j<=400) {o:List TOp} (z:∀ x ∈ o,fW_ x) (u:o.length<=4000)
  (hz:Q (zeroE,false)) (J:∀ o',o'.length<=o.length+400->(∀ x ∈ o',fW_ x)->Ans (fun n N=>K n N s t6 a b c d e f t40 t41 t42 t43 t44 t45 t5 t46 t47 o') Q) :
  Ans (fun n N=>ad_.loop20 n (K n N) n s t6 0 a b c d e f t40 t41 t42 t43 t44 t45 t5 j.kind j.n_ j.s t46 t47 o j.list j.names) Q:=by
 have I:=eZ_ m;obtain ⟨M,h|⟨o',g1,g2,g3⟩⟩:=ops_uni (s:=s) (t6:=t6) (a:=a) (b:=b) (c:=c) (d:=d) (e:=e) (f:=f) (t40:=t40) (t41:=t41) (t42:=t42) (t43:=t43) (t44:=t44) (t45:=t45) (t5:=t5) (t46:=t46) (t47:=t47) m j.list.length 0 o (by omega) z (by omega)
 . exact ⟨_,⟨M,fun n N k _=>h n n k k _⟩,hz⟩
 . obtain ⟨v,p,hq⟩:=J o' (by omega) g2
   exact ⟨v,o3_ M (fun n N k=>g3 n n k k _) p,hq⟩
theorem ops_exact {s:Bs} {t6 a b c d e:Int} {f:Bs} {t40 t41 t42 t43 t44:Int} {t45:Bs} {t5:List Bs} {t46:List aa_} {t47:List Bs} {l:List TOp} (hl:l.length<=400) (h:∀ o ∈ l,OpIn o) :
  ∀ (m i:Nat),i+m=l.length->∃ M,∀ n R,M<=n->M<=R->∀ k,ad_.loop20 n k R s t6 (i:Int) a b c d e f t40 t41 t42 t43 t44 t45 t5 4 0 [] t46 t47 (l.take i) (l.map cK_) []=k s t6 a b c d e f t40 t41 t42 t43 t44 t45 t5 t46 t47 l:=by
 intro m;induction m with
 |zero=>
  intro i hi;have e:i=l.length:=by omega
  subst e;have e:decide ((l.length:Int)<((l.map cK_).length:Int))=false:=by simp
  refine ⟨1,fun n R _ T k => ?_⟩;obtain ⟨R,rfl⟩:∃ m,R=m+1:=⟨R - 1,by omega⟩
  simp only [List.take_length,ad_.turn20,ad_.step20,e,cond_false]
 |succ m ih=>
  intro i hi;have p:i<l.length:=by omega
  have J:=h _ (b2_ TOp.dflt p);have u:i<(l.map cK_).length:=by simpa using p
  have e:(l.map cK_).getD i aa_.dflt=eD_ (l.getD i TOp.dflt):=by rw [<-J.val,List.getD_eq_getElem?_getD,List.getElem?_map,List.getD_eq_getElem?_getD,List.getElem?_eq_getElem p];rfl
  obtain ⟨M1,I⟩:=lX_ J;obtain ⟨M2,O⟩:=ih (i+1) (by omega);have S:=W_up p (show l.length<=cf_ by simp only [cf_];omega);refine ⟨max M1 (M2+1),fun n R U T k => ?_⟩;obtain ⟨R,rfl⟩:∃ m,R=m+1:=⟨R - 1,by omega⟩
  have z:((l.take i).length+[l.getD i TOp.dflt].length)*112<=140737488355328:=by simp;omega
  rw [cH_ TOp.dflt p] at O;simp only [ad_.turn20,ad_.step20,aY_,hK_,Int.toNat_natCast,cE_ u,cond_true,jR_ u,e,I n n (by omega) (by omega),Option.bind_some,Bool.not_true,cond_false,jH_ z,S];exact O n R (by omega) (by omega) k
theorem ops_enc {K:Nat->Nat->ad_.K20} {F:aC_ × Bool} {s:Bs} {t6 a b c d e:Int} {f:Bs} {t40 t41 t42 t43 t44:Int} {t45:Bs} {t5:List Bs} {t46:List aa_} {t47:List Bs} {l:List TOp} (hl:l.length<=400) (h:∀ o ∈ l,OpIn o)
  (m:Ev (fun n N=>K n N s t6 a b c d e f t40 t41 t42 t43 t44 t45 t5 t46 t47 l) F) :
  Ev (fun n N=>ad_.loop20 n (K n N) n s t6 0 a b c d e f t40 t41 t42 t43 t44 t45 t5 4 0 [] t46 t47 [] (l.map cK_) []) F:=by
 obtain ⟨M,hM⟩:=ops_exact (s:=s) (t6:=t6) (a:=a) (b:=b) (c:=c) (d:=d) (e:=e) (f:=f) (t40:=t40) (t41:=t41) (t42:=t42) (t43:=t43) (t44:=t44) (t45:=t45) (t5:=t5) (t46:=t46) (t47:=t47) hl h l.length 0 (by omega);exact o3_ M (fun n N k=>hM n n k k _) m
end
section
variable {K:Nat->ad_.K5} {s:Bs} {a b c d e:Int} {f:Bs}
theorem lines_any {Q:aC_ × Bool->Prop} {L:List Bs} (Y:L.length<=4194304) (I:∀ y ∈ L,y.length<=4194304) (hz:Q (zeroE,false))
  (U:∀ t40 t41 t42 (j:aa_) o,fx_ 6 j->o.length<=4000->(∀ x ∈ o,fW_ x)->Ans (fun n _=>K n s a b c d e f t40 t41 t42 j.kind j.n_ j.s j.list j.names o) Q) :
  Ans (fun n _=>ad_.loop5 n (K n) n s 0 a b c d e f 0 0 0 0 0 [] L [] [] []) Q:=by
 refine gk_ (σ:=Nat × Int × Int × Int × aa_ × List TOp) (fun n N st=>ad_.loop5 n (K n) N s (st.1:Int) a b c d e f st.2.1 st.2.2.1 st.2.2.2.1 st.2.2.2.2.1.kind st.2.2.2.2.1.n_ st.2.2.2.2.1.s L st.2.2.2.2.1.list st.2.2.2.2.1.names st.2.2.2.2.2) (fun st=>6 - st.1)
  (fun st=>st.1<=6/\fx_ 6 st.2.2.2.2.1/\st.2.2.2.2.2.length<=400*st.1/\∀ x ∈ st.2.2.2.2.2,fW_ x) _ (fun st S ih => ?_) (0,0,0,0,g8_,[]) ⟨Nat.zero_le _,ev_ 6,Nat.zero_le _,fun y h=>(by cases h)⟩
 obtain ⟨i,t40,t41,t42,j,o⟩:=st;simp only at S ih ⊢;obtain ⟨h1,u,Z,p⟩:=S;have m:=U t40 t41 t42 j o u (by omega) p;simp only [ad_.turn5,ad_.step5,aY_,Int.toNat_natCast,bj_];refine ⟨fun z=>⟨fun T => ?_,fun _=>m⟩,fun _=>m⟩;have z:=of_decide_eq_true z;have T:=of_decide_eq_true T;have hi:i<L.length:=by omega
 have O:W ((i:Int)+1)=((i+1:Nat):Int):=by rw [W_id (by omega) (by omega)];omega
 have V:=I _ (b2_ [] hi);have b1:=mV_ (L.getD i []) [105,100,58,32];have b2:=mV_ (L.getD i []) [98,97,115,101,58,32];have b3:=mV_ (L.getD i []) [100,97,116,97,58,32];simp only [eN_,ch_ hi,true_and,O,bj_,bg_ hc_];have k:∀ t40 t41 t42 j o',fx_ 6 j->o'.length<=o.length+400->(∀ x ∈ o',fW_ x)->Ans (fun n N=>ad_.loop5 n (K n) N s ((i+1:Nat):Int) a b c d e f t40 t41 t42 j.kind j.n_ j.s L j.list j.names o') Q :=
  fun t40 t41 t42 j o' g1 g2 g3=>ih (i+1,t40,t41,t42,j,o') ⟨by simp only;omega,g1,by simp only;omega,g3⟩ (by simp only;omega)
 refine ⟨fun _=>k _ _ _ j o u (by omega) p,fun _=>⟨fun _=>k _ _ _ j o u (by omega) p,fun _=>⟨fun _ => ?_,fun _=>⟨fun _ => ?_,fun _=>⟨fun _ => ?_,fun _=>k _ _ _ j o u (by omega) p⟩⟩⟩⟩⟩
 . exact az_ (nQ_ (by omega)) fun v _=>k _ _ _ j o u (by omega) p
 . exact az_ (nQ_ (by omega)) fun v _=>k _ _ _ j o u (by omega) p
 . refine az_ (l0_ (by omega)) fun v J => ?_
   simp only [bj_];refine ⟨fun _=>k _ _ _ v.1 o (dl_ 6 _ J) (by omega) p,fun _ => ?_⟩;exact ops_any J p (by omega) hz fun o' g1 g2=>by simp only [O];exact k _ _ _ j o' u g1 g2
end
theorem jE_ {s:Bs} (hs:s.length<=4194304):Ans (fun n _=>ad_ n s) (sM_ s):=by
 obtain ⟨l1,l2⟩:=mj_ s [] 4194304 (by simpa using hs);refine ci_ ?_;simp only [ad_,bg_ (hI_ hs)];refine lines_any (by omega) l2 (.inl rfl) fun t40 t41 t42 j o g1 g2 g3 => ?_;have p:oO_ (aC_.mk t40 t41 t42 j o):=⟨g1,by show o.length<=4000000;omega,g3⟩
 simp only [ej_,bj_,aX_,bg_ (fD_ p)];refine ⟨fun _=>.inl rfl,fun m=>⟨fun _=>.inl rfl,fun k=>.inr ⟨rfl,text_ok ?_,by simpa using k⟩⟩⟩;have k:cQ_ (aC_.mk t40 t41 t42 j o)=s:=by simpa using k
 rw [k];exact fun e=>by rw [e] at m;cases m
section
variable {K:Nat->ad_.K5} {s:Bs} {a b c d e:Int} {f:Bs} {F:aC_ × Bool} {t40 t41 t42 t43 t44:Int} {t45:Bs} {L:List Bs} {t46:List aa_} {t47:List Bs} {t48:List TOp} {i:Nat}
theorem jL_ {a c:UInt8} (h:c≠a) (p t:Bs):d9_ (c::t) (a::p)=[]:=by unfold d9_;rw [pM_ h];rfl
theorem line_snap (hi:i<L.length) (p:i<6) (hl:L.getD i []=[101,118,101,110,116,58,32,115,110,97,112])
  (h:Ev (fun n N=>ad_.loop5 n (K n) N s ((i+1:Nat):Int) a b c d e f 1 t41 t42 t43 t44 t45 L t46 t47 t48) F) :
  Ev (fun n N=>ad_.loop5 n (K n) N s (i:Int) a b c d e f t40 t41 t42 t43 t44 t45 L t46 t47 t48) F:=by
 have m:W ((i:Int)+1)=((i+1:Nat):Int):=by rw [W_id (by omega) (by omega)];omega
 have k:decide ((i:Int)<6)=true:=decide_eq_true (by omega);refine a8_ ?_;simp only [ad_.turn5,ad_.step5,Int.toNat_natCast,cE_ hi,k,cond_true,bc_,ch_ hi,true_and,m,hl,beq_self_eq_true];exact h
theorem tc_ (hi:i<L.length) (p:i<6) (hl:L.getD i []=[101,118,101,110,116,58,32,112,97,116,99,104])
  (h:Ev (fun n N=>ad_.loop5 n (K n) N s ((i+1:Nat):Int) a b c d e f 2 t41 t42 t43 t44 t45 L t46 t47 t48) F) :
  Ev (fun n N=>ad_.loop5 n (K n) N s (i:Int) a b c d e f t40 t41 t42 t43 t44 t45 L t46 t47 t48) F:=by
 have m:W ((i:Int)+1)=((i+1:Nat):Int):=by rw [W_id (by omega) (by omega)];omega
 have k:decide ((i:Int)<6)=true:=decide_eq_true (by omega);have c1:(([101,118,101,110,116,58,32,112,97,116,99,104]:Bs) == [101,118,101,110,116,58,32,115,110,97,112])=false:=rfl;refine a8_ ?_;simp only [ad_.turn5,ad_.step5,Int.toNat_natCast,cE_ hi,k,cond_true,cond_false,bc_,ch_ hi,true_and,m,hl,c1,beq_self_eq_true];exact h
theorem oE_ {c a:UInt8} (h:c≠a) (p t:Bs):((c::t:Bs) == (a::p))=false:=beq_eq_false_iff_ne.2 fun e=>h (List.cons.inj e).1
theorem itoa_ne (n:Int):(Lib.itoa n == [])=false:=by obtain ⟨c,t,e,_⟩:=h9_ n;rw [e];rfl
theorem line_id {v:Int} (m:0<=v) (k:v<=100000) (hi:i<L.length) (I:i<6) (hl:L.getD i []=tId++Lib.itoa v)
  (h:Ev (fun n N=>ad_.loop5 n (K n) N s ((i+1:Nat):Int) a b c d e f t40 v t42 t43 t44 t45 L t46 t47 t48) F) :
  Ev (fun n N=>ad_.loop5 n (K n) N s (i:Int) a b c d e f t40 t41 t42 t43 t44 t45 L t46 t47 t48) F:=by
 have z:W ((i:Int)+1)=((i+1:Nat):Int):=by rw [W_id (by omega) (by omega)];omega
 have u:decide ((i:Int)<6)=true:=decide_eq_true (by omega);have c1:∀ p,(tId++Lib.itoa v == (101::p))=false:=fun p=>oE_ (by decide) p _;have c3:d9_ (tId++Lib.itoa v) [105,100,58,32]=Lib.itoa v:=iL_ tId _;have c4:=itoa_ne v;refine a8_ ?_;simp only [ad_.turn5,ad_.step5,Int.toNat_natCast,cE_ hi,u,cond_true,cond_false,bc_,ch_ hi,true_and,z,hl,c1,ab_ hc_,c3,c4,Bool.not_false,ab_ (nP_ m k)];exact h
theorem line_base {v:Int} (m:0<=v) (k:v<=100000) (hi:i<L.length) (I:i<6) (hl:L.getD i []=le_++Lib.itoa v)
  (h:Ev (fun n N=>ad_.loop5 n (K n) N s ((i+1:Nat):Int) a b c d e f t40 t41 v t43 t44 t45 L t46 t47 t48) F) :
  Ev (fun n N=>ad_.loop5 n (K n) N s (i:Int) a b c d e f t40 t41 t42 t43 t44 t45 L t46 t47 t48) F:=by
 have z:W ((i:Int)+1)=((i+1:Nat):Int):=by rw [W_id (by omega) (by omega)];omega
 have u:decide ((i:Int)<6)=true:=decide_eq_true (by omega);have c1:∀ p,(le_++Lib.itoa v == (101::p))=false:=fun p=>oE_ (by decide) p _;have c2:d9_ (le_++Lib.itoa v) [105,100,58,32]=[]:=jL_ (by decide) _ _;have c3:d9_ (le_++Lib.itoa v) [98,97,115,101,58,32]=Lib.itoa v:=iL_ le_ _;have c4:=itoa_ne v;have c5:(!(([]:Bs) == []))=false:=rfl;refine a8_ ?_;simp only [ad_.turn5,ad_.step5,Int.toNat_natCast,cE_ hi,u,cond_true,cond_false,bc_,ch_ hi,true_and,z,hl,c1,ab_ hc_,c2,c3,c4,c5,Bool.not_false,ab_ (nP_ m k)];exact h
theorem line_data {j:aa_} (m:bC_ j≠[]) (hi:i<L.length) (z:i<6) (hl:L.getD i []=fB_++bC_ j)
  (h:Ev (fun n N=>ad_.loop5 n (K n) N s ((i+1:Nat):Int) a b c d e f 1 t41 t42 j.kind j.n_ j.s L j.list j.names t48) F) :
  Ev (fun n N=>ad_.loop5 n (K n) N s (i:Int) a b c d e f 1 t41 t42 t43 t44 t45 L t46 t47 t48) F:=by
 have u:W ((i:Int)+1)=((i+1:Nat):Int):=by rw [W_id (by omega) (by omega)];omega
 have k:decide ((i:Int)<6)=true:=decide_eq_true (by omega);have c1:∀ p,(fB_++bC_ j == (101::p))=false:=fun p=>oE_ (by decide) p _;have c2:d9_ (fB_++bC_ j) [105,100,58,32]=[]:=jL_ (by decide) _ _;have c6:d9_ (fB_++bC_ j) [98,97,115,101,58,32]=[]:=jL_ (by decide) _ _;have c3:d9_ (fB_++bC_ j) [100,97,116,97,58,32]=bC_ j:=iL_ fB_ _;have c4:(bC_ j == [])=false:=beq_eq_false_iff_ne.2 m;have c5:(!(([]:Bs) == []))=false:=rfl;have c7:((1:Int) == 1)=true:=rfl;refine a8_ ?_;simp only [ad_.turn5,ad_.step5,Int.toNat_natCast,cE_ hi,k,cond_true,cond_false,bc_,ch_ hi,true_and,u,hl,c1,ab_ hc_,c2,c3,c4,c5,c6,c7,Bool.not_false,ab_ (h2_ m)];exact h
theorem line_ops {l:List TOp} (m:bC_ (et_ l)≠[]) (I:l.length<=400) (z:∀ o ∈ l,OpIn o) (hi:i<L.length) (J:i<6) (hl:L.getD i []=fB_++bC_ (et_ l))
  (h:Ev (fun n N=>ad_.loop5 n (K n) N s ((i+1:Nat):Int) a b c d e f 2 t41 t42 t43 t44 t45 L t46 t47 l) F) :
  Ev (fun n N=>ad_.loop5 n (K n) N s (i:Int) a b c d e f 2 t41 t42 t43 t44 t45 L t46 t47 []) F:=by
 have u:W ((i:Int)+1)=((i+1:Nat):Int):=by rw [W_id (by omega) (by omega)];omega
 have k:decide ((i:Int)<6)=true:=decide_eq_true (by omega);have c1:∀ p,(fB_++bC_ (et_ l) == (101::p))=false:=fun p=>oE_ (by decide) p _;have c2:d9_ (fB_++bC_ (et_ l)) [105,100,58,32]=[]:=jL_ (by decide) _ _;have c6:d9_ (fB_++bC_ (et_ l)) [98,97,115,101,58,32]=[]:=jL_ (by decide) _ _;have c3:d9_ (fB_++bC_ (et_ l)) [100,97,116,97,58,32]=bC_ (et_ l):=iL_ fB_ _;have c4:(bC_ (et_ l) == [])=false:=beq_eq_false_iff_ne.2 m;have c5:(!(([]:Bs) == []))=false:=rfl;have c7:((2:Int) == 1)=false:=rfl;refine a8_ ?_;simp only [ad_.turn5,ad_.step5,Int.toNat_natCast,cE_ hi,k,cond_true,cond_false,bc_,ch_ hi,true_and,u,hl,c1,ab_ hc_,c2,c3,c4,c5,c6,c7,Bool.not_false,ab_ (h2_ m)];exact ops_enc I z (by simp only [u];exact h)
theorem sc_ (hi:i<L.length) (u:i<6) (hl:L.getD i []=[])
  (h:Ev (fun n N=>ad_.loop5 n (K n) N s ((i+1:Nat):Int) a b c d e f t40 t41 t42 t43 t44 t45 L t46 t47 t48) F) :
  Ev (fun n N=>ad_.loop5 n (K n) N s (i:Int) a b c d e f t40 t41 t42 t43 t44 t45 L t46 t47 t48) F:=by
 have m:W ((i:Int)+1)=((i+1:Nat):Int):=by rw [W_id (by omega) (by omega)];omega
 have k:decide ((i:Int)<6)=true:=decide_eq_true (by omega);have c1:∀ (a:UInt8) p,(([]:Bs) == (a::p))=false:=fun a p=>rfl;have c2:∀ (a:UInt8) p,d9_ [] (a::p)=[]:=fun a p=>rfl;have c5:(!(([]:Bs) == []))=false:=rfl;refine a8_ ?_;simp only [ad_.turn5,ad_.step5,Int.toNat_natCast,cE_ hi,k,cond_true,cond_false,bc_,ch_ hi,true_and,m,hl,c1,ab_ hc_,c2,c5];exact h
theorem sd_ (hi:i=L.length) (h:Ev (fun n _=>K n s a b c d e f t40 t41 t42 t43 t44 t45 t46 t47 t48) F) :
  Ev (fun n N=>ad_.loop5 n (K n) N s (i:Int) a b c d e f t40 t41 t42 t43 t44 t45 L t46 t47 t48) F:=by
 subst hi;refine a8_ ?_;simp only [ad_.turn5,ad_.step5,co_,cond_false];exact h
end
theorem tb_ (v:Int) {d:Bs} (hd:∀ c ∈ d,c≠10):e2_ [] (fs_ v d)=[[101,118,101,110,116,58,32,115,110,97,112],tId++Lib.itoa v,fB_++d,[]]:=by
 have e:fs_ v d=[101,118,101,110,116,58,32,115,110,97,112]++10::((tId++Lib.itoa v)++10::((fB_++d)++10::([]++10::[]))):=by simp [fs_,nu_]
 have m:∀ c ∈ tId++Lib.itoa v,c≠10:=fun c hc=>by rcases List.mem_append.1 hc with h|h;exact (show ∀ c ∈ tId,c≠10 by decide) c h;exact jg_ v c h
 have k:∀ c ∈ fB_++d,c≠10:=fun c hc=>by rcases List.mem_append.1 hc with h|h;exact (show ∀ c ∈ fB_,c≠10 by decide) c h;exact hd c h
 rw [e,fp_ [] _ _ (by decide),fp_ [] _ _ m,fp_ [] _ _ k,fp_ [] _ _ (by decide)];rfl
theorem q4_ (v b:Int) {d:Bs} (hd:∀ c ∈ d,c≠10):e2_ [] (e1_ v b d)=[[101,118,101,110,116,58,32,112,97,116,99,104],tId++Lib.itoa v,le_++Lib.itoa b,fB_++d,[]]:=by
 have e:e1_ v b d=[101,118,101,110,116,58,32,112,97,116,99,104]++10::((tId++Lib.itoa v)++10::((le_++Lib.itoa b)++10::((fB_++d)++10::([]++10::[])))):=by simp [e1_,nu_]
 have p:∀ c ∈ tId++Lib.itoa v,c≠10:=fun c hc=>by rcases List.mem_append.1 hc with h|h;exact (show ∀ c ∈ tId,c≠10 by decide) c h;exact jg_ v c h
 have k:∀ c ∈ le_++Lib.itoa b,c≠10:=fun c hc=>by rcases List.mem_append.1 hc with h|h;exact (show ∀ c ∈ le_,c≠10 by decide) c h;exact jg_ b c h
 have m:∀ c ∈ fB_++d,c≠10:=fun c hc=>by rcases List.mem_append.1 hc with h|h;exact (show ∀ c ∈ fB_,c≠10 by decide) c h;exact hd c h
 rw [e,fp_ [] _ _ (by decide),fp_ [] _ _ p,fp_ [] _ _ k,fp_ [] _ _ m,fp_ [] _ _ (by decide)];rfl
theorem jD_ {e:aC_} (h:c9_ e=true):Ev (fun n _=>ad_ n (cQ_ e)) (e,true):=by
 have u:=kH_ h;have p:(cQ_ e == [])=false:=beq_eq_false_iff_ne.2 (qo_ h);have z:=fD_ (si_ h);refine am_ ?_;simp only [ad_,ab_ (hI_ (s:=cQ_ e) (by omega))];rcases jY_ h with ⟨m,hs⟩|⟨m,hs⟩
 . have hl:=tb_ e.version (o4_ hs.doc)
   rw [<-hw_ h m] at hl;rw [hl];refine cX_ (line_snap (i:=0) (by simp only [List.length_cons,List.length_nil];omega) (by decide) rfl (line_id hs.ver.1 hs.ver.2 (by simp only [List.length_cons,List.length_nil];omega) (by decide) rfl (line_data hs.doc (by simp only [List.length_cons,List.length_nil];omega) (by decide) rfl (sc_ (by simp only [List.length_cons,List.length_nil];omega) (by decide) rfl (sd_ rfl ?_)))));have ee:aC_.mk 1 e.version 0 e.doc []=e:=by obtain ⟨k,v,b,d,o⟩:=e;have e1:=hs.base;have e2:=hs.ops;simp only at e1 e2 m;rw [e1,e2,m]
   simp only [ej_,ee,p,cond_false,ab_ z,beq_self_eq_true,Bool.not_true,ae_]
 . have hl:=q4_ e.version e.base (o4_ hs.enc)
   rw [<-gS_ h m] at hl;rw [hl];refine cX_ (tc_ (i:=0) (by simp only [List.length_cons,List.length_nil];omega) (by decide) rfl (line_id hs.ver.1 hs.ver.2 (by simp only [List.length_cons,List.length_nil];omega) (by decide) rfl (line_base hs.base.1 hs.base.2 (by simp only [List.length_cons,List.length_nil];omega) (by decide) rfl (line_ops hs.enc hs.len hs.ops (by simp only [List.length_cons,List.length_nil];omega) (by decide) rfl (sc_ (by simp only [List.length_cons,List.length_nil];omega) (by decide) rfl (sd_ rfl ?_))))));have ee:aC_.mk 2 e.version e.base (aa_.mk 0 0 [] [] []) e.ops=e:=by obtain ⟨k,v,b,d,o⟩:=e;have e1:=hs.doc;simp only at e1 m;rw [e1,m];rfl
   simp only [ee,p,cond_false,ab_ z,beq_self_eq_true,Bool.not_true,ae_]
theorem i4_ {s:Bs} (hs:s.length<=4194304):∃ x,sM_ s x/\Ev (fun n _=>ad_ n s) x/\Ev (fun n _=>cU_ n s) x:=by
 obtain ⟨x,k,m⟩:=jV_ hs;obtain ⟨y,g1,g2⟩:=jE_ hs;rcases m with rfl|⟨a1,a2,a3⟩
 . rcases g2 with rfl|⟨b1,b2,b3⟩
   . exact ⟨_,.inl rfl,g1,k⟩
   . have:=jU_ b2
     rw [b3] at this;have e:=congrArg Prod.snd ((dK_ k).1 this);cases e
 . have:=jD_ a2
   rw [a3] at this;refine ⟨x,.inr ⟨a1,a2,a3⟩,?_,k⟩;rw [<-a1] at this;exact this
theorem pu_:∀ {l:List Bs} {c:Nat},(∀ x ∈ l,x.length<=c)->eF_ szB l<=l.length*c
 |[],_,_=>Nat.zero_le _
 |x::l,c,h=>by have:=pu_ (l:=l) fun y k=>h y (List.mem_cons_of_mem _ k);have:=h x (List.mem_cons_self ..);simp only [eF_,szB,List.length_cons,Nat.add_mul] at *;omega
theorem sl_:∀ (d:Nat) (j:aa_),bI_ d j<=400->aa_.size j<=50000*bI_ d j
 |0,j,h=>by simp only [bI_] at h;omega
 |d+1,j,h=>by
  obtain ⟨p,hs⟩:=d8_ h;have hl:=eZ_ h;have T:=fV_ h;have m:∀ l:List aa_,(∀ x ∈ l,bI_ d x<=400)->eF_ aa_.size l<=50000*eF_ (bI_ d) l:=by
   intro l;induction l with
   |nil=>intro _;exact Nat.zero_le _
   |cons x l ih=>
    intro hx;have S:=sl_ d x (hx x (List.mem_cons_self ..));have U:=ih fun y z=>hx y (List.mem_cons_of_mem _ z);simp only [eF_];omega
  have S:=m j.list fun x hx=>by have:=i5_ (bI_ d) hx;omega
  have k:FOwn j=true:=by
   simp only [bI_] at h;cases O:FOwn j with
   |true=>rfl
   |false=>rw [O,cond_false] at h;omega
  have I:j.s.length<=60:=by
   unfold FOwn at k;simp only [Bool.and_eq_true,Bool.or_eq_true] at k;rcases k.2.2.2.1 with e|e
   . have:j.s=[]:=by simpa using e
     rw [this];exact Nat.zero_le _
   . exact p.text (by simpa using e)
  have J:eF_ szB j.names<=j.names.length*60:=pu_ fun x hx=>by
   by_cases u:j.kind=5
   . obtain ⟨i,hi,e⟩:=List.mem_iff_getElem.1 hx
     have:=iM_ (p.obj u).2 hi;rw [List.getD_eq_getElem?_getD,List.getElem?_eq_getElem hi,Option.getD_some,e] at this;exact this
   . have:j.names.length=0:=by
      unfold FOwn at k;simp only [Bool.and_eq_true,Bool.or_eq_true] at k;rcases k.2.1 with e|e
      . exact of_decide_eq_true e
      . exact absurd (by simpa using e) u
     rw [List.eq_nil_of_length_eq_zero this] at hx;cases hx
  have e:=aa_.size_eq j;unfold fS_ at e;rw [hs];omega
abbrev iE_ (s:Bs):Int:=Lib.index s [10,10]
def FEnd (s:Bs):Int:=if iE_ s = -1 then -1 else iE_ s+2
theorem sp_ (x:UInt8):iE_ [x] = -1:=by unfold iE_;rw [k3_,if_neg (by simp)];rfl
theorem qa_ (x y:UInt8) (l:Bs):iE_ (x::y::l)=if x=10/\y=10 then 0 else if iE_ (y::l) = -1 then -1 else iE_ (y::l)+1:=by
 unfold iE_;rw [k3_];by_cases h:x=10/\y=10
 . rw [if_pos h,if_pos (by simpa using h)]
 . rw [if_neg h,if_neg (by simpa using h)]
theorem mF_ (s:Bs) : -1<=iE_ s:=Lib.index_ge s [10,10]
theorem idx2_lt:∀ (s:Bs),iE_ s = -1\/iE_ s+2<=(s.length:Int)
 |[]=>.inl rfl
 |[x]=>.inl (sp_ x)
 |x::y::l=>by
  rw [qa_];by_cases h:x=10/\y=10
  . rw [if_pos h];right;simp only [List.length_cons];omega
  . rw [if_neg h]
    rcases idx2_lt (y::l) with e|e
    . rw [if_pos e];exact .inl rfl
    . have:=mF_ (y::l)
      by_cases e2:iE_ (y::l) = -1
      . rw [if_pos e2];exact .inl rfl
      . rw [if_neg e2];right;simp only [List.length_cons] at e ⊢;omega
theorem end_pos {s:Bs} (h:¬ FEnd s<0):2<=FEnd s/\FEnd s<=(s.length:Int):=by
 unfold FEnd at h ⊢;have:=mF_ s;by_cases e:iE_ s = -1
 . rw [if_pos e] at h;exact absurd (by decide) h
 . rw [if_neg e]
   rcases idx2_lt s with g|g
   . exact absurd g e
   . omega
theorem nd_ {s:Bs} (hs:s.length<=1000000000):Ev (fun n _=>b5_ n s) (FEnd s):=by
 have S:∀ c:UInt8,((c.toNat:Int) == 10)=decide (c=10):=fun c=>k8_ c 10 10 rfl;refine am_ ?_;simp only [b5_];have J:∀ (m i:Nat),i+m=s.length->1<=i->Ev (fun n N=>b5_.loop3 n (some (-1)) N s (i:Int)) (if iE_ (s.drop (i - 1)) = -1 then -1 else iE_ (s.drop (i - 1))+(i:Int)+1):=by
  intro m;induction m with
  |zero=>
   intro i hi V;have e:i=s.length:=by omega
   subst e;have hd:=ds_ 0 (show s.length - 1<s.length by omega);rw [show s.length - 1+1=s.length by omega,List.drop_length] at hd;refine a8_ ?_;simp only [b5_.turn3,b5_.step3,co_,cond_false,ae_];rw [hd,sp_,if_pos rfl]
  |succ m ih=>
   intro i hi V;have u:i<s.length:=by omega
   have hd:=ds_ 0 (show i - 1<s.length by omega);have I:=ds_ 0 u;rw [show i - 1+1=i by omega,I] at hd;have p:=ih (i+1) (by omega) (by omega);rw [show i+1 - 1=i by omega,I] at p;have U:W ((i:Int)+1)=((i+1:Nat):Int):=by rw [W_id (by omega) (by omega)];omega
   have O:W ((i:Int) - 1)=((i - 1:Nat):Int):=by rw [W_id (by omega) (by omega)];omega
   refine a8_ ?_;simp only [b5_.turn3,b5_.step3,cE_ u,cond_true,bc_,ch_ u,ch_ (show i - 1<s.length by omega),true_and,Int.toNat_natCast,U,O,S,al_,ae_];rw [hd,qa_];generalize s.getD i 0=y at p ⊢;generalize s.getD (i - 1) 0=x at p ⊢;generalize s.drop (i+1)=l at p ⊢;have T:=mF_ (y::l);have k:¬ (x=10/\y=10)->Ev (fun n N=>b5_.loop3 n (some (-1)) N s ((i+1:Nat):Int)) (if (if x=10/\y=10 then (0:Int) else if iE_ (y::l) = -1 then -1 else iE_ (y::l)+1) = -1 then -1 else (if x=10/\y=10 then (0:Int) else if iE_ (y::l) = -1 then -1 else iE_ (y::l)+1)+(i:Int)+1):=by
    intro hc;rw [if_neg hc];by_cases e:iE_ (y::l) = -1
    . rw [if_pos e] at p ⊢;rw [if_pos rfl];exact p
    . rw [if_neg e] at p ⊢
      rw [if_neg (by omega),show iE_ (y::l)+1+(i:Int)+1=iE_ (y::l)+((i+1:Nat):Int)+1 by omega];exact p
   refine ⟨fun z=>⟨fun hx => ?_,fun hx=>k fun h => ?_⟩,fun z=>k fun h => ?_⟩
   . have hx:=of_decide_eq_true hx
     have z:=of_decide_eq_true z;rw [if_pos (show x=10/\y=10 from ⟨hx,z⟩),if_neg (by decide)];omega
   . exact of_decide_eq_false hx h.1
   . exact of_decide_eq_false z h.2
 cases s with
 |nil=>exact cX_ (f:=fun n N=>b5_.loop3 n (some (-1)) N [] 1) (a8_ ⟨0,fun _ _ _ _=>rfl⟩)
 |cons c l=>
  have:=J l.length 1 (by simp;omega) (Nat.le_refl _);have e:(if iE_ ((c::l).drop (1 - 1)) = -1 then -1 else iE_ ((c::l).drop (1 - 1))+((1:Nat):Int)+1)=FEnd (c::l):=by
   show (if iE_ (c::l) = -1 then -1 else iE_ (c::l)+((1:Nat):Int)+1)=_;unfold FEnd;split
   . rfl
   . omega
  rw [e] at this;exact cX_ (f:=fun n N=>b5_.loop3 n (some (-1)) N (c::l) ((1:Nat):Int)) this
theorem lf_ {s:Bs} (hs:s.length<=1000000000):Ev (fun n _=>strings_Index n s [10,10]) (iE_ s):=am_ (by
 simp only [strings_Index,oG_,decide_eq_true (show s.length<4294967281 by omega),cond_true,ae_])
noncomputable def FRd (s:Bs):aC_ × Bool:=if h:s.length<=4194304 then Classical.choose (i4_ h) else (zeroE,false)
theorem rd_is {s:Bs} (h:s.length<=4194304):sM_ s (FRd s)/\Ev (fun n _=>ad_ n s) (FRd s)/\Ev (fun n _=>cU_ n s) (FRd s):=by unfold FRd;rw [dif_pos h];exact Classical.choose_spec (i4_ h)
theorem rd_ok {s:Bs} (hs:s.length<=4194304) (h:(FRd s).2=true):c9_ (FRd s).1=true:=by
 rcases (rd_is hs).1 with e|⟨_,g,_⟩
 . rw [e] at h;cases h
 . exact g
noncomputable def FFr:Nat->Bs->aw_ × List aC_
 |0,_=>(aw_.mk [] true,[])
 |m+1,w=>cond (decide (FEnd w<0)) (aw_.mk w false,[]) (cond (FRd (w.take (FEnd w).toNat)).2 ((FFr m (w.drop (FEnd w).toNat)).1,(FRd (w.take (FEnd w).toNat)).1::(FFr m (w.drop (FEnd w).toNat)).2) (aw_.mk [] true,[]))
def FTop (s:aw_):aw_:=cond (s.bad||decide ((s.wait.length:Int) > 14000)) (aw_.mk [] true) s
noncomputable def lq_ (s:aw_) (p:Bs):aw_ × List aC_:=cond s.bad (aw_.mk [] true,[]) (FTop (FFr ((s.wait++p).length+1) (s.wait++p)).1,(FFr ((s.wait++p).length+1) (s.wait++p)).2)
theorem fr_stop {w:Bs} (m:Nat) (h:FEnd w<0):FFr (m+1) w=(aw_.mk w false,[]):=by simp only [FFr];rw [decide_eq_true h];rfl
theorem fr_bad {w:Bs} (m:Nat) (h:¬ FEnd w<0) (hr:(FRd (w.take (FEnd w).toNat)).2=false):FFr (m+1) w=(aw_.mk [] true,[]):=by simp only [FFr];rw [decide_eq_false h,hr];rfl
theorem fr_go {w:Bs} (m:Nat) (h:¬ FEnd w<0) (hr:(FRd (w.take (FEnd w).toNat)).2=true):FFr (m+1) w=((FFr m (w.drop (FEnd w).toNat)).1,(FRd (w.take (FEnd w).toNat)).1::(FFr m (w.drop (FEnd w).toNat)).2):=by simp only [FFr];rw [decide_eq_false h,hr];rfl
theorem fr_len:∀ (m:Nat) (w:Bs),w.length<m->w.length<=4194304->(FFr m w).1.wait.length+(FFr m w).2.length<=w.length/\((FFr m w).1.bad=true->(FFr m w).1.wait=[])/\∀ e ∈ (FFr m w).2,c9_ e=true:=by
 intro m;induction m with
 |zero=>intro w h;omega
 |succ m ih=>
  intro w h u;by_cases k:FEnd w<0
  . rw [fr_stop m k];exact ⟨by simp,fun h=>(by cases h),fun e h=>(by cases h)⟩
  . have z:=end_pos k
    cases hr:(FRd (w.take (FEnd w).toNat)).2
    . rw [fr_bad m k hr];exact ⟨by simp,fun _=>rfl,fun e h=>(by cases h)⟩
    . have hd:(w.drop (FEnd w).toNat).length=w.length - (FEnd w).toNat:=List.length_drop
      have hi:=ih (w.drop (FEnd w).toNat) (by omega) (by omega);rw [fr_go m k hr];refine ⟨by simp only [List.length_cons];omega,hi.2.1,fun e p => ?_⟩;rcases List.mem_cons.1 p with rfl|p
      . exact rd_ok (by simp;omega) hr
      . exact hi.2.2 e p
theorem fd_loops:∀ (m:Nat) (wait:Bs) (out:List aC_),wait.length<m->wait.length<=4194304->out.length+wait.length<=4194304 ->
  Ev (fun n N=>cu_.loop8 n (fun B3 B4 B5 B6 B7 B8=>(cond (decide ((B3.length:Int) > 14000)) (some ((aw_.mk B7 B8),B6)) (some ((aw_.mk B3 false),B6)))) N wait [] false out [] true) (FTop (FFr m wait).1,out++(FFr m wait).2) /\
  Ev (fun n N=>cl_.loop5 n (fun B3 B4 B5 B6 B7=>(cond B4 (some ((aw_.mk [] true),B7)) (some ((aw_.mk B3 false),B7)))) N wait false [] false out) (FTop (FFr m wait).1,out++(FFr m wait).2):=by
 intro m;induction m with
 |zero=>intro wait out h;omega
 |succ m ih=>
  intro wait out hm hw ho;have O:=nd_ (s:=wait) (by omega);have U:=lf_ (s:=wait) (by omega);by_cases p:FEnd wait<0
  . have Z:iE_ wait = -1:=by
     unfold FEnd at p;by_cases e:iE_ wait = -1
     . exact e
     . rw [if_neg e] at p;have:=mF_ wait;omega
    have c1:decide (FEnd wait<0)=true:=decide_eq_true p;have c3:decide (iE_ wait<0)=true:=by rw [Z];rfl
    have eT:(FTop (FFr (m+1) wait).1,out++(FFr (m+1) wait).2)=cond (decide ((wait.length:Int) > 14000)) (aw_.mk [] true,out) (aw_.mk wait false,out):=by rw [fr_stop m p,List.append_nil];unfold FTop;simp only [Bool.false_or];cases decide ((wait.length:Int) > 14000)<;>rfl
    rw [eT];refine ⟨a8_ ?_,a8_ ?_⟩
    . simp only [cu_.turn8,cu_.step8,ab_ O,c1,cond_true,al_,ae_]
      cases decide ((wait.length:Int) > 14000)<;>simp
    . simp only [cl_.turn5,cl_.step5,Bool.not_false,ab_ U,c3,cond_true,al_,ae_]
      cases decide ((wait.length:Int) > 14000)<;>simp
  . have hp:=end_pos p
    have S:iE_ wait ≠ -1:=by intro e;unfold FEnd at p;rw [if_pos e] at p;exact p (by decide)
    have hFE:FEnd wait=iE_ wait+2:=by unfold FEnd;rw [if_neg S]
    have hge:=mF_ wait;have u:=fr_bad m p;have J:=fr_go m p;obtain ⟨k,V⟩:∃ k:Nat,FEnd wait=(k:Int):=⟨(FEnd wait).toNat,by omega⟩
    have Y:W (iE_ wait+2)=(k:Int):=by rw [W_id (by omega) (by omega)];omega
    rw [V] at O;rw [V,Int.toNat_natCast] at u J;have c1:decide ((k:Int)<0)=false:=decide_eq_false (by omega);have c3:decide (iE_ wait<0)=false:=decide_eq_false (by omega);obtain ⟨hx,hs,hi⟩:=rd_is (s:=(wait.take k).drop 0) (by simp;omega);rw [List.drop_zero] at hx;have T:FRd ((wait.take k).drop 0)=FRd (wait.take k):=by rw [List.drop_zero]
    rw [T] at hs hi;cases hq:(FRd (wait.take k)).2 with
    |false=>
     rw [u hq,List.append_nil];have eT:FTop (aw_.mk [] true)=aw_.mk [] true:=rfl;simp only [eT];refine ⟨a8_ ?_,a8_ ?_⟩
     . simp only [cu_.turn8,cu_.step8,ab_ O,c1,cond_false,dQ_,Int.toNat_natCast,ab_ hs,hq,Bool.not_false,cond_true,ae_]
       exact ⟨by omega,trivial⟩
     . simp only [cl_.turn5,cl_.step5,Bool.not_false,ab_ U,c3,Y,cond_true,cond_false,dQ_,Int.toNat_natCast,ab_ hi,hq,ae_]
       exact ⟨by omega,trivial⟩
    |true=>
     have hdl:(wait.drop k).length=wait.length - k:=List.length_drop;obtain ⟨z,I⟩:=ih (wait.drop k) (out++[(FRd (wait.take k)).1]) (by omega) (by omega) (by simp;omega);rw [J hq];rw [List.append_assoc] at z I;refine ⟨a8_ ?_,a8_ ?_⟩
     . simp only [cu_.turn8,cu_.step8,aY_,mL_,ab_ O,c1,cond_false,dQ_,Int.toNat_natCast,ab_ hs,hq,Bool.not_true,ba_,List.take_length]
       exact ⟨by omega,by simp;omega,by omega,z⟩
     . simp only [cl_.turn5,cl_.step5,aY_,mL_,Bool.not_false,ab_ U,c3,Y,cond_true,cond_false,dQ_,Int.toNat_natCast,ab_ hi,hq,Bool.not_true,ba_,List.take_length]
       exact ⟨by omega,by simp;omega,by omega,I⟩
theorem Feed_ev {s:aw_} {p:Bs} (h:s.wait.length+p.length<=4194304):Ev (fun n _=>cu_ n s p) (lq_ s p)/\Ev (fun n _=>cl_ n s p) (lq_ s p):=by
 have k:decide (s.wait.length+p.length<=9223372036854775807)=true:=decide_eq_true (by omega);unfold lq_;cases hb:s.bad with
 |true=>
  refine ⟨am_ ?_,am_ ?_⟩
  . simp only [cu_,hb,cond_true,ae_]
  . simp only [cl_,hb,k,cond_true]
    refine cX_ (f:=fun n N=>cl_.loop5 n (fun B3 B4 B5 B6 B7=>(cond B4 (some ((aw_.mk [] true),B7)) (some ((aw_.mk B3 false),B7)))) N (s.wait++p) true [] false []) (a8_ ?_);simp only [cl_.turn5,cl_.step5,Bool.not_true,cond_false,cond_true,ae_]
 |false=>
  obtain ⟨u,m⟩:=fd_loops ((s.wait++p).length+1) (s.wait++p) [] (by omega) (by simp;omega) (by simp;omega);rw [List.nil_append] at u m;refine ⟨am_ ?_,am_ ?_⟩
  . simp only [cu_,hb,k,cond_true,cond_false]
    exact cX_ u
  . simp only [cl_,hb,k,cond_true,cond_false]
    exact cX_ m
theorem top_len (s:aw_):(FTop s).wait.length<=s.wait.length:=by
 unfold FTop;cases (s.bad||decide ((s.wait.length:Int) > 14000))
 . exact Nat.le_refl _
 . exact Nat.zero_le _
theorem feed_len {s:aw_} {p:Bs} (h:s.wait.length+p.length<=4194304):(lq_ s p).1.wait.length+(lq_ s p).2.length<=s.wait.length+p.length/\∀ e ∈ (lq_ s p).2,c9_ e=true:=by
 unfold lq_;cases s.bad with
 |true=>exact ⟨Nat.zero_le _,fun e h=>(by cases h)⟩
 |false=>
  have m:=fr_len ((s.wait++p).length+1) (s.wait++p) (by omega) (by simp;omega);have u:=top_len (FFr ((s.wait++p).length+1) (s.wait++p)).1;have k:(s.wait++p).length=s.wait.length+p.length:=List.length_append;simp only [cond_false];exact ⟨by omega,m.2.2⟩
noncomputable def fu_:aw_->List Bs->aw_ × List aC_
 |s,[]=>(s,[])
 |s,p::l=>((fu_ (lq_ s p).1 l).1,(lq_ s p).2++(fu_ (lq_ s p).1 l).2)
section
variable {s:aw_} {l:List Bs} (hl:l.length<=1048576) (h:s.wait.length+eF_ szB l<=4194304)
include hl h
theorem tF_:Ev (fun n _=>bE_ n s l) (fu_ s l)/\Ev (fun n _=>bH_ n s l) (fu_ s l):=by
 have u:∀ (m i:Nat) (s:aw_) (out:List aC_),i+m=l.length->out.length+s.wait.length+eF_ szB (l.drop i)<=4194304 ->
   Ev (fun n N=>bE_.loop4 n (fun B2 B3 B4 B5 B6=>(some ((aw_.mk B2 B3),B6))) N l (i:Int) s.wait s.bad [] false out) ((fu_ s (l.drop i)).1,out++(fu_ s (l.drop i)).2) /\
   Ev (fun n N=>bH_.loop4 n (fun B2 B3 B4 B5 B6=>(some ((aw_.mk B2 B3),B6))) N l (l.length:Int) (i:Int) s.wait s.bad [] false out) ((fu_ s (l.drop i)).1,out++(fu_ s (l.drop i)).2):=by
  intro m;induction m with
  |zero=>
   intro i s out hi hb;have e:i=l.length:=by omega
   subst e;rw [List.drop_length];refine ⟨a8_ ?_,a8_ ?_⟩
   . simp only [bE_.turn4,bE_.step4,co_,cond_false,ae_,fu_,List.append_nil]
   . simp only [bH_.turn4,bH_.step4,co_,cond_false,ae_,fu_,List.append_nil]
  |succ m ih=>
   intro i s out hi hb;have k:i<l.length:=by omega
   have z:=W_up k (show l.length<=cf_ by simp only [cf_];omega);rw [jy_ szB [] k] at hb;have I:szB (l.getD i [])=(l.getD i []).length:=rfl;obtain ⟨O,J⟩:=Feed_ev (s:=s) (p:=l.getD i []) (by omega);have y1:=(feed_len (s:=s) (p:=l.getD i []) (by omega)).1;obtain ⟨g1,g2⟩:=ih (i+1) (lq_ s (l.getD i [])).1 (out++(lq_ s (l.getD i [])).2) (by omega) (by rw [List.length_append];omega);rw [List.append_assoc] at g1 g2;rw [ds_ [] k];simp only [fu_];refine ⟨a8_ ?_,a8_ ?_⟩
   . simp only [bE_.turn4,bE_.step4,cE_ k,cond_true,bc_,ch_ k,true_and,Int.toNat_natCast,ab_ O,ba_,z]
     exact ⟨by omega,g1⟩
   . simp only [bH_.turn4,bH_.step4,cE_ k,cond_true,bc_,ch_ k,true_and,Int.toNat_natCast,ab_ J,ba_,z]
     exact ⟨by omega,g2⟩
 obtain ⟨g1,g2⟩:=u l.length 0 s [] (by omega) (by simpa using h);rw [List.drop_zero] at g1 g2;exact ⟨am_ (by simp only [bE_];exact cX_ g1),am_ (by simp only [bH_];exact cX_ g2)⟩
end
structure DwOk (c:af_):Prop where
 lo:0<=c.i
 hi:c.i<=(c.b.length:Int)
 len:c.b.length<=1048576
abbrev and64 (x y:Int):Int:=IntKind.i64.wrap (BitVec.ofInt (IntKind.bits .i64) x &&& BitVec.ofInt (IntKind.bits .i64) y).toNat
theorem sJ_ (x:Int) (m:Nat) (u:m<2 ^ 31):0<=and64 x (m:Int)/\and64 x (m:Int)<=m:=by
 have p:(BitVec.ofInt (IntKind.bits .i64) x &&& BitVec.ofInt (IntKind.bits .i64) (m:Int)).toNat<=m:=by rw [BitVec.toNat_and];refine Nat.le_trans Nat.and_le_right ?_;rw [BitVec.ofInt_natCast,BitVec.toNat_ofNat];exact Nat.mod_le _ _
 show 0<=W _/\W _<=_;generalize (BitVec.ofInt (IntKind.bits .i64) x &&& BitVec.ofInt (IntKind.bits .i64) (m:Int)).toNat=k at p;rw [W_id (by omega) (by omega)];omega
theorem cur_next {c:af_} (h:DwOk c) (k:c.i<(c.b.length:Int)) (z:Int):DwOk (af_.mk c.b (W (c.i+1)) z):=by have p:=h.lo;have m:=h.len;have e:W (c.i+1)=c.i+1:=W_id (by omega) (by omega);exact ⟨by show 0<=W (c.i+1);rw [e];omega,by show W (c.i+1)<=(c.b.length:Int);rw [e];omega,m⟩
theorem cur_same {c:af_} (h:DwOk c) (z:Int):DwOk (af_.mk c.b c.i z):=⟨h.lo,h.hi,h.len⟩
theorem cY_ (c:af_):af_.mk c.b c.i c.h=c:=rfl
theorem mt_ {eQ_:List Int} (hc:eQ_.length<=1048576):Ans (fun n _=>cd_ n eQ_) DwOk:=by
 have p:∀ (m i:Nat) (h:Int),i+m=eQ_.length->Ans (fun n N=>cd_.loop4 n (fun B2 B3=>(some (af_.mk B2 0 B3))) N eQ_ h (i:Int)) DwOk:=by
  intro m;induction m with
  |zero=>
   intro i h hi;have e:i=eQ_.length:=by omega
   subst e;refine cA_ ?_;simp only [cd_.turn4,cd_.step4,co_,cond_false,aX_];exact ⟨Int.le_refl _,by simp,hc⟩
  |succ m ih=>
   intro i h hi;have k:i<eQ_.length:=by omega
   have u:=W_up k (show eQ_.length<=cf_ by simp only [cf_];omega);refine cA_ ?_;simp only [cd_.turn4,cd_.step4,cE_ k,cond_true,bj_,eN_,aX_,u];exact ⟨fun _=>⟨by omega,ih (i+1) _ (by omega)⟩,fun _=>⟨Int.le_refl _,by simp,hc⟩⟩
 refine ci_ ?_;simp only [cd_];exact eu_ (p eQ_.length 0 _ (by omega))
theorem g9_ {c:af_} (hc:DwOk c):Ans (fun n _=>dt_ n c) fun r=>0<=r.1/\r.1<=255/\DwOk r.2:=by
 refine ci_ ?_;simp only [dt_,bj_,eN_,aX_];refine ⟨fun h => ?_,fun _ => ?_⟩
 . have h:=of_decide_eq_true h
   exact ⟨⟨hc.lo,h⟩,(sJ_ _ 255 (by decide)).1,(sJ_ _ 255 (by decide)).2,cur_next hc h _⟩
 . exact ⟨(sJ_ _ 255 (by decide)).1,(sJ_ _ 255 (by decide)).2,cur_same hc _⟩
structure Drawn (n:Int) (r:Int × af_):Prop where
 lo:0<=r.1
 hi:r.1<n\/r.1=0
 cur:DwOk r.2
theorem bs_ {c:af_} {k:Int} (hc:DwOk c):Ans (fun n _=>ao_ n c k) (Drawn k):=by
 refine ci_ ?_;simp only [ao_,bj_,aX_];refine ⟨fun _=>⟨Int.le_refl _,.inr rfl,hc⟩,fun m=>⟨fun J => ?_,fun J => ?_⟩⟩
 . have m:=of_decide_eq_false m
   refine az_ (g9_ hc) fun r hr => ?_;simp only [bj_,sI_,aX_];refine ⟨fun h=>by have:=of_decide_eq_true h;omega,fun _=>⟨Int.tmod_nonneg _ hr.1,.inl (Int.tmod_lt_of_pos _ (by omega)),hr.2.2⟩⟩
 . have m:=of_decide_eq_false m
   refine az_ (g9_ hc) fun r1 z=>az_ (g9_ z.2.2) fun r2 u=>az_ (g9_ u.2.2) fun r3 p=>az_ (g9_ p.2.2) fun r4 I => ?_;simp only [bj_,sI_,aX_];refine ⟨fun h=>by have:=of_decide_eq_true h;omega,fun _ => ?_⟩;obtain ⟨a1,a2,_⟩:=z;obtain ⟨b1,b2,_⟩:=u;obtain ⟨c1,c2,_⟩:=p;obtain ⟨d1,d2,hq⟩:=I;have e1:W (r1.1*16777216)=r1.1*16777216:=W_id (by omega) (by omega);have e2:W (r2.1*65536)=r2.1*65536:=W_id (by omega) (by omega);have e3:W (r3.1*256)=r3.1*256:=W_id (by omega) (by omega);rw [e1,e2,e3,W_id (n:=r1.1*16777216+r2.1*65536) (by omega) (by omega),W_id (n:=r1.1*16777216+r2.1*65536+r3.1*256) (by omega) (by omega),W_id (n:=r1.1*16777216+r2.1*65536+r3.1*256+r4.1) (by omega) (by omega)];exact ⟨Int.tmod_nonneg _ (by omega),.inl (Int.tmod_lt_of_pos _ (by omega)),hq⟩
theorem fH_ {c:af_} {k:Int} (hc:DwOk c):Ans (fun n _=>cD_ n c k) fun r=>DwOk r.2:=by refine ci_ ?_;simp only [cD_];exact az_ (bs_ hc) fun r hr=>aX_.2 hr.cur
theorem fr_ {c:af_} {l:List Int} (hc:DwOk c) (hl:l≠[]):Ans (fun n _=>bJ_ n c l) fun r=>r.1 ∈ l/\DwOk r.2:=by have m:0<l.length:=List.length_pos_iff.2 hl;refine ci_ ?_;simp only [bJ_];refine az_ (bs_ hc) fun r hr => ?_;have k:=hr.lo;have p:=hr.hi;simp only [eN_,aX_];exact ⟨⟨k,by omega⟩,b2_ _ (by omega),hr.cur⟩
theorem iD_ {c:af_} {l:List Bs} (hc:DwOk c) (hl:l≠[]):Ans (fun n _=>dL_ n c l) fun r=>r.1 ∈ l/\DwOk r.2:=by have m:0<l.length:=List.length_pos_iff.2 hl;refine ci_ ?_;simp only [dL_];refine az_ (bs_ hc) fun r hr => ?_;have k:=hr.lo;have p:=hr.hi;simp only [eN_,aX_];exact ⟨⟨k,by omega⟩,b2_ _ (by omega),hr.cur⟩
def tK_ (c:Nat) (q:ay_):Prop:=q.where_.length<=c/\q.show_.length<=c
def hs_ (c:Nat) (r:List TRow):Prop:=r.length<=c/\∀ x ∈ r,x.cells.length<=c
def ku_ (c:Nat) (v:bq_):Prop:=tK_ c v.q/\hs_ c v.rows/\v.kids.length<=c
def lenS (c:Nat) (s:cw_):Prop:=ku_ c s.view/\ku_ c s.last
def gB_ (s:a1_):Bool:=iO_ (fun i=>inn (s.cols.getD i 0) 1 4) s.cols.length&&inn s.cols.length 1 3
theorem hJ_ {s:a1_} (hs:s.cols.length<=cf_):Ev (fun n _=>a5_ n s) (gB_ s):=by
 refine am_ ?_;simp only [a5_];refine e8_ (fun n N i=>a5_.loop3 n _ N (i:Int) s.cols) _ (fun i w hi ih => ?_) ?_
 . simp only [a5_.turn3,a5_.step3,Int.toNat_natCast,al_,bc_,fX_,ae_,W_up hi hs,dK_ ih,cE_ hi,ch_ hi]
   grind
 . simp only [a5_.turn3,a5_.step3,co_,cond_false,fX_,ae_]
def FConds (w:Int) (c:List ca_):Bool:=iO_ (fun i=>inn (c.getD i ca_.dflt).col 0 (W (w - 1))&&(inn (c.getD i ca_.dflt).op 1 4&&inn (c.getD i ca_.dflt).v (-1000000000) 1000000000)) c.length
def FShow (w:Int) (s:List Int):Bool:=iO_ (fun i=>inn (s.getD i 0) 0 (W (w - 1))&&(decide (i=0)||decide (s.getD (i - 1) 0<s.getD i 0))) s.length
def FKids (s:a1_) (q:ay_):Bool:=cond q.kids (inn q.kidTable 0 (W ((s.cols.length:Int) - 1))&&inn q.kidCol 0 (W ((s.cols.getD q.kidTable.toNat 0) - 1))) ((q.kidTable == 0)&&(q.kidCol == 0))
def i3_ (s:a1_) (q:ay_):Bool:=gB_ s&&(inn q.table 0 (W ((s.cols.length:Int) - 1))&&(decide (q.where_.length<=3)&&(FConds (s.cols.getD q.table.toNat 0) q.where_&&(FShow (s.cols.getD q.table.toNat 0) q.show_ &&
 (inn q.order 0 (s.cols.getD q.table.toNat 0)&&(inn q.first 0 24&&(!((q.order == 0)&&q.down)&&FKids s q)))))))
section
variable {w:Int} {cols sh:List Int} {wh:List ca_} {t o f kt kc:Int} {d ks v:Bool}
theorem jB_ {k:Nat->aB_.K7} (hl:wh.length<=cf_) (m:Ev (fun n N=>k n w cols t wh o d f sh ks kt kc) v) :
  Ev (fun n _=>aB_.loop7 n (k n) n w 0 cols t wh o d f sh ks kt kc) (FConds w wh&&v):=by
 refine e8_ (fun n N i=>aB_.loop7 n (k n) N w (i:Int) cols t wh o d f sh ks kt kc) _ (fun i u hi ih => ?_) ?_
 . simp only [aB_.turn7,aB_.step7,Int.toNat_natCast,W_up hi hl,al_,bc_,fX_,ae_,dK_ ih,cE_ hi,ch_ hi]
   clear ih m
   repeat' (first|apply And.intro|intro _)
   all_goals (try rw [Bool.eq_iff_iff])
   all_goals (try simp only [Bool.not_eq_true',Bool.not_eq_false',decide_eq_true_eq,decide_eq_false_iff_not,beq_iff_eq,beq_eq_false_iff_ne,Bool.and_eq_true,Bool.or_eq_true,Bool.and_eq_false_iff,Bool.or_eq_false_iff] at *)
   all_goals grind
 . simp only [aB_.turn7,aB_.step7,co_,cond_false]
   exact m
theorem i8_ {k:Nat->aB_.K16} (hl:sh.length<=cf_) (m:Ev (fun n N=>k n w cols t wh o d f sh ks kt kc) v) :
  Ev (fun n _=>aB_.loop16 n (k n) n w 0 cols t wh o d f sh ks kt kc) (FShow w sh&&v):=by
 refine e8_ (fun n N i=>aB_.loop16 n (k n) N w (i:Int) cols t wh o d f sh ks kt kc) _ (fun i u hi ih => ?_) ?_
 . simp only [aB_.turn16,aB_.step16,Int.toNat_natCast,W_up hi hl,W_dn (i:=i) (by omega),ls_,al_,bc_,fX_,ae_,dK_ ih,cE_ hi,ch_ hi]
   clear ih m
   repeat' (first|apply And.intro|intro _)
   all_goals (try rw [Bool.eq_iff_iff])
   all_goals (try simp only [Bool.not_eq_true',Bool.not_eq_false',decide_eq_true_eq,decide_eq_false_iff_not,beq_iff_eq,beq_eq_false_iff_ne,Bool.and_eq_true,Bool.or_eq_true,Bool.and_eq_false_iff,Bool.or_eq_false_iff] at *)
   all_goals grind
 . simp only [aB_.turn16,aB_.step16,co_,cond_false]
   exact m
end
theorem eS_ {β:Type} {s:a1_} (hs:s.cols.length<=cf_) {g:Nat->Nat->Bool->Option β} {v:β}:Ev (fun n N=>(a5_ n s).bind (g n N)) v↔Ev (fun n N=>g n N (gB_ s)) v:=ab_ (hJ_ hs)
theorem h0_ {s:a1_} {q:ay_} (hs:s.cols.length<=cf_) (hq:tK_ cf_ q):Ev (fun n _=>aB_ n s q) (i3_ s q):=by
 refine am_ ?_;have e:=@W_dn s.cols.length hs;simp only [aB_,eS_ hs,fX_,al_,bc_,ae_];refine ⟨fun h=>by simp at h;simp [i3_,h],fun u=>⟨fun h=>by simp at h;simp [i3_,h],fun m=>⟨fun h=>by simp at h;simp [i3_];grind,fun p=>⟨by simp at m;have:=gP_ m;omega,?_⟩⟩⟩⟩;refine gj_ (jB_ (k:=fun n=>_) hq.1 (i8_ (k:=fun n=>_) (v:=inn q.order 0 (s.cols.getD q.table.toNat 0)&&(inn q.first 0 24&&(!((q.order == 0)&&q.down)&&FKids s q))) hq.2 ?_)) ?_
 . simp only [fX_,al_,bc_,ae_,FKids]
   repeat' (first|apply And.intro|intro _)
   all_goals (try rw [Bool.eq_iff_iff])
   all_goals (try simp only [inn,cond_true,cond_false,Bool.not_eq_true',Bool.not_eq_false',decide_eq_true_eq,decide_eq_false_iff_not,beq_iff_eq,beq_eq_false_iff_ne,Bool.and_eq_true,Bool.or_eq_true,Bool.and_eq_false_iff,Bool.or_eq_false_iff] at *)
   all_goals grind
 . simp [i3_];grind
def gE_ (r:TRow) (col:Int):Int:=cond (inn col 0 (W ((r.cells.length:Int) - 1))) (r.cells.getD col.toNat 0) 0
theorem e3_ {r:TRow} {col:Int} (hr:r.cells.length<=cf_):Ev (fun n _=>bX_ n r col) (gE_ r col):=by
 refine am_ ?_;have e:=@W_dn r.cells.length hr;simp only [bX_,fX_,al_,bc_,ae_,gE_];cases hi:inn col 0 (W ((r.cells.length:Int) - 1)) with
 |false=>simp
 |true=>have:=gP_ hi;exact ⟨fun h=>(by cases h),fun _=>⟨by omega,rfl⟩⟩
theorem iH_ {rows:List TRow} (hr:hs_ cf_ rows) (i:Nat):(rows.getD i TRow.dflt).cells.length<=cf_:=by
 by_cases h:i<rows.length
 . exact hr.2 _ (b2_ _ h)
 . rw [List.getD_eq_getElem?_getD,List.getElem?_eq_none (by omega)];exact Nat.zero_le _
def FCells (c:List Int):Bool:=iO_ (fun i=>inn (c.getD i 0) (-1000000000) 1000000000) c.length
def FRow (s:a1_) (t:Int) (r:TRow):Bool:=gB_ s&&(inn t 0 (W ((s.cols.length:Int) - 1))&&(inn r.id_ 1 999&&(decide ((r.cells.length:Int)=s.cols.getD t.toNat 0)&&FCells r.cells)))
theorem jA_ {s:a1_} {t:Int} {r:TRow} (hs:s.cols.length<=cf_) (hr:r.cells.length<=cf_):Ev (fun n _=>cq_ n s t r) (FRow s t r):=by
 refine am_ ?_;have e:=@W_dn s.cols.length hs;have hl:Ev (fun n _=>cq_.loop6 n (some true) n 0 r.id_ r.cells) (FCells r.cells&&true):=by
  refine e8_ (fun n N i=>cq_.loop6 n (some true) N (i:Int) r.id_ r.cells) _ (fun i u hi ih => ?_) ?_
  . simp only [cq_.turn6,cq_.step6,Int.toNat_natCast,W_up hi hr,al_,bc_,fX_,ae_,dK_ ih,cE_ hi,ch_ hi]
    clear ih
    grind
  . simp only [cq_.turn6,cq_.step6,co_,cond_false,ae_]
 simp only [cq_,eS_ hs,fX_,al_,bc_,ae_,dK_ hl];clear hl
 repeat' (first|apply And.intro|intro _)
 all_goals (try rw [Bool.eq_iff_iff])
 all_goals (try simp only [FRow,inn,bne_iff_ne,bne_eq_false_iff_eq,Bool.not_eq_true',Bool.not_eq_false',decide_eq_true_eq,decide_eq_false_iff_not,beq_iff_eq,beq_eq_false_iff_ne,Bool.and_eq_true,Bool.or_eq_true,Bool.and_eq_false_iff,Bool.or_eq_false_iff] at *)
 all_goals grind
def qH_ (c:ca_) (r:TRow):Bool:=inn c.col 0 (W ((r.cells.length:Int) - 1))&&(cond (c.op == 1) (r.cells.getD c.col.toNat 0 == c.v) (cond (c.op == 2) (decide (r.cells.getD c.col.toNat 0<c.v)) (cond (c.op == 3) (decide (r.cells.getD c.col.toNat 0 > c.v)) (cond (c.op == 4) (r.cells.getD c.col.toNat 0 != c.v) false))))
theorem lP_ {c:ca_} {r:TRow} (hr:r.cells.length<=cf_):Ev (fun n _=>dW_ n c r) (qH_ c r):=by
 refine am_ ?_;have e:=@W_dn r.cells.length hr;simp only [dW_,fX_,al_,bc_,ae_,qH_]
 repeat' (first|apply And.intro|intro _)
 all_goals (try simp only [inn,Bool.not_eq_true',Bool.not_eq_false',decide_eq_true_eq,decide_eq_false_iff_not,Bool.and_eq_true,Bool.and_eq_false_iff] at *)
 all_goals simp_all
 all_goals omega
def gm_ (q:ay_) (r:TRow):Bool:=iO_ (fun i=>qH_ (q.where_.getD i ca_.dflt) r) q.where_.length
theorem h1_ {q:ay_} {r:TRow} (hq:q.where_.length<=cf_) (hr:r.cells.length<=cf_):Ev (fun n _=>bU_ n q r) (gm_ q r):=by
 refine am_ ?_;simp only [bU_];have k:∀ (c:ca_) (g:Nat->Nat->Bool->Option Bool) (v:Bool),Ev (fun n N=>(dW_ n c (TRow.mk r.id_ r.cells)).bind (g n N)) v↔Ev (fun n N=>g n N (qH_ c r)) v:=fun c g v=>ab_ (lP_ hr);refine gj_ (e8_ (fun n N i=>bU_.loop3 n (some true) N (i:Int) q.table q.where_ q.order q.down q.first q.show_ q.kids q.kidTable q.kidCol r.id_ r.cells) (fun i=>qH_ (q.where_.getD i ca_.dflt) r) (len:=q.where_.length) (v:=true) (fun i u hi ih => ?_) ?_) (by rw [Bool.and_true];rfl)
 . simp only [bU_.turn3,bU_.step3,Int.toNat_natCast,W_up hi hq,al_,bc_,k,ae_,dK_ ih,cE_ hi,ch_ hi]
   clear ih k
   grind
 . simp only [bU_.turn3,bU_.step3,co_,cond_false,ae_]
def ga_ (rows:List TRow) (id:Int):Int:=gR_ (fun i x=>cond ((rows.getD i TRow.dflt).id_ == id) (i:Int) x) (-1) rows.length 0
theorem hm_ {rows:List TRow} {id:Int} (hr:rows.length<=cf_):Ev (fun n _=>cm_ n rows id) (ga_ rows id):=by
 refine am_ ?_;simp only [cm_];refine mK_ (fun n N i=>cm_.loop3 n (some (-1)) N rows id (i:Int)) _ (fun i u hi ih => ?_) ?_
 . simp only [cm_.turn3,cm_.step3,Int.toNat_natCast,W_up hi hr,al_,bc_,ae_,dK_ ih,cE_ hi,ch_ hi]
   clear ih
   grind
 . simp only [cm_.turn3,cm_.step3,co_,cond_false,ae_]
def hR_ (q:ay_) (a b:TRow):Bool:=cond (q.order == 0) (decide (a.id_<b.id_)) (cond (gE_ a (W (q.order - 1)) == gE_ b (W (q.order - 1))) (decide (a.id_<b.id_)) (cond q.down (decide (gE_ a (W (q.order - 1)) > gE_ b (W (q.order - 1)))) (decide (gE_ a (W (q.order - 1))<gE_ b (W (q.order - 1))))))
theorem op_ {q:ay_} {a b:TRow} (ha:a.cells.length<=cf_) (hb:b.cells.length<=cf_):Ev (fun n _=>eI_ n q a b) (hR_ q a b):=by refine am_ ?_;simp only [eI_,ab_ (e3_ ha),ab_ (e3_ hb),al_,ae_,hR_];generalize gE_ a (W (q.order - 1))=x;generalize gE_ b (W (q.order - 1))=y;cases hd:q.down<;>grind
def lenRR (c:Nat) (t:List (List TRow)):Prop:=t.length<=c/\∀ x ∈ t,hs_ c x
def fG_ (c:Nat) (s:ax_):Prop:=s.schema.cols.length<=c/\lenRR c s.tables
theorem fY_ {c:Nat} {t:List (List TRow)} (h:∀ x ∈ t,hs_ c x) (i:Nat):hs_ c (t.getD i []):=by
 by_cases hi:i<t.length
 . exact h _ (b2_ [] hi)
 . rw [List.getD_eq_getElem?_getD,List.getElem?_eq_none (by omega)]
   exact ⟨Nat.zero_le _,fun x hx=>by cases hx⟩
theorem iy_ (s:a1_):a1_.mk s.cols=s:=rfl
def rB_ (s:a1_) (t:Int) (rows:List TRow):Bool :=
 iO_ (fun i=>FRow s t (rows.getD i TRow.dflt)&&(decide (i=0)||decide ((rows.getD (i - 1) TRow.dflt).id_<(rows.getD i TRow.dflt).id_))) rows.length&&(gB_ s&&(inn t 0 (W ((s.cols.length:Int) - 1))&&decide ((rows.length:Int)<=24)))
theorem ng_ {s:a1_} {t:Int} {rows:List TRow} (hs:s.cols.length<=cf_) (hr:hs_ cf_ rows):Ev (fun n _=>b7_ n s t rows) (rB_ s t rows):=by
 refine am_ ?_;simp only [b7_];refine e8_ (fun n N i=>b7_.loop3 n _ N t rows (i:Int) s.cols) _ (fun i u hi ih => ?_) ?_
 . simp only [iy_,b7_.turn3,b7_.step3,Int.toNat_natCast,W_up hi hr.1,W_dn (i:=i) (by have:=hr.1;omega),ls_,al_,bc_,ab_ (jA_ (s:=s) (t:=t) (r:=rows.getD i TRow.dflt) hs (iH_ hr i)),ae_,dK_ ih,cE_ hi,ch_ hi]
   clear ih
   repeat' (first|apply And.intro|intro _)
   all_goals (try rw [Bool.eq_iff_iff])
   all_goals (try simp only [Bool.not_eq_true',Bool.not_eq_false',decide_eq_true_eq,decide_eq_false_iff_not,beq_iff_eq,beq_eq_false_iff_ne,Bool.and_eq_true,Bool.or_eq_true,Bool.and_eq_false_iff,Bool.or_eq_false_iff] at *)
   all_goals grind
 . simp only [iy_,b7_.turn3,b7_.step3,co_,cond_false,eS_ (s:=s) hs,fX_,al_,ae_]
   repeat' (first|apply And.intro|intro _)
   all_goals (try simp_all)
def FTables (s:a1_) (t:List (List TRow)):Bool:=iO_ (fun i=>rB_ s (i:Int) (t.getD i [])) t.length
def fA_ (s:ax_):Bool:=gB_ s.schema&&(inn s.version 0 100000&&(decide (s.tables.length=s.schema.cols.length)&&FTables s.schema s.tables))
theorem fm_ {s:ax_} (h:fG_ cf_ s):Ev (fun n _=>bD_ n s) (fA_ s):=by
 refine am_ ?_;have hl:Ev (fun n _=>bD_.loop6 n (some true) n 0 s.schema.cols s.version s.tables) (FTables s.schema s.tables&&true):=by
  refine e8_ (fun n N i=>bD_.loop6 n (some true) N (i:Int) s.schema.cols s.version s.tables) _ (fun i u hi ih => ?_) ?_
  . simp only [iy_,bD_.turn6,bD_.step6,Int.toNat_natCast,W_up hi h.2.1,al_,bc_,ab_ (ng_ (s:=s.schema) (t:=(i:Int)) h.1 (fY_ h.2.2 i)),ae_,dK_ ih,cE_ hi,ch_ hi]
    clear ih
    repeat' (first|apply And.intro|intro _)
    all_goals (try simp_all)
  . simp only [iy_,bD_.turn6,bD_.step6,co_,cond_false,ae_]
 simp only [bD_,eS_ h.1,fX_,al_,ae_,dK_ hl,fA_];clear hl
 repeat' (first|apply And.intro|intro _)
 all_goals (try simp_all)
 all_goals (intros;omega)
section
variable {β:Type} {g:Nat->Nat->List Int->Option β} {gr:Nat->Nat->TRow->Option β} {v:β}
theorem gN_ {r:TRow} (h:r.cells.length<=fj_):Ev (fun n N=>(cC_ n r).bind (gr n N)) v↔Ev (fun n N=>gr n N r) v :=
 ab_ (am_ (by simp only [cC_,ba_,ae_,List.nil_append,and_true];simp only [fj_] at h;simp;omega))
end
theorem mI_ {c:Nat} {rows:List TRow} (hr:hs_ c rows) (i:Nat):(rows.getD i TRow.dflt).cells.length<=c:=by
 by_cases hi:i<rows.length
 . exact hr.2 _ (b2_ TRow.dflt hi)
 . rw [List.getD_eq_getElem?_getD,List.getElem?_eq_none (by omega)]
   exact Nat.zero_le _
theorem p1_ {rows:List TRow} (h:hs_ fj_ rows):Ev (fun n _=>b0_ n rows) rows:=by
 refine am_ ?_;have hl:=h.1;simp only [fj_] at hl;simp only [b0_];refine qn_ TRow.dflt rows id (fun n N i s=>b0_.loop4 n _ N rows (i:Int) s) rows (fun i s hi hs F k => ?_) ?_
 . simp only [b0_.turn4,b0_.step4,Int.toNat_natCast,W_up hi (show rows.length<=cf_ by simp only [cf_];omega),al_,bc_,gN_ (mI_ h i),ba_,cE_ hi,ch_ hi]
   exact ⟨fun _=>⟨trivial,by simp;omega,k⟩,fun h=>by cases h⟩
 . simp only [b0_.turn4,b0_.step4,co_,cond_false,ae_,List.map_id]
theorem nN_ {β:Type} {s:a1_} {g:Nat->Nat->a1_->Option β} {v:β} (h:s.cols.length<=fj_):Ev (fun n N=>(dx_ n s).bind (g n N)) v↔Ev (fun n N=>g n N s) v :=
 ab_ (am_ (by simp only [dx_,ba_,ae_,List.nil_append,and_true];simp only [fj_] at h;simp;omega))
theorem mp_ {s:ax_} (h:fG_ fj_ s):Ev (fun n _=>bA_ n s) s:=by
 refine am_ ?_;have hl:=h.2.1;simp only [fj_] at hl;simp only [bA_,nN_ h.1];refine qn_ [] s.tables id (fun n N i q=>bA_.loop4 n _ N (i:Int) s.schema.cols s.version s.tables 0 s.version s.schema.cols q) s (fun i q hi hs F k => ?_) ?_
 . simp only [bA_.turn4,bA_.step4,Int.toNat_natCast,W_up hi (show s.tables.length<=cf_ by simp only [cf_];omega),al_,bc_,ab_ (p1_ (fY_ h.2.2 i)),ba_,cE_ hi,ch_ hi]
   exact ⟨fun _=>⟨trivial,by simp;omega,k⟩,fun h=>by cases h⟩
 . simp only [bA_.turn4,bA_.step4,co_,cond_false,ae_,List.map_id]
theorem ob_ (rows:List TRow) (id:Int):ga_ rows id=if rows.findIdx (fun r=>r.id_ == id)<rows.length then (rows.findIdx (fun r=>r.id_ == id):Int) else -1:=gQ_ TRow.dflt (fun r=>r.id_ == id) rows
def kb_ (rows:List TRow) (id:Int):List TRow:=rows.eraseIdx (rows.findIdx (fun r=>r.id_ == id))
def il_ (rows:List TRow) (at_ i:Nat):List TRow:=(rows.take i).eraseIdx at_
theorem rj_ {rows:List TRow} {i:Nat} (h:i<rows.length):il_ rows i (i+1)=il_ rows i i:=by
 unfold il_;rw [cH_ TRow.dflt h];have e:(rows.take i).length=i:=by rw [List.length_take];omega
 rw [List.eraseIdx_of_length_le (l:=rows.take i) (by omega),List.eraseIdx_append_of_length_le (by omega),e,Nat.sub_self];simp
theorem qq_ {rows:List TRow} {at_ i:Nat} (h:i<rows.length) (k:i≠at_):il_ rows at_ (i+1)=il_ rows at_ i++[rows.getD i TRow.dflt]:=by
 unfold il_;rw [cH_ TRow.dflt h];have e:(rows.take i).length=i:=by rw [List.length_take];omega
 by_cases m:at_<i
 . rw [List.eraseIdx_append_of_lt_length (by omega)]
 . rw [List.eraseIdx_of_length_le (l:=rows.take i) (by omega),List.eraseIdx_of_length_le (by simp;omega)]
theorem ts_ {rows:List TRow} {at_ i:Nat}:(il_ rows at_ i).length<=rows.length:=by unfold il_;have:=List.length_eraseIdx_le (rows.take i) at_;rw [List.length_take] at this;omega
theorem gq_ {rows:List TRow} {id:Int} (h:hs_ fj_ rows):Ev (fun n _=>bm_ n rows id) (kb_ rows id):=by
 refine am_ ?_;have hl:=h.1;simp only [fj_] at hl;have ht:rows.length<=cf_:=by simp only [cf_];omega
 simp only [bm_,ab_ (hm_ (rows:=rows) (id:=id) ht)];obtain ⟨p,z⟩:∃ p,p=rows.findIdx (fun r=>r.id_ == id):=⟨_,rfl⟩
 have k:∀ i:Nat,i<rows.length->(((i:Int) != ga_ rows id)=true↔i≠p):=fun i hi=>by rw [ob_,<-z,bne_iff_ne];split<;>omega
 have m:kb_ rows id=il_ rows p rows.length:=by unfold kb_ il_;rw [List.take_length,z]
 rw [m];refine eO_ (fun i=>il_ rows p i) rows.length (fun n N i s=>bm_.loop5 n (fun B3=>some B3) N rows (ga_ rows id) (i:Int) s) _ (fun i hi F m => ?_) ?_
 . have I:=ts_ (rows:=rows) (at_:=p) (i:=i)
   simp only [bm_.turn5,bm_.step5,Int.toNat_natCast,W_up hi ht,al_,bc_,gN_ (mI_ h i),ba_,cE_ hi,ch_ hi];refine ⟨fun _=>⟨fun u=>⟨trivial,by simp;omega,?_⟩,fun heq => ?_⟩,fun h=>by cases h⟩
   . rw [<-qq_ hi ((k i hi).1 u)];exact m
   . have:i=p:=Classical.byContradiction fun J=>by rw [(k i hi).2 J] at heq;cases heq
     subst this;rw [<-rj_ hi];exact m
 . simp only [bm_.turn5,bm_.step5,co_,cond_false,ae_]
def sameC (x y:ca_):Bool:=cond (x.col == y.col) (cond (x.op == y.op) (cond (x.v == y.v) true false) false) false
def rG_ (a b:List ca_):Bool:=decide (a.length=b.length)&&iO_ (fun i=>sameC (a.getD i ca_.dflt) (b.getD i ca_.dflt)) a.length
def FInts2 (a b:List Int):Bool:=decide (a.length=b.length)&&iO_ (fun i=>a.getD i 0 == b.getD i 0) a.length
def kM_ (a b:ay_):Bool:=(a.table == b.table)&&(rG_ a.where_ b.where_&&((a.order == b.order)&&((a.down == b.down)&&((a.first == b.first)&&(FInts2 a.show_ b.show_&&((a.kids == b.kids)&&((a.kidTable == b.kidTable)&&(a.kidCol == b.kidCol))))))))
theorem r8_ {n m:Nat} {p:Nat->Bool}:(iO_ p (min n m)&&decide (n=m))=(decide (n=m)&&iO_ p n):=by
 by_cases h:n=m
 . subst h;simp [Nat.min_self,Bool.and_comm]
 . simp [h]
theorem lQ_ {a b:List ca_} (ha:a.length<=cf_):Ev (fun n _=>bN_ n a b) (rG_ a b):=by
 refine am_ ?_;simp only [bN_];refine gj_ (e8_ (fun n N i=>bN_.loop3 n (fun x y=>some ((x.length:Int) == (y.length:Int))) N a b (i:Int)) (fun i=>sameC (a.getD i ca_.dflt) (b.getD i ca_.dflt)) (len:=min a.length b.length) (v:=decide (a.length=b.length)) (fun i u hi ih => ?_) ?_) r8_
 . have k:i<a.length:=by omega
   have m:i<b.length:=by omega
   simp only [bN_.turn3,bN_.step3,Int.toNat_natCast,W_up k ha,al_,bc_,ae_,dK_ ih,cE_ k,ch_ k,cE_ m,ch_ m];clear ih;simp only [sameC];generalize (cond ((a.getD i ca_.dflt).col == (b.getD i ca_.dflt).col) (cond ((a.getD i ca_.dflt).op == (b.getD i ca_.dflt).op) (cond ((a.getD i ca_.dflt).v == (b.getD i ca_.dflt).v) true false) false) false)=c;cases c<;>simp
 . simp only [bN_.turn3,bN_.step3,al_,ae_,bc_]
   grind
theorem nc_ {a b:List Int} (ha:a.length<=cf_):Ev (fun n _=>b4_ n a b) (FInts2 a b):=by
 refine am_ ?_;simp only [b4_];refine gj_ (e8_ (fun n N i=>b4_.loop3 n (fun x y=>some ((x.length:Int) == (y.length:Int))) N a b (i:Int)) (fun i=>a.getD i 0 == b.getD i 0) (len:=min a.length b.length) (v:=decide (a.length=b.length)) (fun i u hi ih => ?_) ?_) r8_
 . have k:i<a.length:=by omega
   have m:i<b.length:=by omega
   simp only [b4_.turn3,b4_.step3,Int.toNat_natCast,W_up k ha,al_,bc_,ae_,dK_ ih,cE_ k,ch_ k,cE_ m,ch_ m];clear ih;generalize a.getD i 0=x;generalize b.getD i 0=y
   grind
 . simp only [b4_.turn3,b4_.step3,al_,ae_,bc_]
   grind
theorem kn_ {a b:ay_} (ha:tK_ cf_ a):Ev (fun n _=>dB_ n a b) (kM_ a b):=by refine am_ ?_;simp only [dB_,ab_ (lQ_ ha.1),ab_ (nc_ ha.2),al_,ae_,kM_];generalize rG_ a.where_ b.where_=c;generalize FInts2 a.show_ b.show_=d;cases c<;>cases d<;>grind
def jK_ (rows:List TRow) (id:Int):Nat:=rows.findIdx (fun x=>decide (x.id_ > id))
def it_ (rows:List TRow) (r:TRow):List TRow :=
 cond (decide (ga_ rows r.id_>=0)) (rows.set (ga_ rows r.id_).toNat r) (rows.take (jK_ rows r.id_)++[r]++rows.drop (jK_ rows r.id_))
theorem atCases (rows:List TRow) (id:Int):(∃ p,p<rows.length/\ga_ rows id=(p:Int)/\rows.findIdx (fun r=>r.id_ == id)=p)\/(ga_ rows id = -1/\kb_ rows id=rows):=by
 rw [ob_];by_cases h:rows.findIdx (fun r=>r.id_ == id)<rows.length
 . exact .inl ⟨_,h,if_pos h,rfl⟩
 . refine .inr ⟨if_neg h,?_⟩
   unfold kb_;rw [List.eraseIdx_of_length_le (by omega)]
theorem idx_down (rows:List TRow) (P:TRow->Bool) {j:Nat} (k:j<rows.length) :
  j+(rows.drop j).findIdx P=cond (P (rows.getD j TRow.dflt)) j (j+1+(rows.drop (j+1)).findIdx P):=by
 rw [ds_ TRow.dflt k,List.findIdx_cons];cases P (rows.getD j TRow.dflt)<;>simp only [cond_true,cond_false]<;>omega
theorem iU_ {rows:List TRow} {r:TRow} (h:hs_ fj_ rows) (hr:r.cells.length<=fj_):Ev (fun n _=>bK_ n rows r) (it_ rows r):=by
 refine am_ ?_;have hl:=h.1;simp only [fj_] at hl;have ht:rows.length<=cf_:=by simp only [cf_];omega
 have e0:∀ r:TRow,TRow.mk r.id_ r.cells=r:=fun _=>rfl;simp only [bK_,ab_ (gq_ (id:=r.id_) h),ab_ (hm_ (rows:=rows) (id:=r.id_) ht),al_];rcases atCases rows r.id_ with ⟨p,Y,e1,e2⟩|⟨e1,e2⟩
 . have hd:kb_ rows r.id_=rows.take p++rows.drop (p+1):=by unfold kb_;rw [e2,List.eraseIdx_eq_take_drop_succ]
   have O:(kb_ rows r.id_).length=rows.length - 1:=by rw [hd];simp;omega
   refine ⟨fun _ => ?_,fun h=>by rw [e1] at h;simp at h⟩;rw [e1];simp only [dQ_,ba_,gN_ hr,ae_,Int.toNat_natCast,List.length_nil,List.nil_append,List.drop_zero,O];refine ⟨by omega,by simp;omega,by simp;omega,by omega,by simp;omega,?_⟩;unfold it_;rw [e1,decide_eq_true (by omega),cond_true,Int.toNat_natCast,hd,List.set_eq_take_append_cons_drop,if_pos Y];have t1:(rows.take p++rows.drop (p+1)).take p=rows.take p:=by rw [List.take_append_of_le_length (by simp;omega),List.take_take,Nat.min_self]
   have t2:((rows.take p++rows.drop (p+1)).take (rows.length - 1)).drop p=rows.drop (p+1):=by rw [List.take_of_length_le (by simp;omega),List.drop_append_of_le_length (by simp;omega),List.drop_eq_nil_of_le (by simp;omega),List.nil_append]
   rw [t1,t2];simp
 . refine ⟨fun h=>by rw [e1] at h;simp at h,fun _ => ?_⟩
   rw [e2];have u:it_ rows r=rows.take (jK_ rows r.id_)++[r]++rows.drop (jK_ rows r.id_):=by unfold it_;rw [e1];rfl
   rw [u];obtain ⟨S,z⟩:∃ S:Nat->Int,S=fun i=>(((rows.length - i)+(rows.drop (rows.length - i)).findIdx (fun x=>decide (x.id_ > r.id_)):Nat):Int):=⟨_,rfl⟩
   have T:S 0=(rows.length:Int):=by rw [z];simp
   have:=eO_ S rows.length (fun n N i (s:Int)=>bK_.loop6 n (fun B5 B6 B7 B8=>(f6_ 0 B5 B8.length (bk_ (([]:List TRow).length+((B8.take B5.toNat).drop 0).length) 32 ((cC_ n (TRow.mk B6 B7)).bind fun A9=>(bk_ ((([]:List TRow)++((B8.take B5.toNat).drop 0)).length+([A9]:List TRow).length) 32 (f6_ B5 (B8.length:Int) B8.length (bk_ (((([]:List TRow)++((B8.take B5.toNat).drop 0))++([A9]:List TRow)).length+((B8.take ((B8.length:Int).toNat)).drop B5.toNat).length) 32 (some (((([]:List TRow)++((B8.take B5.toNat).drop 0))++([A9]:List TRow))++((B8.take ((B8.length:Int).toNat)).drop B5.toNat)))))))))) N s (((rows.length - i:Nat):Int) - 1) r.id_ r.cells rows) (rows.take (jK_ rows r.id_)++[r]++rows.drop (jK_ rows r.id_)) (fun i hi F u => ?_) ?_
   . rw [T] at this
     rw [W_dn ht];simpa using this
   . obtain ⟨j,Z⟩:∃ j,j=rows.length - i - 1:=⟨_,rfl⟩
     have J:rows.length - i=j+1:=by omega
     have k:rows.length - (i+1)=j:=by omega
     have I:j<rows.length:=by omega
     have m:=idx_down rows (fun x=>decide (x.id_ > r.id_)) I;have s1:S i=((j+1+(rows.drop (j+1)).findIdx (fun x=>decide (x.id_ > r.id_)):Nat):Int):=by rw [z];simp only [J]
     have s2:S (i+1)=((j+(rows.drop j).findIdx (fun x=>decide (x.id_ > r.id_)):Nat):Int):=by rw [z];simp only [k]
     have ei:((rows.length - i:Nat):Int) - 1=(j:Int):=by omega
     have U:W ((j:Int) - 1)=((rows.length - (i+1):Nat):Int) - 1:=by rw [W_dn (by omega),k]
     rw [s2,m] at u;rw [ei,s1];simp only [bK_.turn6,bK_.step6,al_,bc_,Int.toNat_natCast,U];refine ⟨fun _=>⟨by omega,fun hc => ?_,fun hc => ?_⟩,fun h=>by simp at h⟩
     . rw [hc] at u;exact u
     . rw [hc] at u;exact u
   . have s1:S rows.length=(jK_ rows r.id_:Int):=by rw [z];simp [jK_]
     have V:jK_ rows r.id_<=rows.length:=List.findIdx_le_length;rw [s1];simp only [bK_.turn6,bK_.step6,Nat.sub_self,e0];rw [show decide (((0:Nat):Int) - 1>=0)=false from by simp];simp only [cond_false,dQ_,ba_,gN_ hr,ae_,Int.toNat_natCast,List.length_nil,List.nil_append,List.drop_zero];refine ⟨by omega,by simp;omega,by simp;omega,by omega,by simp;omega,?_⟩;rw [List.take_length]
def qK_ (c:Nat) (x:aZ_):Prop:=x.old.cells.length<=c/\x.new.cells.length<=c
theorem hh_ {c n:Nat} (h:n<=c) (hc:c<=fj_):n<=cf_:=by simp only [fj_] at hc;simp only [cf_];omega
theorem hs_.upto {c d:Nat} {r:List TRow} (h:hs_ c r) (hc:c<=d):hs_ d r:=⟨Nat.le_trans h.1 hc,fun x hx=>Nat.le_trans (h.2 x hx) hc⟩
theorem fG_.upto {c d:Nat} {s:ax_} (h:fG_ c s) (hc:c<=d):fG_ d s:=⟨Nat.le_trans h.1 hc,Nat.le_trans h.2.1 hc,fun x hx=>(h.2.2 x hx).upto hc⟩
theorem m6_ {c:Nat} {rows:List TRow} {id:Int} (h:hs_ c rows):hs_ c (kb_ rows id):=by unfold kb_;exact ⟨Nat.le_trans (List.length_eraseIdx_le _ _) h.1,fun x hx=>h.2 x (List.mem_of_mem_eraseIdx hx)⟩
theorem m2_ {c:Nat} {rows:List TRow} {r:TRow} (h:hs_ c rows) (hr:r.cells.length<=c):hs_ (c+1) (it_ rows r):=by
 unfold it_;have k:=h.1;cases decide (ga_ rows r.id_>=0)<;>simp only [cond_true,cond_false]
 . refine ⟨by simp;omega,fun x hx => ?_⟩
   rcases List.mem_append.1 hx with hx|hx
   . rcases List.mem_append.1 hx with hx|hx
     . exact Nat.le_succ_of_le (h.2 x (List.mem_of_mem_take hx))
     . rw [List.mem_singleton.1 hx];omega
   . exact Nat.le_succ_of_le (h.2 x (List.mem_of_mem_drop hx))
 . refine ⟨by simp;omega,fun x hx => ?_⟩
   rcases List.mem_or_eq_of_mem_set hx with hx|rfl
   . exact Nat.le_succ_of_le (h.2 x hx)
   . omega
def iB_ (s:a1_):ax_:=⟨s,0,List.replicate s.cols.length []⟩
theorem lenSt_new {c:Nat} {s:a1_} (hs:s.cols.length<=c):fG_ c (iB_ s):=by
 refine ⟨hs,?_,fun x hx => ?_⟩
 . simp only [iB_,List.length_replicate];exact hs
 . simp only [iB_] at hx
   rw [List.eq_of_mem_replicate hx];exact ⟨Nat.zero_le _,fun x hx=>by cases hx⟩
def zStore:ax_:=⟨⟨[]⟩,0,[]⟩
def FNew (s:a1_):ax_ × Bool:=cond (gB_ s) (iB_ s,true) (zStore,false)
theorem lh_ {s:a1_} (hs:s.cols.length<=cap):Ev (fun n _=>dU_ n s) (FNew s):=by
 refine am_ ?_;simp only [cap] at hs;simp only [dU_,eS_ (show s.cols.length<=cf_ by simp only [cf_];omega),nN_ (show s.cols.length<=fj_ by simp only [fj_];omega),al_,ae_,dI_,FNew,iB_,zStore,Int.toNat_natCast]
 repeat' (first|apply And.intro|intro _)
 all_goals (try simp_all)
 all_goals (try omega)
theorem Wn {x:Int} (m : -1000000000000<=x) (k:x<=1000000000000):W x=x:=W_id (by omega) (by omega)
theorem hl_ {a b:Int}:Ev (fun n _=>cL_ n a b) (max a b):=by refine am_ ?_;simp only [cL_,al_,ae_];exact ⟨fun h=>by have:=of_decide_eq_true h;omega,fun h=>by have:=of_decide_eq_false h;omega⟩
theorem lj_ {c:af_} (hc:DwOk c):Ans (fun n _=>aM_ n c) fun r=>r.1.cols.length<=3/\(∀ x ∈ r.1.cols,x<=4)/\DwOk r.2:=by
 have p:∀ (m i:Nat) (c:af_) (o:List Int),i+m=3->DwOk c->o.length=i->(∀ x ∈ o,x<=4) ->
   Ans (fun n N=>aM_.loop4 n (fun B3 B4 B5 B6=>(some ((a1_.mk B6),(af_.mk B3 B4 B5)))) N (i:Int) c.b c.i c.h o) fun r=>r.1.cols.length<=3/\(∀ x ∈ r.1.cols,x<=4)/\DwOk r.2:=by
  intro m;induction m with
  |zero=>
   intro i c o hi hc z hx;refine cA_ ?_;simp only [aM_.turn4,aM_.step4,cY_];refine az_ (bs_ hc) fun r hr => ?_;have J:=hr.lo;have I:=hr.hi;rw [Wn (by omega) (by omega),decide_eq_false (by omega)];simp only [cond_false,cY_,aX_];exact ⟨by omega,hx,hr.cur⟩
  |succ m ih=>
   intro i c o hi hc z hx;refine cA_ ?_;simp only [aM_.turn4,aM_.step4,cY_];refine az_ (bs_ hc) fun r hr => ?_;simp only [bj_,cY_,aX_];refine ⟨fun _=>az_ (bs_ hr.cur) fun r2 k => ?_,fun _=>⟨by omega,hx,hr.cur⟩⟩;have J:=k.lo;have I:=k.hi;have e1:W ((i:Int)+1)=((i+1:Nat):Int):=by rw [Wn (by omega) (by omega)];rfl
   rw [Wn (x:=1+r2.1) (by omega) (by omega),e1];simp only [d7_];refine ⟨by simp;omega,ih (i+1) r2.2 _ (by omega) k.cur (by simp;omega) fun x u => ?_⟩;rcases List.mem_append.1 u with h|h
   . exact hx x h
   . rw [List.mem_singleton.1 h];omega
 refine ci_ ?_;simp only [aM_];exact eu_ (p 3 0 c [] rfl hc rfl fun x hx=>(by cases hx))
theorem jQ_ {c:af_} {cols:Int} (hc:DwOk c) (u:cols<=1000):Ans (fun n _=>bb_ n c cols) fun r=>r.1.cells.length<=1000/\DwOk r.2:=by
 have k:∀ (m i:Nat) (c:af_) (id:Int) (o:List Int),i+m=1000->DwOk c->o.length=i ->
   Ans (fun n N=>bb_.loop4 n (fun B3 B4 B5 B6 B7 B8=>(some ((TRow.mk B7 B8),(af_.mk B3 B4 B5)))) N cols (i:Int) c.b c.i c.h 0 id o) fun r=>r.1.cells.length<=1000/\DwOk r.2:=by
  intro m;induction m with
  |zero=>
   intro i c id o hi hc z;refine cA_ ?_;simp only [bb_.turn4,bb_.step4,cY_];rw [decide_eq_false (by omega)];simp only [cond_false,cY_,aX_];exact ⟨by omega,hc⟩
  |succ m ih=>
   intro i c id o hi hc z;refine cA_ ?_;simp only [bb_.turn4,bb_.step4,cY_,bj_,aX_];refine ⟨fun _=>az_ (bs_ hc) fun r2 p => ?_,fun _=>⟨by omega,hc⟩⟩;have e1:W ((i:Int)+1)=((i+1:Nat):Int):=by rw [Wn (by omega) (by omega)];rfl
   rw [e1];simp only [d7_];exact ⟨by simp;omega,ih (i+1) r2.2 _ _ (by omega) p.cur (by simp;omega)⟩
 refine ci_ ?_;simp only [bb_];exact az_ (bs_ hc) fun r hr=>eu_ (k 1000 0 r.2 _ [] rfl hr.cur rfl)
theorem nk_ {c:af_} {cols:Int} (hc:DwOk c) (u:cols<=1000):Ans (fun n _=>a3_ n c cols) fun r=>hs_ 1010 r.1/\DwOk r.2:=by
 have z:∀ (m i:Nat) (c:af_) (o:List TRow),i+m=9->DwOk c->hs_ (1000+i) o ->
   Ans (fun n N=>a3_.loop4 n (fun B4 B5 B6 B7=>(some (B7,(af_.mk B4 B5 B6)))) N cols (i:Int) c.b c.i c.h o) fun r=>hs_ 1010 r.1/\DwOk r.2:=by
  intro m;induction m with
  |zero=>
   intro i c o hi hc p;refine cA_ ?_;simp only [a3_.turn4,a3_.step4,cY_];refine az_ (bs_ hc) fun r hr => ?_;have O:=hr.lo;have J:=hr.hi;rw [decide_eq_false (by omega)];simp only [cond_false,cY_,aX_];exact ⟨p.upto (by omega),hr.cur⟩
  |succ m ih=>
   intro i c o hi hc p;refine cA_ ?_;simp only [a3_.turn4,a3_.step4,cY_];refine az_ (bs_ hc) fun r hr => ?_;simp only [bj_,cY_,aX_];refine ⟨fun _=>az_ (jQ_ hr.cur u) fun r2 k => ?_,fun _=>⟨p.upto (by omega),hr.cur⟩⟩;have e1:W ((i:Int)+1)=((i+1:Nat):Int):=by rw [Wn (by omega) (by omega)];rfl
   have I:=iU_ (rows:=o) (r:=r2.1) (p.upto (by simp only [fj_];omega)) (by have:=k.1;simp only [fj_];omega);rw [bg_ I,e1];exact ih (i+1) r2.2 _ (by omega) k.2 (by rw [<-Nat.add_assoc];exact m2_ p (by have:=k.1;omega))
 refine ci_ ?_;simp only [a3_];exact eu_ (z 9 0 c [] rfl hc ⟨Nat.zero_le _,fun x hx=>(by cases hx)⟩)
structure StIn (c:Nat) (s:ax_):Prop where
 len:fG_ c s
 col:∀ x ∈ s.schema.cols,x<=1000
theorem StIn.upto {c d:Nat} {s:ax_} (h:StIn c s) (hc:c<=d):StIn d s:=⟨h.len.upto hc,h.col⟩
theorem StIn.getD {c:Nat} {s:ax_} (h:StIn c s) (i:Nat):s.schema.cols.getD i 0<=1000:=by
 by_cases hi:i<s.schema.cols.length
 . exact h.col _ (b2_ _ hi)
 . rw [List.getD_eq_getElem?_getD,List.getElem?_eq_none (by omega)];decide
theorem mn_ {c:af_} (hc:DwOk c):Ans (fun n _=>aQ_ n c) fun r=>StIn 1010 r.1/\DwOk r.2:=by
 have p:∀ (m i:Nat) (c:af_) (s:ax_),i+m=s.tables.length->s.tables.length<=s.schema.cols.length->DwOk c->StIn 1010 s ->
   Ans (fun n N=>aQ_.loop4 n (fun B5 B6 B7 B8 B9 B10 B11=>((ao_ n (af_.mk B5 B6 B7) 5).bind fun A12=>(some ((ax_.mk (a1_.mk B10) A12.1 B11),A12.2)))) N (i:Int) c.b c.i c.h 0 s.version s.schema.cols s.tables) fun r=>StIn 1010 r.1/\DwOk r.2:=by
  intro m;induction m with
  |zero=>
   intro i c s hi hl hc hs;have e:i=s.tables.length:=by omega
   subst e;refine cA_ ?_;simp only [aQ_.turn4,aQ_.step4,co_,cond_false,cY_];exact az_ (bs_ hc) fun r hr=>aX_.2 ⟨⟨hs.len,hs.col⟩,hr.cur⟩
  |succ m ih=>
   intro i c s hi hl hc hs;have k:i<s.tables.length:=by omega
   have I:=hs.len.2.1;have u:=W_up k (show s.tables.length<=cf_ by simp only [cf_];omega);refine cA_ ?_;simp only [aQ_.turn4,aQ_.step4,cE_ k,cond_true,cY_,eN_,Int.toNat_natCast];refine ⟨⟨by omega,by omega⟩,az_ (nk_ hc (hs.getD i)) fun r hr => ?_⟩;simp only [eN_,u];refine ⟨⟨by omega,by omega⟩,?_⟩;have:=ih (i+1) r.2 (ax_.mk s.schema s.version (s.tables.set i r.1)) (by simp;omega) (by simp;exact hl) hr.2 ⟨⟨hs.len.1,by simp only [List.length_set];exact I,fun x hx=>by
    rcases List.mem_or_eq_of_mem_set hx with hx|rfl
    . exact hs.len.2.2 x hx
    . exact hr.1⟩,hs.col⟩
   exact this
 refine ci_ ?_;simp only [aQ_];refine az_ (lj_ hc) fun r hr => ?_;have z:=lh_ (s:=r.1) (by have:=hr.1;simp only [cap];omega);rw [bg_ z];refine eu_ (f:=fun n N=>aQ_.loop4 n (fun B5 B6 B7 B8 B9 B10 B11=>((ao_ n (af_.mk B5 B6 B7) 5).bind fun A12=>(some ((ax_.mk (a1_.mk B10) A12.1 B11),A12.2)))) N 0 r.2.b r.2.i r.2.h 0 (FNew r.1).1.version (FNew r.1).1.schema.cols (FNew r.1).1.tables) (p (FNew r.1).1.tables.length 0 r.2 (FNew r.1).1 (Nat.zero_add _) ?_ hr.2.2 ?_)
 . unfold FNew
   cases gB_ r.1
   . exact Nat.le_refl _
   . simp [iB_]
 . unfold FNew
   cases gB_ r.1
   . exact ⟨⟨Nat.zero_le _,Nat.zero_le _,fun x hx=>(by cases hx)⟩,fun x hx=>(by cases hx)⟩
   . exact ⟨lenSt_new (Nat.le_trans hr.1 (by decide)),fun x hx=>Int.le_trans (hr.2.1 x hx) (by decide)⟩
def pS_:TRow:=TRow.mk 0 []
def noCh:aZ_:=aZ_.mk 0 false false pS_ pS_
def zeroSt:ax_:=ax_.mk (a1_.mk []) 0 []
def ka_ (s:a1_) (m:TMut):Bool:=cond (m.kind == 3) (gB_ s&&(inn m.table 0 (W ((s.cols.length:Int) - 1))&&(inn m.row.id_ 1 999&&((m.row.cells.length:Int) == 0)))) (inn m.kind 1 2&&FRow s m.table m.row)
def fR_ (s:ax_) (m:TMut):List TRow:=s.tables.getD m.table.toNat []
def rE_ (s:ax_) (m:TMut):Bool:=(decide (ga_ (fR_ s m) m.row.id_>=0) == (m.kind != 1)) && !((m.kind == 1)&&(((fR_ s m).length:Int) == 24))
def FDo (s:ax_) (m:TMut):ax_:=ax_.mk s.schema s.version (s.tables.set m.table.toNat (cond (m.kind != 3) (it_ (fR_ s m) m.row) (kb_ (fR_ s m) m.row.id_)))
def FDoCh (s:ax_) (m:TMut):aZ_:=aZ_.mk m.table (m.kind != 1) (m.kind != 3) (cond (m.kind != 1) ((fR_ s m).getD (ga_ (fR_ s m) m.row.id_).toNat TRow.dflt) pS_) (cond (m.kind != 3) m.row pS_)
def gU_ (s:ax_) (m:TMut):ax_ × aZ_ × Bool:=cond (fA_ s) (cond (ka_ s.schema m&&rE_ s m) (FDo s m,FDoCh s m,true) (s,noCh,false)) (zeroSt,noCh,false)
theorem lt_ (r:TRow):TRow.mk r.id_ r.cells=r:=rfl
theorem fC_ (s:ax_):ax_.mk s.schema s.version s.tables=s:=rfl
theorem gr_ (s:a1_):a1_.mk s.cols=s:=rfl
theorem oH_ (m:TMut):TMut.mk m.kind m.table m.row=m:=rfl
theorem on_ {s:a1_} {m:TMut} (hs:s.cols.length<=cf_) (hr:m.row.cells.length<=cf_):Ev (fun n _=>eY_ n s m) (ka_ s m):=by refine am_ ?_;simp only [eY_,ab_ (hJ_ hs),ab_ (jA_ (t:=m.table) hs hr),fX_,al_,ae_,ka_];generalize (m.kind == 3)=a;generalize gB_ s=b;generalize inn m.table 0 _=c;generalize inn m.row.id_ 1 999=d;generalize inn m.kind 1 2=e;cases a<;>cases b<;>cases c<;>cases d<;>cases e<;>simp
theorem q2_ {s:ax_} {m:TMut} (hs:fA_ s=true) (k:ka_ s.schema m=true) (hc:s.schema.cols.length<=cf_):0<=m.table/\m.table<(s.tables.length:Int):=by
 have e:=@W_dn s.schema.cols.length hc;have hl:s.tables.length=s.schema.cols.length:=by unfold fA_ at hs;simp only [Bool.and_eq_true] at hs;exact of_decide_eq_true hs.2.2.1
 have:inn m.table 0 (W ((s.schema.cols.length:Int) - 1))=true:=by
  unfold ka_ at k;cases p:(m.kind == 3)<;>rw [p] at k
  . simp only [cond_false,Bool.and_eq_true] at k
    have:=k.2;unfold FRow at this;simp only [Bool.and_eq_true] at this;exact this.2.1
  . simp only [cond_true,Bool.and_eq_true] at k
    exact k.2.1
 have:=jh_.1 this;rw [e] at this;omega
theorem qX_ (rows:List TRow) (id:Int):ga_ rows id = -1\/0<=ga_ rows id/\ga_ rows id<(rows.length:Int):=by
 rcases atCases rows id with ⟨p,m,k,_⟩|⟨h,_⟩
 . exact .inr ⟨by omega,by omega⟩
 . exact .inl h
theorem pA_ {s:ax_} {m:TMut} (hl:fG_ fj_ s) (hr:m.row.cells.length<=fj_) (ht:0<=m.table/\m.table<(s.tables.length:Int)):Ev (fun n _=>fk_ n s m) (cond (rE_ s m) (FDo s m,FDoCh s m,true) (s,noCh,false)):=by
 have z:hs_ fj_ (fR_ s m):=fY_ hl.2.2 _;have J:(fR_ s m).length<=cf_:=hh_ z.1 (Nat.le_refl _);have u:∀ i,((fR_ s m).getD i TRow.dflt).cells.length<=fj_:=fun i=>by
  by_cases hi:i<(fR_ s m).length
  . exact z.2 _ (b2_ _ hi)
  . rw [List.getD_eq_getElem?_getD,List.getElem?_eq_none (by omega)];exact Nat.zero_le _
 have I:=qX_ (fR_ s m) m.row.id_;have e0:s.tables.getD m.table.toNat []=fR_ s m:=rfl;refine am_ ?_;simp only [fk_,e0,lt_,bc_,ht,true_and,and_true,ab_ (hm_ (id:=m.row.id_) J),gN_ (u _),gN_ hr,ab_ (iU_ z hr),ab_ (gq_ (id:=m.row.id_) z),al_,ae_];unfold rE_ FDo FDoCh noCh pS_;generalize it_ (fR_ s m) m.row=p;generalize kb_ (fR_ s m) m.row.id_=q;generalize ga_ (fR_ s m) m.row.id_=a at I ⊢;have hb:(m.kind == 1)=true->(m.kind != 1)=false:=by simp [bne]
 have k:(m.kind == 1)=false->(m.kind != 1)=true:=by intro h;simp [bne,h]
 generalize (m.kind != 1)=k1 at hb k ⊢;cases O:(m.kind == 1)<;>rw [O] at hb k
 . have:=k rfl
   subst this;cases ha:decide (a>=0)
   . simp
   . have ha:=of_decide_eq_true ha
     cases (m.kind != 3)<;>simp<;>omega
 . have:=hb rfl
   subst this;cases ha:decide (a>=0)<;>cases (((fR_ s m).length:Int) == 24)<;>cases (m.kind != 3)<;>simp
theorem jC_ {s:ax_} {m:TMut} (hl:fG_ fj_ s) (hr:m.row.cells.length<=fj_):Ev (fun n _=>eH_ n s m) (gU_ s m):=by
 have hs:s.schema.cols.length<=cf_:=hh_ hl.1 (Nat.le_refl _);have k:m.row.cells.length<=cf_:=hh_ hr (Nat.le_refl _);refine am_ ?_;simp only [eH_,fC_,oH_,lt_,ab_ (fm_ (hl.upto (show fj_<=cf_ by decide))),ab_ (on_ hs k),ab_ (mp_ hl),al_,ae_];unfold gU_;cases u:fA_ s
 . exact ⟨fun _=>rfl,fun h=>(by cases h)⟩
 . refine ⟨fun h=>(by cases h),fun _ => ?_⟩
   cases p:ka_ s.schema m
   . exact ⟨fun _=>rfl,fun h=>(by cases h)⟩
   . refine ⟨fun h=>(by cases h),fun _ => ?_⟩
     simp only [ab_ (pA_ hl hr (q2_ u p hs)),al_,ae_];cases rE_ s m<;>simp [noCh,pS_,ab_ (mp_ hl),ae_]
theorem FDo_len {c:Nat} {s:ax_} {m:TMut} (h:fG_ c s) (hr:m.row.cells.length<=c):fG_ (c+1) (FDo s m):=by
 have k:hs_ c (fR_ s m):=fY_ h.2.2 _;refine ⟨Nat.le_succ_of_le h.1,by simp only [FDo,List.length_set];exact Nat.le_succ_of_le h.2.1,fun x hx => ?_⟩;rcases List.mem_or_eq_of_mem_set hx with hx|rfl
 . exact (h.2.2 x hx).upto (Nat.le_succ _)
 . cases (m.kind != 3)
   . exact (m6_ k).upto (Nat.le_succ _)
   . exact m2_ k hr
theorem FDoCh_len {c:Nat} {s:ax_} {m:TMut} (h:fG_ c s) (hr:m.row.cells.length<=c):qK_ c (FDoCh s m):=by
 have k:hs_ c (fR_ s m):=fY_ h.2.2 _;refine ⟨?_,?_⟩
 . show (cond (m.kind != 1) _ pS_).cells.length<=c
   cases (m.kind != 1)
   . exact Nat.zero_le _
   . by_cases hi:(ga_ (fR_ s m) m.row.id_).toNat<(fR_ s m).length
     . exact k.2 _ (b2_ _ hi)
     . simp only [cond_true];rw [List.getD_eq_getElem?_getD,List.getElem?_eq_none (by omega)];exact Nat.zero_le _
 . show (cond (m.kind != 3) m.row pS_).cells.length<=c
   cases (m.kind != 3)
   . exact Nat.zero_le _
   . exact hr
theorem kO_ {c:Nat} {s:ax_} {m:TMut} (h:fG_ c s) (hr:m.row.cells.length<=c):fG_ (c+1) (gU_ s m).1/\qK_ c (gU_ s m).2.1:=by
 have z:qK_ c noCh:=⟨Nat.zero_le _,Nat.zero_le _⟩
 unfold gU_;cases fA_ s
 . exact ⟨⟨Nat.zero_le _,Nat.zero_le _,fun x hx=>(by cases hx)⟩,z⟩
 . cases (ka_ s.schema m&&rE_ s m)
   . exact ⟨h.upto (Nat.le_succ _),z⟩
   . exact ⟨FDo_len h hr,FDoCh_len h hr⟩
def gF_:ax_->List TMut->List aZ_->Option (ax_ × List aZ_)
 |s,[],l=>some (s,l)
 |s,m::r,l=>cond (gU_ s m).2.2 (gF_ (gU_ s m).1 r (l++[(gU_ s m).2.1])) none
def m7_ (s:ax_):Option (ax_ × List aZ_)->ax_ × List aZ_ × Bool
 |some p=>(ax_.mk p.1.schema (W (s.version+1)) p.1.tables,p.2,true)
 |none=>(s,[],false)
def fv_ (s:ax_) (l:List TMut):ax_ × List aZ_ × Bool:=cond (fA_ s) (cond (inn (l.length:Int) 1 5 && !(s.version == 100000)) (m7_ s (gF_ s l [])) (s,[],false)) (zeroSt,[],false)
def ml_ (c:Nat) (l:List TMut):Prop:=∀ m ∈ l,m.row.cells.length<=c
theorem l1_ {c:Nat} {s:ax_} {l:List TMut} (hl:fG_ c s) (O:ml_ c l) (hc:c+l.length<=1000000):Ev (fun n _=>bF_ n s l) (fv_ s l):=by
 have p:fG_ fj_ s:=hl.upto (by simp only [fj_];omega);have z:=mp_ p;refine am_ ?_;simp only [bF_,fC_,ab_ (fm_ (p.upto (show fj_<=cf_ by decide))),fX_,ab_ z,al_,ae_];unfold fv_;cases Y:fA_ s
 . exact ⟨fun _=>rfl,fun h=>(by cases h)⟩
 refine ⟨fun h=>(by cases h),fun _ => ?_⟩;cases V:inn (l.length:Int) 1 5
 . exact ⟨fun _=>rfl,fun h=>(by cases h)⟩
 refine ⟨fun h=>(by cases h),fun _ => ?_⟩;cases U:(s.version == 100000)
 . refine ⟨fun h=>(by cases h),fun _ => ?_⟩
   have u:∀ (m i:Nat) (t:ax_) (o:List aZ_),i+m=l.length->fG_ (c+i) t->o.length<=i ->
     Ev (fun n N=>bF_.loop12 n (fun B8 B9 B10 B11 B12 B13 B14 B15=>(some ((ax_.mk (a1_.mk B14) (W (B9+1)) B15),B13,true))) N l (i:Int) s.schema.cols s.version s.tables 0 [] t.version o t.schema.cols t.tables) (m7_ s (gF_ t (l.drop i) o)):=by
    intro m;induction m with
    |zero=>
     intro i t o hi ht I;have e:i=l.length:=by omega
     subst e;refine a8_ ?_;simp only [bF_.turn12,bF_.step12,co_,cond_false,ae_,List.drop_length,gF_,m7_]
    |succ m ih=>
     intro i t o hi ht I;have k:i<l.length:=by omega
     have hr:=O _ (b2_ TMut.dflt k);have T:=jC_ (m:=l.getD i TMut.dflt) (ht.upto (show c+i<=fj_ by simp only [fj_];omega)) (Nat.le_trans hr (by simp only [fj_];omega));have S:=W_up k (show l.length<=cf_ by simp only [cf_];omega);have J:=kO_ (m:=l.getD i TMut.dflt) ht (Nat.le_trans hr (Nat.le_add_right _ _));rw [ds_ TMut.dflt k];refine a8_ ?_;simp only [bF_.turn12,bF_.step12,gr_,fC_,oH_,lt_,cE_ k,cond_true,bc_,ch_ k,true_and,Int.toNat_natCast,S,ab_ T,al_,ae_,ab_ z,ba_,gF_];cases hq:(gU_ t (l.getD i TMut.dflt)).2.2
     . exact ⟨fun _=>rfl,fun h=>(by cases h)⟩
     . exact ⟨fun h=>(by cases h),fun _=>⟨by simp;omega,ih (i+1) _ _ (by omega) (by rw [<-Nat.add_assoc];exact J.1) (by simp;omega)⟩⟩
   exact cX_ (u l.length 0 s [] (by omega) hl (Nat.le_refl _))
 . exact ⟨fun _=>rfl,fun h=>(by cases h)⟩
theorem m8_ {c:Nat}:∀ {l:List TMut} {s:ax_} {o:List aZ_} {k:Nat},fG_ (c+k) s->ml_ c l->(∀ x ∈ o,qK_ (c+k) x)->∀ p,gF_ s l o=some p->fG_ (c+k+l.length) p.1/\p.2.length=o.length+l.length/\∀ x ∈ p.2,qK_ (c+k+l.length) x
 |[],s,o,k,h,_,u,p,e=>by cases e;exact ⟨h,rfl,u⟩
 |m::r,s,o,k,h,I,u,p,e=>by
  unfold gF_ at e;cases hq:(gU_ s m).2.2<;>rw [hq] at e
  . cases e
  . have hr:=I m (List.mem_cons_self ..)
    have z:=kO_ (m:=m) h (Nat.le_trans hr (Nat.le_add_right _ _));have:=m8_ (l:=r) (k:=k+1) (by rw [<-Nat.add_assoc];exact z.1) (fun x hx=>I x (List.mem_cons_of_mem _ hx)) (fun x hx=>by
     rcases List.mem_append.1 hx with hx|hx
     . exact ⟨Nat.le_succ_of_le (u x hx).1,Nat.le_succ_of_le (u x hx).2⟩
     . rw [List.mem_singleton.1 hx];exact ⟨Nat.le_succ_of_le z.2.1,Nat.le_succ_of_le z.2.2⟩) p e
    simp only [List.length_append,List.length_cons,List.length_nil] at this ⊢;refine ⟨this.1.upto (by omega),by omega,fun x hx=>⟨Nat.le_trans (this.2.2 x hx).1 (by omega),Nat.le_trans (this.2.2 x hx).2 (by omega)⟩⟩
theorem ld_ {c:Nat} {s:ax_} {l:List TMut} (h:fG_ c s) (u:ml_ c l):fG_ (c+l.length) (fv_ s l).1/\(fv_ s l).2.1.length<=5/\∀ x ∈ (fv_ s l).2.1,qK_ (c+l.length) x:=by
 unfold fv_;cases fA_ s
 . exact ⟨⟨Nat.zero_le _,Nat.zero_le _,fun x hx=>(by cases hx)⟩,Nat.zero_le _,fun x hx=>(by cases hx)⟩
 . cases m:(inn (l.length:Int) 1 5 && !(s.version == 100000))
   . exact ⟨h.upto (Nat.le_add_right _ _),Nat.zero_le _,fun x hx=>(by cases hx)⟩
   . simp only [cond_true]
     cases hb:gF_ s l [] with
     |none=>exact ⟨h.upto (Nat.le_add_right _ _),Nat.zero_le _,fun x hx=>(by cases hx)⟩
     |some p=>
      have:=m8_ (c:=c) (k:=0) (o:=[]) h u (fun x hx=>(by cases hx)) p hb;rw [Bool.and_eq_true] at m;have z:=jh_.1 m.1;simp only [Nat.add_zero,List.length_nil,Nat.zero_add] at this;exact ⟨this.1,by show p.2.length<=5;omega,this.2.2⟩
structure QIn (q:ay_):Prop where
 len:tK_ 1010 q
 show_:∀ x ∈ q.show_,0<=x/\x<=1000
theorem up1 {i:Nat} (h:i<=1000000):W ((i:Int)+1)=((i+1:Nat):Int):=by rw [Wn (by omega) (by omega)];rfl
theorem l9loop7 {K:Nat->aj_.K7} {P:ay_ × af_->Prop} {t6 t30 t40 t42 t43 t44 t46 t47 t48 t50 t52 t53 t54 t56 t57 t58} (p:∀ c o,DwOk c->o.length<=3->Ans (fun n _=>K n t6 c.b c.i c.h t30 t40 t42 t43 t44 t46 t47 t48 t50 t52 t53 t54 t56 t57 t58 o) P) {c:af_} (hc:DwOk c) :
  Ans (fun n _=>aj_.loop7 n (K n) n t6 0 c.b c.i c.h t30 t40 t42 t43 t44 t46 t47 t48 t50 t52 t53 t54 t56 t57 t58 []) P:=by
 have k:∀ (m i:Nat) (c:af_) (o:List ca_),i+m=3->DwOk c->o.length=i->Ans (fun n N=>aj_.loop7 n (K n) N t6 (i:Int) c.b c.i c.h t30 t40 t42 t43 t44 t46 t47 t48 t50 t52 t53 t54 t56 t57 t58 o) P:=by
  intro m;induction m with
  |zero=>
   intro i c o hi hc z;refine cA_ ?_;simp only [aj_.turn7,aj_.step7,cY_];refine az_ (bs_ hc) fun r hr => ?_;have O:=hr.lo;have u:=hr.hi;rw [decide_eq_false (by omega)];simp only [cond_false];exact p _ _ hr.cur (by omega)
  |succ m ih=>
   intro i c o hi hc z;refine cA_ ?_;simp only [aj_.turn7,aj_.step7,cY_];refine az_ (bs_ hc) fun r hr => ?_;simp only [bj_];refine ⟨fun _=>az_ (bs_ hr.cur) fun r2 u=>az_ (bs_ u.cur) fun r3 J=>az_ (bs_ J.cur) fun r4 I => ?_,fun _=>p _ _ hr.cur (by omega)⟩;simp only [d7_,up1 (show i<=1000000 by omega)];exact ⟨by simp;omega,ih (i+1) r4.2 _ (by omega) I.cur (by simp;omega)⟩
 exact eu_ (k 3 0 c [] rfl hc rfl)
theorem l9loop16 {K:Nat->aj_.K16} {P:ay_ × af_->Prop} {t6 t30 t40 t42 t43 t44 t46 t47 t48 t50 t52 t53 t54 t56 t57 t58 t51} (I:t6<=1000) (u:∀ c o,DwOk c->o.length<=1000->(∀ x ∈ o,0<=x/\x<=1000)->Ans (fun n _=>K n c.b c.i c.h t30 t40 t42 t43 t44 t46 t47 t48 t50 t52 t53 t54 t56 t57 t58 t51 o) P) {c:af_} (hc:DwOk c) :
  Ans (fun n _=>aj_.loop16 n (K n) n t6 0 c.b c.i c.h t30 t40 t42 t43 t44 t46 t47 t48 t50 t52 t53 t54 t56 t57 t58 t51 []) P:=by
 have k:∀ (m i:Nat) (c:af_) (o:List Int),i+m=1000->DwOk c->o.length<=i->(∀ x ∈ o,0<=x/\x<=1000)->Ans (fun n N=>aj_.loop16 n (K n) N t6 (i:Int) c.b c.i c.h t30 t40 t42 t43 t44 t46 t47 t48 t50 t52 t53 t54 t56 t57 t58 t51 o) P:=by
  intro m;induction m with
  |zero=>
   intro i c o hi hc z hx;refine cA_ ?_;simp only [aj_.turn16,aj_.step16,cY_];rw [decide_eq_false (by omega)];simp only [cond_false];exact u _ _ hc (by omega) hx
  |succ m ih=>
   intro i c o hi hc z hx;refine cA_ ?_;simp only [aj_.turn16,aj_.step16,cY_,bj_];refine ⟨fun _=>az_ (fH_ hc) fun r hr => ?_,fun _=>u _ _ hc (by omega) hx⟩;simp only [bj_,d7_,up1 (show i<=1000000 by omega)];refine ⟨fun _=>⟨by simp;omega,ih (i+1) r.2 _ (by omega) hr (by simp;omega) fun x p => ?_⟩,fun _=>ih (i+1) r.2 _ (by omega) hr (by omega) hx⟩;rcases List.mem_append.1 p with h|h
   . exact hx x h
   . rw [List.mem_singleton.1 h];omega
 exact eu_ (k 1000 0 c [] rfl hc (Nat.le_refl _) fun x hx=>(by cases hx))
theorem mm_ {c:af_} {s:a1_} (hc:DwOk c) (hs:∀ x ∈ s.cols,x<=1000):Ans (fun n _=>aj_ n c s) fun r=>QIn r.1/\DwOk r.2:=by
 have m:∀ i,s.cols.getD i 0<=1000:=fun i=>by
  by_cases hi:i<s.cols.length
  . exact hs _ (b2_ _ hi)
  . rw [List.getD_eq_getElem?_getD,List.getElem?_eq_none (by omega)];decide
 have k:∀ i,max (s.cols.getD i 0) 1<=1000:=fun i=>by have:=m i;omega
 refine ci_ ?_;simp only [aj_]
 repeat' (first
  |(rw [bg_ hl_])
  |(refine az_ (bs_ (by assumption)) fun _ hd => ?_;obtain ⟨_,_,_⟩:=hd)
  |(refine az_ (fH_ (by assumption)) fun _ _ => ?_)
  |(refine az_ (fr_ (by assumption) (by simp)) fun _ hd => ?_;obtain ⟨_,_⟩:=hd)
  |(with_reducible refine bj_.2 ⟨fun _ => ?_,fun _ => ?_⟩)
  |(with_reducible refine eN_.2 ⟨⟨?_,?_⟩,?_⟩)
  |(refine l9loop7 (fun _ _ _ _ => ?_) (by assumption))
  |(refine l9loop16 (by first|exact k _|decide) (fun _ _ _ _ _ => ?_) (by assumption))
  |((with_reducible refine aX_.2 ?_);refine ⟨⟨⟨?_,?_⟩,?_⟩,?_⟩))
 all_goals (first|assumption|(simp only [decide_eq_true_eq] at *;assumption)|(refine Nat.le_trans ?_ (show 3<=1010 by decide);assumption)|(refine Nat.le_trans ?_ (show 1000<=1010 by decide);assumption))
theorem oQ_ {k:Nat} {c:af_} {s:ax_} (hc:DwOk c) (hs:StIn k s):Ans (fun n _=>dy_ n c s) fun r=>r.1.row.cells.length<=1000/\DwOk r.2:=by
 refine ci_ ?_;simp only [dy_]
 repeat' (first
  |(rw [bg_ hl_])
  |(refine az_ (bs_ (by assumption)) fun _ hd => ?_;obtain ⟨_,_,_⟩:=hd)
  |(refine az_ (fH_ (by assumption)) fun _ _ => ?_)
  |(refine az_ (fr_ (by assumption) (by simp)) fun _ hd => ?_;obtain ⟨_,_⟩:=hd)
  |(refine az_ (jQ_ (by assumption) (hs.getD _)) fun _ hd => ?_;obtain ⟨_,_⟩:=hd)
  |(with_reducible refine bj_.2 ⟨fun _ => ?_,fun _ => ?_⟩)
  |(with_reducible refine eN_.2 ⟨⟨?_,?_⟩,?_⟩)
  |(with_reducible refine aX_.2 ⟨?_,by assumption⟩))
 all_goals (first|assumption|exact Nat.zero_le _|(simp only [decide_eq_true_eq,decide_eq_false_iff_not] at *;omega))
theorem FMutDo_in {k:Nat} {s:ax_} {m:TMut} (h:StIn k s) (hr:m.row.cells.length<=k):StIn (k+1) (gU_ s m).1:=by
 refine ⟨(kO_ h.len hr).1,?_⟩;unfold gU_;cases fA_ s
 . exact fun x hx=>(by cases hx)
 . cases (ka_ s.schema m&&rE_ s m)<;>exact h.col
theorem rI_ {k:Nat} {s:ax_} {l:List TMut} (h:StIn k s) (z:ml_ k l):StIn (k+l.length) (fv_ s l).1:=by
 refine ⟨(ld_ h.len z).1,?_⟩;unfold fv_;cases fA_ s
 . exact fun x hx=>(by cases hx)
 . cases (inn (l.length:Int) 1 5 && !(s.version == 100000))
   . exact h.col
   . have u:∀ (l:List TMut) (t:ax_) (o:List aZ_),(∀ x ∈ t.schema.cols,x<=1000)->∀ p,gF_ t l o=some p->∀ x ∈ p.1.schema.cols,x<=1000:=by
      intro l;induction l with
      |nil=>intro t o ht p e;cases e;exact ht
      |cons m r ih=>
       intro t o ht p e;unfold gF_ at e;cases hq:(gU_ t m).2.2<;>rw [hq] at e
       . cases e
       . refine ih _ _ ?_ p e
         unfold gU_;cases fA_ t
         . exact fun x hx=>(by cases hx)
         . cases (ka_ t.schema m&&rE_ t m)<;>exact ht
     simp only [cond_true];cases hb:gF_ s l [] with
     |none=>exact h.col
     |some p=>exact u l s [] h.col p hb
theorem mo_ {k:Nat} {c:af_} {s:ax_} (hc:DwOk c) (hs:StIn k s) (hk:1000<=k) (Y:k<=90000):Ans (fun n _=>aD_ n c s) fun r=>r.1.length<=3/\ml_ 1000 r.1/\DwOk r.2:=by
 have O:∀ (m i:Nat) (c:af_) (s:ax_) (o:List TMut),i+m=3->DwOk c->StIn (k+i) s->o.length<=i->ml_ 1000 o ->
   Ans (fun n N=>aD_.loop5 n (fun B14 B15 B16 B17=>(some (B17,(af_.mk B14 B15 B16)))) N (i:Int) c.b c.i c.h s.schema.cols s.version s.tables o) fun r=>r.1.length<=3/\ml_ 1000 r.1/\DwOk r.2:=by
  intro m;induction m with
  |zero=>
   intro i c s o hi hc hs V J;refine cA_ ?_;simp only [aD_.turn5,aD_.step5,cY_];refine az_ (bs_ hc) fun r hr => ?_;have U:=hr.lo;have I:=hr.hi;rw [Wn (x:=1+r.1) (by omega) (by omega),decide_eq_false (by omega)];simp only [cond_false,cY_,aX_];exact ⟨by omega,J,hr.cur⟩
  |succ m ih=>
   intro i c s o hi hc hs V J;refine cA_ ?_;simp only [aD_.turn5,aD_.step5,cY_];refine az_ (bs_ hc) fun r hr => ?_;simp only [bj_,cY_,aX_,gr_,fC_];refine ⟨fun _=>az_ (oQ_ hr.cur hs) fun r2 I => ?_,fun _=>⟨by omega,J,hr.cur⟩⟩;have Z:=jC_ (s:=s) (m:=r2.1) (hs.len.upto (by simp only [fj_];omega)) (Nat.le_trans I.1 (by decide));have S:=FMutDo_in (m:=r2.1) hs (Nat.le_trans I.1 (by omega));have z:ml_ 1000 (o++[r2.1]):=fun x hx=>by
    rcases List.mem_append.1 hx with h|h
    . exact J x h
    . rw [List.mem_singleton.1 h];exact I.1
   have e1:=up1 (show i<=1000000 by omega);have u:StIn (k+(i+1)) s:=hs.upto (by omega);have p:∀ (t:ax_) (c:af_) (q:List TMut),StIn (k+(i+1)) t->DwOk c->q.length<=i+1->ml_ 1000 q->Ans (fun n N=>aD_.loop5 n (fun B14 B15 B16 B17=>(some (B17,(af_.mk B14 B15 B16)))) N ((i+1:Nat):Int) c.b c.i c.h t.schema.cols t.version t.tables q) fun r=>r.1.length<=3/\ml_ 1000 r.1/\DwOk r.2:=fun t c q U I T h4=>ih (i+1) c t q (by omega) I U T h4;simp only [aD_.tail9,gr_,fC_,oH_,lt_,bg_ Z,e1,cY_]
   repeat' (first
    |(with_reducible refine bj_.2 ⟨fun _ => ?_,fun _ => ?_⟩)
    |(refine az_ (fH_ I.2) fun r3 T => ?_)
    |(with_reducible refine d7_.2 ⟨by simp;omega,?_⟩))
   all_goals (first
    |exact p _ _ _ S I.2 (by simp;omega) z
    |exact p _ _ _ S (by assumption) (by simp;omega) z
    |exact p _ _ _ S (by assumption) (by omega) J
    |exact p s _ _ u I.2 (by simp;omega) z
    |exact p s _ _ u (by assumption) (by simp;omega) z
    |exact p s _ _ u (by assumption) (by omega) J)
 refine ci_ ?_;simp only [aD_];exact eu_ (O 3 0 c s [] rfl hc hs (Nat.le_refl _) fun x hx=>(by cases hx))
def FPut (q:ay_) (rows:List TRow) (r:TRow):List TRow:=rows.take (rows.findIdx (fun x=>hR_ q r x))++[r]++rows.drop (rows.findIdx (fun x=>hR_ q r x))
theorem take_mid {α:Type} (d:α) {a m:List α} {i p:Nat} (hi:i<a.length) (h:p<=i):a.take p++m++(a.take (i+1)).drop p=a.take p++m++(a.take i).drop p++[a.getD i d]:=by rw [cH_ d hi,List.drop_append_of_le_length (by simp;omega)];simp
theorem ahead_idx {q:ay_} {r:TRow} {rows:List TRow} {i:Nat} (hi:i<rows.length) (k:i<=rows.findIdx (fun x=>hR_ q r x)):hR_ q r (rows.getD i TRow.dflt)=decide (i=rows.findIdx (fun x=>hR_ q r x)):=by
 rw [List.getD_eq_getElem?_getD,List.getElem?_eq_getElem hi,Option.getD_some];by_cases h:i=rows.findIdx (fun x=>hR_ q r x)
 . rw [decide_eq_true h]
   have:=List.findIdx_getElem (xs:=rows) (p:=fun x=>hR_ q r x) (w:=by omega);simp only [<-h] at this;exact this
 . rw [decide_eq_false h]
   have:=List.not_of_lt_findIdx (xs:=rows) (p:=fun x=>hR_ q r x) (i:=i) (by omega);simpa using this
theorem gX_ {q:ay_} {rows:List TRow} {r:TRow} (h:hs_ fj_ rows) (hr:r.cells.length<=fj_):Ev (fun n _=>bY_ n q rows r) (FPut q rows r):=by
 refine am_ ?_;have hl:=h.1;simp only [fj_] at hl;have ht:rows.length<=cf_:=by simp only [cf_];omega
 have z:r.cells.length<=cf_:=by simp only [cf_];simp only [fj_] at hr;omega
 simp only [bY_];have e0:∀ r:TRow,TRow.mk r.id_ r.cells=r:=fun _=>rfl;have U:∀ (x:TRow) (g:Nat->Nat->Bool->Option (List TRow)) (v:List TRow),x.cells.length<=cf_->(Ev (fun n N=>(eI_ n (ay_.mk q.table q.where_ q.order q.down q.first q.show_ q.kids q.kidTable q.kidCol) r x).bind (g n N)) v↔Ev (fun n N=>g n N (hR_ q r x)) v):=fun x g v hx=>ab_ (op_ z hx);obtain ⟨p,I⟩:∃ p,p=rows.findIdx (fun x=>hR_ q r x):=⟨_,rfl⟩
 have O:p<=rows.length:=by rw [I];exact List.findIdx_le_length
 let S:Nat->Bool × List TRow:=fun i=>if i<=p then (false,rows.take i) else (true,rows.take p++[r]++(rows.take i).drop p)
 have J:S 0=(false,[]):=by simp [S]
 have:=eO_ S rows.length (fun n N i (s:Bool × List TRow)=>bY_.loop5 n (fun B3 B4 B5 B6=>(cond (!B3) ((cC_ n (TRow.mk B4 B5)).bind fun A7=>(bk_ (B6.length+([A7]:List TRow).length) 32 (some (B6++([A7]:List TRow))))) (some B6))) N rows s.1 (i:Int) q.table q.where_ q.order q.down q.first q.show_ q.kids q.kidTable q.kidCol r.id_ r.cells s.2) (FPut q rows r) (fun i hi F u => ?_) ?_
 . rw [J] at this;exact this
 . simp only [bY_.turn5,bY_.step5,Int.toNat_natCast,W_up hi ht,e0]
   have hx:=ahead_idx (q:=q) (r:=r) hi;rw [<-I] at hx;have T:(S i).2.length<=rows.length+1:=by simp only [S];split<;>simp<;>omega
   simp only [al_,bc_,U _ _ _ (iH_ (rows:=rows) ⟨ht,fun x hx=>by have:=h.2 x hx;simp only [fj_] at this;simp only [cf_];omega⟩ i),gN_ hr,ba_,cE_ hi,ch_ hi];refine ⟨fun _=>⟨fun m=>⟨trivial,fun ha=>⟨by simp;omega,trivial,by simp;omega,?_⟩,fun ha=>⟨trivial,by simp;omega,?_⟩⟩,fun m=>⟨trivial,by simp;omega,?_⟩⟩,fun h=>by cases h⟩;all_goals (by_cases k:i<=p)
   . have e:i=p:=by rw [hx k] at ha;exact of_decide_eq_true ha
     subst e;simp only [S,if_neg (show ¬ i+1<=i by omega),if_pos (Nat.le_refl i),cH_ TRow.dflt hi,List.drop_append_of_le_length (show i<=(rows.take i).length by simp;omega),List.drop_eq_nil_of_le (show (rows.take i).length<=i by simp;omega),List.nil_append] at u ⊢;exact u
   . simp only [S,if_neg k] at m;cases m
   . have e:i≠p:=by rw [hx k] at ha;exact of_decide_eq_false ha
     simp only [S,if_pos k,if_pos (show i+1<=p by omega),cH_ TRow.dflt hi] at u ⊢;exact u
   . simp only [S,if_neg k] at m;cases m
   . simp only [S,if_pos k] at m;cases m
   . simp only [S,if_neg k,if_neg (show ¬ i+1<=p by omega),take_mid TRow.dflt hi (show p<=i by omega)] at u ⊢
     exact u
 . simp only [bY_.turn5,bY_.step5,co_,cond_false,e0,al_,gN_ hr,ba_,ae_]
   unfold FPut;rw [<-I];by_cases k:rows.length<=p
   . have e:rows.length=p:=by omega
     simp only [S,if_pos k,<-e];simp;omega
   . simp only [S,if_neg k]
     simp
def gO_ (kids:List TKid) (id:Int):Nat:=kids.findIdx (fun k=>decide (k.id_>=id))
def p3_ (k:TKid) (id by_:Int):List TKid :=
 cond (k.id_ == id) (cond (decide (W (k.n_+by_) > 0)) [TKid.mk id (W (k.n_+by_))] []) (cond (decide (by_ > 0)) [TKid.mk id by_,k] [k])
def FKid (kids:List TKid) (id by_:Int):List TKid :=
 cond (decide (gO_ kids id<kids.length)) (kids.take (gO_ kids id)++p3_ (kids.getD (gO_ kids id) TKid.dflt) id by_++kids.drop (gO_ kids id+1)) (cond (decide (by_ > 0)) (kids++[TKid.mk id by_]) kids)
theorem kid_idx {kids:List TKid} {id:Int} {i:Nat} (hi:i<kids.length) (u:i<=gO_ kids id):((kids.getD i TKid.dflt).id_>=id↔i=gO_ kids id)/\((kids.getD i TKid.dflt).id_<id↔i≠gO_ kids id):=by
 have m:(kids.getD i TKid.dflt).id_>=id↔i=gO_ kids id:=by
  rw [List.getD_eq_getElem?_getD,List.getElem?_eq_getElem hi,Option.getD_some];unfold gO_ at u ⊢;constructor
  . intro h
    refine Classical.byContradiction fun z => ?_;have:=List.not_of_lt_findIdx (xs:=kids) (p:=fun k=>decide (k.id_>=id)) (i:=i) (by omega);rw [decide_eq_true h] at this;cases this
  . intro h
    have:=List.findIdx_getElem (xs:=kids) (p:=fun k=>decide (k.id_>=id)) (w:=by omega);simp only [<-h] at this;exact of_decide_eq_true this
 exact ⟨m,fun h e=>by have:=m.2 e;omega,fun h=>by have:=fun g=>h (m.1 g);omega⟩
theorem kw_ (k:TKid) (id by_:Int):(p3_ k id by_).length<=2:=by
 unfold p3_;cases (k.id_ == id)<;>simp only [cond_true,cond_false]
 . cases decide (by_ > 0)<;>simp
 . cases decide (W (k.n_+by_) > 0)<;>simp
theorem take_midK {a m:List TKid} {i p:Nat} (hi:i<a.length) (h:p+1<=i):a.take p++m++(a.take (i+1)).drop (p+1)=a.take p++m++(a.take i).drop (p+1)++[a.getD i TKid.dflt]:=by rw [cH_ TKid.dflt hi,List.drop_append_of_le_length (by simp;omega)];simp
theorem fO_ {kids:List TKid} {id by_:Int} (h:kids.length<=fj_):Ev (fun n _=>aR_ n kids id by_) (FKid kids id by_):=by
 refine am_ ?_;have hl:=h;simp only [fj_] at hl;have ht:kids.length<=cf_:=by simp only [cf_];omega
 simp only [aR_];obtain ⟨p,T⟩:∃ p,p=gO_ kids id:=⟨_,rfl⟩
 have Z:p<=kids.length:=by rw [T];exact List.findIdx_le_length
 obtain ⟨m,U⟩:∃ m,m=p3_ (kids.getD p TKid.dflt) id by_:=⟨_,rfl⟩
 have hml:m.length<=2:=by rw [U];exact kw_ _ _ _
 let S:Nat->Bool × List TKid:=fun i=>if i<=p then (false,kids.take i) else (true,kids.take p++m++(kids.take i).drop (p+1))
 have Y:S 0=(false,[]):=by simp [S]
 have:=eO_ S kids.length (fun n N i (s:Bool × List TKid)=>aR_.loop5 n (fun B1 B2 B3 B4=>(cond (!B3) (cond (decide (B2 > 0)) (bk_ (B4.length+([(TKid.mk B1 B2)]:List TKid).length) 16 (some (B4++([(TKid.mk B1 B2)]:List TKid)))) (some B4)) (some B4))) N kids id by_ s.1 (i:Int) s.2) (FKid kids id by_) (fun i hi F z => ?_) ?_
 . rw [Y] at this;exact this
 . have hx:=kid_idx (kids:=kids) (id:=id) hi
   rw [<-T] at hx;have I:(S i).2.length<=kids.length+2:=by simp only [S];split<;>simp<;>omega
   obtain ⟨k,J⟩:∃ k,k=kids.getD i TKid.dflt:=⟨_,rfl⟩
   simp only [aR_.turn5,aR_.step5,Int.toNat_natCast,W_up hi ht,al_,bc_,ba_,cE_ hi,ch_ hi,<-J];refine ⟨fun _=>⟨trivial,?_⟩,fun h=>by cases h⟩;by_cases u:i<=p
   . have s1:S i=(false,kids.take i):=by simp only [S,if_pos u]
     rw [s1] at I ⊢;by_cases e:i=p
     . have V:k.id_>=id:=by rw [J];exact (hx u).1.2 e
       subst e;have s2:S (i+1)=(true,kids.take i++m):=by simp only [S,if_neg (show ¬ i+1<=i by omega)];rw [List.drop_eq_nil_of_le (by simp;omega),List.append_nil]
       rw [s2,U,<-J] at z;unfold p3_ at z;simp only [V,decide_true,Bool.not_false,cond_true] at z ⊢;cases h1:(k.id_ == id)<;>cases h2:decide (by_ > 0)<;>cases h3:decide (W (k.n_+by_) > 0)<;>simp only [h1,h2,h3,cond_true,cond_false] at z ⊢;all_goals (repeat' (first|apply And.intro|intro _))
       all_goals (first|contradiction|exact z|(simpa using z)|(simp;omega))
     . have O:¬ k.id_>=id:=by rw [J];exact fun h=>e ((hx u).1.1 h)
       have s2:S (i+1)=(false,kids.take i++[k]):=by simp only [S,if_pos (show i+1<=p by omega),J,cH_ TKid.dflt hi]
       rw [s2] at z;simp only [O,decide_false]
       repeat' (first|apply And.intro|intro _)
       all_goals (first|contradiction|exact z|(simpa using z)|(simp;omega))
   . have s1:S i=(true,kids.take p++m++(kids.take i).drop (p+1)):=by simp only [S,if_neg u]
     have s2:S (i+1)=(true,kids.take p++m++(kids.take i).drop (p+1)++[k]):=by simp only [S,if_neg (show ¬ i+1<=p by omega),J];rw [take_midK hi (by omega)]
     rw [s1] at I ⊢;rw [s2] at z
     repeat' (first|apply And.intro|intro _)
     all_goals (first|contradiction|exact z|(simp at I ⊢;omega))
 . simp only [aR_.turn5,aR_.step5,co_,cond_false,al_,ba_,ae_]
   unfold FKid;rw [<-T,<-U];by_cases u:kids.length<=p
   . have e:p=kids.length:=by omega
     have s1:S kids.length=(false,kids):=by simp only [S,if_pos u,List.take_length]
     rw [s1,decide_eq_false (show ¬ p<kids.length by omega)];simp only [cond_false];refine ⟨fun _=>⟨fun h=>⟨by simp;omega,by rw [h];rfl⟩,fun h=>by rw [h];rfl⟩,fun h=>by cases h⟩
   . have s1:S kids.length=(true,kids.take p++m++kids.drop (p+1)):=by simp only [S,if_neg u,List.take_length]
     rw [s1,decide_eq_true (show p<kids.length by omega)];exact ⟨fun h=>(by cases h),fun _=>rfl⟩
theorem ku_.upto {c d:Nat} {v:bq_} (h:ku_ c v) (hc:c<=d):ku_ d v:=⟨⟨Nat.le_trans h.1.1 hc,Nat.le_trans h.1.2 hc⟩,h.2.1.upto hc,Nat.le_trans h.2.2 hc⟩
section
variable {β:Type}
theorem sj_ {q:ay_} (h:tK_ fj_ q) {g:Nat->Nat->ay_->Option β} {v:β}:Ev (fun n N=>(el_ n q).bind (g n N)) v↔Ev (fun n N=>g n N q) v :=
 ab_ (am_ (by have m:=h.1;have k:=h.2;simp only [fj_] at m k;simp only [el_,ba_,ae_,List.nil_append,and_true,List.length_nil];omega))
theorem h8_ {x:bq_} (h:ku_ fj_ x) {g:Nat->Nat->bq_->Option β} {v:β}:Ev (fun n N=>(c2_ n x).bind (g n N)) v↔Ev (fun n N=>g n N x) v :=
 ab_ (am_ (by have k:=h.2.2;simp only [fj_] at k;simp only [c2_,sj_ h.1,ab_ (p1_ h.2.1),ba_,ae_,List.nil_append,and_true,List.length_nil];omega))
theorem p2_ {x:cw_} (h:lenS fj_ x) {g:Nat->Nat->cw_->Option β} {v:β}:Ev (fun n N=>(dX_ n x).bind (g n N)) v↔Ev (fun n N=>g n N x) v :=
 ab_ (am_ (by simp only [dX_,h8_ h.1,h8_ h.2,ae_]))
end
def sN_ (v:bq_) (c:aZ_):List TRow :=
 cond (c.table == v.q.table) (cond (c.has&&gm_ v.q c.new) (FPut v.q (cond c.had (kb_ v.rows c.old.id_) v.rows) c.new) (cond c.had (kb_ v.rows c.old.id_) v.rows)) v.rows
def sO_ (v:bq_) (c:aZ_):List TKid :=
 cond (v.q.kids&&(c.table == v.q.kidTable)) (cond c.has (FKid (cond c.had (FKid v.kids (gE_ c.old v.q.kidCol) (-1)) v.kids) (gE_ c.new v.q.kidCol) 1) (cond c.had (FKid v.kids (gE_ c.old v.q.kidCol) (-1)) v.kids)) v.kids
def kP_ (v:bq_) (c:aZ_):bq_:=⟨v.q,sN_ v c,sO_ v c⟩
theorem lF_ {c:Nat} {q:ay_} {rows:List TRow} {r:TRow} (h:hs_ c rows) (hr:r.cells.length<=c):hs_ (c+1) (FPut q rows r):=by
 unfold FPut;refine ⟨by have:=h.1;simp;omega,fun x hx => ?_⟩;rcases List.mem_append.1 hx with hx|hx
 . rcases List.mem_append.1 hx with hx|hx
   . exact Nat.le_succ_of_le (h.2 x (List.mem_of_mem_take hx))
   . rw [List.mem_singleton.1 hx];omega
 . exact Nat.le_succ_of_le (h.2 x (List.mem_of_mem_drop hx))
theorem lH_ {kids:List TKid} {id by_:Int}:(FKid kids id by_).length<=kids.length+1:=by
 unfold FKid;have:=kw_ (kids.getD (gO_ kids id) TKid.dflt) id by_;by_cases h:gO_ kids id<kids.length
 . rw [decide_eq_true h,cond_true];simp only [List.length_append,List.length_take,List.length_drop];omega
 . rw [decide_eq_false h];cases decide (by_ > 0)<;>simp
theorem jz_ {c:Nat} {v:bq_} {x:aZ_} (h:ku_ c v) (hx:qK_ c x) (hc:c+1<=fj_):Ev (fun n _=>di_ n v x) (kP_ v x):=by
 refine am_ ?_;have k:=h.upto (show c<=fj_ by omega);have hd:=m6_ (id:=x.old.id_) k.2.1;have hr:x.new.cells.length<=fj_:=by have:=hx.2;omega
 have p:=k.2.2;have m:∀ id b,(FKid v.kids id b).length<=fj_:=fun id b=>by have:=lH_ (kids:=v.kids) (id:=id) (by_:=b);have:=h.2.2;omega
 simp only [di_,h8_ k,al_,ab_ (gq_ (id:=x.old.id_) k.2.1),ab_ (h1_ (q:=v.q) (r:=x.new) (hh_ k.1.1 (Nat.le_refl _)) (hh_ hr (Nat.le_refl _))),ab_ (gX_ (q:=v.q) (r:=x.new) hd hr),ab_ (gX_ (q:=v.q) (r:=x.new) k.2.1 hr),
  ab_ (e3_ (r:=x.old) (col:=v.q.kidCol) (hh_ hx.1 (by omega))),ab_ (e3_ (r:=x.new) (col:=v.q.kidCol) (hh_ hx.2 (by omega))),
  ab_ (fO_ (kids:=v.kids) (id:=gE_ x.old v.q.kidCol) (by_:=-1) p),ab_ (fO_ (kids:=v.kids) (id:=gE_ x.new v.q.kidCol) (by_:=1) p),ab_ (fO_ (id:=gE_ x.new v.q.kidCol) (by_:=1) (m (gE_ x.old v.q.kidCol) (-1))),ae_]
 unfold kP_ sN_ sO_;cases S:(x.table == v.q.table)<;>cases O:x.had<;>cases J:x.has<;>cases I:gm_ v.q x.new<;>cases z:v.q.kids<;>cases u:(x.table == v.q.kidTable)<;>simp
def kL_ (q:ay_) (o rows:List TRow):List TRow:=rows.foldl (fun o r=>cond (gm_ q r) (FPut q o r) o) o
def FSQ (s:ax_) (q:ay_):Bool:=fA_ s&&i3_ s.schema q
def hE_ (s:ax_) (q:ay_):List TRow:=cond (FSQ s q) (kL_ q [] (s.tables.getD q.table.toNat [])) []
def jq_ (q:ay_) (k:List TKid) (rows:List TRow):List TKid:=rows.foldl (fun k r=>FKid k (r.cells.getD q.kidCol.toNat 0) 1) k
def lG_ (s:ax_) (q:ay_):List TKid:=cond q.kids (jq_ q [] (s.tables.getD q.kidTable.toNat [])) []
def zeroQ:ay_:=ay_.mk 0 [] 0 false 0 [] false 0 0
def sQ_:bq_:=bq_.mk zeroQ [] []
def g5_ (s:ax_) (q:ay_):bq_ × Bool:=cond (FSQ s q) (bq_.mk q (hE_ s q) (lG_ s q),true) (sQ_,false)
theorem kq_ (q:ay_):ay_.mk q.table q.where_ q.order q.down q.first q.show_ q.kids q.kidTable q.kidCol=q:=rfl
structure SQ (s:ax_) (q:ay_):Prop where
 tab:0<=q.table/\q.table<(s.tables.length:Int)
 kid:0<=q.kidTable/\q.kidTable<(s.tables.length:Int)
 col:q.kids=true->∀ r ∈ s.tables.getD q.kidTable.toNat [],0<=q.kidCol/\q.kidCol<(r.cells.length:Int)
theorem sq_of {s:ax_} {q:ay_} (h:FSQ s q=true) (hc:s.schema.cols.length<=cf_) (U:s.tables.length<=cf_) (J:∀ x ∈ s.tables,x.length<=cf_/\∀ r ∈ x,r.cells.length<=cf_):SQ s q:=by
 have e:=@W_dn s.schema.cols.length hc;unfold FSQ at h;rw [Bool.and_eq_true] at h;obtain ⟨I,z⟩:=h;unfold fA_ at I;simp only [Bool.and_eq_true] at I;have hl:s.tables.length=s.schema.cols.length:=of_decide_eq_true I.2.2.1;have Y:=I.2.2.2;unfold i3_ at z;simp only [Bool.and_eq_true] at z;have ht:=jh_.1 z.2.1;rw [e] at ht;have V:1<=s.schema.cols.length:=by omega
 have p:FKids s.schema q=true:=by
  have:=z.2.2.2.2.2
  grind
 unfold FKids at p;cases u:q.kids<;>rw [u] at p
 . simp only [cond_false,Bool.and_eq_true,beq_iff_eq] at p
   exact ⟨by omega,by omega,fun h=>by rw [u] at h;cases h⟩
 . simp only [cond_true,Bool.and_eq_true] at p
   have k1:=jh_.1 p.1;have k2:=jh_.1 p.2;rw [e] at k1;refine ⟨by omega,by omega,fun _ r hr => ?_⟩;have hi:q.kidTable.toNat<s.tables.length:=by omega
   have k:=fc_.1 Y q.kidTable.toNat hi;unfold rB_ at k;obtain ⟨j,T,rfl⟩:=List.mem_iff_getElem.1 hr;simp only [Bool.and_eq_true] at k;have S:FRow s.schema (q.kidTable.toNat:Int) ((s.tables.getD q.kidTable.toNat []).getD j TRow.dflt)=true:=by have:=fc_.1 k.1 j T;simp only [Bool.and_eq_true] at this;exact this.1
   unfold FRow at S;simp only [Bool.and_eq_true] at S;have m:=of_decide_eq_true S.2.2.2.1;rw [List.getD_eq_getElem?_getD,List.getElem?_eq_getElem T,Option.getD_some,Int.toNat_natCast] at m;have O:((s.tables.getD q.kidTable.toNat [])[j]).cells.length<=cf_:=(J _ (b2_ _ hi)).2 _ hr;rw [<-m,W_dn O] at k2;omega
theorem m1_ {c:Nat} {q:ay_}:∀ {rows o:List TRow} {k:Nat},hs_ (c+k) o->(∀ r ∈ rows,r.cells.length<=c)->hs_ (c+k+rows.length) (kL_ q o rows)
 |[],o,k,h,_=>h
 |r::rows,o,k,h,hr=>by
  have p:=hr r (List.mem_cons_self ..);have m:hs_ (c+(k+1)) (cond (gm_ q r) (FPut q o r) o):=by
   cases gm_ q r
   . exact h.upto (by omega)
   . exact lF_ h (Nat.le_trans p (Nat.le_add_right _ _))
  have:=m1_ (q:=q) (rows:=rows) m fun x hx=>hr x (List.mem_cons_of_mem _ hx);exact this.upto (by simp;omega)
theorem qG_ {kids:List TKid} {id by_:Int}:(FKid kids id by_).length<=kids.length+1:=by
 have:=kw_ (kids.getD (gO_ kids id) TKid.dflt) id by_;unfold FKid;cases h:decide (gO_ kids id<kids.length)
 . cases decide (by_ > 0)<;>simp
 . have:=of_decide_eq_true h
   simp only [cond_true,List.length_append,List.length_take,List.length_drop];omega
theorem m3_ {q:ay_}:∀ {rows:List TRow} {k:List TKid},(jq_ q k rows).length<=k.length+rows.length
 |[],k=>Nat.le_refl _
 |r::rows,k=>by have p:=qG_ (kids:=k) (id:=r.cells.getD q.kidCol.toNat 0) (by_:=1);have m:=m3_ (q:=q) (rows:=rows) (k:=FKid k (r.cells.getD q.kidCol.toNat 0) 1);show (jq_ q _ rows).length<=_;simp only [List.length_cons];omega
section
variable {s:ax_} {q:ay_} {c:Nat} (hl:fG_ c s) (hq:tK_ 100000 q) (hc:c<=100000)
include hl hq hc
theorem lW_:Ev (fun n _=>bO_ n s q) (hE_ s q):=by
 have hs:s.schema.cols.length<=cf_:=hh_ (Nat.le_trans hl.1 hc) (by decide);have J:fG_ cf_ s:=hl.upto (Nat.le_trans hc (by decide));have p:tK_ cf_ q:=⟨Nat.le_trans hq.1 (by decide),Nat.le_trans hq.2 (by decide)⟩
 refine am_ ?_;simp only [bO_,ab_ (fm_ J),ab_ (h0_ hs p),al_,ae_,bc_];unfold hE_ FSQ;cases O:fA_ s
 . exact ⟨fun _=>rfl,fun h=>(by cases h)⟩
 refine ⟨fun h=>(by cases h),fun _ => ?_⟩;cases V:i3_ s.schema q
 . exact ⟨fun _=>rfl,fun h=>(by cases h)⟩
 refine ⟨fun h=>(by cases h),fun _ => ?_⟩;have T:=sq_of (s:=s) (q:=q) (by unfold FSQ;rw [O,V];rfl) hs J.2.1 J.2.2;refine ⟨T.tab,?_⟩;have I:hs_ c (s.tables.getD q.table.toNat []):=fY_ hl.2.2 _;simp only [Bool.and_self,cond_true];generalize s.tables.getD q.table.toNat []=rows at I ⊢;have z:∀ (m i:Nat) (o:List TRow),i+m=rows.length->hs_ (c+i) o->Ev (fun n N=>bO_.loop8 n (fun B5=>(some B5)) N rows (i:Int) q.table q.where_ q.order q.down q.first q.show_ q.kids q.kidTable q.kidCol o) (kL_ q o (rows.drop i)):=by
  intro m;induction m with
  |zero=>
   intro i o hi u;have e:i=rows.length:=by omega
   subst e;refine a8_ ?_;simp only [bO_.turn8,bO_.step8,co_,cond_false,ae_,List.drop_length,kL_,List.foldl_nil]
  |succ m ih=>
   intro i o hi u;have k:i<rows.length:=by omega
   have O:=I.1;have hr:=I.2 _ (b2_ TRow.dflt k);have hM:=h1_ (q:=q) (r:=rows.getD i TRow.dflt) p.1 (by simp only [cf_];omega);have U:=gX_ (q:=q) (rows:=o) (r:=rows.getD i TRow.dflt) (u.upto (by simp only [fj_];omega)) (by simp only [fj_];omega);have S:=W_up k (show rows.length<=cf_ by simp only [cf_];omega);have e1:kL_ q o (rows.drop i)=kL_ q (cond (gm_ q (rows.getD i TRow.dflt)) (FPut q o (rows.getD i TRow.dflt)) o) (rows.drop (i+1)):=by rw [ds_ TRow.dflt k];rfl
   rw [e1];refine a8_ ?_;simp only [bO_.turn8,bO_.step8,kq_,cE_ k,cond_true,bc_,ch_ k,true_and,Int.toNat_natCast,S,ab_ hM,ab_ U,al_];cases Y:gm_ q (rows.getD i TRow.dflt)
   . exact ⟨fun h=>(by cases h),fun _=>ih (i+1) _ (by omega) (u.upto (by omega))⟩
   . exact ⟨fun _=>ih (i+1) _ (by omega) (lF_ u (Nat.le_trans hr (Nat.le_add_right _ _))),fun h=>(by cases h)⟩
 exact cX_ (z rows.length 0 [] (by omega) ⟨Nat.zero_le _,fun x hx=>(by cases hx)⟩)
theorem ne_:Ev (fun n _=>b6_ n s q) (g5_ s q):=by
 have hs:s.schema.cols.length<=cf_:=hh_ (Nat.le_trans hl.1 hc) (by decide);have S:fG_ cf_ s:=hl.upto (Nat.le_trans hc (by decide));have hR:=lW_ hl hq hc;have J:tK_ cf_ q:=⟨Nat.le_trans hq.1 (by decide),Nat.le_trans hq.2 (by decide)⟩
 refine am_ ?_;simp only [b6_,ab_ (fm_ S),ab_ (h0_ hs J),al_,ae_];unfold g5_;have e0:FSQ s q=(fA_ s&&i3_ s.schema q):=rfl;cases z:fA_ s
 . rw [e0,z];exact ⟨fun _=>rfl,fun h=>(by cases h)⟩
 refine ⟨fun h=>(by cases h),fun _ => ?_⟩;cases T:i3_ s.schema q
 . rw [e0,z,T];exact ⟨fun _=>rfl,fun h=>(by cases h)⟩
 refine ⟨fun h=>(by cases h),fun _ => ?_⟩;have Y:=sq_of (s:=s) (q:=q) (by rw [e0,z,T];rfl) hs S.2.1 S.2.2;have O:tK_ fj_ q:=⟨Nat.le_trans hq.1 (by decide),Nat.le_trans hq.2 (by decide)⟩
 rw [e0,z,T];simp only [sj_ O,ab_ hR,bc_,Bool.and_self,cond_true];refine ⟨Y.kid,?_⟩;have V:hs_ c (s.tables.getD q.kidTable.toNat []):=fY_ hl.2.2 _;have u:=Y.col;unfold lG_;generalize s.tables.getD q.kidTable.toNat []=rows at V u ⊢;have I:∀ (m i:Nat) (k:List TKid),i+m=rows.length->k.length<=i->Ev (fun n N=>b6_.loop8 n (fun B6 B7 B8 B9 B10 B11 B12 B13 B14 B15 B16 B17 B18 B19 B20 B21 B22 B23=>(some ((bq_.mk (ay_.mk B13 B20 B14 B15 B16 B21 B17 B18 B19) B22 B23),true))) N rows (i:Int) q.table q.where_ q.order q.down q.first q.show_ q.kids q.kidTable q.kidCol 0 0 false 0 false 0 0 q.table q.order q.down q.first q.kids q.kidTable q.kidCol q.where_ q.show_ (hE_ s q) k) (bq_.mk q (hE_ s q) (cond q.kids (jq_ q k (rows.drop i)) k),true):=by
  intro m;induction m with
  |zero=>
   intro i k hi Z;have e:i=rows.length:=by omega
   subst e;refine a8_ ?_;simp only [b6_.turn8,b6_.step8,co_,cond_false,ae_,List.drop_length,jq_,List.foldl_nil];have e:(cond q.kids k k)=k:=by cases q.kids<;>rfl
   rw [e]
  |succ m ih=>
   intro i k hi Z;have p:i<rows.length:=by omega
   have z:=V.1;have hP:=fO_ (kids:=k) (id:=(rows.getD i TRow.dflt).cells.getD q.kidCol.toNat 0) (by_:=1) (by simp only [fj_];omega);have hW:=W_up p (show rows.length<=cf_ by simp only [cf_];omega);have hn:=qG_ (kids:=k) (id:=(rows.getD i TRow.dflt).cells.getD q.kidCol.toNat 0) (by_:=1);have e1:jq_ q k (rows.drop i)=jq_ q (FKid k ((rows.getD i TRow.dflt).cells.getD q.kidCol.toNat 0) 1) (rows.drop (i+1)):=by rw [ds_ TRow.dflt p];rfl
   refine a8_ ?_;simp only [b6_.turn8,b6_.step8,kq_,cE_ p,cond_true,bc_,ch_ p,true_and,Int.toNat_natCast,hW,ab_ hP,al_,ae_];cases U:q.kids
   . exact ⟨fun h=>(by cases h),fun _=>rfl⟩
   . refine ⟨fun _=>⟨u U _ (b2_ TRow.dflt p),?_⟩,fun h=>(by cases h)⟩
     have:=ih (i+1) (FKid k ((rows.getD i TRow.dflt).cells.getD q.kidCol.toNat 0) 1) (by omega) (by omega);rw [U] at this;simp only [cond_true,e1] at this ⊢;exact this
 exact cX_ (I rows.length 0 [] (by omega) (Nat.le_refl _))
end
def ins (x:Bs) (y:Int):List (Bs × Int)->List (Bs × Int)
 |[]=>[(x,y)]
 |(k,v)::l=>if k<x then (k,v)::ins x y l else if k=x then (x,y)::l else (x,y)::(k,v)::l
def ht_:List (Bs × Int)->Prop
 |[]=>True
 |(k,_)::l=>(∀ p ∈ l,k<p.1)/\ht_ l
theorem oU_ {x:Bs} {y:Int}:∀ {l:List (Bs × Int)} {p:Bs × Int},p ∈ ins x y l->p=(x,y)\/p ∈ l
 |[],p,h=>by simp only [ins,List.mem_singleton] at h;exact .inl h
 |(k,v)::l,p,h=>by
  simp only [ins] at h;split at h
  . rcases List.mem_cons.1 h with h|h
    . exact .inr (h ▸ List.mem_cons_self ..)
    . rcases oU_ h with h|h
      . exact .inl h
      . exact .inr (List.mem_cons_of_mem _ h)
  . split at h
    . rcases List.mem_cons.1 h with h|h
      . exact .inl h
      . exact .inr (List.mem_cons_of_mem _ h)
    . rcases List.mem_cons.1 h with h|h
      . exact .inl h
      . exact .inr h
theorem not_lt_lt {a b:Bs} (m:¬ a<b) (k:a≠b):b<a:=by
 rcases Decidable.em (b<a) with h|h
 . exact h
 . exact absurd (List.le_antisymm (List.not_lt.1 h) (List.not_lt.1 m)) k
theorem q9_ {x:Bs} {y:Int}:∀ {l:List (Bs × Int)},ht_ l->ht_ (ins x y l)
 |[],_=>⟨fun p m=>(by cases m),trivial⟩
 |(k,v)::l,h=>by
  simp only [ins];split
  . rename_i I
    exact ⟨fun p m=>(oU_ m).elim (fun e=>e ▸ I) (h.1 p),q9_ h.2⟩
  . split
    . rename_i z u
      subst u;exact ⟨h.1,h.2⟩
    . rename_i z u
      have hx:=not_lt_lt z u;exact ⟨fun p m=>by
       rcases List.mem_cons.1 m with e|m
       . rw [e];exact hx
       . exact List.lt_trans hx (h.1 p m),h⟩
theorem putL_nil {α:Type} {x:Bs} {y:α}:mc_ [] x [] y=[y]:=by simp [mc_]
theorem putL_cons {α:Type} {k x:Bs} {ns:List Bs} {a y:α} {l:List α}:mc_ (k::ns) x (a::l) y=if k<x then a::mc_ ns x l y else if k=x then y::l else y::a::l:=by
 by_cases h:k<x
 . have hb:Op.bytesLess k x=true:=by rw [jk_];exact decide_eq_true h
   have e1:g1_ (k::ns) x=g1_ ns x+1:=by unfold g1_;rw [List.findIdx_cons];simp [hb]
   have e2:g0_ (k::ns) x=g0_ ns x+1:=by unfold g0_;rw [e1];simp only [List.getD_cons_succ,List.length_cons,Nat.add_lt_add_iff_right];split<;>rfl
   rw [if_pos h];unfold mc_;rw [e1,e2];simp
 . have hb:Op.bytesLess k x=false:=by rw [jk_];exact decide_eq_false h
   have e1:g1_ (k::ns) x=0:=by unfold g1_;rw [List.findIdx_cons];simp [hb]
   rw [if_neg h];unfold mc_ g0_;rw [e1];by_cases m:k=x
   . simp [m]
   . simp [m]
theorem ox_ {α:Type} (g:Bs × Int->α) (x:Bs) (y:Int):∀ l:List (Bs × Int),mc_ (l.map (·.1)) x (l.map g) (g (x,y))=(ins x y l).map g
 |[]=>by simp only [List.map_nil,ins,List.map_cons];exact putL_nil
 |(k,v)::l=>by
  simp only [List.map_cons,putL_cons,ins];split
  . rw [ox_ g x y l];rfl
  . split<;>rfl
theorem s2_ {k x:Bs} {ns:List Bs}:g0_ (k::ns) x=if k<x then g0_ ns x+1 else if k=x then 1 else 0:=by
 by_cases h:k<x
 . have hb:Op.bytesLess k x=true:=by rw [jk_];exact decide_eq_true h
   have e1:g1_ (k::ns) x=g1_ ns x+1:=by unfold g1_;rw [List.findIdx_cons];simp [hb]
   unfold g0_;rw [e1,if_pos h];simp only [List.getD_cons_succ,List.length_cons,Nat.add_lt_add_iff_right];split<;>rfl
 . have hb:Op.bytesLess k x=false:=by rw [jk_];exact decide_eq_false h
   have e1:g1_ (k::ns) x=0:=by unfold g1_;rw [List.findIdx_cons];simp [hb]
   rw [if_neg h];unfold g0_;rw [e1];by_cases m:k=x
   . simp [m]
   . simp [m]
theorem asc_ne {x:Bs}:∀ {l:List (Bs × Int)},ht_ l->∀ i,g0_ (l.map (·.1)) x<=i->i<(l.map (·.1)).length->((l.map (·.1)).getD i [] == x)=false
 |[],_,i,_,hi=>by simp at hi
 |(k,v)::l,h,i,z,hi=>by
  simp only [List.map_cons,s2_] at z;have u:∀ i',i'<(l.map (·.1)).length->k<(l.map (·.1)).getD i' []:=fun i' m=>by have O:=b2_ (d:=([]:Bs)) (a:=l.map (·.1)) (i:=i') m;obtain ⟨p,z,e⟩:=List.mem_map.1 O;rw [<-e];exact h.1 p z
  cases i with
  |zero=>
   simp only [List.map_cons,List.getD_cons_zero];by_cases I:k<x
   . rw [if_pos I] at z;omega
   . rw [if_neg I] at z
     by_cases J:k=x
     . rw [if_pos J] at z;omega
     . exact beq_eq_false_iff_ne.2 J
  |succ i=>
   have m:i<(l.map (·.1)).length:=by simpa using hi
   simp only [List.map_cons,List.getD_cons_succ];by_cases I:k<x
   . rw [if_pos I] at z
     exact asc_ne h.2 i (by omega) m
   . refine beq_eq_false_iff_ne.2 fun e=>I ?_
     rw [<-e];exact u i m
def q1_ (n:Int):aa_:=aa_.mk 2 n [] [] []
def objJ (l:List (Bs × Int)):aa_:=aa_.mk 5 0 [] (l.map fun p=>q1_ p.2) (l.map (·.1))
theorem ms_ {l:List (Bs × Int)} {x:Bs} {y:Int} (h:ht_ l) (hl:l.length<=2000000):Ev (fun n _=>bP_ n (objJ l) x (q1_ y)) (objJ (ins x y l)):=by
 have:=hk_ (o:=objJ l) (j:=q1_ y) (x:=x) (by simp [objJ];exact hl) (by simp [objJ]) (fun z hz=>by
  rw [jk_] at hz;exact beq_eq_false_iff_ne.2 fun e=>by subst e;exact List.lt_irrefl z (of_decide_eq_true hz)) (fun i m k=>asc_ne h i m k)
 refine gj_ this ?_;have e1:=ox_ (fun p=>q1_ p.2) x y l;have e2:=ox_ (fun p=>p.1) x y l;show aa_.mk 5 0 [] (mc_ (l.map (·.1)) x (l.map fun p=>q1_ p.2) (q1_ y)) (mc_ (l.map (·.1)) x (l.map (·.1)) x)=_;rw [e1,e2];rfl
def mR_ (c:Int):Bs:=99::Lib.itoa c
def kN_ (r:TRow) (c:Int):Bs × Int:=(mR_ c,gE_ r c)
def fz_ (ps:List (Bs × Int)) (l:List (Bs × Int)):List (Bs × Int):=ps.foldl (fun l p=>ins p.1 p.2 l) l
theorem ra_ (ps:List (Bs × Int)) (p:Bs × Int) (l:List (Bs × Int)):fz_ (ps++[p]) l=ins p.1 p.2 (fz_ ps l):=by simp [fz_]
theorem kz_:∀ (ps:List (Bs × Int)) {l:List (Bs × Int)},ht_ l->ht_ (fz_ ps l)
 |[],_,h=>h
 |p::ps,_,h=>kz_ ps (q9_ h)
theorem ky_:∀ {ps:List (Bs × Int)} {l:List (Bs × Int)} {p:Bs × Int},p ∈ fz_ ps l->p ∈ ps\/p ∈ l
 |[],_,_,h=>.inr h
 |q::ps,l,p,h=>by
  rcases ky_ (ps:=ps) h with h|h
  . exact .inl (List.mem_cons_of_mem _ h)
  . rcases oU_ h with h|h
    . exact .inl (h ▸ List.mem_cons_self ..)
    . exact .inr h
theorem oV_ {x:Bs} {y:Int}:∀ {l:List (Bs × Int)},(ins x y l).length<=l.length+1
 |[]=>Nat.le_refl _
 |(k,v)::l=>by
  have:=oV_ (x:=x) (y:=y) (l:=l);simp only [ins];split
  . simp only [List.length_cons];omega
  . split<;>simp only [List.length_cons]<;>omega
theorem ha_:∀ {ps:List (Bs × Int)} {l:List (Bs × Int)},(fz_ ps l).length<=l.length+ps.length
 |[],_=>Nat.le_refl _
 |p::ps,l=>by have:=ha_ (ps:=ps) (l:=ins p.1 p.2 l);have h:=oV_ (x:=p.1) (y:=p.2) (l:=l);simp only [List.length_cons];show (fz_ ps (ins p.1 p.2 l)).length<=_;omega
theorem lA_ {α β:Type} (f:α->β) (d:α) (e:β) {l:List α} {i:Nat} (h:i<l.length):(l.map f).getD i e=f (l.getD i d):=by rw [List.getD_eq_getElem?_getD,List.getD_eq_getElem?_getD,List.getElem?_map,List.getElem?_eq_getElem h];rfl
abbrev nmId:Bs:=[105,100]
abbrev nmKids:Bs:=[107,105,100,115]
abbrev i64 (x:Int):Prop:=-9223372036854775808<=x/\x<=9223372036854775807
def tf_ (q:ay_) (kids:Int):List (Bs × Int):=cond q.kids [(nmKids,kids)] []
def FRowL (q:ay_) (r:TRow) (kids:Int):List (Bs × Int):=fz_ (tf_ q kids) (ins nmId r.id_ (fz_ (q.show_.map (kN_ r)) []))
def pi_ (q:ay_) (r:TRow) (kids:Int):aa_:=objJ (FRowL q r kids)
theorem kidsL_len {q:ay_} {kids:Int}:(tf_ q kids).length<=1:=by unfold tf_;cases q.kids<;>simp
theorem FRowL_len {q:ay_} {r:TRow} {kids:Int}:(FRowL q r kids).length<=q.show_.length+2:=by
 have k:=ha_ (ps:=q.show_.map (kN_ r)) (l:=[]);have u:=oV_ (x:=nmId) (y:=r.id_) (l:=fz_ (q.show_.map (kN_ r)) []);have p:=ha_ (ps:=tf_ q kids) (l:=ins nmId r.id_ (fz_ (q.show_.map (kN_ r)) []));have m:=kidsL_len (q:=q) (kids:=kids);simp at k
 unfold FRowL;omega
theorem rp_ {c:Int} (h:i64 c):(mR_ c).length<=22:=by have:=Lib.itoa_length_le c h.1 h.2;simp only [mR_,List.length_cons];omega
theorem rC_ {q:ay_} {r:TRow} {kids:Int} (hs:∀ c ∈ q.show_,i64 c):∀ p ∈ FRowL q r kids,p.1.length<=22:=fun p k=>by
 rcases ky_ k with h|h
 . unfold tf_ at h
   cases hq:q.kids<;>rw [hq] at h
   . cases h
   . rw [List.mem_singleton.1 h];show nmKids.length<=22;decide
 . rcases oU_ h with h|h
   . rw [h];show nmId.length<=22;decide
   . rcases ky_ h with h|h
     . obtain ⟨c,hc,e⟩:=List.mem_map.1 h
       rw [<-e];exact rp_ (hs c hc)
     . cases h
theorem lz_ {n:Int}:∀ d,fx_ d (q1_ n)
 |0=>trivial
 |d+1=>⟨⟨Nat.zero_le _,Nat.zero_le _,fun x hx=>(by cases hx)⟩,Nat.zero_le _,fun x hx=>(by cases hx)⟩
theorem lenJ_obj {l:List (Bs × Int)} (hl:l.length<=2000000) (m:∀ p ∈ l,p.1.length<=22):∀ d,fx_ d (objJ l)
 |0=>trivial
 |d+1=>⟨⟨Nat.zero_le _,by simp [objJ,cf_];omega,fun x hx=>by
   obtain ⟨p,k,e⟩:=List.mem_map.1 hx;rw [<-e];have:=m p k;simp only [cf_];omega⟩,by simp [objJ,cf_];omega,fun x hx=>by
   obtain ⟨p,k,e⟩:=List.mem_map.1 hx;rw [<-e];exact lz_ d⟩
theorem oN_ {q:ay_} {r:TRow} {kids:Int} (hq:q.show_.length<=1100000) (hs:∀ c ∈ q.show_,i64 c) (d:Nat):fx_ d (pi_ q r kids) :=
 lenJ_obj (by have:=FRowL_len (q:=q) (r:=r) (kids:=kids);omega) (rC_ hs) d
theorem mw_ {j:aa_} (h:fx_ 6 j):Ev (fun n _=>dh_ n j) (eV_ j):=by refine am_ ?_;simp only [dh_,aY_,ab_ (dD_ h),al_,ae_,eV_,g8_];cases cM_ j<;>simp
theorem mx_ {x:Int}:Ev (fun n _=>da_ n x) (q1_ x):=am_ (by simp only [da_,ae_,q1_])
section
variable {q:ay_} {r:TRow} {kids:Int} (hq:q.show_.length<=1100000) (hs:∀ c ∈ q.show_,i64 c) (hr:r.cells.length<=cf_)
include hq hs hr
theorem iT_:Ev (fun n _=>bS_ n q r kids) (pi_ q r kids):=by
 refine am_ ?_;simp only [bS_]
 let S:Nat->aa_:=fun i=>objJ (fz_ ((q.show_.take i).map (kN_ r)) [])
 have:=eO_ S q.show_.length (fun n N i (s:aa_)=>bS_.loop4 n (fun B5 B6 B7 B8 B9 B10 B11 B12 B13 B14 B15 B16 B17 B18 B19 B20 B21 B22 B23 B24=>((da_ n B15).bind fun A25=>((bP_ n (aa_.mk B20 B21 B22 B23 B24) [105,100] (aa_.re A25)).bind fun A26=>(cond B12 ((da_ n B5).bind fun A27=>((bP_ n (aa_.re A26) [107,105,100,115] (aa_.re A27)).bind fun A28=>(some (aa_.re A28)))) (some (aa_.re A26)))))) N kids (i:Int) q.table q.where_ q.order q.down q.first q.show_ q.kids q.kidTable q.kidCol r.id_ r.cells 0 0 [] s.kind s.n_ s.s s.list s.names) (pi_ q r kids) (fun i hi F m => ?_) ?_
 . exact this
 . have e2:fz_ ((q.show_.take (i+1)).map (kN_ r)) []=ins (mR_ (q.show_.getD i 0)) (gE_ r (q.show_.getD i 0)) (fz_ ((q.show_.take i).map (kN_ r)) []):=by
    rw [cH_ 0 hi,List.map_append];exact ra_ _ _ _
   have ha:ht_ (fz_ ((q.show_.take i).map (kN_ r)) []):=kz_ _ trivial;have k:=ha_ (ps:=(q.show_.take i).map (kN_ r)) (l:=[]);simp only [S,e2] at m ⊢;generalize fz_ ((q.show_.take i).map (kN_ r)) []=l at m ha k ⊢;have p:l.length<=2000000:=by simp at k;omega
   have hc:=hs _ (b2_ 0 hi);have hd:=Lib.itoa_length_le _ hc.1 hc.2;have e0:TRow.mk r.id_ r.cells=r:=rfl;have e3:([99]:Bs)++Lib.itoa (q.show_.getD i 0)=mR_ (q.show_.getD i 0):=rfl;simp only [bS_.turn4,bS_.step4,Int.toNat_natCast,W_up hi (show q.show_.length<=cf_ by simp only [cf_];omega),cE_ hi,ch_ hi,ej_,aY_,e0,e3,al_,bc_,dI_,ab_ (c4_ hc.1 hc.2),ab_ (e3_ hr),ab_ mx_,ab_ (ms_ ha p)];simp only [aY_] at m;refine ⟨fun _=>⟨trivial,fun _=>⟨trivial,m⟩,fun h => ?_⟩,fun h=>(by cases h)⟩;have h:=of_decide_eq_false h;simp only [List.length_singleton] at h;omega
 . have ha:ht_ (fz_ (q.show_.map (kN_ r)) []):=kz_ _ trivial
   have k:=ha_ (ps:=q.show_.map (kN_ r)) (l:=[]);have u:=oV_ (x:=nmId) (y:=r.id_) (l:=fz_ (q.show_.map (kN_ r)) []);simp at k
   simp only [bS_.turn4,bS_.step4,co_,cond_false,S,List.take_length,ej_,aY_,ab_ mx_,ab_ (ms_ ha (show _<=2000000 by omega)),ab_ (ms_ (x:=nmKids) (y:=kids) (q9_ (x:=nmId) (y:=r.id_) ha) (show _<=2000000 by omega)),al_,ae_];unfold pi_ FRowL tf_;exact ⟨fun h=>by rw [h];rfl,fun h=>by rw [h];rfl⟩
end
structure bt_ where
 key:Int
 value:aa_
def bt_.dflt:bt_:=bt_.mk 0 aa_.dflt
def cp_ (l:List bt_):List Int:=l.map (·.key)
def kAt (ks:List Int) (k:Int):Int:=if ks.findIdx (fun y=>y == k)<ks.length then ((ks.findIdx (fun y=>y == k):Nat):Int) else -1
theorem q6_ {ks:List Int} {k:Int}:kAt ks k<0↔k ∉ ks:=by
 have e:(ks.findIdx (fun y=>y == k)<ks.length)↔k ∈ ks:=by rw [List.findIdx_lt_length];simp
 unfold kAt;by_cases h:k ∈ ks
 . rw [if_pos (e.2 h)];simp [h]
 . rw [if_neg (fun h'=>h (e.1 h'))];simp [h]
theorem nR_ {ks:List Int} {k:Int} (h:k ∈ ks):∃ p:Nat,kAt ks k=p/\p<ks.length/\ks.getD p 0=k:=by
 have e:ks.findIdx (fun y=>y == k)<ks.length:=by rw [List.findIdx_lt_length];simp [h]
 refine ⟨_,by unfold kAt;rw [if_pos e],e,?_⟩;rw [List.getD_eq_getElem?_getD,List.getElem?_eq_getElem e,Option.getD_some];have:=List.findIdx_getElem (xs:=ks) (p:=fun y=>y == k) (w:=e);simpa using this
theorem p4_ {ks:List Int} {k:Int} {p:Nat} (h:kAt ks k=p):p<ks.length/\ks.getD p 0=k:=by
 have u:k ∈ ks:=Classical.byContradiction fun m=>by have:=q6_.2 m;omega
 obtain ⟨q,e,I,z⟩:=nR_ u;have:q=p:=by omega
 subst this;exact ⟨I,z⟩
theorem gJ_ {ks:List Int} {k:Int} (hl:ks.length<=cf_):Ev (fun n _=>cB_ n ks k) (kAt ks k):=by
 refine am_ ?_;unfold kAt;rw [<-gQ_ 0];simp only [cB_];refine mK_ (fun n N i=>cB_.loop3 n (some (-1)) N ks k (i:Int)) _ (fun i u hi ih => ?_) ?_
 . simp only [cB_.turn3,cB_.step3,Int.toNat_natCast,W_up hi hl,al_,bc_,ae_,dK_ ih,cE_ hi,ch_ hi]
   clear ih;cases (ks.getD i 0 == k)<;>simp
 . simp only [cB_.turn3,cB_.step3,co_,cond_false,ae_]
theorem cP_ (l:List bt_):(cp_ l).length=l.length:=List.length_map _
def kOk (docs:List aa_) (keys:List Int):Bool:=decide (docs.length=keys.length)&&iO_ (fun i=>cM_ (docs.getD i aa_.dflt) && !decide (keys.getD i 0 ∈ keys.take i)) docs.length
def pj_ (docs:List aa_) (keys:List Int) (m:Nat):List bt_:=(List.range m).map fun i=>bt_.mk (keys.getD i 0) (docs.getD i aa_.dflt)
theorem iw_ {docs:List aa_} {keys:List Int} {m:Nat}:(pj_ docs keys m).length=m:=by unfold pj_;simp
theorem allN_and {p q:Nat->Bool} {len:Nat}:iO_ (fun i=>p i&&q i) len=(iO_ p len&&iO_ q len):=by rw [Bool.eq_iff_iff,Bool.and_eq_true,fc_,fc_,fc_];exact ⟨fun h=>⟨fun i hi=>(Bool.and_eq_true_iff.1 (h i hi)).1,fun i hi=>(Bool.and_eq_true_iff.1 (h i hi)).2⟩,fun h i hi=>by rw [h.1 i hi,h.2 i hi];rfl⟩
theorem iR_ {docs:List aa_} {keys:List Int} (hd:docs.length<=2000000) (J:keys.length<=2000000) (hJ:∀ j ∈ docs,fx_ 6 j):Ev (fun n _=>aL_ n keys docs) (kOk docs keys):=by
 refine am_ ?_;have ht:docs.length<=cf_:=by simp only [cf_];omega
 have p:keys.length<=cf_:=by simp only [cf_];omega
 have e:kOk docs keys=(iO_ (fun i => !decide (keys.getD i 0 ∈ keys.take i)) keys.length&&(iO_ (fun i=>cM_ (docs.getD i aa_.dflt)) docs.length&&((keys.length:Int) == (docs.length:Int)))):=by
  unfold kOk;by_cases hl:docs.length=keys.length
  . rw [decide_eq_true hl,allN_and,<-hl]
    simp [Bool.and_comm]
  . rw [decide_eq_false hl]
    have:((keys.length:Int) == (docs.length:Int))=false:=by rw [beq_eq_false_iff_ne];omega
    rw [this];simp
 rw [e];simp only [aL_];have u:Ev (fun n _=>aL_.loop11 n (fun B5 B6=>(some ((B5.length:Int) == (B6.length:Int)))) n keys docs 0) (iO_ (fun i=>cM_ (docs.getD i aa_.dflt)) docs.length&&((keys.length:Int) == (docs.length:Int))):=by
  refine e8_ (fun n N i=>aL_.loop11 n (fun B5 B6=>(some ((B5.length:Int) == (B6.length:Int)))) N keys docs (i:Int)) _ (fun i w hi ih => ?_) ?_
  . simp only [aL_.turn11,aL_.step11,aY_,Int.toNat_natCast,W_up hi ht,al_,bc_,ab_ (dD_ (hJ _ (b2_ aa_.dflt hi))),ae_,dK_ ih,cE_ hi,ch_ hi]
    cases cM_ (docs.getD i aa_.dflt)<;>simp
  . simp only [aL_.turn11,aL_.step11,co_,cond_false,ae_]
 refine e8_ (fun n N i=>aL_.loop3 n (fun B2 B3=>(aL_.loop11 n (fun B5 B6=>(some ((B5.length:Int) == (B6.length:Int)))) n B2 B3 0)) N keys docs (i:Int)) _ (fun i w hi ih => ?_) ?_
 . have I:=gJ_ (ks:=keys.take i) (k:=keys.getD i 0) (by simp;omega)
   have z:decide (kAt (keys.take i) (keys.getD i 0)>=0)=decide (keys.getD i 0 ∈ keys.take i):=by
    have:=q6_ (ks:=keys.take i) (k:=keys.getD i 0);by_cases m:keys.getD i 0 ∈ keys.take i
    . rw [decide_eq_true m,decide_eq_true];exact Int.not_lt.1 fun h=>this.1 h m
    . rw [decide_eq_false m,decide_eq_false];intro h;exact absurd (this.2 m) (by omega)
   simp only [aL_.turn3,aL_.step3,Int.toNat_natCast,List.drop_zero,W_up hi p,al_,bc_,dQ_,ab_ I,z,ae_,dK_ ih,cE_ hi,ch_ hi];cases decide (keys.getD i 0 ∈ keys.take i)<;>simp<;>omega
 . simp only [aL_.turn3,aL_.step3,co_,cond_false]
   exact u
def del {α:Type} (l:List α) (k:Nat):List α:=l.take k++l.drop (k+1)
def hT_ {α:Type} (l:List α) (k:Nat) (x:α):List α:=l.take k++[x]++l.drop k
def rmOp (k:Nat):TOp:=TOp.mk 2 [Lib.itoa k] (aa_.mk 0 0 [] [] [])
def repOp (k:Nat) (j:aa_):TOp:=TOp.mk 3 [Lib.itoa k] j
def addOp (k:Nat) (j:aa_):TOp:=TOp.mk 1 [Lib.itoa k] j
theorem mO_ {α:Type} {l:List α} {k:Nat} (h:k<l.length):(del l k).length+1=l.length:=by simp only [del,List.length_append,List.length_take,List.length_drop];omega
theorem p8_ {α:Type} {l:List α} {k:Nat} {x:α} (h:k<=l.length):(hT_ l k x).length=l.length+1:=by simp only [hT_,List.length_append,List.length_take,List.length_drop,List.length_cons,List.length_nil];omega
theorem del_mem {α:Type} {l:List α} {k:Nat} {x:α} (h:x ∈ del l k):x ∈ l:=by
 rcases List.mem_append.1 h with h|h
 . exact List.mem_of_mem_take h
 . exact List.mem_of_mem_drop h
theorem p6_ {α:Type} {l:List α} {k:Nat} {x y:α} (h:y ∈ hT_ l k x):y=x\/y ∈ l:=by
 rcases List.mem_append.1 h with h|h
 . rcases List.mem_append.1 h with h|h
   . exact .inr (List.mem_of_mem_take h)
   . exact .inl (List.mem_singleton.1 h)
 . exact .inr (List.mem_of_mem_drop h)
theorem del_map {α β:Type} (f:α->β) (l:List α) (k:Nat):(del l k).map f=del (l.map f) k:=by simp only [del,List.map_append,List.map_take,List.map_drop]
theorem p7_ {α β:Type} (f:α->β) (l:List α) (k:Nat) (x:α):(hT_ l k x).map f=hT_ (l.map f) k (f x):=by simp only [hT_,List.map_append,List.map_take,List.map_drop,List.map_cons,List.map_nil]
theorem nw_ {ks:List Int} {k:Nat} (h:k<ks.length) (hl:ks.length<=10000000):Ev (fun n _=>dc_ n ks (k:Int)) (del ks k):=by
 refine am_ ?_;have m:=W_up h (show ks.length<=cf_ by simp only [cf_];omega);simp only [dc_,m,dQ_,ba_,ae_,Int.toNat_natCast,List.drop_zero,List.nil_append,List.take_length,del,List.length_nil,List.length_take,List.length_drop]
 repeat' (first|apply And.intro)
 all_goals (first|trivial|rfl|omega)
theorem p5_ {ks:List Int} {k:Nat} {x:Int} (h:k<=ks.length) (hl:ks.length<=10000000):Ev (fun n _=>dz_ n ks (k:Int) x) (hT_ ks k x):=by
 refine am_ ?_;simp only [dz_,dQ_,ba_,ae_,Int.toNat_natCast,List.drop_zero,List.nil_append,List.take_length,hT_,List.length_nil,List.length_append,List.length_cons,List.length_take,List.length_drop]
 repeat' (first|apply And.intro)
 all_goals (first|trivial|rfl|omega)
def rY_ (nk:List Int) (old:List bt_):Nat->List bt_->List TOp->List bt_ × List TOp
 |0,l,ops=>(l,ops)
 |k+1,l,ops=>if (old.getD k bt_.dflt).key ∈ nk then rY_ nk old k l ops else rY_ nk old k (del l k) (ops++[rmOp k])
theorem ov_ (nk:List Int) (old:List bt_):∀ k l ops,∀ x ∈ (rY_ nk old k l ops).1,x ∈ l
 |0,l,ops,x,h=>h
 |k+1,l,ops,x,h=>by
  simp only [rY_] at h;split at h
  . exact ov_ nk old k l ops x h
  . exact del_mem (ov_ nk old k (del l k) _ x h)
theorem lu_ (nk:List Int) (old:List bt_):∀ k l ops,k<=l.length->(rY_ nk old k l ops).1.length<=l.length/\(rY_ nk old k l ops).2.length<=ops.length+k
 |0,l,ops,_=>⟨Nat.le_refl _,Nat.le_refl _⟩
 |k+1,l,ops,h=>by
  simp only [rY_];split
  . have:=lu_ nk old k l ops (by omega);omega
  . have hd:=mO_ (l:=l) (k:=k) (by omega)
    have:=lu_ nk old k (del l k) (ops++[rmOp k]) (by omega);simp only [List.length_append,List.length_cons,List.length_nil] at this;omega
theorem dn_ge {k:Nat}:decide ((k:Int)>=0)=true:=decide_eq_true (by omega)
theorem dn_eq {k:Nat}:(((k+1:Nat):Int) - 1)=(k:Int):=by omega
theorem neg_dec {ks:List Int} {k:Int}:decide (kAt ks k<0) = !decide (k ∈ ks):=by
 have:=q6_ (ks:=ks) (k:=k);by_cases h:k ∈ ks
 . rw [decide_eq_true h,decide_eq_false (fun h'=>this.1 h' h)];rfl
 . rw [decide_eq_false h,decide_eq_true (this.2 h)];rfl
theorem fI_ {l:List bt_} {k:Nat} (h:k<l.length):(cp_ l).getD k 0=(l.getD k bt_.dflt).key:=lA_ (fun x:bt_=>x.key) bt_.dflt 0 h
theorem qR_ {old now:List bt_} (I:now.length<=2000000) (m:old.length<=2000000) (o t2:List aa_) (K:Nat->List aa_->List Int->List aa_->List Int->List TOp->List Int->Option (List TOp)) (F:List TOp):∀ k l ops,k<=old.length->k<=l.length->l.length<=2000000->ops.length+k<=2000000 ->
  Ev (fun n N=>K n o (cp_ old) t2 (cp_ now) (rY_ (cp_ now) old k l ops).2 (cp_ (rY_ (cp_ now) old k l ops).1)) F->Ev (fun n N=>aI_.loop5 n (K n) N o (cp_ old) t2 (cp_ now) ((k:Int) - 1) ops (cp_ l)) F
 |0,l,ops,_,_,_,_,hF=>by refine a8_ ?_;have e:decide ((((0:Nat):Int) - 1)>=0)=false:=rfl;simp only [aI_.turn5,aI_.step5,e,cond_false];exact hF
 |k+1,l,ops,hko,hk,hl,ho,hF=>by
  refine a8_ ?_;have p:k<(cp_ old).length:=by rw [cP_];omega
  have z:k<l.length:=by omega
  have u:k<(cp_ l).length:=by rw [cP_];omega
  have S:=fI_ (l:=old) (k:=k) (by omega);have T:=gJ_ (ks:=cp_ now) (k:=(old.getD k bt_.dflt).key) (by rw [cP_];simp only [cf_];omega);have J:=nw_ u (by rw [cP_];omega);have O:del (cp_ l) k=cp_ (del l k):=(del_map (fun x:bt_=>x.key) l k).symm;rw [O] at J;simp only [rY_] at hF;simp only [aI_.turn5,aI_.step5,dn_ge,dn_eq,cond_true,bc_,ch_ p,Int.toNat_natCast,S,ab_ T,neg_dec,al_,W_dn (i:=k) (by simp only [cf_];omega),ab_ (c4_ (x:=(k:Int)) (by omega) (by omega)),ba_,ab_ J];refine ⟨trivial,fun hc => ?_,fun hc => ?_⟩
  . have hc:¬ (old.getD k bt_.dflt).key ∈ cp_ now:=by simpa using hc
    rw [if_neg hc] at hF;have hd:=mO_ z;exact ⟨by simp only [List.length_cons,List.length_nil];omega,qR_ I m o t2 K F k (del l k) _ (by omega) (by omega) (by omega) (by simp only [List.length_append,List.length_cons,List.length_nil];omega) hF⟩
  . have hc:(old.getD k bt_.dflt).key ∈ cp_ now:=by simpa using hc
    rw [if_pos hc] at hF;exact qR_ I m o t2 K F k l ops (by omega) (by omega) hl (by omega) hF
def hd_ (l:List bt_) (i:Nat) (x:bt_):List bt_ × List TOp :=
 if kAt (cp_ l) x.key=(i:Int) then (l,cond (e9_ 6 (l.getD i bt_.dflt).value x.value) [] [repOp i x.value])
 else if (i:Int)<kAt (cp_ l) x.key then (hT_ (del l (kAt (cp_ l) x.key).toNat) i x,[rmOp (kAt (cp_ l) x.key).toNat,addOp i x.value])
 else (hT_ l i x,[addOp i x.value])
def jm_ (now:List bt_) (s:List bt_ × List TOp):Nat->List bt_ × List TOp
 |0=>s
 |i+1=>((hd_ (jm_ now s i).1 i (now.getD i bt_.dflt)).1,(jm_ now s i).2++(hd_ (jm_ now s i).1 i (now.getD i bt_.dflt)).2)
theorem sk_ {l:List bt_} {k:Int} {i:Nat} (h:(i:Int)<kAt (cp_ l) k):∃ p:Nat,kAt (cp_ l) k=p/\i<p/\p<l.length:=by
 obtain ⟨p,m⟩:∃ p:Nat,kAt (cp_ l) k=p:=⟨(kAt (cp_ l) k).toNat,by omega⟩
 have:=(p4_ m).1;rw [cP_] at this;exact ⟨p,m,by omega,this⟩
theorem n7_ {l:List bt_} {i:Nat} {x:bt_} (h:i<=l.length):i+1<=(hd_ l i x).1.length/\(hd_ l i x).1.length<=l.length+1/\(hd_ l i x).2.length<=2:=by
 unfold hd_;by_cases u:kAt (cp_ l) x.key=(i:Int)
 . rw [if_pos u]
   have:=(p4_ u).1;rw [cP_] at this;refine ⟨by dsimp only;omega,by dsimp only;omega,?_⟩;dsimp only
   cases e9_ 6 (l.getD i bt_.dflt).value x.value<;>simp
 . rw [if_neg u]
   by_cases m:(i:Int)<kAt (cp_ l) x.key
   . rw [if_pos m]
     obtain ⟨p,z,J,I⟩:=sk_ m;rw [z,Int.toNat_natCast];have:=mO_ I;have:=p8_ (l:=del l p) (k:=i) (x:=x) (by omega);exact ⟨by dsimp only;omega,by dsimp only;omega,Nat.le_refl _⟩
   . rw [if_neg m]
     have:=p8_ (l:=l) (k:=i) (x:=x) h;exact ⟨by dsimp only;omega,by dsimp only;omega,by simp⟩
theorem tB_ {l:List bt_} {i:Nat} {x y:bt_} (h:y ∈ (hd_ l i x).1):y=x\/y ∈ l:=by
 unfold hd_ at h;split at h
 . exact .inr h
 . split at h
   . rcases p6_ h with h|h
     . exact .inl h
     . exact .inr (del_mem h)
   . exact p6_ h
theorem j4_ (now:List bt_) (s:List bt_ × List TOp):∀ i,i<=(jm_ now s i).1.length/\(jm_ now s i).1.length<=s.1.length+i/\(jm_ now s i).2.length<=s.2.length+2*i
 |0=>⟨Nat.zero_le _,Nat.le_refl _,Nat.le_refl _⟩
 |i+1=>by have h:=j4_ now s i;have k:=n7_ (x:=now.getD i bt_.dflt) h.1;simp only [jm_,List.length_append];omega
def okK (x:bt_):Prop:=cM_ x.value=true/\fx_ 6 x.value
theorem lx_ {x:bt_} (h:okK x):bI_ 6 x.value<=400:=of_decide_eq_true h.1
structure AddInv (old now:List bt_) (l:List bt_) (i:Nat):Prop where
 len:i<=l.length
 front:∀ j,j<i->(l.getD j bt_.dflt).key=(now.getD j bt_.dflt).key
 from_:∀ x ∈ l,x ∈ old\/∃ j,j<i/\x.key=(now.getD j bt_.dflt).key
def o6_ (now:List bt_):Prop:=∀ i j,i<j->j<now.length->(now.getD i bt_.dflt).key≠(now.getD j bt_.dflt).key
theorem qi_ {α:Type} (d:α) {a b:List α} {j:Nat} (h:j<a.length):(a++b).getD j d=a.getD j d:=by rw [List.getD_eq_getElem?_getD,List.getD_eq_getElem?_getD,List.getElem?_append_left h]
theorem mA_ {l:List bt_} {i j:Nat} {x:bt_} (hi:i<=l.length) (h:j<i):(hT_ l i x).getD j bt_.dflt=l.getD j bt_.dflt:=by
 have hl:(l.take i).length=i:=by simp;omega
 unfold hT_;rw [List.append_assoc,qi_ _ (by omega),List.getD_eq_getElem?_getD,List.getD_eq_getElem?_getD,List.getElem?_take_of_lt h]
theorem sm_ {l:List bt_} {i:Nat} {x:bt_} (hi:i<=l.length):(hT_ l i x).getD i bt_.dflt=x:=by
 have hl:(l.take i).length=i:=by simp;omega
 unfold hT_;rw [List.append_assoc,List.getD_eq_getElem?_getD,List.getElem?_append_right (by omega),hl,Nat.sub_self];rfl
theorem del_front {l:List bt_} {p j:Nat} (k:p<=l.length) (h:j<p):(del l p).getD j bt_.dflt=l.getD j bt_.dflt:=by
 have hl:(l.take p).length=p:=by simp;omega
 unfold del;rw [qi_ _ (by omega),List.getD_eq_getElem?_getD,List.getD_eq_getElem?_getD,List.getElem?_take_of_lt h]
theorem rw_ {old now l:List bt_} {i:Nat} (h:AddInv old now l i) (hi:i<now.length):AddInv old now (hd_ l i (now.getD i bt_.dflt)).1 (i+1):=by
 refine ⟨(n7_ h.len).1,fun j z => ?_,fun x hx => ?_⟩
 . unfold hd_
   by_cases m:kAt (cp_ l) (now.getD i bt_.dflt).key=(i:Int)
   . rw [if_pos m]
     by_cases e:j=i
     . subst e
       obtain ⟨a,b⟩:=p4_ m;rw [cP_] at a;rw [<-b,fI_ a]
     . exact h.front j (by omega)
   . rw [if_neg m]
     by_cases k:(i:Int)<kAt (cp_ l) (now.getD i bt_.dflt).key
     . rw [if_pos k]
       obtain ⟨p,u,O,J⟩:=sk_ k;rw [u,Int.toNat_natCast];have I:=mO_ J;by_cases e:j=i
       . subst e;rw [sm_ (by omega)]
       . rw [mA_ (by omega) (by omega),del_front (by omega) (by omega)];exact h.front j (by omega)
     . rw [if_neg k]
       by_cases e:j=i
       . subst e;rw [sm_ h.len]
       . rw [mA_ h.len (by omega)];exact h.front j (by omega)
 . rcases tB_ hx with e|hx
   . exact .inr ⟨i,by omega,by rw [e]⟩
   . rcases h.from_ x hx with h' | ⟨j,z,e⟩
     . exact .inl h'
     . exact .inr ⟨j,by omega,e⟩
theorem n8_ {old now:List bt_} {s:List bt_ × List TOp} (k:∀ x ∈ s.1,x ∈ old):∀ i,i<=now.length->AddInv old now (jm_ now s i).1 i
 |0,_=>⟨Nat.zero_le _,fun j m=>by omega,fun x hx=>.inl (k x hx)⟩
 |i+1,hi=>rw_ (n8_ k i (by omega)) (by omega)
theorem lK_ {l:List bt_} {k:Nat} (h:k<l.length):(l.map (·.value)).getD k aa_.dflt=(l.getD k bt_.dflt).value:=lA_ (fun x:bt_=>x.value) bt_.dflt aa_.dflt h
theorem spec_add {old now:List bt_} {s:List bt_ × List TOp} (hnl:now.length<=2000000) (hold:old.length<=2000000) (hsl:s.1.length<=2000000) (hol:s.2.length<=2000000) (hn:∀ x ∈ now,okK x) (ho:∀ x ∈ old,okK x) (h0:∀ x ∈ s.1,x ∈ old)
  (hd:o6_ now) (hod:∀ x ∈ old,∀ y ∈ old,x.key=y.key->x=y) :
  Ev (fun n _=>aI_.loop13 n (fun B21=>(some B21)) n (old.map (·.value)) (cp_ old) (now.map (·.value)) (cp_ now) 0 s.2 (cp_ s.1)) (jm_ now s now.length).2:=by
 refine eO_ (jm_ now s) now.length (fun n N i (z:List bt_ × List TOp)=>aI_.loop13 n (fun B21=>(some B21)) N (old.map (·.value)) (cp_ old) (now.map (·.value)) (cp_ now) (i:Int) z.2 (cp_ z.1)) _ (fun i hi F m => ?_) ?_
 . have hL:=j4_ now s i
   have hI:=n8_ (now:=now) h0 i (by omega);simp only [jm_] at m;obtain ⟨x,hx⟩:∃ x,x=now.getD i bt_.dflt:=⟨_,rfl⟩
   have hxo:okK x:=by rw [hx];exact hn _ (b2_ bt_.dflt hi)
   have u:i<(cp_ now).length:=by rw [cP_];exact hi
   have T:i<(now.map (·.value)).length:=by simpa using hi
   have hkey:(cp_ now).getD i 0=x.key:=by rw [fI_ hi,hx]
   have Z:(now.map (·.value)).getD i aa_.dflt=x.value:=by rw [lK_ hi,hx]
   rw [<-hx] at m;generalize jm_ now s i=z at m hL hI ⊢;obtain ⟨l,ops⟩:=z;dsimp only at m hL hI ⊢
   have hA:=gJ_ (ks:=cp_ l) (k:=x.key) (by rw [cP_];simp only [cf_];omega);have hC:=e4_ 6 x.value (lx_ hxo);have hWi:=c4_ (x:=(i:Int)) (by omega) (by omega);simp only [aI_.turn13,aI_.step13,aY_,Int.toNat_natCast,hkey,Z,W_up u (show (cp_ now).length<=cf_ by rw [cP_];simp only [cf_];omega),cE_ u,ch_ u,ch_ T,cond_true,bc_,ab_ hA,ab_ hWi];refine ⟨trivial,?_⟩;unfold hd_ at m;by_cases h1:kAt (cp_ l) x.key=(i:Int)
   . rw [if_pos h1] at m
     obtain ⟨Y,S⟩:=p4_ h1;rw [cP_] at Y;rw [fI_ Y] at S;have I:l.getD i bt_.dflt ∈ old:=by
      rcases hI.from_ _ (b2_ bt_.dflt Y) with h' | ⟨j,hj,e⟩
      . exact h'
      . exact absurd (by rw [<-e,S,hx]) (hd j i hj hi)
     have hin:x.key ∈ cp_ old:=List.mem_map.2 ⟨_,I,S⟩;obtain ⟨q,hq,hql,hqk⟩:=nR_ hin
     have J:q<old.length:=by rwa [cP_] at hql
     have hqe:old.getD q bt_.dflt=l.getD i bt_.dflt:=hod _ (b2_ bt_.dflt J) _ I (by rw [<-fI_ J,hqk,S]);have hqv:(old.map (·.value)).getD q aa_.dflt=(l.getD i bt_.dflt).value:=by rw [lK_ J,hqe]
     have O:q<(old.map (·.value)).length:=by simpa using J
     have hB:=gJ_ (ks:=cp_ old) (k:=x.key) (by rw [cP_];simp only [cf_];omega);rw [hq] at hB;have hoo:=ho _ I;have hK:=fN_ 6 (l.getD i bt_.dflt).value x.value (he_ 6 _ (lx_ hoo)) hoo.2;simp only [h1,beq_self_eq_true,cond_true,bc_,ab_ hB,ch_ O,ch_ u,ch_ T,Int.toNat_natCast,hqv,ab_ hK,al_,ab_ hC,ba_];refine ⟨trivial,trivial,trivial,fun hc => ?_,fun hc => ?_⟩
     . have hc:e9_ 6 (l.getD i bt_.dflt).value x.value=false:=by simpa using hc
       rw [hc] at m;exact ⟨trivial,by simp only [List.length_cons,List.length_nil];omega,m⟩
     . have hc:e9_ 6 (l.getD i bt_.dflt).value x.value=true:=by simpa using hc
       rw [hc] at m;simp only [cond_true,List.append_nil] at m;exact m
   . rw [if_neg h1] at m
     have U:(kAt (cp_ l) x.key == (i:Int))=false:=beq_eq_false_iff_ne.2 h1;by_cases h2:(i:Int)<kAt (cp_ l) x.key
     . rw [if_pos h2] at m
       obtain ⟨p,hp,h3,h4⟩:=sk_ h2;rw [hp,Int.toNat_natCast] at m;rw [hp] at h2 U;have hdl:=mO_ h4;have hpk:p<(cp_ l).length:=by rw [cP_];exact h4
       have hW:=nw_ hpk (by rw [cP_];omega);have hm:del (cp_ l) p=cp_ (del l p):=(del_map (fun x:bt_=>x.key) l p).symm;rw [hm] at hW;have hN:=p5_ (ks:=cp_ (del l p)) (k:=i) (x:=x.key) (by rw [cP_];omega) (by rw [cP_];omega);have V:hT_ (cp_ (del l p)) i x.key=cp_ (hT_ (del l p) i x):=(p7_ (fun x:bt_=>x.key) (del l p) i x).symm;rw [V] at hN;simp only [hp,U,decide_eq_true (show (p:Int)>=0 by omega),cond_true,cond_false,ab_ (c4_ (x:=(p:Int)) (by omega) (by omega)),ba_,ab_ hW,bc_,ch_ u,ch_ T,ab_ hC,ab_ hN];refine ⟨by simp only [List.length_cons,List.length_nil];omega,trivial,by simp only [List.length_append,List.length_cons,List.length_nil];omega,trivial,?_⟩;rw [List.append_assoc];exact m
     . rw [if_neg h2] at m
       have hlt:kAt (cp_ l) x.key<0:=Classical.byContradiction fun hc=>by
        obtain ⟨q,hq⟩:∃ q:Nat,kAt (cp_ l) x.key=q:=⟨(kAt (cp_ l) x.key).toNat,by omega⟩
        have O:q<i:=by omega
        obtain ⟨a,b⟩:=p4_ hq;rw [cP_] at a;rw [fI_ a,hI.front q O,hx] at b;exact hd q i O hi b
       have hN:=p5_ (ks:=cp_ l) (k:=i) (x:=x.key) (by rw [cP_];omega) (by rw [cP_];omega);have V:hT_ (cp_ l) i x.key=cp_ (hT_ l i x):=(p7_ (fun x:bt_=>x.key) l i x).symm;rw [V] at hN;simp only [U,decide_eq_false (show ¬ kAt (cp_ l) x.key>=0 by omega),cond_false,bc_,ch_ u,ch_ T,ab_ hC,ba_,ab_ hN];exact ⟨trivial,by simp only [List.length_cons,List.length_nil];omega,trivial,m⟩
 . have e:((cp_ now).length:Int)=(now.length:Int):=by rw [cP_]
   simp only [aI_.turn13,aI_.step13,e,co_,cond_false,ae_]
def jp_ (kids:List TKid) (id:Int):Int:=gR_ (fun i x=>cond ((kids.getD i TKid.dflt).id_ == id) (kids.getD i TKid.dflt).n_ x) 0 kids.length 0
theorem iW_ {v:bq_} {id:Int} (h:v.kids.length<=cf_):Ev (fun n _=>cc_ n v id) (jp_ v.kids id):=by
 refine am_ ?_;simp only [cc_];refine mK_ (fun n N i=>cc_.loop3 n (some 0) N id (i:Int) v.q.table v.q.where_ v.q.order v.q.down v.q.first v.q.show_ v.q.kids v.q.kidTable v.q.kidCol v.rows v.kids) _ (fun i u hi ih => ?_) ?_
 . simp only [cc_.turn3,cc_.step3,Int.toNat_natCast,W_up hi h,al_,bc_,ae_,dK_ ih,cE_ hi,ch_ hi]
   cases ((v.kids.getD i TKid.dflt).id_ == id)<;>simp
 . simp only [cc_.turn3,cc_.step3,co_,cond_false,ae_]
def ff_ (v:bq_):List Int:=v.rows.map fun r=>jp_ v.kids r.id_
theorem view_eta (v:bq_):bq_.mk (ay_.mk v.q.table v.q.where_ v.q.order v.q.down v.q.first v.q.show_ v.q.kids v.q.kidTable v.q.kidCol) v.rows v.kids=v:=rfl
theorem km_ {v:bq_} (h:v.kids.length<=cf_) (hr:v.rows.length<=fj_):Ev (fun n _=>bf_ n v) (ff_ v):=by
 refine am_ ?_;have hl:=hr;simp only [fj_] at hl;simp only [bf_];refine qn_ TRow.dflt v.rows (fun r=>jp_ v.kids r.id_) (fun n N i s=>bf_.loop4 n (fun B2=>(some B2)) N (i:Int) v.q.table v.q.where_ v.q.order v.q.down v.q.first v.q.show_ v.q.kids v.q.kidTable v.q.kidCol v.rows v.kids s) (ff_ v) (fun i s hi hs F k => ?_) ?_
 . simp only [bf_.turn4,bf_.step4,view_eta,Int.toNat_natCast,W_up hi (show v.rows.length<=cf_ by simp only [cf_];omega),al_,bc_,ab_ (iW_ (v:=v) (id:=(v.rows.getD i TRow.dflt).id_) h),ba_,cE_ hi,ch_ hi]
   exact ⟨fun _=>⟨trivial,by simp;omega,k⟩,fun h=>by cases h⟩
 . simp only [bf_.turn4,bf_.step4,co_,cond_false,ae_];rfl
def hQ_ (q:ay_) (n:Nat):Nat:=if q.first=0 then n else min n q.first.toNat
theorem fa_ {q:ay_} {n:Nat}:Ev (fun m _=>dA_ m q (n:Int)) (hQ_ q n:Int):=by refine am_ ?_;have k:∀ a b:Int,Ev (fun m _=>eb_ m a b) (min a b):=fun a b=>am_ (by simp only [eb_,al_,ae_,decide_eq_true_eq,decide_eq_false_iff_not];constructor<;>intro h<;>omega);have p:∀ a b:Int,Ev (fun m _=>cL_ m a b) (max a b):=fun a b=>am_ (by simp only [cL_,al_,ae_,decide_eq_true_eq,decide_eq_false_iff_not];constructor<;>intro h<;>omega);simp only [dA_,al_,ae_,ab_ (k _ _),ab_ (p _ _),hQ_];refine ⟨fun h=>by rw [if_pos (by simpa using h)],fun h => ?_⟩;rw [if_neg (by simpa using h)];omega
def kd_ (g:aa_->aa_) (q:ay_) (rows:List TRow) (kids:List Int) (m:Nat):List aa_:=(List.range m).map fun i=>g (pi_ q (rows.getD i TRow.dflt) (kids.getD i 0))
theorem of_ {g:aa_->aa_} {q:ay_} {rows:List TRow} {kids:List Int} {m:Nat}:kd_ g q rows kids (m+1)=kd_ g q rows kids m++[g (pi_ q (rows.getD m TRow.dflt) (kids.getD m 0))]:=by unfold kd_;rw [List.range_succ,List.map_append];rfl
theorem kc_ {g:aa_->aa_} {q:ay_} {rows:List TRow} {kids:List Int} {m:Nat}:(kd_ g q rows kids m).length=m:=by unfold kd_;simp
abbrev nmCount:Bs:=[99,111,117,110,116]
abbrev kW_:Bs:=[114,111,119,115]
def n9_ (n:Nat) (docs:List aa_):aa_:=aa_.mk 5 0 [] [q1_ n,aa_.mk 4 0 [] docs []] [nmCount,kW_]
theorem m5_ {q:ay_} {n:Nat}:hQ_ q n<=n:=by unfold hQ_;split<;>omega
def FDoc (q:ay_) (rows:List TRow) (kids:List Int):aa_:=eV_ (n9_ rows.length (kd_ id q rows kids (hQ_ q rows.length)))
theorem td_ {n:Nat} {docs:List aa_} (hl:docs.length<=cf_) (hd:∀ j ∈ docs,fx_ 4 j):fx_ 6 (n9_ n docs):=by
 refine ⟨⟨Nat.zero_le _,by show 2<=cf_;decide,fun x hx => ?_⟩,by show 2<=cf_;decide,fun x hx => ?_⟩
 . rcases List.mem_cons.1 hx with e|hx
   . rw [e];show 5<=cf_;decide
   . rw [List.mem_singleton.1 hx];show 4<=cf_;decide
 . rcases List.mem_cons.1 hx with e|hx
   . rw [e];exact lz_ 5
   . rw [List.mem_singleton.1 hx]
     exact ⟨⟨Nat.zero_le _,Nat.zero_le _,fun x hx=>(by cases hx)⟩,hl,hd⟩
theorem pY_ {q:ay_} {rows:List TRow} {kids:List Int} (hq:q.show_.length<=1100000) (hs:∀ c ∈ q.show_,i64 c) (hl:rows.length<=2000000) {m:Nat} (p:m<=rows.length):fx_ 6 (n9_ rows.length (kd_ id q rows kids m)):=by refine td_ (by rw [kc_];simp only [cf_];omega) fun j k => ?_;obtain ⟨i,_,e⟩:=List.mem_map.1 k;rw [<-e];exact oN_ hq hs 4
section
variable {q:ay_} {rows:List TRow} {kids:List Int} (hq:q.show_.length<=1100000) (hs:∀ c ∈ q.show_,i64 c) (hr:hs_ cf_ rows) (hl:rows.length<=2000000)
include hq hs hr hl
theorem oo_ (S:kids.length<=cf_):Ev (fun n _=>cn_ n q rows kids) (FDoc q rows kids):=by
 refine am_ ?_;simp only [cn_];have p:=m5_ (q:=q) (n:=rows.length);have I:ay_.mk q.table q.where_ q.order q.down q.first q.show_ q.kids q.kidTable q.kidCol=q:=rfl;have:=eO_ (kd_ id q rows kids) (hQ_ q rows.length) (fun n N i (s:List aa_)=>cn_.loop4 n (fun B4 B5 B6 B7 B8 B9 B10 B11=>((da_ n (B4.length:Int)).bind fun A12=>((dh_ n (aa_.mk 5 0 [] ([(aa_.re A12),(aa_.mk B8 B9 B10 B11 [])]:List aa_) ([[99,111,117,110,116],[114,111,119,115]]:List Bs))).bind fun A13=>(some (aa_.re A13))))) N rows kids (i:Int) q.table q.where_ q.order q.down q.first q.show_ q.kids q.kidTable q.kidCol 0 0 [] 4 0 [] s) (FDoc q rows kids) (fun i hi F p => ?_) ?_
 . exact this
 . have z:i<rows.length:=by omega
   have O:∀ k,Ev (fun n _=>bS_ n q (rows.getD i TRow.dflt) k) (pi_ q (rows.getD i TRow.dflt) k):=fun k=>iT_ hq hs (iH_ hr i);rw [of_] at p;simp only [aY_] at p;have u:=kc_ (g:=id) (q:=q) (rows:=rows) (kids:=kids) (m:=i);generalize kd_ id q rows kids i=s at p u;simp only [cn_.turn4,cn_.step4,I,Int.toNat_natCast,aY_,W_up z (show rows.length<=cf_ by simp only [cf_];omega),ab_ fa_,ab_ (O _),decide_eq_true (show ((i:Int)<(hQ_ q rows.length:Int)) by omega),ch_ z,cond_true,al_,bc_,ba_];refine ⟨fun h=>⟨⟨by omega,by have:=of_decide_eq_true h;omega⟩,trivial,by simp;omega,p⟩,fun h=>⟨trivial,by simp;omega,?_⟩⟩;have h:=of_decide_eq_false h;have e:kids.getD i 0=0:=by rw [List.getD_eq_getElem?_getD,List.getElem?_eq_none (by omega)];rfl
   rw [e] at p;exact p
 . have J:=mw_ (pY_ hq hs hl (kids:=kids) p)
   unfold n9_ at J;simp only [cn_.turn4,cn_.step4,I,aY_,ab_ fa_,co_,cond_false,ab_ mx_,ab_ J,ae_];rfl
end
def fd_ (v:bq_):aa_:=FDoc v.q v.rows (ff_ v)
theorem rF_ {v:bq_}:(ff_ v).length=v.rows.length:=by unfold ff_;simp
theorem hs_.top {r:List TRow} (h:hs_ cap r):hs_ cf_ r:=⟨Nat.le_trans h.1 (by decide),fun x hx=>Nat.le_trans (h.2 x hx) (by decide)⟩
section
variable {v:bq_} (h:ku_ cap v) (hs:∀ c ∈ v.q.show_,i64 c)
include h hs
theorem gM_:fx_ 6 (fd_ v):=by
 have m:=h.1.2;have k:=h.2.1.1;simp only [cap] at m k;unfold fd_ FDoc eV_;have:=pY_ (kids:=ff_ v) (rows:=v.rows) (show v.q.show_.length<=1100000 by omega) hs (by omega) (m5_ (q:=v.q));cases cM_ (n9_ v.rows.length (kd_ id v.q v.rows (ff_ v) (hQ_ v.q v.rows.length))) with
 |true=>exact this
 |false=>exact ⟨⟨Nat.zero_le _,Nat.zero_le _,fun x hx=>(by cases hx)⟩,Nat.zero_le _,fun x hx=>(by cases hx)⟩
theorem fl_:Ev (fun n _=>do_ n v) (fd_ v):=by refine am_ ?_;have u:=h.1.2;have p:=h.2.1.1;have m:=h.2.2;simp only [cap] at u p m;have hc:=rF_ (v:=v);have k:=oo_ (q:=v.q) (rows:=v.rows) (kids:=ff_ v) (by omega) hs h.2.1.top (by omega) (by simp only [cf_];omega);simp only [do_,aY_,ab_ (km_ (v:=v) (by simp only [cf_];omega) (by simp only [fj_];omega)),ab_ k,ae_];rfl
end
def ph_ (old now:List bt_):List TOp:=(jm_ now (rY_ (cp_ now) old old.length old []) now.length).2
def gC_ (docs:List aa_) (keys:List Int) (docs':List aa_) (keys':List Int):List TOp:=cond (kOk docs keys) (cond (kOk docs' keys') (ph_ (pj_ docs keys docs.length) (pj_ docs' keys' docs'.length)) []) []
structure KIs (docs:List aa_) (keys:List Int):Prop where
 len:docs.length=keys.length
 ok:∀ i,i<docs.length->cM_ (docs.getD i aa_.dflt)=true
 no:∀ i,i<docs.length->keys.getD i 0 ∉ keys.take i
theorem k_is {docs:List aa_} {keys:List Int} (h:kOk docs keys=true):KIs docs keys:=by
 unfold kOk at h;rw [Bool.and_eq_true,fc_] at h;refine ⟨of_decide_eq_true h.1,fun i hi => ?_,fun i hi => ?_⟩
 . have:=h.2 i hi
   rw [Bool.and_eq_true] at this;exact this.1
 . have:=h.2 i hi
   rw [Bool.and_eq_true] at this;simpa using this.2
theorem lJ_ {docs:List aa_} {keys:List Int} {m i:Nat} (h:i<m):(pj_ docs keys m).getD i bt_.dflt=bt_.mk (keys.getD i 0) (docs.getD i aa_.dflt):=by
 unfold pj_;rw [lA_ (fun i=>bt_.mk (keys.getD i 0) (docs.getD i aa_.dflt)) 0 bt_.dflt (by simpa using h)];have:(List.range m).getD i 0=i:=by rw [List.getD_eq_getElem?_getD,List.getElem?_range h];rfl
 rw [this]
theorem nG_ {α:Type} (d:α) (l:List α):(List.range l.length).map (fun i=>l.getD i d)=l:=by
 apply List.ext_getElem?;intro i;by_cases h:i<l.length
 . rw [List.getElem?_map,List.getElem?_range h,List.getElem?_eq_getElem h]
   simp only [Option.map_some];rw [List.getD_eq_getElem?_getD,List.getElem?_eq_getElem h];rfl
 . rw [List.getElem?_eq_none (by simpa using h),List.getElem?_eq_none (by omega)]
theorem lI_ {docs:List aa_} {keys:List Int}:(pj_ docs keys docs.length).map (·.value)=docs:=by unfold pj_;rw [List.map_map];exact nG_ aa_.dflt docs
theorem pm_ {docs:List aa_} {keys:List Int} (h:docs.length=keys.length):cp_ (pj_ docs keys docs.length)=keys:=by unfold cp_ pj_;rw [List.map_map,h];exact nG_ 0 keys
theorem oI_ {α:Type} (d:α) {l:List α} {x:α} (h:x ∈ l):∃ i,i<l.length/\l.getD i d=x:=by obtain ⟨i,hi,e⟩:=List.mem_iff_getElem.1 h;exact ⟨i,hi,by rw [List.getD_eq_getElem?_getD,List.getElem?_eq_getElem hi];exact e⟩
theorem oj_ {α:Type} (d:α) {l:List α} {i j:Nat} (h:i<j) (k:j<=l.length):l.getD i d ∈ l.take j:=by
 have e:(l.take j).getD i d=l.getD i d:=by rw [List.getD_eq_getElem?_getD,List.getD_eq_getElem?_getD,List.getElem?_take_of_lt h]
 rw [<-e];exact b2_ d (by simp;omega)
theorem js_ {docs:List aa_} {keys:List Int} (h:KIs docs keys):o6_ (pj_ docs keys docs.length):=by intro i j m k;rw [iw_] at k;rw [lJ_ (by omega),lJ_ k];intro e;have e:keys.getD i 0=keys.getD j 0:=e;exact h.no j k (e ▸ oj_ 0 m (by have:=h.len;omega))
theorem o5_ {l:List bt_} (h:o6_ l):∀ x ∈ l,∀ y ∈ l,x.key=y.key->x=y:=by
 intro x hx y m e;obtain ⟨i,hi,ei⟩:=oI_ bt_.dflt hx;obtain ⟨j,p,ej⟩:=oI_ bt_.dflt m;rcases Nat.lt_trichotomy i j with k|k|k
 . exact absurd (by rw [ei,ej,e]) (h i j k p)
 . subst k;rw [<-ei,<-ej]
 . exact absurd (by rw [ei,ej,e]) (h j i k hi)
theorem qL_ {docs:List aa_} {keys:List Int} (h:KIs docs keys) (hJ:∀ j ∈ docs,fx_ 6 j):∀ x ∈ pj_ docs keys docs.length,okK x:=by intro x hx;obtain ⟨i,hi,e⟩:=oI_ bt_.dflt hx;rw [iw_] at hi;rw [lJ_ hi] at e;rw [<-e];exact ⟨h.ok i hi,hJ _ (b2_ aa_.dflt hi)⟩
section
variable {docs docs':List aa_} {keys keys':List Int} (hd:docs.length<=1500000) (hd':docs'.length<=1500000) (hJ:∀ j ∈ docs,fx_ 6 j) (hJ':∀ j ∈ docs',fx_ 6 j)
include hd hd' hJ hJ'
theorem pB_ (J:keys.length<=1500000) (p:keys'.length<=1500000):Ev (fun n _=>e5_ n docs keys docs' keys') (gC_ docs keys docs' keys'):=by
 refine am_ ?_;simp only [e5_,ab_ (iR_ (docs:=docs) (keys:=keys) (by omega) (by omega) hJ),ab_ (iR_ (docs:=docs') (keys:=keys') (by omega) (by omega) hJ'),al_,ae_,gC_];cases I:kOk docs keys with
 |false=>exact ⟨fun _=>rfl,fun h=>(by cases h)⟩
 |true=>
  cases z:kOk docs' keys' with
  |false=>exact ⟨fun h=>(by cases h),fun _=>⟨fun _=>rfl,fun h=>(by cases h)⟩⟩
  |true=>
   refine ⟨fun h=>(by cases h),fun _=>⟨fun h=>(by cases h),fun _ => ?_⟩⟩;simp only [cond_true];have k1:=k_is I;have k2:=k_is z;have o1:=qL_ k1 hJ;have o2:=qL_ k2 hJ';have d1:=o5_ (js_ k1);have d2:=js_ k2;have l1:=iw_ (docs:=docs) (keys:=keys) (m:=docs.length);have l2:=iw_ (docs:=docs') (keys:=keys') (m:=docs'.length);have u:Ev (fun n _=>aI_ n docs keys docs' keys') (ph_ (pj_ docs keys docs.length) (pj_ docs' keys' docs'.length)):=by have v1:=lI_ (docs:=docs) (keys:=keys);have v2:=lI_ (docs:=docs') (keys:=keys');have e1:=pm_ k1.len;have e2:=pm_ k2.len;generalize pj_ docs keys docs.length=old at o1 l1 d1 v1 e1 ⊢;generalize pj_ docs' keys' docs'.length=now at o2 l2 d2 v2 e2 ⊢;subst e1 e2 v1 v2;simp only [List.length_map] at l1 l2 hd hd';have hr:=lu_ (cp_ now) old old.length old [] (Nat.le_refl _);have k:=ov_ (cp_ now) old old.length old [];simp only [List.length_nil] at hr;refine am_ ?_;simp only [aI_,ba_,List.nil_append,List.length_nil,cP_,W_dn (show old.length<=cf_ by simp only [cf_];omega)];refine ⟨by omega,?_⟩;refine cX_ (f:=fun n N=>aI_.loop5 n (fun B4 B5 B6 B7 B8 B9=>(aI_.loop13 n (fun B21=>(some B21)) n B4 B5 B6 B7 0 B8 B9)) N (old.map (·.value)) (cp_ old) (now.map (·.value)) (cp_ now) ((old.length:Int) - 1) [] (cp_ old)) (qR_ (old:=old) (by omega) (by omega) _ _ (fun n B4 B5 B6 B7 B8 B9=>(aI_.loop13 n (fun B21=>(some B21)) n B4 B5 B6 B7 0 B8 B9)) _ old.length old [] (Nat.le_refl _) (Nat.le_refl _) (by omega) (by simp only [List.length_nil];omega) ?_);exact spec_add (by omega) (by omega) (by omega) (by omega) o2 o1 (fun x hx=>k x hx) d2 d1
   simp only [ab_ u,ae_]
end
def opK (o:TOp):Prop:=(∃ t:Bs,t.length<=25/\o.way=[t])/\bI_ 6 o.value<=400/\fx_ 6 o.value
theorem null_size:bI_ 6 (aa_.mk 0 0 [] [] [])<=400:=by decide
theorem kx_ {k:Nat} (h:k<=4000000):(Lib.itoa (k:Int)).length<=25:=by have:=Lib.itoa_length_le (k:Int) (by omega) (by omega);omega
theorem rmOp_ok {k:Nat} (h:k<=4000000):opK (rmOp k):=⟨⟨_,kx_ h,rfl⟩,null_size,ev_ 6⟩
theorem ou_ (nk:List Int) (old:List bt_):∀ k l ops,k<=4000000->(∀ o ∈ ops,opK o)->∀ o ∈ (rY_ nk old k l ops).2,opK o
 |0,l,ops,_,h=>h
 |k+1,l,ops,hk,h=>by
  simp only [rY_];split
  . exact ou_ nk old k l ops (by omega) h
  . refine ou_ nk old k (del l k) _ (by omega) fun o m => ?_
    rcases List.mem_append.1 m with m|m
    . exact h o m
    . rw [List.mem_singleton.1 m];exact rmOp_ok (by omega)
theorem tA_ {l:List bt_} {i:Nat} {x:bt_} (hl:l.length<=4000000) (hi:i<=4000000) (hx:okK x):∀ o ∈ (hd_ l i x).2,opK o:=by
 have ha:∀ k,k<=4000000->opK (addOp k x.value):=fun k u=>⟨⟨_,kx_ u,rfl⟩,lx_ hx,hx.2⟩
 have hr:∀ k,k<=4000000->opK (repOp k x.value):=fun k u=>⟨⟨_,kx_ u,rfl⟩,lx_ hx,hx.2⟩
 unfold hd_;by_cases I:kAt (cp_ l) x.key=(i:Int)
 . rw [if_pos I]
   dsimp only
   cases e9_ 6 (l.getD i bt_.dflt).value x.value with
   |true=>intro o m;cases m
   |false=>intro o m;rw [List.mem_singleton.1 m];exact hr i hi
 . rw [if_neg I]
   by_cases z:(i:Int)<kAt (cp_ l) x.key
   . rw [if_pos z]
     obtain ⟨p,J,S,O⟩:=sk_ z;intro o m;rw [J,Int.toNat_natCast] at m;rcases List.mem_cons.1 m with e|m
     . rw [e];exact rmOp_ok (by omega)
     . rw [List.mem_singleton.1 m];exact ha i hi
   . rw [if_neg z]
     intro o m;rw [List.mem_singleton.1 m];exact ha i hi
theorem qA_ {now:List bt_} {s:List bt_ × List TOp} (p:now.length<=1500000) (m:s.1.length<=1500000) (u:∀ x ∈ now,okK x) (h:∀ o ∈ s.2,opK o):∀ i,i<=now.length->∀ o ∈ (jm_ now s i).2,opK o
 |0,_=>h
 |i+1,hi=>by
  intro o k;simp only [jm_] at k;have z:=j4_ now s i;rcases List.mem_append.1 k with k|k
  . exact qA_ p m u h i (by omega) o k
  . exact tA_ (by omega) (by omega) (u _ (b2_ bt_.dflt (by omega))) o k
theorem tG_ {docs docs':List aa_} {keys keys':List Int} (hd:docs.length<=1500000) (hd':docs'.length<=1500000) (hJ:∀ j ∈ docs,fx_ 6 j) (hJ':∀ j ∈ docs',fx_ 6 j):(∀ o ∈ gC_ docs keys docs' keys',opK o)/\(gC_ docs keys docs' keys').length<=docs.length+2*docs'.length:=by
 unfold gC_;cases z:kOk docs keys with
 |false=>exact ⟨fun o k=>(by cases k),Nat.zero_le _⟩
 |true=>
  cases p:kOk docs' keys' with
  |false=>exact ⟨fun o k=>(by cases k),Nat.zero_le _⟩
  |true=>
   simp only [cond_true,ph_];have o2:=qL_ (k_is p) hJ';have l1:=iw_ (docs:=docs) (keys:=keys) (m:=docs.length);have l2:=iw_ (docs:=docs') (keys:=keys') (m:=docs'.length);generalize pj_ docs keys docs.length=old at l1 ⊢;generalize pj_ docs' keys' docs'.length=now at o2 l2 ⊢;have hr:=lu_ (cp_ now) old old.length old [] (Nat.le_refl _);have u:=j4_ now (rY_ (cp_ now) old old.length old []) now.length;simp only [List.length_nil] at hr;exact ⟨qA_ (by omega) (by omega) o2 (ou_ _ _ _ _ _ (by omega) fun o k=>(by cases k)) now.length (Nat.le_refl _),by omega⟩
def underOp (name:Bs) (o:TOp):TOp:=TOp.mk o.kind (name::o.way) o.value
def qD_ (name:Bs) (l:List TOp):List TOp:=l.map (underOp name)
def lenO (l:List TOp):Prop:=l.length<=6000000/\∀ o ∈ l,o.way.length<=1000000/\bI_ 6 o.value<=400
theorem ol_ {name:Bs} {l:List TOp} (h:lenO l):Ev (fun n _=>ck_ n name l) (qD_ name l):=by
 refine am_ ?_;have hl:=h.1;have ht:l.length<=cf_:=by simp only [cf_];omega
 simp only [ck_];refine qn_ TOp.dflt l (underOp name) (fun n N i (s:List TOp)=>ck_.loop4 n (fun B2=>(some B2)) N name l (i:Int) s) _ (fun i s hi hs F m => ?_) ?_
 . have k:=h.2 _ (b2_ TOp.dflt hi)
   have p:=e4_ 6 _ k.2;have u:=k.1;simp only [ck_.turn4,ck_.step4,aY_,Int.toNat_natCast,W_up hi ht,cE_ hi,ch_ hi,cond_true,bc_,ba_,ab_ p];exact ⟨trivial,trivial,by simp only [List.length_cons,List.length_nil];omega,trivial,by simp only [List.length_cons,List.length_nil];omega,m⟩
 . simp only [ck_.turn4,ck_.step4,co_,cond_false,ae_];rfl
def j8_ (v:bq_):Nat:=hQ_ v.q v.rows.length
def ez_ (v:bq_):List aa_:=kd_ eV_ v.q v.rows (ff_ v) (j8_ v)
def es_ (v:bq_):List Int:=(List.range (j8_ v)).map fun i=>(v.rows.getD i TRow.dflt).id_
theorem is_ (v:bq_):j8_ v<=v.rows.length:=m5_
theorem ids_next (v:bq_) (i:Nat):((List.range (i+1)).map fun i=>(v.rows.getD i TRow.dflt).id_)=((List.range i).map fun i=>(v.rows.getD i TRow.dflt).id_)++[(v.rows.getD i TRow.dflt).id_]:=by rw [List.range_succ,List.map_append];rfl
theorem ro_ {v:bq_} {i:Nat} (h:i<v.rows.length):(ff_ v).getD i 0=jp_ v.kids (v.rows.getD i TRow.dflt).id_:=lA_ (fun r:TRow=>jp_ v.kids r.id_) TRow.dflt 0 h
section
variable {v:bq_} (h:ku_ cap v) (hs:∀ c ∈ v.q.show_,i64 c)
include h hs
theorem hY_:Ev (fun n _=>bv_ n v) (ez_ v,es_ v):=by
 refine am_ ?_;have Y:=h.1.2;have V:=h.2.1.1;have U:=h.2.2;simp only [cap] at Y V U;have Z:=is_ v;simp only [bv_]
 let S:Nat->List aa_ × List Int:=fun i=>(kd_ eV_ v.q v.rows (ff_ v) i,(List.range i).map fun i=>(v.rows.getD i TRow.dflt).id_)
 have:=eO_ S (j8_ v) (fun n N i (s:List aa_ × List Int)=>bv_.loop5 n (fun B4 B5=>(some (B4,B5))) N (i:Int) v.q.table v.q.where_ v.q.order v.q.down v.q.first v.q.show_ v.q.kids v.q.kidTable v.q.kidCol v.rows v.kids s.1 s.2) (ez_ v,es_ v) (fun i hi F I => ?_) ?_
 . exact this
 . have p:i<v.rows.length:=by omega
   simp only [S,of_,ids_next,ro_ p] at I ⊢;have J:=kc_ (g:=eV_) (q:=v.q) (rows:=v.rows) (kids:=ff_ v) (m:=i);have z:((List.range i).map fun i=>(v.rows.getD i TRow.dflt).id_).length=i:=by simp
   generalize ((List.range i).map fun i=>(v.rows.getD i TRow.dflt).id_)=s2 at I z ⊢;generalize kd_ eV_ v.q v.rows (ff_ v) i=s1 at I J ⊢;have e0:ay_.mk v.q.table v.q.where_ v.q.order v.q.down v.q.first v.q.show_ v.q.kids v.q.kidTable v.q.kidCol=v.q:=rfl;have e1:bq_.mk v.q v.rows v.kids=v:=rfl;have T:=iW_ (v:=v) (id:=(v.rows.getD i TRow.dflt).id_) (by simp only [cf_];omega);have u:=iH_ h.2.1.top i;have O:Ev (fun n _=>eC_ n v.q (v.rows.getD i TRow.dflt) (jp_ v.kids (v.rows.getD i TRow.dflt).id_)) (eV_ (pi_ v.q (v.rows.getD i TRow.dflt) (jp_ v.kids (v.rows.getD i TRow.dflt).id_))) :=
    am_ (by simp only [eC_,aY_,ab_ (iT_ (q:=v.q) (by omega) hs u),ab_ (mw_ (oN_ (q:=v.q) (by omega) hs 6)),ae_])
   have k:decide ((i:Int)<(hQ_ v.q v.rows.length:Int))=true:=decide_eq_true (by unfold j8_ at hi;omega);simp only [bv_.turn5,bv_.step5,e0,e1,aY_,Int.toNat_natCast,W_up p (show v.rows.length<=cf_ by simp only [cf_];omega),ab_ fa_,k,ch_ p,cond_true,bc_,ab_ T,ab_ O,ba_];exact ⟨trivial,trivial,by simp only [List.length_cons,List.length_nil];omega,trivial,by simp only [List.length_cons,List.length_nil];omega,I⟩
 . have e0:ay_.mk v.q.table v.q.where_ v.q.order v.q.down v.q.first v.q.show_ v.q.kids v.q.kidTable v.q.kidCol=v.q:=rfl
   have k:decide ((j8_ v:Int)<(hQ_ v.q v.rows.length:Int))=false:=decide_eq_false (by unfold j8_;omega);simp only [bv_.turn5,bv_.step5,e0,ab_ fa_,k,cond_false,ae_];rfl
theorem iC_:∀ j ∈ ez_ v,fx_ 6 j:=by
 have m:=h.1.2;simp only [cap] at m;intro j k;obtain ⟨i,_,e⟩:=List.mem_map.1 k;rw [<-e];unfold eV_;cases cM_ (pi_ v.q (v.rows.getD i TRow.dflt) ((ff_ v).getD i 0)) with
 |true=>exact oN_ (by omega) hs 6
 |false=>exact ev_ 6
end
theorem go_ (v:bq_):(ez_ v).length=j8_ v:=kc_
theorem oa_ (v:bq_):(es_ v).length=j8_ v:=by unfold es_;simp
def hF_ (a b:bq_):List TOp:=cond (!decide (a.rows.length=b.rows.length)) [TOp.mk 3 [nmCount] (eV_ (q1_ b.rows.length))] []
def ee_ (a b:bq_):List TOp:=cond (kM_ a.q b.q) (hF_ a b++qD_ kW_ (gC_ (ez_ a) (es_ a) (ez_ b) (es_ b))) []
theorem om_ {n:Nat}:Ev (fun m _=>eX_ m (n:Int)) (eV_ (q1_ n)):=by refine am_ ?_;have:=dD_ (lz_ (n:=(n:Int)) 6);unfold eV_;unfold q1_ at this ⊢;simp only [eX_,ab_ this,al_,ae_,g8_];cases cM_ (aa_.mk 2 (n:Int) [] [] [])<;>simp
section
variable {a b:bq_} (ha:ku_ cap a) (hb:ku_ cap b) (hsa:∀ c ∈ a.q.show_,i64 c) (hsb:∀ c ∈ b.q.show_,i64 c)
include ha hb hsa hsb
theorem l8_:lenO (gC_ (ez_ a) (es_ a) (ez_ b) (es_ b))/\(∀ o ∈ gC_ (ez_ a) (es_ a) (ez_ b) (es_ b),opK o)/\(gC_ (ez_ a) (es_ a) (ez_ b) (es_ b)).length<=a.rows.length+2*b.rows.length:=by have p:=ha.2.1.1;have m:=hb.2.1.1;simp only [cap] at p m;have:=is_ a;have:=is_ b;obtain ⟨k1,k2⟩:=tG_ (keys:=es_ a) (keys':=es_ b) (by rw [go_];omega) (by rw [go_];omega) (iC_ ha hsa) (iC_ hb hsb);rw [go_,go_] at k2;refine ⟨⟨by omega,fun o k=>⟨?_,(k1 o k).2.1⟩⟩,k1,by omega⟩;obtain ⟨t,_,e⟩:=(k1 o k).1;rw [e];exact (by decide:1<=1000000)
theorem g6_:Ev (fun n _=>dd_ n a b) (ee_ a b):=by
 refine am_ ?_;have z:=ha.2.1.1;have u:=hb.2.1.1;simp only [cap] at z u;have n1:=is_ a;have n2:=is_ b;obtain ⟨r1,_,r3⟩:=l8_ ha hb hsa hsb;have p:=pB_ (docs:=ez_ a) (keys:=es_ a) (docs':=ez_ b) (keys':=es_ b) (by rw [go_];omega) (by rw [go_];omega) (iC_ ha hsa) (iC_ hb hsb) (by rw [oa_];omega) (by rw [oa_];omega);have m:=ol_ (name:=kW_) r1;have hq:tK_ cf_ a.q:=⟨Nat.le_trans ha.1.1 (by decide),Nat.le_trans ha.1.2 (by decide)⟩
 have k:(qD_ kW_ (gC_ (ez_ a) (es_ a) (ez_ b) (es_ b))).length=(gC_ (ez_ a) (es_ a) (ez_ b) (es_ b)).length:=List.length_map _;simp only [dd_,ab_ (kn_ hq),r5_,al_,aY_,ab_ om_,ab_ (hY_ ha hsa),ab_ (hY_ hb hsb),ab_ p,ab_ m,ba_,ae_,List.nil_append,List.length_nil,ee_,hF_];cases kM_ a.q b.q with
 |false=>exact ⟨fun _=>rfl,fun h=>(by cases h)⟩
 |true=>
  refine ⟨fun h=>(by cases h),fun _=>⟨fun hc=>⟨?_,?_,?_⟩,fun hc=>⟨?_,?_⟩⟩⟩
  . simp only [List.length_cons,List.length_nil];omega
  . simp only [List.length_cons,List.length_nil];omega
  . rw [hc];rfl
  . omega
  . rw [hc];rfl
theorem kX_ (hab:a.rows.length+b.rows.length<=1500000):kY_ (ee_ a b):=by
 obtain ⟨r1,r2,r3⟩:=l8_ ha hb hsa hsb;unfold ee_;cases kM_ a.q b.q with
 |false=>exact ⟨Nat.zero_le _,fun o k=>(by cases k)⟩
 |true=>
  have z:(qD_ kW_ (gC_ (ez_ a) (es_ a) (ez_ b) (es_ b))).length=(gC_ (ez_ a) (es_ a) (ez_ b) (es_ b)).length:=List.length_map _;have u:(hF_ a b).length<=1:=by unfold hF_;cases (!decide (a.rows.length=b.rows.length))<;>simp
  refine ⟨by simp only [cond_true,List.length_append];omega,fun o k => ?_⟩;rw [cond_true] at k;rcases List.mem_append.1 k with k|k
  . unfold hF_ at k
    cases hc:(!decide (a.rows.length=b.rows.length))<;>rw [hc] at k
    . cases k
    . rw [List.mem_singleton.1 k]
      refine ⟨⟨by show 1<=cf_;decide,fun x hx => ?_⟩,?_⟩
      . rw [List.mem_singleton.1 hx];show 5<=cf_;decide
      . show fx_ 6 (eV_ (q1_ b.rows.length))
        unfold eV_;cases cM_ (q1_ b.rows.length) with
        |true=>exact lz_ 6
        |false=>exact ev_ 6
  . obtain ⟨o',m,e⟩:=List.mem_map.1 k
    obtain ⟨⟨t,ht,e2⟩,_,p⟩:=r2 o' m;rw [<-e];refine ⟨⟨?_,fun x hx => ?_⟩,p⟩
    . show (kW_::o'.way).length<=cf_
      rw [e2];show 2<=cf_;decide
    . have hx:x ∈ kW_::o'.way:=hx
      rw [e2] at hx;rcases List.mem_cons.1 hx with e3|hx
      . rw [e3];show 4<=cf_;decide
      . rw [List.mem_singleton.1 hx];simp only [cf_];omega
end
theorem ko_ {l:List TOp} (h:kY_ l):Ev (fun n _=>a9_ n l) (ey_ l):=by
 refine am_ ?_;have hl:=h.1;have ht:l.length<=cf_:=by simp only [cf_];omega
 have hb:fh_ l<=l.length:=List.findIdx_le_length;simp only [a9_];have:=eO_ (fun i=>(l.take i).map cK_) (fh_ l) (fun n N i (o:List aa_)=>a9_.loop4 n (fun B2 B3 B4 B5=>((c3_ n (aa_.mk B2 B3 B4 B5 [])).bind fun A6=>(cond (A6 == []) (some (-1)) (some (A6.length:Int))))) N l (i:Int) 4 0 [] o) (ey_ l) (fun i hi F u => ?_) ?_
 . exact this
 . have k:i<l.length:=by omega
   have hx:=eG_ (h.2 _ (b2_ TOp.dflt k));rw [oJ_ cK_ TOp.dflt k] at u;have p:((l.take i).map cK_).length<=i:=by simp;omega
   generalize (l.take i).map cK_=o at u p ⊢;simp only [a9_.turn4,a9_.step4,aY_,hK_,Int.toNat_natCast,W_up k ht,cE_ k,ch_ k,kK_ hi,cond_true,cond_false,bc_,ba_,ab_ hx];exact ⟨trivial,by simp;omega,u⟩
 . by_cases m:fh_ l<l.length
   . have hx:=eG_ (h.2 _ (b2_ TOp.dflt m))
     simp only [a9_.turn4,a9_.step4,aY_,hK_,Int.toNat_natCast,cE_ m,ch_ m,bad_at m,cond_true,bc_,ab_ hx,ae_];unfold ey_;rw [decide_eq_true m];exact ⟨trivial,rfl⟩
   . have e:fh_ l=l.length:=by omega
     have z:=dY_ (jP_ h);unfold ey_;rw [decide_eq_false m,cond_false];unfold et_ at z ⊢;rw [e,List.take_length];simp only [a9_.turn4,a9_.step4,co_,cond_false,ab_ z,al_,ae_];generalize bC_ _=s;cases (s == [])<;>simp
def j9_ (a b:bq_):Bool:=decide (((ee_ a b).length:Int)<=40)&&(decide (ey_ (ee_ a b)>=0)&&decide (ey_ (ee_ a b)<((bC_ (fd_ b)).length:Int)))
section
variable {a b:bq_} (ha:ku_ cap a) (hb:ku_ cap b) (hsa:∀ c ∈ a.q.show_,i64 c) (hsb:∀ c ∈ b.q.show_,i64 c) (hab:a.rows.length+b.rows.length<=1500000)
include ha hb hsa hsb hab
theorem lT_:Ev (fun n _=>ef_ n a b) (j9_ a b):=by refine am_ ?_;have k:=ko_ (kX_ ha hb hsa hsb hab);have m:=dY_ (gM_ hb hsb);simp only [ef_,aY_,ab_ (g6_ ha hb hsa hsb),ab_ k,al_,ab_ (fl_ hb hsb),ab_ m,ae_,j9_];cases decide (((ee_ a b).length:Int)<=40)<;>cases decide (ey_ (ee_ a b)>=0)<;>simp
end
def FDue (x:cw_):Bool:=!x.began || !gD_ (fd_ x.view) (fd_ x.last)
def intsS (x:cw_):Prop:=(∀ c ∈ x.view.q.show_,i64 c)/\∀ c ∈ x.last.q.show_,i64 c
theorem lV_ {x:cw_} (h:lenS cap x) (hi:intsS x):Ev (fun n _=>eh_ n x) (FDue x):=by refine am_ ?_;simp only [eh_,aY_,ab_ (fl_ h.1 hi.1),ab_ (fl_ h.2 hi.2),ab_ (f3_ (gM_ h.1 hi.1) (gM_ h.2 hi.2)),al_,ae_,FDue];cases x.began<;>simp
def noEv:aC_:=aC_.mk 0 0 0 (aa_.mk 0 0 [] [] []) []
def FEvOf (x:cw_):aC_:=cond (x.began&&j9_ x.last x.view) (aC_.mk 2 x.version x.lastVersion (aa_.mk 0 0 [] [] []) (ee_ x.last x.view)) (aC_.mk 1 x.version 0 (fd_ x.view) [])
def FTaken (x:cw_):cw_:=cw_.mk x.view x.version x.view x.version true
def gA_ (x:cw_):cw_ × aC_ × Bool:=cond (FDue x) (FTaken x,FEvOf x,true) (x,noEv,false)
section
variable {x:cw_} (h:lenS cap x) (hi:intsS x) (hr:x.last.rows.length+x.view.rows.length<=1500000)
include h hi hr
theorem li_:Ev (fun n _=>dj_ n x) (gA_ x):=by
 have k:lenS fj_ x:=⟨h.1.upto (by decide),h.2.upto (by decide)⟩
 refine am_ ?_;simp only [dj_,aY_,p2_ k,ab_ (lV_ h hi),al_,ab_ (fl_ h.1 hi.1),ab_ (lT_ h.2 h.1 hi.2 hi.1 hr),ab_ (g6_ h.2 h.1 hi.2 hi.1),h8_ k.1,ae_,gA_,FTaken,FEvOf,noEv];cases FDue x<;>cases x.began<;>cases j9_ x.last x.view<;>simp
end
def fe_ (v:bq_) (l:List aZ_):bq_:=l.foldl kP_ v
theorem rH_ {c:Nat} {v:bq_} {x:aZ_} (h:ku_ c v) (hx:qK_ c x):ku_ (c+2) (kP_ v x):=by
 have hr:hs_ (c+1) (sN_ v x):=by have k:=m6_ (id:=x.old.id_) h.2.1;unfold sN_;cases (x.table == v.q.table)<;>cases (x.has&&gm_ v.q x.new)<;>cases x.had<;>simp only [cond_true,cond_false];all_goals (first|exact lF_ k hx.2|exact lF_ h.2.1 hx.2|exact k.upto (by omega)|exact h.2.1.upto (by omega))
 have m:(sO_ v x).length<=c+2:=by have z:=h.2.2;have k:=lH_ (kids:=v.kids) (id:=gE_ x.old v.q.kidCol) (by_:=-1);have u:=lH_ (kids:=v.kids) (id:=gE_ x.new v.q.kidCol) (by_:=1);have p:=lH_ (kids:=FKid v.kids (gE_ x.old v.q.kidCol) (-1)) (id:=gE_ x.new v.q.kidCol) (by_:=1);unfold sO_;cases (v.q.kids&&(x.table == v.q.kidTable))<;>cases x.has<;>cases x.had<;>simp only [cond_true,cond_false]<;>omega
 exact ⟨⟨Nat.le_trans h.1.1 (by omega),Nat.le_trans h.1.2 (by omega)⟩,hr.upto (by omega),m⟩
theorem lc_ {c:Nat} {v:bq_} {l:List aZ_} (h:ku_ c v) (hl:∀ x ∈ l,qK_ c x):ku_ (c+2*l.length) (fe_ v l):=by
 have k:∀ (l:List aZ_) (d:Nat) (v:bq_),c<=d->ku_ d v->(∀ x ∈ l,qK_ c x)->ku_ (d+2*l.length) (fe_ v l):=by
  intro l;induction l with
  |nil=>intro d v _ h _;exact h
  |cons x l ih=>
   intro d v hd h hl;have hx:=hl x (List.mem_cons_self ..);have:=ih (d+2) (kP_ v x) (by omega) (rH_ h ⟨Nat.le_trans hx.1 hd,Nat.le_trans hx.2 hd⟩) (fun y m=>hl y (List.mem_cons_of_mem _ m));simp only [List.length_cons];rw [show d+2*(l.length+1)=d+2+2*l.length by omega];exact this
 exact k l c v (Nat.le_refl _) h hl
section
variable {v:bq_} {l:List aZ_} (h:ku_ cap v) (hl:l.length<=cap) (hx:∀ x ∈ l,qK_ cap x)
include h hl hx
omit hl in
theorem qv_ {i:Nat} (hi:i<l.length):ku_ (cap+2*i) (fe_ v (l.take i))/\qK_ (cap+2*i) (l.getD i aZ_.dflt)/\fe_ v (l.take (i+1))=kP_ (fe_ v (l.take i)) (l.getD i aZ_.dflt):=by
 refine ⟨?_,?_,?_⟩
 . have:=lc_ (l:=l.take i) h fun x h=>hx x (List.mem_of_mem_take h)
   rwa [List.length_take,Nat.min_eq_left (by omega)] at this
 . have:=hx _ (b2_ aZ_.dflt hi)
   exact ⟨Nat.le_trans this.1 (by omega),Nat.le_trans this.2 (by omega)⟩
 . rw [cH_ aZ_.dflt hi];simp only [fe_,List.foldl_append,List.foldl_cons,List.foldl_nil]
theorem i7_:Ev (fun n _=>aU_ n v l) (fe_ v l):=by
 refine am_ ?_;simp only [cap] at hl;have ht:l.length<=cf_:=by simp only [cf_];omega
 simp only [aU_,h8_ (h.upto (show cap<=fj_ by decide))];refine eO_ (fun i=>fe_ v (l.take i)) l.length (fun n N i (s:bq_)=>aU_.loop4 n (fun B3 B4 B5 B6 B7 B8 B9 B10 B11 B12 B13 B14 B15 B16 B17 B18 B19 B20=>(some (bq_.mk (ay_.mk B10 B17 B11 B12 B13 B18 B14 B15 B16) B19 B20))) N l (i:Int) 0 0 false 0 false 0 0 s.q.table s.q.order s.q.down s.q.first s.q.kids s.q.kidTable s.q.kidCol s.q.where_ s.q.show_ s.rows s.kids) _ (fun i hi F k => ?_) ?_
 . obtain ⟨a,b,e⟩:=qv_ h hx hi
   have hs:=jz_ a b (by simp only [fj_,cap];omega);rw [e] at k;simp only [aU_.turn4,aU_.step4,Int.toNat_natCast,W_up hi ht,al_,bc_,cE_ hi,ch_ hi];refine ⟨fun _=>⟨trivial,?_⟩,fun h=>by cases h⟩;exact (ab_ hs).2 k
 . simp only [aU_.turn4,aU_.step4,co_,cond_false,ae_,List.take_length]
end
def pg_ (x:cw_) (l:List aZ_):cw_:={ x with view:=fe_ x.view l,version:=W (x.version+1) }
section
variable {x:cw_} {l:List aZ_} (h:lenS cap x) (hl:l.length<=cap) (hx:∀ x ∈ l,qK_ cap x)
include h hl hx
omit hl hx in
theorem lenS.toR:lenS fj_ x:=⟨h.1.upto (by decide),h.2.upto (by decide)⟩
theorem nf_:Ev (fun n _=>d2_ n x l) (pg_ x l):=by refine am_ ?_;simp only [d2_,p2_ (lenS.toR h),ab_ (i7_ h.1 hl hx),ae_];rfl
end
def lE_ (s:ax_) (q:ay_):cw_ × Bool:=cond (g5_ s q).2 (cw_.mk (g5_ s q).1 s.version sQ_ 0 false,true) (cw_.mk sQ_ 0 sQ_ 0 false,false)
theorem lU_ {s:ax_} {q:ay_} {c:Nat} (hl:fG_ c s) (hq:tK_ 100000 q) (hc:c<=100000):Ev (fun n _=>eg_ n s q) (lE_ s q):=by refine am_ ?_;simp only [eg_,ab_ (ne_ hl hq hc),al_,ae_];unfold lE_;cases (g5_ s q).2<;>simp [sQ_,zeroQ]
theorem jt_ (c:Nat):ku_ c sQ_:=⟨⟨Nat.zero_le _,Nat.zero_le _⟩,⟨Nat.zero_le _,fun x hx=>(by cases hx)⟩,Nat.zero_le _⟩
theorem rA_ {s:ax_} {q:ay_} {c:Nat} (hl:fG_ c s) (hq:tK_ c q):ku_ (c+c) (g5_ s q).1:=by
 have m:∀ i,hs_ c (s.tables.getD i []):=fun i=>fY_ hl.2.2 i;unfold g5_;cases FSQ s q
 . exact jt_ _
 . refine ⟨⟨Nat.le_trans hq.1 (Nat.le_add_right _ _),Nat.le_trans hq.2 (Nat.le_add_right _ _)⟩,?_,?_⟩
   . show hs_ (c+c) (hE_ s q)
     unfold hE_;cases FSQ s q
     . exact ⟨Nat.zero_le _,fun x hx=>(by cases hx)⟩
     . have:=m1_ (c:=c) (q:=q) (rows:=s.tables.getD q.table.toNat []) (o:=[]) (k:=0) ⟨Nat.zero_le _,fun x hx=>(by cases hx)⟩ (m _).2
       exact this.upto (by have:=(m q.table.toNat).1;omega)
   . show (lG_ s q).length<=c+c
     unfold lG_;cases q.kids
     . exact Nat.zero_le _
     . have:=m3_ (q:=q) (rows:=s.tables.getD q.kidTable.toNat []) (k:=[])
       have:=(m q.kidTable.toNat).1;simp only [cond_true,List.length_nil] at *;omega
structure SsIn (c:Nat) (x:cw_):Prop where
 len:lenS c x
 v:∀ y ∈ x.view.q.show_,0<=y/\y<=1000
 l:∀ y ∈ x.last.q.show_,0<=y/\y<=1000
theorem SsIn.ints {c:Nat} {x:cw_} (h:SsIn c x):intsS x:=⟨fun y k=>by have:=h.v y k;unfold i64;omega,fun y k=>by have:=h.l y k;unfold i64;omega⟩
theorem SsIn.upto {c d:Nat} {x:cw_} (h:SsIn c x) (hc:c<=d):SsIn d x:=⟨⟨h.len.1.upto hc,h.len.2.upto hc⟩,h.v,h.l⟩
theorem sW_ {s:ax_} {q:ay_} {c:Nat} (hs:fG_ c s) (hq:QIn q) (hc:1010<=c):SsIn (c+c) (lE_ s q).1:=by
 have p:=rA_ hs (q:=q) ⟨Nat.le_trans hq.len.1 hc,Nat.le_trans hq.len.2 hc⟩;unfold lE_;cases m:(g5_ s q).2
 . exact ⟨⟨jt_ _,jt_ _⟩,fun y k=>(by cases k),fun y k=>(by cases k)⟩
 . refine ⟨⟨p,jt_ _⟩,?_,fun y k=>(by cases k)⟩
   show ∀ y ∈ (g5_ s q).1.q.show_,_;unfold g5_ at m ⊢;cases h:FSQ s q<;>rw [h] at m
   . cases m
   . exact hq.show_
theorem qT_ {x:cw_} {c:Nat} (h:SsIn c x):SsIn c (gA_ x).1:=by
 unfold gA_;cases FDue x
 . exact h
 . exact ⟨⟨h.len.1,h.len.1⟩,h.v,h.v⟩
theorem changes_q (l:List aZ_) (v:bq_):(fe_ v l).q=v.q:=by
 unfold fe_;induction l generalizing v with
 |nil=>rfl
 |cons x l ih=>rw [List.foldl_cons,ih];rfl
theorem sessGo_in {x:cw_} {l:List aZ_} {c:Nat} (h:SsIn c x) (hl:∀ y ∈ l,qK_ c y) (k:l.length<=5):SsIn (c+10) (pg_ x l):=by refine ⟨⟨(lc_ h.len.1 hl).upto (by omega),h.len.2.upto (by omega)⟩,?_,h.l⟩;show ∀ y ∈ (fe_ x.view l).q.show_,_;rw [changes_q];exact h.v
theorem SsIn.take {c:Nat} {x:cw_} (h:SsIn c x) (hc:c<=700000):Ev (fun n _=>dj_ n x) (gA_ x) :=
 li_ ⟨h.len.1.upto (by simp only [cap];omega),h.len.2.upto (by simp only [cap];omega)⟩ h.ints (by have:=h.len.1.2.1.1;have:=h.len.2.2.1.1;omega)
theorem SsIn.go {c:Nat} {x:cw_} {l:List aZ_} (h:SsIn c x) (hc:c<=700000) (hl:∀ y ∈ l,qK_ c y) (m:l.length<=5):Ev (fun n _=>d2_ n x l) (pg_ x l) :=
 nf_ ⟨h.len.1.upto (by simp only [cap];omega),h.len.2.upto (by simp only [cap];omega)⟩ (by simp only [cap];omega) fun y k=>⟨Nat.le_trans (hl y k).1 (by simp only [cap];omega),Nat.le_trans (hl y k).2 (by simp only [cap];omega)⟩
theorem sess_etaD (x:cw_):cw_.mk x.view x.version x.last x.lastVersion x.began=x:=rfl
theorem view_etaD (x:bq_):bq_.mk x.q x.rows x.kids=x:=rfl
theorem l16loop {K:Nat->as_.K5} {P:ax_ × cw_ × af_->Prop} {t21 t30 t32 t33 t34 t36 t37 t38 t311 t312 t314 t315 t316 t318 t319 t320 t323 t324} (O:∀ c s x,DwOk c->StIn 1100 s->SsIn 6000 x->Ans (fun n _=>K n c.b c.i c.h t21 t30 t32 t33 t34 t36 t37 t38 t311 t312 t314 t315 t316 t318 t319 t320 t323 t324 s.schema.cols s.version s.tables x.view.q.table x.view.q.where_ x.view.q.order x.view.q.down x.view.q.first x.view.q.show_ x.view.q.kids x.view.q.kidTable x.view.q.kidCol x.view.rows x.view.kids x.version x.last.q.table x.last.q.where_ x.last.q.order x.last.q.down x.last.q.first x.last.q.show_ x.last.q.kids x.last.q.kidTable x.last.q.kidCol x.last.rows x.last.kids x.lastVersion x.began) P)
  {c:af_} {s:ax_} {x:cw_} (hc:DwOk c) (hs:StIn 1010 s) (hx:SsIn 5000 x):Ans (fun n _=>as_.loop5 n (K n) n 0 c.b c.i c.h t21 t30 t32 t33 t34 t36 t37 t38 t311 t312 t314 t315 t316 t318 t319 t320 t323 t324 s.schema.cols s.version s.tables x.view.q.table x.view.q.where_ x.view.q.order x.view.q.down x.view.q.first x.view.q.show_ x.view.q.kids x.view.q.kidTable x.view.q.kidCol x.view.rows x.view.kids x.version x.last.q.table x.last.q.where_ x.last.q.order x.last.q.down x.last.q.first x.last.q.show_ x.last.q.kids x.last.q.kidTable x.last.q.kidCol x.last.rows x.last.kids x.lastVersion x.began) P:=by
 have u:∀ (m i:Nat) (c:af_) (s:ax_) (x:cw_),i+m=6->DwOk c->StIn (1010+3*i) s->SsIn (5000+10*i) x->Ans (fun n N=>as_.loop5 n (K n) N (i:Int) c.b c.i c.h t21 t30 t32 t33 t34 t36 t37 t38 t311 t312 t314 t315 t316 t318 t319 t320 t323 t324 s.schema.cols s.version s.tables x.view.q.table x.view.q.where_ x.view.q.order x.view.q.down x.view.q.first x.view.q.show_ x.view.q.kids x.view.q.kidTable x.view.q.kidCol x.view.rows x.view.kids x.version x.last.q.table x.last.q.where_ x.last.q.order x.last.q.down x.last.q.first x.last.q.show_ x.last.q.kids x.last.q.kidTable x.last.q.kidCol x.last.rows x.last.kids x.lastVersion x.began) P:=by
  intro m;induction m with
  |zero=>
   intro i c s x hi hc hs hx;refine cA_ ?_;simp only [as_.turn5,as_.step5,cY_];refine az_ (bs_ hc) fun r hr => ?_;have Y:=hr.lo;have T:=hr.hi;rw [decide_eq_false (by omega)];simp only [cond_false];exact O _ _ _ hr.cur (hs.upto (by omega)) (hx.upto (by omega))
  |succ m ih=>
   intro i c s x hi hc hs hx;refine cA_ ?_;simp only [as_.turn5,as_.step5,cY_];refine az_ (bs_ hc) fun r hr => ?_;simp only [bj_];refine ⟨fun _ => ?_,fun _=>O _ _ _ hr.cur (hs.upto (by omega)) (hx.upto (by omega))⟩;refine az_ (fH_ hr.cur) fun r2 T => ?_;have k:∀ (y:cw_),SsIn (5000+10*i) y->Ans (fun n N=>(aD_ n r2.2 s).bind fun A57=>((bF_ n s A57.1).bind fun A58=>(cond A58.2.2 ((d2_ n y A58.2.1).bind fun A59=>(as_.loop5 n (K n) N (W ((i:Int)+1)) A57.2.b A57.2.i A57.2.h t21 t30 t32 t33 t34 t36 t37 t38 t311 t312 t314 t315 t316 t318 t319 t320 t323 t324 A58.1.schema.cols A58.1.version A58.1.tables A59.view.q.table A59.view.q.where_ A59.view.q.order A59.view.q.down A59.view.q.first A59.view.q.show_ A59.view.q.kids A59.view.q.kidTable A59.view.q.kidCol A59.view.rows A59.view.kids A59.version A59.last.q.table A59.last.q.where_ A59.last.q.order A59.last.q.down A59.last.q.first A59.last.q.show_ A59.last.q.kids A59.last.q.kidTable A59.last.q.kidCol A59.last.rows A59.last.kids A59.lastVersion A59.began)) (as_.loop5 n (K n) N (W ((i:Int)+1)) A57.2.b A57.2.i A57.2.h t21 t30 t32 t33 t34 t36 t37 t38 t311 t312 t314 t315 t316 t318 t319 t320 t323 t324 s.schema.cols s.version s.tables y.view.q.table y.view.q.where_ y.view.q.order y.view.q.down y.view.q.first y.view.q.show_ y.view.q.kids y.view.q.kidTable y.view.q.kidCol y.view.rows y.view.kids y.version y.last.q.table y.last.q.where_ y.last.q.order y.last.q.down y.last.q.first y.last.q.show_ y.last.q.kids y.last.q.kidTable y.last.q.kidCol y.last.rows y.last.kids y.lastVersion y.began)))) P:=by
    intro y I;refine az_ (mo_ T hs (by omega) (by omega)) fun b hb => ?_;have J:ml_ (1010+3*i) b.1:=fun z hz=>Nat.le_trans (hb.2.1 z hz) (by omega);have V:=l1_ (l:=b.1) hs.len J (by have:=hb.1;omega);have p:=ld_ (l:=b.1) hs.len J;have U:=rI_ (l:=b.1) hs J;have S:∀ z ∈ (fv_ s b.1).2.1,qK_ (5000+10*i) z:=fun z hz=>⟨Nat.le_trans (p.2.2 z hz).1 (by have:=hb.1;omega),Nat.le_trans (p.2.2 z hz).2 (by have:=hb.1;omega)⟩
    have e1:=up1 (show i<=1000000 by omega);rw [bg_ V];simp only [bj_,bg_ (I.go (by omega) S p.2.1),e1];refine ⟨fun _=>ih (i+1) b.2 (fv_ s b.1).1 (pg_ y (fv_ s b.1).2.1) (by omega) hb.2.2 (U.upto (by have:=hb.1;omega)) ?_,fun _=>ih (i+1) b.2 s y (by omega) hb.2.2 (hs.upto (by omega)) (I.upto (by omega))⟩;exact (sessGo_in I S p.2.1).upto (by omega)
   simp only [as_.tail10,gr_,fC_,kq_,view_etaD,sess_etaD,cY_,bj_,bg_ (hx.take (by omega))];exact ⟨fun _=>k _ (qT_ hx),fun _=>k _ hx⟩
 exact eu_ (u 6 0 c s x rfl hc hs hx)
theorem ll_ {c:af_} (hc:DwOk c):Ans (fun n _=>as_ n c) fun r=>StIn 1100 r.1/\SsIn 6000 r.2.1/\DwOk r.2.2:=by refine ci_ ?_;simp only [as_];refine az_ (mn_ hc) fun r hr => ?_;simp only [as_.tail1,gr_,fC_,cY_];refine az_ (mm_ hr.2 hr.1.col) fun q hq => ?_;have k:=lU_ (s:=r.1) (q:=q.1) hr.1.len ⟨Nat.le_trans hq.1.len.1 (by decide),Nat.le_trans hq.1.len.2 (by decide)⟩ (by decide);rw [bg_ k];exact l16loop (fun c s x u p m=>aX_.2 ⟨p,m,u⟩) hq.2 hr.1 ((sW_ hr.1.len hq.1 (Nat.le_refl _)).upto (by decide))
structure EvDw (e:aC_):Prop where
 len:oO_ e
 doc:aa_.size e.doc<=2000000000
 few:e.ops.length<=3900000
section
variable {a b:bq_} (ha:ku_ cap a) (hb:ku_ cap b) (hsa:∀ c ∈ a.q.show_,i64 c) (hsb:∀ c ∈ b.q.show_,i64 c)
include ha hb hsa hsb
theorem patch_few (hab:a.rows.length+b.rows.length<=1500000):(ee_ a b).length<=3900000:=by
 obtain ⟨r1,r2,r3⟩:=l8_ ha hb hsa hsb;unfold ee_;cases kM_ a.q b.q with
 |false=>exact Nat.zero_le _
 |true=>
  have m:(qD_ kW_ (gC_ (ez_ a) (es_ a) (ez_ b) (es_ b))).length=(gC_ (ez_ a) (es_ a) (ez_ b) (es_ b)).length:=List.length_map _;have k:(hF_ a b).length<=1:=by unfold hF_;cases (!decide (a.rows.length=b.rows.length))<;>simp
  simp only [cond_true,List.length_append];omega
end
theorem evOf_in {x:cw_} {c:Nat} (h:SsIn c x) (hc:c<=700000):EvDw (FEvOf x):=by
 have k1:ku_ cap x.view:=h.len.1.upto (by simp only [cap];omega);have k2:ku_ cap x.last:=h.len.2.upto (by simp only [cap];omega);unfold FEvOf;cases (x.began&&j9_ x.last x.view)
 . refine ⟨⟨gM_ k1 h.ints.1,Nat.zero_le _,fun o k=>(by cases k)⟩,?_,Nat.zero_le _⟩
   have:cM_ (fd_ x.view)=true\/fd_ x.view=g8_:=by
    unfold fd_ FDoc eV_;cases h:cM_ (n9_ x.view.rows.length (kd_ id x.view.q x.view.rows (ff_ x.view) (hQ_ x.view.q x.view.rows.length)))
    . exact .inr rfl
    . exact .inl h
   rcases this with h|h
   . have h:=of_decide_eq_true h
     have:=sl_ 6 _ h;show aa_.size (fd_ x.view)<=_;omega
   . show aa_.size (fd_ x.view)<=_;rw [h];decide
 . have hab:x.last.rows.length+x.view.rows.length<=1500000:=by have:=h.len.1.2.1.1;have:=h.len.2.2.1.1;omega
   exact ⟨⟨ev_ 6,kX_ k2 k1 h.ints.2 h.ints.1 hab⟩,show aa_.size (aa_.mk 0 0 [] [] [])<=2000000000 by decide,patch_few k2 k1 h.ints.2 h.ints.1 hab⟩
theorem sessEv_in {x:cw_} {c:Nat} (h:SsIn c x) (hc:c<=700000):EvDw (gA_ x).2.1:=by
 unfold gA_;cases FDue x
 . exact ⟨⟨ev_ 6,Nat.zero_le _,fun o k=>(by cases k)⟩,show aa_.size (aa_.mk 0 0 [] [] [])<=2000000000 by decide,Nat.zero_le _⟩
 . exact evOf_in h hc
theorem ev_etaD (e:aC_):aC_.mk e.kind e.version e.base e.doc e.ops=e:=rfl
theorem r1_ (ns:List Bs) (x:Bs):g1_ ns x<=g0_ ns x:=by unfold g0_;split<;>omega
theorem sumL_cut {α:Type} (f:α->Nat) (l:List α) {a b:Nat} (h:a<=b):eF_ f (l.take a)+eF_ f (l.drop b)<=eF_ f l:=by
 have e:eF_ f l=eF_ f (l.take a)+eF_ f (l.drop a):=by rw [<-hj_,List.take_append_drop]
 have e2:eF_ f (l.drop a)=eF_ f ((l.drop a).take (b - a))+eF_ f (l.drop b):=by
  rw [<-hj_];congr 1;have:l.drop b=(l.drop a).drop (b - a):=by rw [List.drop_drop];congr 1;omega
  rw [this,List.take_append_drop]
 omega
theorem pE_ {α:Type} (f:α->Nat) (ns:List Bs) (x:Bs) (l:List α) (y:α):fS_ f (mc_ ns x l y)<=fS_ f l+1+f y:=by
 have h:=r1_ ns x;have m:=sumL_cut f l h;have k:(l.take (g1_ ns x)).length+(l.drop (g0_ ns x)).length<=l.length:=by simp;omega
 unfold fS_ mc_;rw [hj_,hj_];simp only [List.length_append,List.length_cons,List.length_nil,eF_];omega
def jB:Nat->Nat
 |0=>100
 |d+1=>10*jB d+1000
theorem jsize (k n:Int) (s:Bs) (l:List aa_) (ns:List Bs):aa_.size (aa_.mk k n s l ns)=s.length+(fS_ aa_.size l+fS_ szB ns):=aa_.size_eq _
theorem qr_ {x:Bs} (h:x ∈ ([[97],[98],[99],[105,100],[110],[114,111,119,115],[],[97,47,98],[126]]:List Bs)):x.length<=4:=by simp only [List.mem_cons,List.not_mem_nil,or_false] at h;rcases h with rfl|rfl|rfl|rfl|rfl|rfl|rfl|rfl|rfl<;>decide
theorem nm_ {c:af_} (hc:DwOk c):Ans (fun n _=>dg_ n c) fun r=>r.1.length<=4/\DwOk r.2:=by refine ci_ ?_;simp only [dg_];exact az_ (iD_ hc (by simp)) fun r hr=>aX_.2 ⟨qr_ hr.1,hr.2⟩
section
variable {R:Nat->af_->Int->Option (aa_ × af_)} {B:Nat} {append:Int} {P:aa_ × af_->Prop}
theorem tu_ {K:Nat->ac_.K20_1} {t40 t41 t42 t60 t61 t62} (J:∀ c,DwOk c->Ans (fun n _=>R n c (W (append - 1))) fun r=>aa_.size r.1<=B/\DwOk r.2)
  (u:∀ c o,DwOk c->o.length<=5->eF_ aa_.size o<=5*B->Ans (fun n _=>K n c.b c.i c.h t40 t41 t42 t60 t61 t62 o) P) {c:af_} (hc:DwOk c) :
  Ans (fun n _=>ac_.loop20 n (R n) (K n) n append 0 c.b c.i c.h t40 t41 t42 t60 t61 t62 []) P:=by
 have k:∀ (m i:Nat) (c:af_) (o:List aa_),i+m=5->DwOk c->o.length=i->eF_ aa_.size o<=i*B->Ans (fun n N=>ac_.loop20 n (R n) (K n) N append (i:Int) c.b c.i c.h t40 t41 t42 t60 t61 t62 o) P:=by
  intro m;induction m with
  |zero=>
   intro i c o hi hc z hs;obtain rfl:i=5:=by omega
   refine cA_ ?_;simp only [ac_.turn20,ac_.step20,cY_];refine az_ (bs_ hc) fun r hr => ?_;have O:=hr.lo;have p:=hr.hi;rw [decide_eq_false (by omega)];simp only [cond_false];exact u _ _ hr.cur (by omega) hs
  |succ m ih=>
   intro i c o hi hc z hs;have I:i*B<=5*B:=Nat.mul_le_mul_right _ (by omega);refine cA_ ?_;simp only [ac_.turn20,ac_.step20,cY_];refine az_ (bs_ hc) fun r hr => ?_;simp only [bj_];refine ⟨fun _=>az_ (J _ hr.cur) fun r2 p => ?_,fun _=>u _ _ hr.cur (by omega) (by omega)⟩;simp only [d7_,up1 (show i<=1000000 by omega),aY_];refine ⟨by simp;omega,ih (i+1) r2.2 _ (by omega) p.2 (by simp;omega) ?_⟩;rw [hj_,Nat.add_mul,Nat.one_mul];have e:eF_ aa_.size [r2.1]=aa_.size r2.1:=by simp only [eF_,Nat.add_zero]
   rw [e];have:=p.1;omega
 exact eu_ (k 5 0 c [] rfl hc rfl (Nat.zero_le _))
theorem tt_ {K:Nat->ac_.K28_1} {t40 t41 t42} (Z:∀ c,DwOk c->Ans (fun n _=>R n c (W (append - 1))) fun r=>aa_.size r.1<=B/\DwOk r.2)
  (J:∀ c j,DwOk c->aa_.size j<=5*B+50->j.list.length=j.names.length->Ans (fun n _=>K n c.b c.i c.h t40 t41 t42 j.kind j.n_ j.s j.list j.names) P) {c:af_} (hc:DwOk c) (hB:B<=100000000) :
  Ans (fun n _=>ac_.loop28 n (R n) (K n) n append 0 c.b c.i c.h t40 t41 t42 5 0 [] [] []) P:=by
 have z:∀ (m i:Nat) (c:af_) (j:aa_),i+m=5->DwOk c->aa_.size j<=i*(B+10)->j.list.length=j.names.length->j.names.length<=i->Ans (fun n N=>ac_.loop28 n (R n) (K n) N append (i:Int) c.b c.i c.h t40 t41 t42 j.kind j.n_ j.s j.list j.names) P:=by
  intro m;induction m with
  |zero=>
   intro i c j hi hc hs hl U;obtain rfl:i=5:=by omega
   refine cA_ ?_;simp only [ac_.turn28,ac_.step28,cY_];refine az_ (bs_ hc) fun r hr => ?_;have h1:=hr.lo;have u:=hr.hi;rw [decide_eq_false (by omega)];simp only [cond_false];exact J _ _ hr.cur (by omega) hl
  |succ m ih=>
   intro i c j hi hc hs hl U;have Y:i*(B+10)<=5*(B+10):=Nat.mul_le_mul_right _ (by omega);have V:(i+1)*(B+10)=i*(B+10)+(B+10):=by rw [Nat.add_mul,Nat.one_mul]
   refine cA_ ?_;simp only [ac_.turn28,ac_.step28,cY_,ej_];refine az_ (bs_ hc) fun r hr => ?_;simp only [bj_];refine ⟨fun _=>az_ (nm_ hr.cur) fun nm p => ?_,fun _=>J _ _ hr.cur (by omega) hl⟩;have hA:=kS_ (j:=j) (x:=nm.1) (by simp only [cf_];omega);rw [bg_ hA];simp only [bj_,up1 (show i<=1000000 by omega)];refine ⟨fun k=>az_ (Z _ p.2) fun r2 u => ?_,fun _=>ih (i+1) nm.2 j (by omega) p.2 (by omega) hl (by omega)⟩;have k:=of_decide_eq_true k;have I:∀ q,q<j.names.length->(j.names.getD q [] == nm.1)=false:=by
    intro q hq;unfold FIdx at k;split at k
    . omega
    . rename_i hf
      have:=List.findIdx_eq_length.1 (show j.names.findIdx (fun y=>y == nm.1)=j.names.length from Nat.le_antisymm List.findIdx_le_length (by omega)) _ (b2_ [] hq);exact this
   have hP:=hk_ (o:=j) (j:=r2.1) (x:=nm.1) (by omega) hl (fun _=>less_ne) (fun q _ u=>I q u);simp only [aY_,bg_ hP];have p1:=pE_ aa_.size j.names nm.1 j.list r2.1;have p2:=pE_ szB j.names nm.1 j.names nm.1;have e:=aa_.size_eq j;have S:=u.1;have T:=p.1;have O:szB nm.1=nm.1.length:=rfl;have q1:(mc_ j.names nm.1 j.list r2.1).length=(mc_ j.names nm.1 j.names nm.1).length:=by unfold mc_;simp only [List.length_append,List.length_take,List.length_drop,List.length_cons,List.length_nil];omega
   refine ih (i+1) r2.2 (aa_.mk 5 0 [] (mc_ j.names nm.1 j.list r2.1) (mc_ j.names nm.1 j.names nm.1)) (by omega) u.2 ?_ q1 ?_
   . rw [jsize];simp only [List.length_nil];omega
   . show (mc_ j.names nm.1 j.names nm.1).length<=i+1
     have:=r1_ j.names nm.1;unfold mc_;simp only [List.length_append,List.length_take,List.length_drop,List.length_cons,List.length_nil];omega
 exact eu_ (z 5 0 c (aa_.mk 5 0 [] [] []) rfl hc (by rw [jsize];simp [fS_,eF_]) rfl (Nat.le_refl _))
end
theorem jB_mono {a b:Nat} (h:a<=b):jB a<=jB b:=by
 induction b with
 |zero=>
  obtain rfl:a=0:=by omega
  exact Nat.le_refl _
 |succ b ih=>
  by_cases e:a=b+1
  . rw [e];exact Nat.le_refl _
  . have:=ih (by omega);simp only [jB];omega
theorem k6_ {x:Bs} (h:x ∈ ([[],[120],[97,34,98],[97,92,92,98],[104,101,108,108,111,32,116,104,101,114,101],[126,49]]:List Bs)):x.length<=20:=by simp only [List.mem_cons,List.not_mem_nil,or_false] at h;rcases h with rfl|rfl|rfl|rfl|rfl|rfl<;>decide
theorem pZ_ {k n:Int} {s:Bs} {B:Nat} (h:s.length<=20) (m:100<=B):aa_.size (aa_.mk k n s [] [])<=B:=by rw [jsize];simp [fS_,eF_];omega
theorem jB_ge (d:Nat):100<=jB d:=jB_mono (a:=0) (Nat.zero_le d)
theorem mu_:∀ (d:Nat) (depth:Int) (c:af_),d<=4->depth<=(d:Int)+1 -> -1000000<=depth->DwOk c->Ans (fun n _=>ac_ n c depth) fun r=>aa_.size r.1<=jB d/\DwOk r.2:=by
 intro d;induction d with
 |zero=>
  intro depth c hd J I hc;have k:=jB_ge 0;refine ci_ ?_;simp only [ac_]
  repeat' (first
   |(refine az_ (bs_ (by assumption)) fun _ hd => ?_;obtain ⟨_,_,_⟩:=hd)
   |(refine az_ (fr_ (by assumption) (by simp)) fun _ hd => ?_;obtain ⟨_,_⟩:=hd)
   |(refine az_ (iD_ (by assumption) (by simp)) fun _ hd => ?_;obtain ⟨_,_⟩:=hd)
   |(with_reducible refine bj_.2 ⟨fun _ => ?_,fun _ => ?_⟩)
   |((with_reducible refine aX_.2 ?_);exact ⟨pZ_ (by first|exact Nat.zero_le _|(exact k6_ (by assumption))) k,by assumption⟩)
   |(exfalso;simp only [beq_iff_eq,beq_eq_false_iff_ne,decide_eq_true_eq,decide_eq_false_iff_not,ne_eq] at *;omega))
 |succ d ih=>
  intro depth c hd J I hc;have k:=jB_ge (d+1);have e0:jB (d+1)=10*jB d+1000:=rfl;have z:jB d<=100000000:=Nat.le_trans (jB_mono (show d<=4 by omega)) (by decide);have p:=jB_ge d;have u:¬ depth<=1->∀ c,DwOk c->Ans (fun n _=>ac_ n c (W (depth - 1))) fun r=>aa_.size r.1<=jB d/\DwOk r.2:=fun S c hc=>by rw [Wn (by omega) (by omega)];exact ih (depth - 1) c (by omega) (by omega) (by omega) hc
  refine ci_ ?_;simp only [ac_]
  repeat' (first
   |(refine az_ (bs_ (by assumption)) fun _ hd => ?_;obtain ⟨_,_,_⟩:=hd)
   |(refine az_ (fr_ (by assumption) (by simp)) fun _ hd => ?_;obtain ⟨_,_⟩:=hd)
   |(refine az_ (iD_ (by assumption) (by simp)) fun _ hd => ?_;obtain ⟨_,_⟩:=hd)
   |(with_reducible refine bj_.2 ⟨fun _ => ?_,fun _ => ?_⟩)
   |((with_reducible refine aX_.2 ?_);exact ⟨pZ_ (by first|exact Nat.zero_le _|(exact k6_ (by assumption))) k,by assumption⟩)
   |(exfalso;simp only [beq_iff_eq,beq_eq_false_iff_ne,decide_eq_true_eq,decide_eq_false_iff_not,ne_eq] at *;omega)
   |(refine tu_ (u (by simp only [decide_eq_false_iff_not] at *;assumption)) (fun _ o m O hs=>aX_.2 ⟨?_,m⟩) (by assumption))
   |(refine tt_ (u (by simp only [decide_eq_false_iff_not] at *;assumption)) (fun _ j m hs hl=>aX_.2 ⟨?_,m⟩) (by assumption) z))
  all_goals (first
   |(show aa_.size (aa_.mk _ _ _ _ _)<=_;rw [jsize];simp only [fS_,eF_,List.length_nil];omega)
   |(show aa_.size (aa_.mk _ _ _ _ _)<=_;rw [ej_];exact Nat.le_trans hs (by omega)))
theorem mk_ (j:aa_) (h:aa_.size j<=cf_):aa_.len j:=by have e:=aa_.size_eq j;have e1:fS_ aa_.size j.list=j.list.length+eF_ aa_.size j.list:=rfl;have e2:fS_ szB j.names=j.names.length+eF_ szB j.names:=rfl;have hx:∀ x ∈ j.list,aa_.len x:=fun x hx=>mk_ x (by have:=i5_ aa_.size hx;omega);exact (aa_.len_iff j).2 ⟨by omega,⟨by omega,hx⟩,by omega,fun x hx=>by have:=i5_ szB hx;show x.length<=cf_;have:szB x=x.length:=rfl;omega⟩
termination_by SizeOf.sizeOf j.list
decreasing_by exact aa_.dec hx
theorem pX_ {j:aa_} {B:Nat} (h:aa_.size j<=B) (k:B<=cf_):fx_ 6 j:=sf_ 6 _ (mk_ j (Nat.le_trans h k))
theorem lk_ {c:af_} (hc:DwOk c):Ans (fun n _=>c7_ n c) fun r=>EvDw r.1/\DwOk r.2:=by
 have u:jB 4<=2200000:=by decide
 refine ci_ ?_;simp only [c7_,aY_];refine az_ (fH_ hc) fun r hr => ?_
 with_reducible refine bj_.2 ⟨fun _ => ?_,fun _ => ?_⟩
 . refine az_ (bs_ hr) fun k z => ?_
   refine az_ (mu_ 4 4 _ (by decide) (by decide) (by decide) z.cur) fun j m => ?_;exact aX_.2 ⟨⟨⟨pX_ m.1 (Nat.le_trans u (by decide)),Nat.zero_le _,fun o p=>(by cases p)⟩,Nat.le_trans m.1 (Nat.le_trans u (by decide)),Nat.zero_le _⟩,m.2⟩
 . refine az_ (ll_ hr) fun x hx => ?_
   simp only [bg_ (hx.2.1.take (by omega)),ev_etaD]
   with_reducible refine bj_.2 ⟨fun _ => ?_,fun _ => ?_⟩
   . exact aX_.2 ⟨⟨⟨ev_ 6,Nat.zero_le _,fun o p=>(by cases p)⟩,show aa_.size (aa_.mk 0 0 [] [] [])<=2000000000 by decide,Nat.zero_le _⟩,hx.2.2⟩
   . exact aX_.2 ⟨sessEv_in hx.2.1 (by omega),hx.2.2⟩
structure EvL (e:aC_):Prop where
 len:oO_ e
 doc:aa_.size e.doc<=2000000000
theorem EvDw.l {e:aC_} (h:EvDw e):EvL e:=⟨h.len,h.doc⟩
def pcN (z:Int) (t:Bs):Nat:=(min (max z 0) (t.length:Int)).toNat
def dS_:List Int->Bs->List Bs
 |[],t=>cond (t == []) [] [t]
 |z::zs,t=>t.take (pcN z t)::dS_ zs (t.drop (pcN z t))
theorem r3_ (z:Int) (t:Bs):pcN z t<=t.length/\(pcN z t:Int)<=max z 0:=by unfold pcN;omega
theorem mf_:∀ (zs:List Int) (t:Bs),(dS_ zs t).flatten=t
 |[],t=>by
  unfold dS_;cases h:(t == [])
  . simp
  . rw [eq_of_beq h];rfl
 |z::zs,t=>by unfold dS_;rw [List.flatten_cons,mf_ zs,List.take_append_drop]
theorem ks_:∀ (zs:List Int) (t:Bs),(dS_ zs t).length<=zs.length+1
 |[],t=>by unfold dS_;cases (t == [])<;>simp
 |z::zs,t=>by unfold dS_;have:=ks_ zs (t.drop (pcN z t));simp only [List.length_cons];omega
theorem kr_:∀ (zs:List Int) (t:Bs),eF_ szB (dS_ zs t)=t.length
 |[],t=>by
  unfold dS_;cases h:(t == [])
  . show t.length+0=_;rfl
  . rw [eq_of_beq h];rfl
 |z::zs,t=>by have h:=kr_ zs (t.drop (pcN z t));have:=(r3_ z t).1;unfold dS_;show szB (t.take (pcN z t))+eF_ szB (dS_ zs (t.drop (pcN z t)))=_;rw [h];unfold szB;rw [List.length_take,List.length_drop];omega
theorem nI_:∀ (zs:List Int) (t:Bs) (i:Nat),i<zs.length->i<(dS_ zs t).length/\(((dS_ zs t).getD i []).length:Int)<=max (zs.getD i 0) 0
 |[],t,i,h=>by simp at h
 |z::zs,t,0,h=>by unfold dS_;refine ⟨by simp,?_⟩;have:=r3_ z t;show ((t.take (pcN z t)).length:Int)<=max z 0;rw [List.length_take];omega
 |z::zs,t,i+1,h=>by have:=nI_ zs (t.drop (pcN z t)) i (by simpa using h);unfold dS_;exact ⟨by simp only [List.length_cons];omega,this.2⟩
section
variable {zs:List Int} (hz:zs.length<=1000000) {t:Bs} (ht:t.length<=1000000000)
include hz ht
theorem np_:Ev (fun n _=>b8_ n t zs) (dS_ zs t):=by
 have p:∀ (m i:Nat) (t:Bs) (o:List Bs),i+m=zs.length->t.length<=1000000000->o.length<=i->Ev (fun n N=>b8_.loop4 n (fun B4 B5=>(cond (!(B4 == [])) (bk_ (B5.length+([B4]:List Bs).length) 16 (some (B5++([B4]:List Bs)))) (some B5))) N t zs (zs.length:Int) (i:Int) o) (o++dS_ (zs.drop i) t):=by
  intro m;induction m with
  |zero=>
   intro i t o hi ht z;have e:i=zs.length:=by omega
   subst e;refine a8_ ?_;simp only [b8_.turn4,b8_.step4,co_,cond_false,List.drop_length,dS_,al_,ba_,ae_];cases (t == [])
   . exact ⟨fun _=>⟨by simp;omega,rfl⟩,fun h=>(by cases h)⟩
   . exact ⟨fun h=>(by cases h),fun _=>by simp⟩
  |succ m ih=>
   intro i t o hi ht z;have k:i<zs.length:=by omega
   have I:=up1 (show i<=1000000 by omega);have J:=r3_ (zs.getD i 0) t;have e1:(cond (decide ((0:Int) > zs.getD i 0)) 0 (zs.getD i 0))=max (zs.getD i 0) 0:=by
    by_cases h:(0:Int) > zs.getD i 0
    . rw [decide_eq_true h,cond_true];omega
    . rw [decide_eq_false h,cond_false];omega
   have e2:(cond (decide ((t.length:Int)<max (zs.getD i 0) 0)) (t.length:Int) (max (zs.getD i 0) 0))=(pcN (zs.getD i 0) t:Int):=by
    unfold pcN;by_cases h:(t.length:Int)<max (zs.getD i 0) 0
    . rw [decide_eq_true h,cond_true];omega
    . rw [decide_eq_false h,cond_false];omega
   have u:=ih (i+1) (t.drop (pcN (zs.getD i 0) t)) (o++[t.take (pcN (zs.getD i 0) t)]) (by omega) (by simp;omega) (by simp;omega);rw [ds_ 0 k];unfold dS_;rw [List.append_assoc] at u;refine a8_ ?_;simp only [b8_.turn4,b8_.step4,cE_ k,cond_true,bc_,ch_ k,true_and,Int.toNat_natCast,I,e1,e2,dQ_,ba_,List.drop_zero,List.take_length];exact ⟨by omega,by simp;omega,by omega,u⟩
 refine am_ ?_;simp only [b8_];exact cX_ (p zs.length 0 t [] (by omega) ht (Nat.zero_le _))
theorem iV_:Ev (fun n _=>bZ_ n t zs) (dS_ zs t):=by
 have p:∀ (K:bZ_.K5),(∀ (a:Nat) (o:List Bs),a<=t.length->o.length<=zs.length->Ev (fun _ _=>K t (a:Int) o) (o++dS_ [] (t.drop a))) ->
   ∀ (m i at_:Nat) (o:List Bs),i+m=zs.length->at_<=t.length->o.length<=i->Ev (fun n N=>bZ_.loop5 n K N t zs (at_:Int) (i:Int) o) (o++dS_ (zs.drop i) (t.drop at_)):=by
  intro K S m;induction m with
  |zero=>
   intro i a o hi ha u;have e:i=zs.length:=by omega
   subst e;refine a8_ ?_;simp only [bZ_.turn5,bZ_.step5,co_,cond_false,List.drop_length];exact S a o ha u
  |succ m ih=>
   intro i a o hi ha u;have k:i<zs.length:=by omega
   have O:=up1 (show i<=1000000 by omega);have T:=r3_ (zs.getD i 0) (t.drop a);have z:(t.drop a).length=t.length - a:=List.length_drop;have hM:Ev (fun n _=>eb_ n (max (zs.getD i 0) 0) (W ((t.length:Int) - (a:Int)))) (pcN (zs.getD i 0) (t.drop a):Int):=by
    have e:(pcN (zs.getD i 0) (t.drop a):Int)=min (max (zs.getD i 0) 0) ((t.length:Int) - a):=by unfold pcN;rw [z];omega
    rw [e,Wn (by omega) (by omega)];refine am_ ?_;simp only [eb_,al_,ae_];refine ⟨fun h => ?_,fun h => ?_⟩
    . have:=of_decide_eq_true h;omega
    . have:=of_decide_eq_false h;omega
   have I:W ((a:Int)+(pcN (zs.getD i 0) (t.drop a):Int))=((a+pcN (zs.getD i 0) (t.drop a):Nat):Int):=by rw [Wn (by omega) (by omega)];omega
   have et:(t.take (a+pcN (zs.getD i 0) (t.drop a))).drop a=(t.drop a).take (pcN (zs.getD i 0) (t.drop a)):=by rw [List.drop_take,Nat.add_sub_cancel_left]
   have ed:(t.drop a).drop (pcN (zs.getD i 0) (t.drop a))=t.drop (a+pcN (zs.getD i 0) (t.drop a)):=List.drop_drop;have J:=ih (i+1) (a+pcN (zs.getD i 0) (t.drop a)) (o++[(t.drop a).take (pcN (zs.getD i 0) (t.drop a))]) (by omega) (by omega) (by simp;omega);rw [ds_ 0 k];unfold dS_;rw [ed];rw [List.append_assoc] at J;refine a8_ ?_;simp only [bZ_.turn5,bZ_.step5,cE_ k,cond_true,bc_,ch_ k,true_and,Int.toNat_natCast,O,ab_ hl_,ab_ hM,I,dQ_,ba_,et];exact ⟨by omega,by simp;omega,J⟩
 refine am_ ?_;simp only [bZ_];refine cX_ (p _ (fun a o ha u => ?_) zs.length 0 0 [] (by omega) (Nat.zero_le _) (Nat.zero_le _));have ea:(t.drop a == []) = !decide ((a:Int)<(t.length:Int)):=by
  by_cases h:a<t.length
  . rw [decide_eq_true (by omega)]
    refine beq_eq_false_iff_ne.2 fun e => ?_;have:=congrArg List.length e;simp at this;omega
  . rw [decide_eq_false (by omega),List.drop_eq_nil_of_le (by omega)];rfl
 simp only [dS_,ea,al_,ba_,dQ_,ae_,Int.toNat_natCast,List.take_length];cases h:decide ((a:Int)<(t.length:Int))
 . exact ⟨fun h=>(by cases h),fun _=>by simp⟩
 . exact ⟨fun _=>⟨by omega,by simp;omega,rfl⟩,fun h=>(by cases h)⟩
end
theorem nl_ {c:af_} (hc:DwOk c):Ans (fun n _=>a4_ n c) fun r=>r.1.length<=60/\DwOk r.2:=by
 have k:∀ (m i:Nat) (c:af_) (o:List Int),i+m=60->DwOk c->o.length<=i->Ans (fun n N=>a4_.loop4 n (fun B3 B4 B5 B6=>(some (B6,(af_.mk B3 B4 B5)))) N (i:Int) c.b c.i c.h o) fun r=>r.1.length<=60/\DwOk r.2:=by
  intro m;induction m with
  |zero=>
   intro i c o hi hc u;refine cA_ ?_;simp only [a4_.turn4,a4_.step4,cY_];refine az_ (bs_ hc) fun r hr => ?_;have z:=hr.lo;have p:=hr.hi;rw [decide_eq_false (by omega)];simp only [cond_false];exact aX_.2 ⟨by simp only;omega,hr.cur⟩
  |succ m ih=>
   intro i c o hi hc u;refine cA_ ?_;simp only [a4_.turn4,a4_.step4,cY_,up1 (show i<=1000000 by omega)];refine az_ (bs_ hc) fun r hr => ?_
   with_reducible refine bj_.2 ⟨fun _ => ?_,fun _=>aX_.2 ⟨by simp only;omega,hr.cur⟩⟩
   refine az_ (bs_ hr.cur) fun r2 p => ?_
   with_reducible refine d7_.2 ⟨by simp;omega,?_⟩
   exact ih (i+1) r2.2 _ (by omega) p.cur (by simp;omega)
 refine ci_ ?_;simp only [a4_];exact eu_ (k 60 0 c [] rfl hc (Nat.zero_le _))
theorem hL_ {c:af_} (hc:DwOk c):Ans (fun n _=>aJ_ n c) fun r=>r.1.length<=6/\DwOk r.2:=by
 have k:∀ (m i:Nat) (c:af_) (o:List Int),i+m=6->DwOk c->o.length<=i->Ans (fun n N=>aJ_.loop4 n (fun B3 B4 B5 B6=>(some (B6,(af_.mk B3 B4 B5)))) N (i:Int) c.b c.i c.h o) fun r=>r.1.length<=6/\DwOk r.2:=by
  intro m;induction m with
  |zero=>
   intro i c o hi hc u;refine cA_ ?_;simp only [aJ_.turn4,aJ_.step4,cY_];refine az_ (bs_ hc) fun r hr => ?_;have z:=hr.lo;have p:=hr.hi;rw [decide_eq_false (by omega)];simp only [cond_false];exact aX_.2 ⟨by simp only;omega,hr.cur⟩
  |succ m ih=>
   intro i c o hi hc u;refine cA_ ?_;simp only [aJ_.turn4,aJ_.step4,cY_,up1 (show i<=1000000 by omega)];refine az_ (bs_ hc) fun r hr => ?_
   with_reducible refine bj_.2 ⟨fun _ => ?_,fun _=>aX_.2 ⟨by simp only;omega,hr.cur⟩⟩
   refine az_ (fr_ hr.cur (by simp)) fun r2 p => ?_
   with_reducible refine d7_.2 ⟨by simp;omega,?_⟩
   exact ih (i+1) r2.2 _ (by omega) p.2 (by simp;omega)
 refine ci_ ?_;simp only [aJ_];exact eu_ (k 6 0 c [] rfl hc (Nat.zero_le _))
theorem nv_ {eQ_:List Int} (hc:eQ_.length<=1048576):Ans (fun n _=>dk_ n eQ_) fun r=>r.1.length<=60/\r.2.length<=6:=by refine ci_ ?_;simp only [dk_];refine az_ (mt_ hc) fun c h=>az_ (nl_ h) fun t ht=>az_ (hL_ ht.2) fun z hz=>aX_.2 ⟨?_,hz.1⟩;show (hS_ t.1).length<=60;unfold hS_;rw [List.length_map];exact ht.1
theorem text_le (e:aC_):(cQ_ e).length<=10000:=by
 cases h:c9_ e with
 |true=>exact kH_ h
 |false=>unfold cQ_;rw [h];exact Nat.zero_le _
theorem mv_ {c:af_} (hc:DwOk c):Ans (fun n _=>aT_ n c) fun r=>r.1.length<=40000/\DwOk r.2:=by
 have k:∀ (m i:Nat) (c:af_) (o:Bs),i+m=4->DwOk c->o.length<=i*10000->Ans (fun n N=>aT_.loop4 n (fun B4 B5 B6 B7=>(some (B4,(af_.mk B5 B6 B7)))) N o (i:Int) c.b c.i c.h) fun r=>r.1.length<=40000/\DwOk r.2:=by
  intro m;induction m with
  |zero=>
   intro i c o hi hc u;refine cA_ ?_;simp only [aT_.turn4,aT_.step4,cY_];refine az_ (bs_ hc) fun r hr => ?_;have z:=hr.lo;have p:=hr.hi;rw [decide_eq_false (by omega)];simp only [cond_false];exact aX_.2 ⟨by simp only;omega,hr.cur⟩
  |succ m ih=>
   intro i c o hi hc u;refine cA_ ?_;simp only [aT_.turn4,aT_.step4,cY_,up1 (show i<=1000000 by omega),aY_,mL_];refine az_ (bs_ hc) fun r hr => ?_
   with_reducible refine bj_.2 ⟨fun _ => ?_,fun _=>aX_.2 ⟨by simp only;omega,hr.cur⟩⟩
   refine az_ (lk_ hr.cur) fun r2 p => ?_;have ht:=text_le r2.1;rw [bg_ (fD_ p.1.len)];rw [decide_eq_true (by omega)];simp only [cond_true];exact ih (i+1) r2.2 _ (by omega) p.2 (by rw [List.length_append];omega)
 refine ci_ ?_;simp only [aT_];exact eu_ (k 4 0 c [] rfl hc (Nat.zero_le _))
structure FdIn (r:aw_ × Bs):Prop where
 wait:r.1.wait.length<=40000
 text:r.2.length<=60000
def j0_:Bs:=[48,49,50,51,52,53,54,55,56,57,48,49,50,51,52,53,54,55,56,57,48,49,50,51,52,53,54,55,56,57,48,49,50,51,52,53,54,55,56,57,48,49,50,51,52,53,54,55,56,57,48,49,50,51,52,53,54,55,56,57,48,49,50,51,52,53,54,55,56,57,48,49,50,51,52,53,54,55,56,57,48,49,50,51,52,53,54,55,56,57,48,49,50,51,52,53,54,55,56,57,48,49,50,51,52,53,54,55,56,57,48,49,50,51,52,53,54,55,56,57,48,49,50,51,52,53,54,55,56,57]
theorem n2_:j0_.length=130:=rfl
theorem feed_step (n:Nat) (K:bu_.K11) (back:bu_.T11) (t t20:Bs) (t21:Bool) (c0:List Int) (c1 c2:Int) (s0:Bs) (s1:Bool):bu_.step11 n K back t t20 t21 c0 c1 c2 s0 s1 =
  (cond (decide ((t.length:Int)<9000)) ((cD_ n (af_.mk c0 c1 c2) 3).bind fun x=>(cond x.1 (cond (decide (t.length+j0_.length<=9223372036854775807)) (cond (decide ((t++j0_).length+(t++j0_).length<=9223372036854775807)) (back ((t++j0_)++(t++j0_)) t20 t21 x.2.b x.2.i x.2.h s0 s1) none) none) (K t t20 t21 s0 s1))) (K t t20 t21 s0 s1)):=rfl
theorem qI_ {eQ_:List Int} (hc:eQ_.length<=1048576):Ans (fun n _=>bu_ n eQ_) FdIn:=by
 refine ci_ ?_;simp only [bu_];refine az_ (mt_ hc) fun c h=>az_ (mv_ h) fun t ht => ?_;obtain ⟨J,m⟩:=ht;rw [Wn (by omega) (by omega)];refine az_ (bs_ m) fun k T => ?_;obtain ⟨k0,k1,k2⟩:=T;have u:((t.1.take k.1.toNat).drop 0).length<=40000:=by simp;omega
 have hr:((t.1.take (t.1.length:Int).toNat).drop k.1.toNat).length<=40000:=by simp;omega
 generalize (t.1.take k.1.toNat).drop 0=w at u ⊢;generalize (t.1.take (t.1.length:Int).toNat).drop k.1.toNat=r at hr ⊢
 with_reducible refine lC_.2 ⟨by omega,?_⟩
 with_reducible refine lC_.2 ⟨by omega,?_⟩
 refine az_ (bs_ k2) fun x hx => ?_;have m:=hx.cur
 with_reducible refine bj_.2 ⟨fun _=>aX_.2 ⟨u,by simp only;omega⟩,fun _ => ?_⟩
 with_reducible refine bj_.2 ⟨fun _ => ?_,fun _ => ?_⟩
 . refine az_ (iD_ m (by simp)) fun p S => ?_
   have O:p.1.length<=20:=by have:=S.1;simp only [List.mem_cons,List.not_mem_nil,or_false] at this;rcases this with e|e|e<;>rw [e]<;>decide
   rw [decide_eq_true (by omega)];simp only [cond_true];exact aX_.2 ⟨u,by simp only [List.length_append];omega⟩
 . with_reducible refine bj_.2 ⟨fun _ => ?_,fun _=>aX_.2 ⟨u,by simp only;omega⟩⟩
   have I:=gk_ (σ:=Bs × af_) (fun n N s=>bu_.loop11 n (fun B8 B9 B10 B11 B12=>(some ((aw_.mk B11 B12),B8))) N s.1 [] false s.2.b s.2.i s.2.h w false) (fun s=>9000 - s.1.length) (fun s=>s.1.length<=60000/\DwOk s.2) FdIn (fun s hs hi => ?_) (r,x.2) ⟨by simp only;omega,m⟩
   . exact I
   . simp only [bu_.turn11,feed_step,cY_]
     with_reducible refine bj_.2 ⟨fun z => ?_,fun _=>aX_.2 ⟨u,hs.1⟩⟩
     have z:=of_decide_eq_true z;refine az_ (fH_ hs.2) fun q hq => ?_
     with_reducible refine bj_.2 ⟨fun _ => ?_,fun _=>aX_.2 ⟨u,hs.1⟩⟩
     have hl:(s.1++j0_).length=s.1.length+130:=by rw [List.length_append,n2_]
     rw [decide_eq_true (by rw [n2_];omega)];simp only [cond_true];rw [decide_eq_true (by omega)];simp only [cond_true];exact hi ((s.1++j0_)++(s.1++j0_),q.2) ⟨by simp only;rw [List.length_append];omega,hq⟩ (by simp only;rw [List.length_append];omega)
theorem na_ {eQ_:List Int} (hc:eQ_.length<=1048576):Ans (fun n _=>c5_ n eQ_) fun r=>r.1.wait.length<=40000/\r.2.length<=7/\eF_ szB r.2<=60000:=by refine ci_ ?_;simp only [c5_];refine az_ (qI_ hc) fun f k=>az_ (mt_ hc) fun c h=>az_ (hL_ h) fun z hz => ?_;have p:=k.wait;have m:=k.text;rw [bg_ (iV_ (zs:=z.1) (t:=f.2) (by omega) (by omega))];have u:=ks_ z.1 f.2;exact aX_.2 ⟨p,by simp only;omega,by simp only;rw [kr_];exact m⟩
end Go.Pi
