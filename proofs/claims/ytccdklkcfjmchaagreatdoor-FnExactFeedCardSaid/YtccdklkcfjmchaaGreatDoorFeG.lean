/- Feed of the program returns what Feed of the reference returns, for all arguments. Text 7 of 7. -/
import Derived.Test.YtccdklkcfjmchaaGreatDoorFeF
set_option linter.unusedVariables false
set_option maxRecDepth 100000
set_option linter.unusedSimpArgs false
section
namespace Go.Pi
section
variable {n6:Int}
theorem nu_ {j:aa_} (h:bD_ 6 j≤400) {i:Nat} (hi:i<j.list.length):bD_ 6 (j.list.getD i aa_.dflt)≤400:=by
 have:=fT_ h (cC_ aa_.dflt hi)
 rw [h3_ 5 _ this];exact this
theorem ops_uni {s:Bs} {t6 a b c d e:Int} {f:Bs} {t40 t41 t42 t43 t44:Int} {t45:Bs} {t5:List Bs} {t46:List aa_} {t47:List Bs} {j:aa_} (hj:bD_ 6 j≤400) :
  ∀ (m i:Nat) (o:List TOp),i+m=j.list.length→(∀ x ∈ o,d3_ x)→o.length≤4000+i→∃ M,
    (∀ n R,M≤n→M≤R→∀ k,ac_.loop20 n k R s t6 (i:Int) a b c d e f t40 t41 t42 t43 t44 t45 t5 j.kind j.n_ j.s t46 t47 o j.list j.names=some (zeroE,false)) ∨
    ∃ o',o'.length≤o.length+m∧(∀ x ∈ o',d3_ x)∧∀ n R,M≤n→M≤R→∀ k,ac_.loop20 n k R s t6 (i:Int) a b c d e f t40 t41 t42 t43 t44 t45 t5 j.kind j.n_ j.s t46 t47 o j.list j.names=k s t6 a b c d e f t40 t41 t42 t43 t44 t45 t5 t46 t47 o':=by
 have hll:=dt_ hj
 intro m
 induction m with
 |zero=>
  intro i o hi ho _
  have e:i=j.list.length:=by omega
  subst e
  refine ⟨1,.inr ⟨o,Nat.le_refl _,ho,fun n R _ hR k => ?_⟩⟩
  obtain ⟨R,rfl⟩:∃ m,R=m+1:=⟨R - 1,by omega⟩
  simp only [ac_.turn20,ac_.step20,cQ_,cond_false]
 |succ m ih=>
  intro i o hi ho hol
  have hlt:i<j.list.length:=by omega
  obtain ⟨v,⟨M1,hM1⟩,hv⟩:=ic_ (nu_ hj hlt)
  have hW:=W_up hlt (show j.list.length≤cz_ by simp only [cz_];omega)
  have hr:(o.length+1)*112≤140737488355328:=by omega
  cases hq:v.2 with
  |false=>
   refine ⟨max M1 1,.inl fun n R hn hR k => ?_⟩
   obtain ⟨R,rfl⟩:∃ m,R=m+1:=⟨R - 1,by omega⟩
   simp only [ac_.turn20,ac_.step20,by_,Int.toNat_natCast,cS_ hlt,cond_true,gS_ hlt,hM1 n n (by omega) (by omega),Option.bind_some,hq,Bool.not_false]
  |true=>
   obtain ⟨M2,h2⟩:=ih (i+1) (o++[v.1]) (by omega) (mw_ ho hv) (by simp;omega)
   refine ⟨max M1 (M2+1),?_⟩
   have step:∀ n R,max M1 (M2+1)≤n→max M1 (M2+1)≤R→∀ k,∃ R',M2≤R'∧ac_.loop20 n k R s t6 (i:Int) a b c d e f t40 t41 t42 t43 t44 t45 t5 j.kind j.n_ j.s t46 t47 o j.list j.names=ac_.loop20 n k R' s t6 ((i+1:Nat):Int) a b c d e f t40 t41 t42 t43 t44 t45 t5 j.kind j.n_ j.s t46 t47 (o++[v.1]) j.list j.names:=by
    intro n R hn hR k
    obtain ⟨R,rfl⟩:∃ m,R=m+1:=⟨R - 1,by omega⟩
    refine ⟨R,by omega,?_⟩
    have hr2:(o.length+[v.1].length)*112≤140737488355328:=hr
    simp only [ac_.turn20,ac_.step20,by_,gd_,Int.toNat_natCast,cS_ hlt,cond_true,gS_ hlt,hM1 n n (by omega) (by omega),Option.bind_some,hq,Bool.not_true,cond_false,gK_ hr2,hW]
   rcases h2 with h2|⟨o',g1,g2,g3⟩
   · refine .inl fun n R hn hR k => ?_
     obtain ⟨R',h1,e⟩:=step n R hn hR k
     rw [e];exact h2 n R' (by omega) h1 k
   · refine .inr ⟨o',by simp at g1;omega,g2,fun n R hn hR k => ?_⟩
     obtain ⟨R',h1,e⟩:=step n R hn hR k
     rw [e];exact g3 n R' (by omega) h1 k
theorem ops_any {K:Nat→Nat→ac_.K20} {Q:aj_ × Bool→Prop} {s:Bs} {t6 a b c d e:Int} {f:Bs} {t40 t41 t42 t43 t44:Int} {t45:Bs} {t5:List Bs} {t46:List aa_} {t47:List Bs} {j:aa_} (hj:bD_ 6 j≤400) {o:List TOp} (ho:∀ x ∈ o,d3_ x) (hol:o.length≤4000)
  (hz:Q (zeroE,false)) (hK:∀ o',o'.length≤o.length+400→(∀ x ∈ o',d3_ x)→Ans (fun n N=>K n N s t6 a b c d e f t40 t41 t42 t43 t44 t45 t5 t46 t47 o') Q) :
  Ans (fun n N=>ac_.loop20 n (K n N) n s t6 0 a b c d e f t40 t41 t42 t43 t44 t45 t5 j.kind j.n_ j.s t46 t47 o j.list j.names) Q:=by
 have hll:=dt_ hj
 obtain ⟨M,h|⟨o',g1,g2,g3⟩⟩:=ops_uni (s:=s) (t6:=t6) (a:=a) (b:=b) (c:=c) (d:=d) (e:=e) (f:=f) (t40:=t40) (t41:=t41) (t42:=t42) (t43:=t43) (t44:=t44) (t45:=t45) (t5:=t5) (t46:=t46) (t47:=t47) hj j.list.length 0 o (by omega) ho (by omega)
 · exact ⟨_,⟨M,fun n N hn _=>h n n hn hn _⟩,hz⟩
 · obtain ⟨v,hv,hq⟩:=hK o' (by omega) g2
   exact ⟨v,kh_ M (fun n N hn=>g3 n n hn hn _) hv,hq⟩
theorem ops_exact {s:Bs} {t6 a b c d e:Int} {f:Bs} {t40 t41 t42 t43 t44:Int} {t45:Bs} {t5:List Bs} {t46:List aa_} {t47:List Bs} {l:List TOp} (hl:l.length≤400) (h:∀ o ∈ l,OpIn o) :
  ∀ (m i:Nat),i+m=l.length→∃ M,∀ n R,M≤n→M≤R→∀ k,ac_.loop20 n k R s t6 (i:Int) a b c d e f t40 t41 t42 t43 t44 t45 t5 4 0 [] t46 t47 (l.take i) (l.map cx_) []=k s t6 a b c d e f t40 t41 t42 t43 t44 t45 t5 t46 t47 l:=by
 intro m
 induction m with
 |zero=>
  intro i hi
  have e:i=l.length:=by omega
  subst e
  have e:decide ((l.length:Int)<((l.map cx_).length:Int))=false:=by simp
  refine ⟨1,fun n R _ hR k => ?_⟩
  obtain ⟨R,rfl⟩:∃ m,R=m+1:=⟨R - 1,by omega⟩
  simp only [List.take_length,ac_.turn20,ac_.step20,e,cond_false]
 |succ m ih=>
  intro i hi
  have hlt:i<l.length:=by omega
  have ho:=h _ (cC_ TOp.dflt hlt)
  have hi2:i<(l.map cx_).length:=by simpa using hlt
  have e:(l.map cx_).getD i aa_.dflt=dd_ (l.getD i TOp.dflt):=by
   rw [←ho.val,List.getD_eq_getElem?_getD,List.getElem?_map,List.getD_eq_getElem?_getD,List.getElem?_eq_getElem hlt];rfl
  obtain ⟨M1,hM1⟩:=ib_ ho
  obtain ⟨M2,h2⟩:=ih (i+1) (by omega)
  have hW:=W_up hlt (show l.length≤cz_ by simp only [cz_];omega)
  refine ⟨max M1 (M2+1),fun n R hn hR k => ?_⟩
  obtain ⟨R,rfl⟩:∃ m,R=m+1:=⟨R - 1,by omega⟩
  have hr2:((l.take i).length+[l.getD i TOp.dflt].length)*112≤140737488355328:=by simp;omega
  rw [cJ_ TOp.dflt hlt] at h2
  simp only [ac_.turn20,ac_.step20,by_,gd_,Int.toNat_natCast,cS_ hi2,cond_true,gS_ hi2,e,hM1 n n (by omega) (by omega),Option.bind_some,Bool.not_true,cond_false,gK_ hr2,hW]
  exact h2 n R (by omega) (by omega) k
theorem ops_enc {K:Nat→Nat→ac_.K20} {F:aj_ × Bool} {s:Bs} {t6 a b c d e:Int} {f:Bs} {t40 t41 t42 t43 t44:Int} {t45:Bs} {t5:List Bs} {t46:List aa_} {t47:List Bs} {l:List TOp} (hl:l.length≤400) (h:∀ o ∈ l,OpIn o)
  (hK:Ev (fun n N=>K n N s t6 a b c d e f t40 t41 t42 t43 t44 t45 t5 t46 t47 l) F) :
  Ev (fun n N=>ac_.loop20 n (K n N) n s t6 0 a b c d e f t40 t41 t42 t43 t44 t45 t5 4 0 [] t46 t47 [] (l.map cx_) []) F:=by
 obtain ⟨M,hM⟩:=ops_exact (s:=s) (t6:=t6) (a:=a) (b:=b) (c:=c) (d:=d) (e:=e) (f:=f) (t40:=t40) (t41:=t41) (t42:=t42) (t43:=t43) (t44:=t44) (t45:=t45) (t5:=t5) (t46:=t46) (t47:=t47) hl h l.length 0 (by omega)
 exact kh_ M (fun n N hn=>hM n n hn hn _) hK
end
section
variable {K:Nat→ac_.K5} {s:Bs} {a b c d e:Int} {f:Bs}
theorem lines_any {Q:aj_ × Bool→Prop} {L:List Bs} (hL:L.length≤4194304) (hLl:∀ y ∈ L,y.length≤4194304) (hz:Q (zeroE,false))
  (hK:∀ t40 t41 t42 (j:aa_) o,fg_ 6 j→o.length≤4000→(∀ x ∈ o,d3_ x)→Ans (fun n _=>K n s a b c d e f t40 t41 t42 j.kind j.n_ j.s j.list j.names o) Q) :
  Ans (fun n _=>ac_.loop5 n (K n) n s 0 a b c d e f 0 0 0 0 0 [] L [] [] []) Q:=by
 refine eA_ (σ:=Nat × Int × Int × Int × aa_ × List TOp) (fun n N st=>ac_.loop5 n (K n) N s (st.1:Int) a b c d e f st.2.1 st.2.2.1 st.2.2.2.1 st.2.2.2.2.1.kind st.2.2.2.2.1.n_ st.2.2.2.2.1.s L st.2.2.2.2.1.list st.2.2.2.2.1.names st.2.2.2.2.2) (fun st=>6 - st.1)
  (fun st=>st.1≤6∧fg_ 6 st.2.2.2.2.1∧st.2.2.2.2.2.length≤400*st.1∧∀ x ∈ st.2.2.2.2.2,d3_ x) _ (fun st hI ih => ?_) (0,0,0,0,fl_,[]) ⟨Nat.zero_le _,ek_ 6,Nat.zero_le _,fun y h=>(by cases h)⟩
 obtain ⟨i,t40,t41,t42,j,o⟩:=st
 simp only at hI ih ⊢
 obtain ⟨h1,h2,h3,h4⟩:=hI
 have hend:=hK t40 t41 t42 j o h2 (by omega) h4
 simp only [ac_.turn5,ac_.step5,by_,Int.toNat_natCast,cv_]
 refine ⟨fun hlt=>⟨fun h6 => ?_,fun _=>hend⟩,fun _=>hend⟩
 have hlt:=of_decide_eq_true hlt
 have h6:=of_decide_eq_true h6
 have hi:i<L.length:=by omega
 have hW:W ((i:Int)+1)=((i+1:Nat):Int):=by rw [W_id (by omega) (by omega)];omega
 have hy:=hLl _ (cC_ [] hi)
 have b1:=iL_ (L.getD i []) [105,100,58,32]
 have b2:=iL_ (L.getD i []) [98,97,115,101,58,32]
 have b3:=iL_ (L.getD i []) [100,97,116,97,58,32]
 simp only [hv_,cG_ hi,true_and,hW,cv_,bP_ eP_]
 have next:∀ t40 t41 t42 j o',fg_ 6 j→o'.length≤o.length+400→(∀ x ∈ o',d3_ x)→Ans (fun n N=>ac_.loop5 n (K n) N s ((i+1:Nat):Int) a b c d e f t40 t41 t42 j.kind j.n_ j.s L j.list j.names o') Q :=
  fun t40 t41 t42 j o' g1 g2 g3=>ih (i+1,t40,t41,t42,j,o') ⟨by simp only;omega,g1,by simp only;omega,g3⟩ (by simp only;omega)
 refine ⟨fun _=>next _ _ _ j o h2 (by omega) h4,fun _=>⟨fun _=>next _ _ _ j o h2 (by omega) h4,fun _=>⟨fun _ => ?_,fun _=>⟨fun _ => ?_,fun _=>⟨fun _ => ?_,fun _=>next _ _ _ j o h2 (by omega) h4⟩⟩⟩⟩⟩
 · exact cP_ (jp_ (by omega)) fun v _=>next _ _ _ j o h2 (by omega) h4
 · exact cP_ (jp_ (by omega)) fun v _=>next _ _ _ j o h2 (by omega) h4
 · refine cP_ (ie_ (by omega)) fun v hv => ?_
   simp only [cv_]
   refine ⟨fun _=>next _ _ _ v.1 o (cL_ 6 _ hv) (by omega) h4,fun _ => ?_⟩
   exact ops_any hv h4 (by omega) hz fun o' g1 g2=>by simp only [hW];exact next _ _ _ j o' h2 g1 g2
end
theorem gG_ {s:Bs} (hs:s.length≤4194304):Ans (fun n _=>ac_ n s) (nd_ s):=by
 obtain ⟨l1,l2⟩:=it_ s [] 4194304 (by simpa using hs)
 refine cY_ ?_
 simp only [ac_,bP_ (fe_ hs)]
 refine lines_any (by omega) l2 (.inl rfl) fun t40 t41 t42 j o g1 g2 g3 => ?_
 have he:lL_ (aj_.mk t40 t41 t42 j o):=⟨g1,by show o.length≤4000000;omega,g3⟩
 simp only [dv_,cv_,cp_,bP_ (eL_ he)]
 refine ⟨fun _=>.inl rfl,fun h1=>⟨fun _=>.inl rfl,fun h2=>.inr ⟨rfl,text_ok ?_,by simpa using h2⟩⟩⟩
 have h2:cy_ (aj_.mk t40 t41 t42 j o)=s:=by simpa using h2
 rw [h2]
 exact fun e=>by rw [e] at h1;cases h1
section
variable {K:Nat→ac_.K5} {s:Bs} {a b c d e:Int} {f:Bs} {F:aj_ × Bool} {t40 t41 t42 t43 t44:Int} {t45:Bs} {L:List Bs} {t46:List aa_} {t47:List Bs} {t48:List TOp} {i:Nat}
theorem gN_ {a c:UInt8} (h:c≠a) (p t:Bs):dl_ (c::t) (a::p)=[]:=by unfold dl_;rw [kQ_ h];rfl
theorem line_snap (hi:i<L.length) (h6:i<6) (hl:L.getD i []=[101,118,101,110,116,58,32,115,110,97,112])
  (h:Ev (fun n N=>ac_.loop5 n (K n) N s ((i+1:Nat):Int) a b c d e f 1 t41 t42 t43 t44 t45 L t46 t47 t48) F) :
  Ev (fun n N=>ac_.loop5 n (K n) N s (i:Int) a b c d e f t40 t41 t42 t43 t44 t45 L t46 t47 t48) F:=by
 have hW:W ((i:Int)+1)=((i+1:Nat):Int):=by rw [W_id (by omega) (by omega)];omega
 have h6':decide ((i:Int)<6)=true:=decide_eq_true (by omega)
 refine bo_ ?_
 simp only [ac_.turn5,ac_.step5,Int.toNat_natCast,cS_ hi,h6',cond_true,bQ_,cG_ hi,true_and,hW,hl,beq_self_eq_true]
 exact h
theorem nw_ (hi:i<L.length) (h6:i<6) (hl:L.getD i []=[101,118,101,110,116,58,32,112,97,116,99,104])
  (h:Ev (fun n N=>ac_.loop5 n (K n) N s ((i+1:Nat):Int) a b c d e f 2 t41 t42 t43 t44 t45 L t46 t47 t48) F) :
  Ev (fun n N=>ac_.loop5 n (K n) N s (i:Int) a b c d e f t40 t41 t42 t43 t44 t45 L t46 t47 t48) F:=by
 have hW:W ((i:Int)+1)=((i+1:Nat):Int):=by rw [W_id (by omega) (by omega)];omega
 have h6':decide ((i:Int)<6)=true:=decide_eq_true (by omega)
 have c1:(([101,118,101,110,116,58,32,112,97,116,99,104]:Bs) == [101,118,101,110,116,58,32,115,110,97,112])=false:=rfl
 refine bo_ ?_
 simp only [ac_.turn5,ac_.step5,Int.toNat_natCast,cS_ hi,h6',cond_true,cond_false,bQ_,cG_ hi,true_and,hW,hl,c1,beq_self_eq_true]
 exact h
theorem j1_ {c a:UInt8} (h:c≠a) (p t:Bs):((c::t:Bs) == (a::p))=false:=beq_eq_false_iff_ne.2 fun e=>h (List.cons.inj e).1
theorem itoa_ne (n:Int):(Lib.itoa n == [])=false:=by
 obtain ⟨c,t,e,_⟩:=fx_ n
 rw [e];rfl
theorem line_id {v:Int} (hv0:0≤v) (hv1:v≤100000) (hi:i<L.length) (h6:i<6) (hl:L.getD i []=tId++Lib.itoa v)
  (h:Ev (fun n N=>ac_.loop5 n (K n) N s ((i+1:Nat):Int) a b c d e f t40 v t42 t43 t44 t45 L t46 t47 t48) F) :
  Ev (fun n N=>ac_.loop5 n (K n) N s (i:Int) a b c d e f t40 t41 t42 t43 t44 t45 L t46 t47 t48) F:=by
 have hW:W ((i:Int)+1)=((i+1:Nat):Int):=by rw [W_id (by omega) (by omega)];omega
 have h6':decide ((i:Int)<6)=true:=decide_eq_true (by omega)
 have c1:∀ p,(tId++Lib.itoa v == (101::p))=false:=fun p=>j1_ (by decide) p _
 have c3:dl_ (tId++Lib.itoa v) [105,100,58,32]=Lib.itoa v:=f3_ tId _
 have c4:=itoa_ne v
 refine bo_ ?_
 simp only [ac_.turn5,ac_.step5,Int.toNat_natCast,cS_ hi,h6',cond_true,cond_false,bQ_,cG_ hi,true_and,hW,hl,c1,ae_ eP_,c3,c4,Bool.not_false,ae_ (jo_ hv0 hv1)]
 exact h
theorem line_base {v:Int} (hv0:0≤v) (hv1:v≤100000) (hi:i<L.length) (h6:i<6) (hl:L.getD i []=hO_++Lib.itoa v)
  (h:Ev (fun n N=>ac_.loop5 n (K n) N s ((i+1:Nat):Int) a b c d e f t40 t41 v t43 t44 t45 L t46 t47 t48) F) :
  Ev (fun n N=>ac_.loop5 n (K n) N s (i:Int) a b c d e f t40 t41 t42 t43 t44 t45 L t46 t47 t48) F:=by
 have hW:W ((i:Int)+1)=((i+1:Nat):Int):=by rw [W_id (by omega) (by omega)];omega
 have h6':decide ((i:Int)<6)=true:=decide_eq_true (by omega)
 have c1:∀ p,(hO_++Lib.itoa v == (101::p))=false:=fun p=>j1_ (by decide) p _
 have c2:dl_ (hO_++Lib.itoa v) [105,100,58,32]=[]:=gN_ (by decide) _ _
 have c3:dl_ (hO_++Lib.itoa v) [98,97,115,101,58,32]=Lib.itoa v:=f3_ hO_ _
 have c4:=itoa_ne v
 have c5:(!(([]:Bs) == []))=false:=rfl
 refine bo_ ?_
 simp only [ac_.turn5,ac_.step5,Int.toNat_natCast,cS_ hi,h6',cond_true,cond_false,bQ_,cG_ hi,true_and,hW,hl,c1,ae_ eP_,c2,c3,c4,c5,Bool.not_false,ae_ (jo_ hv0 hv1)]
 exact h
theorem line_data {j:aa_} (hj:bC_ j≠[]) (hi:i<L.length) (h6:i<6) (hl:L.getD i []=dO_++bC_ j)
  (h:Ev (fun n N=>ac_.loop5 n (K n) N s ((i+1:Nat):Int) a b c d e f 1 t41 t42 j.kind j.n_ j.s L j.list j.names t48) F) :
  Ev (fun n N=>ac_.loop5 n (K n) N s (i:Int) a b c d e f 1 t41 t42 t43 t44 t45 L t46 t47 t48) F:=by
 have hW:W ((i:Int)+1)=((i+1:Nat):Int):=by rw [W_id (by omega) (by omega)];omega
 have h6':decide ((i:Int)<6)=true:=decide_eq_true (by omega)
 have c1:∀ p,(dO_++bC_ j == (101::p))=false:=fun p=>j1_ (by decide) p _
 have c2:dl_ (dO_++bC_ j) [105,100,58,32]=[]:=gN_ (by decide) _ _
 have c6:dl_ (dO_++bC_ j) [98,97,115,101,58,32]=[]:=gN_ (by decide) _ _
 have c3:dl_ (dO_++bC_ j) [100,97,116,97,58,32]=bC_ j:=f3_ dO_ _
 have c4:(bC_ j == [])=false:=beq_eq_false_iff_ne.2 hj
 have c5:(!(([]:Bs) == []))=false:=rfl
 have c7:((1:Int) == 1)=true:=rfl
 refine bo_ ?_
 simp only [ac_.turn5,ac_.step5,Int.toNat_natCast,cS_ hi,h6',cond_true,cond_false,bQ_,cG_ hi,true_and,hW,hl,c1,ae_ eP_,c2,c3,c4,c5,c6,c7,Bool.not_false,ae_ (fs_ hj)]
 exact h
theorem line_ops {l:List TOp} (hj:bC_ (c9_ l)≠[]) (hn:l.length≤400) (ho:∀ o ∈ l,OpIn o) (hi:i<L.length) (h6:i<6) (hl:L.getD i []=dO_++bC_ (c9_ l))
  (h:Ev (fun n N=>ac_.loop5 n (K n) N s ((i+1:Nat):Int) a b c d e f 2 t41 t42 t43 t44 t45 L t46 t47 l) F) :
  Ev (fun n N=>ac_.loop5 n (K n) N s (i:Int) a b c d e f 2 t41 t42 t43 t44 t45 L t46 t47 []) F:=by
 have hW:W ((i:Int)+1)=((i+1:Nat):Int):=by rw [W_id (by omega) (by omega)];omega
 have h6':decide ((i:Int)<6)=true:=decide_eq_true (by omega)
 have c1:∀ p,(dO_++bC_ (c9_ l) == (101::p))=false:=fun p=>j1_ (by decide) p _
 have c2:dl_ (dO_++bC_ (c9_ l)) [105,100,58,32]=[]:=gN_ (by decide) _ _
 have c6:dl_ (dO_++bC_ (c9_ l)) [98,97,115,101,58,32]=[]:=gN_ (by decide) _ _
 have c3:dl_ (dO_++bC_ (c9_ l)) [100,97,116,97,58,32]=bC_ (c9_ l):=f3_ dO_ _
 have c4:(bC_ (c9_ l) == [])=false:=beq_eq_false_iff_ne.2 hj
 have c5:(!(([]:Bs) == []))=false:=rfl
 have c7:((2:Int) == 1)=false:=rfl
 refine bo_ ?_
 simp only [ac_.turn5,ac_.step5,Int.toNat_natCast,cS_ hi,h6',cond_true,cond_false,bQ_,cG_ hi,true_and,hW,hl,c1,ae_ eP_,c2,c3,c4,c5,c6,c7,Bool.not_false,ae_ (fs_ hj)]
 exact ops_enc hn ho (by simp only [hW];exact h)
theorem mE_ (hi:i<L.length) (h6:i<6) (hl:L.getD i []=[])
  (h:Ev (fun n N=>ac_.loop5 n (K n) N s ((i+1:Nat):Int) a b c d e f t40 t41 t42 t43 t44 t45 L t46 t47 t48) F) :
  Ev (fun n N=>ac_.loop5 n (K n) N s (i:Int) a b c d e f t40 t41 t42 t43 t44 t45 L t46 t47 t48) F:=by
 have hW:W ((i:Int)+1)=((i+1:Nat):Int):=by rw [W_id (by omega) (by omega)];omega
 have h6':decide ((i:Int)<6)=true:=decide_eq_true (by omega)
 have c1:∀ (a:UInt8) p,(([]:Bs) == (a::p))=false:=fun a p=>rfl
 have c2:∀ (a:UInt8) p,dl_ [] (a::p)=[]:=fun a p=>rfl
 have c5:(!(([]:Bs) == []))=false:=rfl
 refine bo_ ?_
 simp only [ac_.turn5,ac_.step5,Int.toNat_natCast,cS_ hi,h6',cond_true,cond_false,bQ_,cG_ hi,true_and,hW,hl,c1,ae_ eP_,c2,c5]
 exact h
theorem mF_ (hi:i=L.length) (h:Ev (fun n _=>K n s a b c d e f t40 t41 t42 t43 t44 t45 t46 t47 t48) F) :
  Ev (fun n N=>ac_.loop5 n (K n) N s (i:Int) a b c d e f t40 t41 t42 t43 t44 t45 L t46 t47 t48) F:=by
 subst hi
 refine bo_ ?_
 simp only [ac_.turn5,ac_.step5,cQ_,cond_false]
 exact h
end
theorem nv_ (v:Int) {d:Bs} (hd:∀ c ∈ d,c≠10):dx_ [] (dJ_ v d)=[[101,118,101,110,116,58,32,115,110,97,112],tId++Lib.itoa v,dO_++d,[]]:=by
 have e:dJ_ v d=[101,118,101,110,116,58,32,115,110,97,112]++10::((tId++Lib.itoa v)++10::((dO_++d)++10::([]++10::[]))):=by simp [dJ_,i5_]
 have h1:∀ c ∈ tId++Lib.itoa v,c≠10:=fun c hc=>by rcases List.mem_append.1 hc with h|h;exact (show ∀ c ∈ tId,c≠10 by decide) c h;exact gr_ v c h
 have h2:∀ c ∈ dO_++d,c≠10:=fun c hc=>by rcases List.mem_append.1 hc with h|h;exact (show ∀ c ∈ dO_,c≠10 by decide) c h;exact hd c h
 rw [e,dH_ [] _ _ (by decide),dH_ [] _ _ h1,dH_ [] _ _ h2,dH_ [] _ _ (by decide)];rfl
theorem lJ_ (v b:Int) {d:Bs} (hd:∀ c ∈ d,c≠10):dx_ [] (dw_ v b d)=[[101,118,101,110,116,58,32,112,97,116,99,104],tId++Lib.itoa v,hO_++Lib.itoa b,dO_++d,[]]:=by
 have e:dw_ v b d=[101,118,101,110,116,58,32,112,97,116,99,104]++10::((tId++Lib.itoa v)++10::((hO_++Lib.itoa b)++10::((dO_++d)++10::([]++10::[])))):=by simp [dw_,i5_]
 have h1:∀ c ∈ tId++Lib.itoa v,c≠10:=fun c hc=>by rcases List.mem_append.1 hc with h|h;exact (show ∀ c ∈ tId,c≠10 by decide) c h;exact gr_ v c h
 have h3:∀ c ∈ hO_++Lib.itoa b,c≠10:=fun c hc=>by rcases List.mem_append.1 hc with h|h;exact (show ∀ c ∈ hO_,c≠10 by decide) c h;exact gr_ b c h
 have h2:∀ c ∈ dO_++d,c≠10:=fun c hc=>by rcases List.mem_append.1 hc with h|h;exact (show ∀ c ∈ dO_,c≠10 by decide) c h;exact hd c h
 rw [e,dH_ [] _ _ (by decide),dH_ [] _ _ h1,dH_ [] _ _ h3,dH_ [] _ _ h2,dH_ [] _ _ (by decide)];rfl
theorem gF_ {e:aj_} (h:cA_ e=true):Ev (fun n _=>ac_ n (cy_ e)) (e,true):=by
 have hlen:=jA_ h
 have hne:(cy_ e == [])=false:=beq_eq_false_iff_ne.2 (le_ h)
 have hT:=eL_ (mJ_ h)
 refine aV_ ?_
 simp only [ac_,ae_ (fe_ (s:=cy_ e) (by omega))]
 rcases fZ_ h with ⟨hk,hs⟩|⟨hk,hs⟩
 · have hl:=nv_ e.version (ki_ hs.doc)
   rw [←e5_ h hk] at hl
   rw [hl]
   refine cF_ (line_snap (i:=0) (by simp only [List.length_cons,List.length_nil];omega) (by decide) rfl (line_id hs.ver.1 hs.ver.2 (by simp only [List.length_cons,List.length_nil];omega) (by decide) rfl (line_data hs.doc (by simp only [List.length_cons,List.length_nil];omega) (by decide) rfl (mE_ (by simp only [List.length_cons,List.length_nil];omega) (by decide) rfl (mF_ rfl ?_)))))
   have ee:aj_.mk 1 e.version 0 e.doc []=e:=by
    obtain ⟨k,v,b,d,o⟩:=e
    have e1:=hs.base
    have e2:=hs.ops
    simp only at e1 e2 hk
    rw [e1,e2,hk]
   simp only [dv_,ee,hne,cond_false,ae_ hT,beq_self_eq_true,Bool.not_true,al_]
 · have hl:=lJ_ e.version e.base (ki_ hs.enc)
   rw [←ey_ h hk] at hl
   rw [hl]
   refine cF_ (nw_ (i:=0) (by simp only [List.length_cons,List.length_nil];omega) (by decide) rfl (line_id hs.ver.1 hs.ver.2 (by simp only [List.length_cons,List.length_nil];omega) (by decide) rfl (line_base hs.base.1 hs.base.2 (by simp only [List.length_cons,List.length_nil];omega) (by decide) rfl (line_ops hs.enc hs.len hs.ops (by simp only [List.length_cons,List.length_nil];omega) (by decide) rfl (mE_ (by simp only [List.length_cons,List.length_nil];omega) (by decide) rfl (mF_ rfl ?_))))))
   have ee:aj_.mk 2 e.version e.base (aa_.mk 0 0 [] [] []) e.ops=e:=by
    obtain ⟨k,v,b,d,o⟩:=e
    have e1:=hs.doc
    simp only at e1 hk
    rw [e1,hk];rfl
   simp only [ee,hne,cond_false,ae_ hT,beq_self_eq_true,Bool.not_true,al_]
theorem i6_ {s:Bs} (hs:s.length≤4194304):∃ x,nd_ s x∧Ev (fun n _=>ac_ n s) x∧Ev (fun n _=>bA_ n s) x:=by
 obtain ⟨x,h1,h2⟩:=gW_ hs
 obtain ⟨y,g1,g2⟩:=gG_ hs
 rcases h2 with rfl|⟨a1,a2,a3⟩
 · rcases g2 with rfl|⟨b1,b2,b3⟩
   · exact ⟨_,.inl rfl,g1,h1⟩
   · have:=gV_ b2
     rw [b3] at this
     have e:=congrArg Prod.snd ((dN_ h1).1 this)
     cases e
 · have:=gF_ a2
   rw [a3] at this
   refine ⟨x,.inr ⟨a1,a2,a3⟩,?_,h1⟩
   rw [←a1] at this
   exact this
end Go.Pi
end
section
namespace Go.Pi
theorem h4_:∀ {l:List Bs} {c:Nat},(∀ x ∈ l,x.length≤c)→dD_ szB l≤l.length*c
 |[],_,_=>Nat.zero_le _
 |x::l,c,h=>by
  have:=h4_ (l:=l) fun y hy=>h y (List.mem_cons_of_mem _ hy)
  have:=h x (List.mem_cons_self ..)
  simp only [dD_,szB,List.length_cons,Nat.add_mul] at *;omega
theorem ka_:∀ (d:Nat) (j:aa_),bD_ d j≤400→aa_.size j≤50000*bD_ d j
 |0,j,h=>by simp only [bD_] at h;omega
 |d+1,j,h=>by
  obtain ⟨ho,hs⟩:=c0_ h
  have hl:=dt_ h
  have hn:=d2_ h
  have hsum:∀ l:List aa_,(∀ x ∈ l,bD_ d x≤400)→dD_ aa_.size l≤50000*dD_ (bD_ d) l:=by
   intro l
   induction l with
   |nil=>intro _;exact Nat.zero_le _
   |cons x l ih=>
    intro hx
    have h1:=ka_ d x (hx x (List.mem_cons_self ..))
    have h2:=ih fun y hy=>hx y (List.mem_cons_of_mem _ hy)
    simp only [dD_];omega
  have h1:=hsum j.list fun x hx=>by have:=he_ (bD_ d) hx;omega
  have hF:FOwn j=true:=by
   simp only [bD_] at h
   cases hf:FOwn j with
   |true=>rfl
   |false=>rw [hf,cond_false] at h;omega
  have hsl:j.s.length≤60:=by
   unfold FOwn at hF
   simp only [Bool.and_eq_true,Bool.or_eq_true] at hF
   rcases hF.2.2.2.1 with e|e
   · have:j.s=[]:=by simpa using e
     rw [this];exact Nat.zero_le _
   · exact ho.text (by simpa using e)
  have hnt:dD_ szB j.names≤j.names.length*60:=h4_ fun x hx=>by
   by_cases hk:j.kind=5
   · obtain ⟨i,hi,e⟩:=List.mem_iff_getElem.1 hx
     have:=f7_ (ho.obj hk).2 hi
     rw [List.getD_eq_getElem?_getD,List.getElem?_eq_getElem hi,Option.getD_some,e] at this
     exact this
   · have:j.names.length=0:=by
      unfold FOwn at hF
      simp only [Bool.and_eq_true,Bool.or_eq_true] at hF
      rcases hF.2.1 with e|e
      · exact of_decide_eq_true e
      · exact absurd (by simpa using e) hk
     rw [List.eq_nil_of_length_eq_zero this] at hx;cases hx
  have e:=aa_.size_eq j
  unfold dc_ at e
  rw [hs]
  omega
end Go.Pi
end
section
namespace Go.Pi
theorem op_size {o:TOp} (h:OpIn o):TOp.size o≤20000100+400:=by
 have hi:=lH_ h.ok
 have h1:=ka_ 6 o.value hi.val
 have h2:=hi.val
 have h3:dD_ szB o.way≤o.way.length*60:=h4_ hi.text
 have h4:=hi.way
 simp only [TOp.size]
 unfold dc_
 omega
theorem mx_:∀ {l:List TOp},(∀ o ∈ l,OpIn o)→dD_ TOp.size l≤l.length*20000500
 |[],_=>Nat.zero_le _
 |o::l,h=>by
  have:=mx_ (l:=l) fun y hy=>h y (List.mem_cons_of_mem _ hy)
  have:=op_size (h o (List.mem_cons_self ..))
  simp only [dD_,List.length_cons,Nat.add_mul] at *;omega
theorem read_size {s:Bs} {x:aj_ × Bool} (h:nd_ s x):aj_.size x.1≤20000000000:=by
 rcases h with rfl|⟨_,h,_⟩
 · decide
 · rcases fZ_ h with ⟨hk,hs⟩|⟨hk,hs⟩
   · have h1:=(hI_ hs.doc).1
     have h2:=ka_ 6 _ h1
     simp only [aj_.size]
     rw [hs.ops]
     simp only [dc_,dD_,List.length_nil];omega
   · have h1:=mx_ hs.ops
     have h2:=hs.len
     simp only [aj_.size]
     rw [hs.doc]
     have:aa_.size fl_=0:=by decide
     unfold dc_
     omega
end Go.Pi
end
section
namespace Go.Pi
abbrev fF_ (s:Bs):Int:=Lib.index s [10,10]
def FEnd (s:Bs):Int:=if fF_ s = -1 then -1 else fF_ s+2
theorem idx2_nil:fF_ [] = -1:=rfl
theorem mM_ (x:UInt8):fF_ [x] = -1:=by
 unfold fF_
 rw [hE_,if_neg (by simp)];rfl
theorem k1_ (x y:UInt8) (l:Bs):fF_ (x::y::l)=if x=10∧y=10 then 0 else if fF_ (y::l) = -1 then -1 else fF_ (y::l)+1:=by
 unfold fF_
 rw [hE_]
 by_cases h:x=10∧y=10
 · rw [if_pos h,if_pos (by simpa using h)]
 · rw [if_neg h,if_neg (by simpa using h)]
theorem iC_ (s:Bs) : -1≤fF_ s:=Lib.index_ge s [10,10]
theorem idx2_lt:∀ (s:Bs),fF_ s = -1∨fF_ s+2≤(s.length:Int)
 |[]=>.inl rfl
 |[x]=>.inl (mM_ x)
 |x::y::l=>by
  rw [k1_]
  by_cases h:x=10∧y=10
  · rw [if_pos h];right;simp only [List.length_cons];omega
  · rw [if_neg h]
    rcases idx2_lt (y::l) with e|e
    · rw [if_pos e];exact .inl rfl
    · have:=iC_ (y::l)
      by_cases e2:fF_ (y::l) = -1
      · rw [if_pos e2];exact .inl rfl
      · rw [if_neg e2];right;simp only [List.length_cons] at e ⊢;omega
theorem end_pos {s:Bs} (h:¬ FEnd s<0):2≤FEnd s∧FEnd s≤(s.length:Int):=by
 unfold FEnd at h ⊢
 have:=iC_ s
 by_cases e:fF_ s = -1
 · rw [if_pos e] at h;exact absurd (by decide) h
 · rw [if_neg e]
   rcases idx2_lt s with g|g
   · exact absurd g e
   · omega
theorem gb_ {s:Bs} (hs:s.length≤1000000000):Ev (fun n _=>bb_ n s) (FEnd s):=by
 have b10:∀ c:UInt8,((c.toNat:Int) == 10)=decide (c=10):=fun c=>hK_ c 10 10 rfl
 refine aV_ ?_
 simp only [bb_]
 have key:∀ (m i:Nat),i+m=s.length→1≤i→Ev (fun n N=>bb_.loop3 n (some (-1)) N s (i:Int)) (if fF_ (s.drop (i - 1)) = -1 then -1 else fF_ (s.drop (i - 1))+(i:Int)+1):=by
  intro m
  induction m with
  |zero=>
   intro i hi h1
   have e:i=s.length:=by omega
   subst e
   have hd:=dA_ 0 (show s.length - 1<s.length by omega)
   rw [show s.length - 1+1=s.length by omega,List.drop_length] at hd
   refine bo_ ?_
   simp only [bb_.turn3,bb_.step3,cQ_,cond_false,al_]
   rw [hd,mM_,if_pos rfl]
  |succ m ih=>
   intro i hi h1
   have hlt:i<s.length:=by omega
   have hd:=dA_ 0 (show i - 1<s.length by omega)
   have hd2:=dA_ 0 hlt
   rw [show i - 1+1=i by omega,hd2] at hd
   have hn:=ih (i+1) (by omega) (by omega)
   rw [show i+1 - 1=i by omega,hd2] at hn
   have hW:W ((i:Int)+1)=((i+1:Nat):Int):=by rw [W_id (by omega) (by omega)];omega
   have hW2:W ((i:Int) - 1)=((i - 1:Nat):Int):=by rw [W_id (by omega) (by omega)];omega
   refine bo_ ?_
   simp only [bb_.turn3,bb_.step3,cS_ hlt,cond_true,bQ_,cG_ hlt,cG_ (show i - 1<s.length by omega),true_and,Int.toNat_natCast,hW,hW2,b10,aH_,al_]
   rw [hd,k1_]
   generalize s.getD i 0=y at hn ⊢
   generalize s.getD (i - 1) 0=x at hn ⊢
   generalize s.drop (i+1)=l at hn ⊢
   have hge:=iC_ (y::l)
   have hrest:¬ (x=10∧y=10)→Ev (fun n N=>bb_.loop3 n (some (-1)) N s ((i+1:Nat):Int)) (if (if x=10∧y=10 then (0:Int) else if fF_ (y::l) = -1 then -1 else fF_ (y::l)+1) = -1 then -1 else (if x=10∧y=10 then (0:Int) else if fF_ (y::l) = -1 then -1 else fF_ (y::l)+1)+(i:Int)+1):=by
    intro hc
    rw [if_neg hc]
    by_cases e:fF_ (y::l) = -1
    · rw [if_pos e] at hn ⊢;rw [if_pos rfl];exact hn
    · rw [if_neg e] at hn ⊢
      rw [if_neg (by omega),show fF_ (y::l)+1+(i:Int)+1=fF_ (y::l)+((i+1:Nat):Int)+1 by omega];exact hn
   refine ⟨fun hy=>⟨fun hx => ?_,fun hx=>hrest fun h => ?_⟩,fun hy=>hrest fun h => ?_⟩
   · have hx:=of_decide_eq_true hx
     have hy:=of_decide_eq_true hy
     rw [if_pos (show x=10∧y=10 from ⟨hx,hy⟩),if_neg (by decide)];omega
   · exact of_decide_eq_false hx h.1
   · exact of_decide_eq_false hy h.2
 cases s with
 |nil=>exact cF_ (f:=fun n N=>bb_.loop3 n (some (-1)) N [] 1) (bo_ ⟨0,fun _ _ _ _=>rfl⟩)
 |cons c l=>
  have:=key l.length 1 (by simp;omega) (Nat.le_refl _)
  have e:(if fF_ ((c::l).drop (1 - 1)) = -1 then -1 else fF_ ((c::l).drop (1 - 1))+((1:Nat):Int)+1)=FEnd (c::l):=by
   show (if fF_ (c::l) = -1 then -1 else fF_ (c::l)+((1:Nat):Int)+1)=_
   unfold FEnd
   split
   · rfl
   · omega
  rw [e] at this
  exact cF_ (f:=fun n N=>bb_.loop3 n (some (-1)) N (c::l) ((1:Nat):Int)) this
theorem fc_ {s:Bs} (hs:s.length≤1000000000):Ev (fun n _=>strings_Index n s [10,10]) (fF_ s):=aV_ (by
 simp only [strings_Index,j3_,decide_eq_true (show s.length<4294967281 by omega),cond_true,al_])
theorem nJ_:∀ (m:Nat) (wait:Bs) (out:List aj_),wait.length≤m→wait.length≤4194304→out.length+wait.length≤4194304→(∀ e ∈ out,cA_ e=true)→∃ x:aO_ × List aj_,
  (x.1.wait.length+x.2.length≤out.length+wait.length∧∀ e ∈ x.2,cA_ e=true) ∧
  Ev (fun n N=>bq_.loop8 n (fun xy3 xy4 xy5 xy6 xy7 xy8=>(cond (decide ((xy3.length:Int) > 14000)) (some ((aO_.mk xy7 xy8),xy6)) (some ((aO_.mk xy3 false),xy6)))) N wait [] false out [] true) x ∧
  Ev (fun n N=>bm_.loop5 n (fun xy3 xy4 xy5 xy6 xy7=>(cond xy4 (some ((aO_.mk [] true),xy7)) (some ((aO_.mk xy3 false),xy7)))) N wait false [] false out) x:=by
 intro m
 induction m with
 |zero=>
  intro wait out hm _ ho hok
  have:wait=[]:=List.eq_nil_of_length_eq_zero (by omega)
  subst this
  have hE:=gb_ (s:=[]) (by simp)
  have hI:=fc_ (s:=[]) (by simp)
  rw [idx2_nil] at hI
  have hF:FEnd [] = -1:=rfl
  rw [hF] at hE
  have c1:decide ((-1:Int)<0)=true:=rfl
  have c2:decide ((([]:Bs).length:Int) > 14000)=false:=rfl
  refine ⟨(aO_.mk [] false,out),⟨by simp,hok⟩,bo_ ?_,bo_ ?_⟩
  · simp only [bq_.turn8,bq_.step8,ae_ hE,c1,c2,cond_true,cond_false,al_]
  · simp only [bm_.turn5,bm_.step5,Bool.not_false,ae_ hI,c1,c2,cond_true,cond_false,al_]
 |succ m ih=>
  intro wait out hm hw ho hok
  have hE:=gb_ (s:=wait) (by omega)
  have hI:=fc_ (s:=wait) (by omega)
  by_cases hneg:FEnd wait<0
  · have hn:fF_ wait = -1:=by
     unfold FEnd at hneg
     by_cases e:fF_ wait = -1
     · exact e
     · rw [if_neg e] at hneg;have:=iC_ wait;omega
    have c1:decide (FEnd wait<0)=true:=decide_eq_true hneg
    have c3:decide (fF_ wait<0)=true:=by rw [hn];rfl
    refine ⟨cond (decide ((wait.length:Int) > 14000)) (aO_.mk [] true,out) (aO_.mk wait false,out),?_,bo_ ?_,bo_ ?_⟩
    · cases decide ((wait.length:Int) > 14000) with
      |true=>exact ⟨by simp,hok⟩
      |false=>exact ⟨by simp;omega,hok⟩
    · simp only [bq_.turn8,bq_.step8,ae_ hE,c1,cond_true,aH_,al_]
      cases decide ((wait.length:Int) > 14000)<;>simp
    · simp only [bm_.turn5,bm_.step5,Bool.not_false,ae_ hI,c3,cond_true,aH_,al_]
      cases decide ((wait.length:Int) > 14000)<;>simp
  · have hp:=end_pos hneg
    have hne:fF_ wait ≠ -1:=by
     intro e;unfold FEnd at hneg;rw [if_pos e] at hneg;exact hneg (by decide)
    have hFE:FEnd wait=fF_ wait+2:=by unfold FEnd;rw [if_neg hne]
    have hge:=iC_ wait
    obtain ⟨k,hk⟩:∃ k:Nat,FEnd wait=(k:Int):=⟨(FEnd wait).toNat,by omega⟩
    have hW:W (fF_ wait+2)=(k:Int):=by rw [W_id (by omega) (by omega)];omega
    rw [hk] at hE
    have c1:decide ((k:Int)<0)=false:=decide_eq_false (by omega)
    have c3:decide (fF_ wait<0)=false:=decide_eq_false (by omega)
    obtain ⟨x,hx,hs,hi⟩:=i6_ (s:=(wait.take k).drop 0) (by simp;omega)
    cases hq:x.2 with
    |false=>
     refine ⟨(aO_.mk [] true,out),⟨by simp,hok⟩,bo_ ?_,bo_ ?_⟩
     · simp only [bq_.turn8,bq_.step8,ae_ hE,c1,cond_false,dr_,Int.toNat_natCast,ae_ hs,hq,Bool.not_false,cond_true,al_]
       exact ⟨by omega,trivial⟩
     · simp only [bm_.turn5,bm_.step5,Bool.not_false,ae_ hI,c3,hW,cond_true,cond_false,dr_,Int.toNat_natCast,ae_ hi,hq,al_]
       exact ⟨by omega,trivial⟩
    |true=>
     have hok':cA_ x.1=true:=by
      rcases hx with rfl|⟨_,h,_⟩
      · cases hq
      · exact h
     have hall:∀ e ∈ out++[x.1],cA_ e=true:=by
      intro e he
      rcases List.mem_append.1 he with he|he
      · exact hok e he
      · obtain rfl:=List.mem_singleton.1 he;exact hok'
     have hdl:(wait.drop k).length=wait.length - k:=List.length_drop
     obtain ⟨y,⟨y1,y3⟩,hs2,hi2⟩:=ih (wait.drop k) (out++[x.1]) (by omega) (by omega) (by simp;omega) hall
     refine ⟨y,⟨by simp at y1;omega,y3⟩,bo_ ?_,bo_ ?_⟩
     · simp only [bq_.turn8,bq_.step8,by_,jz_,ae_ hE,c1,cond_false,dr_,Int.toNat_natCast,ae_ hs,hq,Bool.not_true,ce_,List.take_length]
       exact ⟨by omega,by simp;omega,by omega,hs2⟩
     · simp only [bm_.turn5,bm_.step5,by_,jz_,Bool.not_false,ae_ hI,c3,hW,cond_true,cond_false,dr_,Int.toNat_natCast,ae_ hi,hq,Bool.not_true,ce_,List.take_length]
       exact ⟨by omega,by simp;omega,by omega,hi2⟩
theorem Feed_both {s:aO_} {p:Bs} (h:s.wait.length+p.length≤4194304):∃ x:aO_ × List aj_,(x.1.wait.length+x.2.length≤s.wait.length+p.length∧∀ e ∈ x.2,cA_ e=true) ∧
  Ev (fun n _=>bq_ n s p) x∧Ev (fun n _=>bm_ n s p) x:=by
 have hroom:decide (s.wait.length+p.length≤9223372036854775807)=true:=decide_eq_true (by omega)
 cases hb:s.bad with
 |true=>
  refine ⟨(aO_.mk [] true,[]),⟨Nat.zero_le _,fun e h=>(by cases h)⟩,aV_ ?_,aV_ ?_⟩
  · simp only [bq_,hb,cond_true,al_]
  · simp only [bm_,hb,hroom,cond_true]
    refine cF_ (f:=fun n N=>bm_.loop5 n (fun xy3 xy4 xy5 xy6 xy7=>(cond xy4 (some ((aO_.mk [] true),xy7)) (some ((aO_.mk xy3 false),xy7)))) N (s.wait++p) true [] false []) (bo_ ?_)
    simp only [bm_.turn5,bm_.step5,Bool.not_true,cond_false,cond_true,al_]
 |false=>
  obtain ⟨x,⟨h1,h3⟩,h4,h5⟩:=nJ_ (s.wait++p).length (s.wait++p) [] (Nat.le_refl _) (by simp;omega) (by simp;omega) (fun e h=>(by cases h))
  rw [List.length_append] at h1
  refine ⟨x,⟨by simpa using h1,h3⟩,aV_ ?_,aV_ ?_⟩
  · simp only [bq_,hb,hroom,cond_true,cond_false]
    exact cF_ h4
  · simp only [bm_,hb,hroom,cond_true]
    exact cF_ h5
theorem mW_:∀ {l:List aj_},(∀ e ∈ l,cA_ e=true)→dD_ aj_.size l≤l.length*20000000000
 |[],_=>Nat.zero_le _
 |e::l,h=>by
  have:=mW_ (l:=l) fun y hy=>h y (List.mem_cons_of_mem _ hy)
  have:=read_size (s:=cy_ e) (x:=(e,true)) (.inr ⟨rfl,h e (List.mem_cons_self ..),rfl⟩)
  simp only [dD_,List.length_cons,Nat.add_mul] at *;omega
end Go.Pi
end
section
namespace Go.Pi
theorem Feed_law {o:aO_} {p:Bs} (ho:aO_.len o) (hp:lenB p):∃ n,laws_FnExactFeed n o p=some true:=by
 refine ev_ex (aV_ ?_)
 simp only [laws_FnExactFeed,aH_,al_]
 refine ⟨fun _=>trivial,fun h => ?_⟩
 have hpl:p.length≤1048576:=by have:=of_decide_eq_false h;omega
 simp only [ae_ (ly_ (a:=o) (l:=1048576) ho (by omega) (by omega)),aH_,al_]
 refine ⟨fun _=>trivial,fun h2 => ?_⟩
 have hz:=subS_ok (of_decide_eq_false h2)
 have hol:o.wait.length≤1048576:=by simp only [aO_.size,szB] at hz;omega
 have k1:aO_.size o≤cap:=by simp only [aO_.size,szB,cap];omega
 obtain ⟨x,⟨x1,x2⟩,h3,h4⟩:=Feed_both (s:=o) (p:=p) (by omega)
 have hz:=mW_ x2
 have t1:aO_.size x.1≤cz_:=by simp only [aO_.size,szB,cz_];omega
 have t2:dc_ aj_.size x.2≤cz_:=by unfold dc_;simp only [cz_];omega
 obtain ⟨m,w,e1,e2,e3,e4,e5⟩:=j4_ (a:=x.2) (k:=1) (by simp only [cz_];omega) (by omega) (by unfold dc_;simp only [cz_];omega)
 simp only [ae_ (lw_ k1),ae_ h3,ae_ h4,ae_ (lT_ t1),ae_ (lU_ t2),ae_ e4,ae_ e5,e3,Nat.beq_refl,beq_self_eq_true,bne_self_eq_false,Bool.not_true,cond_true,cond_false,aH_,al_,decide_eq_true_eq,decide_eq_false_iff_not]
 repeat' (first|apply And.intro|intro _)
 all_goals (first|trivial|rfl|(exfalso;omega)|omega)
end Go.Pi
end
section
namespace Go.Pi
end Go.Pi
end
section
namespace Go.Pi
theorem mP_ {l:Bs} (h:Good (.s l)):lenB l:=by
 cases h with
 |s l h=>exact h
theorem aO_.good {x:aO_} (h:∀ c ∈ ([.s x.wait,.b x.bad]:List AV),Good c):aO_.len x:=(mP_ (h _ (.head _)))
end Go.Pi
end
section
namespace Go.Pi
open Go.Proofs Go.Proofs.YtccdklkcfjmchaaGreatDoor
namespace laws_FnExactFeed
theorem pure_law:Pure:=fun o p h0 h1=>Feed_law (aO_.good h0) (mP_ (h1 _ (by simp)))
theorem proved:Rows.FnExactFeedCardSaid:=card pure_law
end laws_FnExactFeed
end Go.Pi
end
namespace Go.Proofs.YtccdklkcfjmchaaGreatDoor
theorem fnExactFeed_holds:Rows.FnExactFeedCardSaid:=Go.Pi.laws_FnExactFeed.proved
#print axioms fnExactFeed_holds
end Go.Proofs.YtccdklkcfjmchaaGreatDoor
