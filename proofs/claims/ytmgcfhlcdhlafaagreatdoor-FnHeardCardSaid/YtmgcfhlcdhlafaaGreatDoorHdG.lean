/- FnHeard: what is cut off of a drawn text leaves whoever listens with what came ahead of it: a version that was, never a later one. No condition. Text 7 of 8. -/
import Derived.Test.YtmgcfhlcdhlafaaGreatDoorHdF
set_option linter.unusedVariables false
set_option maxRecDepth 100000
set_option linter.unusedSimpArgs false
namespace Go.Pi
def f1_ (cur:Bs):Bs->List Bs
 |[]=>[]
 |c::l=>if c=10 then cur::f1_ [] l else f1_ (cur++[c]) l
theorem fO_ (cur b:Bs):∀ (a:Bs),(∀ c ∈ a,c≠10)->f1_ cur (a++10::b)=(cur++a)::f1_ [] b:=by
 intro a;induction a generalizing cur with
 |nil=>intro _;rw [List.nil_append,f1_,if_pos rfl,List.append_nil]
 |cons c a ih=>
  intro h;rw [List.cons_append,f1_,if_neg (h c (List.mem_cons_self ..)),ih _ fun x hx=>h x (List.mem_cons_of_mem _ hx)];simp
theorem lN_ {s:Bs}(hs:s.length<=4194304):Ev (fun n _=>bk_ n s) (f1_ [] s):=by
 refine ak_ ?_;simp only [bk_];have u:∀ (m i f:Nat)(out:List Bs),i+m=s.length->f<=i->out.length<=i->Ev (fun n N=>bk_.loop5 n (fun B1=>(some B1)) N s (f:Int) (i:Int) out) (out++f1_ ((s.take i).drop f) (s.drop i)):=by
  intro m;induction m with
  |zero=>
   intro i f out hi _ _;have:i=s.length:=by omega
   subst this;refine aY_ ?_;simp only [bk_.turn5,bk_.step5,cj_,cond_false,List.drop_length,f1_,List.append_nil,ac_]
  |succ m ih=>
   intro i f out hi I B;have k:i<s.length:=by omega
   have z:=W_up k (show s.length<=b9_ by simp only [b9_];omega);have hd:=dA_ 0 k;refine aY_ ?_;simp only [bk_.turn5,bk_.step5,cD_ k,cond_true,a2_,cb_ k,true_and,Int.toNat_natCast,z,ag_,eH_,a6_];have p:((s.getD i 0).toNat:Int)=10↔s.getD i 0=10:=by
    have:=lG_ (s.getD i 0) 10 10 rfl;constructor
    . intro h;rw [show (((s.getD i 0).toNat:Nat):Int)=((10:Nat):Int) from h] at this;simpa using this
    . intro h;rw [h];rfl
   rw [hd];refine ⟨fun h => ?_,fun h => ?_⟩
   . have h:s.getD i 0=10:=p.1 (by simpa using h)
     have hn:=ih (i+1) (i+1) (out++[(s.take i).drop f]) (by omega) (Nat.le_refl _) (by simp;omega);rw [th_ (show (s.take (i+1)).length<=i+1 by simp;omega)] at hn;rw [f1_,if_pos h];rw [List.append_assoc] at hn;exact ⟨by omega,by simp;omega,hn⟩
   . have h:¬ s.getD i 0=10:=fun e=>by rw [p.2 e] at h;cases h
     have hn:=ih (i+1) f out (by omega) (by omega) (by omega);rw [cz_ 0 k,List.drop_append_of_le_length (by simp;omega)] at hn;rw [f1_,if_neg h];exact hn
 have:=u s.length 0 0 [] (by omega) (Nat.le_refl _) (Nat.le_refl _);rw [List.nil_append] at this;exact c3_ (f:=fun n N=>bk_.loop5 n (fun B1=>(some B1)) N s 0 0 []) this
def eM_ (l h:Bs):Bs:=cond (pfx h l) (l.drop h.length) []
theorem iT_ {l h:Bs}:Ev (fun n _=>cS_ n l h) (eM_ l h):=by
 refine ak_ ?_;simp only [cS_,ag_,eH_,ac_,Int.toNat_natCast,List.take_length,eM_,l9_];refine ⟨fun hc => ?_,fun hc => ?_⟩
 . have hc:=of_decide_eq_true hc
   cases e:((l.take h.length).drop 0==h) with
   |false=>rfl
   |true=>rw [<-l9_] at e;have:=mT_ e;omega
 . have hc:=of_decide_eq_false hc
   refine ⟨by omega,?_⟩;cases ((l.take h.length).drop 0==h) with
   |false=>exact ⟨fun _=>rfl,fun h=>(by cases h)⟩
   |true=>exact ⟨fun h=>(by cases h),fun _=>⟨by omega,rfl⟩⟩
theorem jj_ (h l:Bs):eM_ (h++l) h=l:=by unfold eM_;rw [jI_,List.drop_left];rfl
theorem ol_ {n:Int}(z:0<=n)(u:n<=100000):Ev (fun m _=>eB_ m (Lib.itoa n)) (n,true):=by have hl:=Lib.itoa_length_le n (by omega) (by omega);have k:=lA_ (s:=Lib.itoa n) (p:=0) (left:=0) (r:=[]) (n:=n) (by simp only [curC];omega) (by omega) (by omega) oT_ ⟨Nat.zero_le _,by simp⟩;have k:Ev (fun m _=>aU_ m ⟨Lib.itoa n,0,true,0⟩) (n,⟨Lib.itoa n,((0+(Lib.itoa n).length:Nat):Int),true,0⟩):=k;refine ak_ ?_;simp only [eB_,ab_ k,cond_true,ab_ (db_ (x:=n) (by omega) (by omega)),beq_self_eq_true,ac_]
section
variable {n6:Int}
theorem ops_exact {s:Bs}{t6 a b c d e:Int}{f:Bs}{t40 t41 t42 t43 t44:Int}{t45:Bs}{t5:List Bs}{t46:List aa_}{t47:List Bs}{l:List TOp}(hl:l.length<=400)(h:∀ o ∈ l,OpIn o) :
  ∀ (m i:Nat),i+m=l.length->∃ M,∀ n R,M<=n->M<=R->∀ k,ae_.loop20 n k R s t6 (i:Int) a b c d e f t40 t41 t42 t43 t44 t45 t5 4 0 [] t46 t47 (l.take i) (l.map cN_) []=k s t6 a b c d e f t40 t41 t42 t43 t44 t45 t5 t46 t47 l:=by
 intro m;induction m with
 |zero=>
  intro i hi;have e:i=l.length:=by omega
  subst e;have e:decide ((l.length:Int)<((l.map cN_).length:Int))=false:=by simp
  refine ⟨1,fun n R _ S k => ?_⟩;obtain ⟨R,rfl⟩:∃ m,R=m+1:=⟨R - 1,by omega⟩
  simp only [List.take_length,ae_.turn20,ae_.step20,e,cond_false]
 |succ m ih=>
  intro i hi;have p:i<l.length:=by omega
  have I:=h _ (bB_ TOp.dflt p);have u:i<(l.map cN_).length:=by simpa using p
  have e:(l.map cN_).getD i aa_.dflt=eZ_ (l.getD i TOp.dflt):=by rw [<-I.val,List.getD_eq_getElem?_getD,List.getElem?_map,List.getD_eq_getElem?_getD,List.getElem?_eq_getElem p];rfl
  obtain ⟨M1,B⟩:=mD_ I;obtain ⟨M2,J⟩:=ih (i+1) (by omega);have O:=W_up p (show l.length<=b9_ by simp only [b9_];omega);refine ⟨max M1 (M2+1),fun n R hn S k => ?_⟩;obtain ⟨R,rfl⟩:∃ m,R=m+1:=⟨R - 1,by omega⟩
  have z:((l.take i).length+[l.getD i TOp.dflt].length)*112<=140737488355328:=by simp;omega
  rw [cz_ TOp.dflt p] at J;simp only [ae_.turn20,ae_.step20,aM_,fu_,Int.toNat_natCast,cD_ u,cond_true,m7_ u,e,B n n (by omega) (by omega),Option.bind_some,Bool.not_true,cond_false,l6_ z,O];exact J n R (by omega) (by omega) k
theorem ops_enc {K:Nat->Nat->ae_.K20}{F:ar_×Bool}{s:Bs}{t6 a b c d e:Int}{f:Bs}{t40 t41 t42 t43 t44:Int}{t45:Bs}{t5:List Bs}{t46:List aa_}{t47:List Bs}{l:List TOp}(hl:l.length<=400)(h:∀ o ∈ l,OpIn o)
  (k:Ev (fun n N=>K n N s t6 a b c d e f t40 t41 t42 t43 t44 t45 t5 t46 t47 l) F) :
  Ev (fun n N=>ae_.loop20 n (K n N) n s t6 0 a b c d e f t40 t41 t42 t43 t44 t45 t5 4 0 [] t46 t47 [] (l.map cN_) []) F:=by
 obtain ⟨M,hM⟩:=ops_exact (s:=s) (t6:=t6) (a:=a) (b:=b) (c:=c) (d:=d) (e:=e) (f:=f) (t40:=t40) (t41:=t41) (t42:=t42) (t43:=t43) (t44:=t44) (t45:=t45) (t5:=t5) (t46:=t46) (t47:=t47) hl h l.length 0 (by omega);exact td_ M (fun n N hn=>hM n n hn hn _) k
end
section
variable {K:Nat->ae_.K5} {s:Bs} {a b c d e:Int} {f:Bs} {F:ar_×Bool} {t40 t41 t42 t43 t44:Int} {t45:Bs} {L:List Bs} {t46:List aa_} {t47:List Bs} {t48:List TOp} {i:Nat}
theorem kf_ {a c:UInt8}(h:c≠a)(p t:Bs):eM_ (c::t) (a::p)=[]:=by unfold eM_;rw [qr_ h];rfl
theorem line_snap (hi:i<L.length)(p:i<6)(hl:L.getD i []=[101,118,101,110,116,58,32,115,110,97,112])
  (h:Ev (fun n N=>ae_.loop5 n (K n) N s ((i+1:Nat):Int) a b c d e f 1 t41 t42 t43 t44 t45 L t46 t47 t48) F) :
  Ev (fun n N=>ae_.loop5 n (K n) N s (i:Int) a b c d e f t40 t41 t42 t43 t44 t45 L t46 t47 t48) F:=by
 have m:W ((i:Int)+1)=((i+1:Nat):Int):=by rw [W_id (by omega) (by omega)];omega
 have k:decide ((i:Int)<6)=true:=decide_eq_true (by omega);refine aY_ ?_;simp only [ae_.turn5,ae_.step5,Int.toNat_natCast,cD_ hi,k,cond_true,a2_,cb_ hi,true_and,m,hl,beq_self_eq_true];exact h
theorem tU_ (hi:i<L.length)(p:i<6)(hl:L.getD i []=[101,118,101,110,116,58,32,112,97,116,99,104])
  (h:Ev (fun n N=>ae_.loop5 n (K n) N s ((i+1:Nat):Int) a b c d e f 2 t41 t42 t43 t44 t45 L t46 t47 t48) F) :
  Ev (fun n N=>ae_.loop5 n (K n) N s (i:Int) a b c d e f t40 t41 t42 t43 t44 t45 L t46 t47 t48) F:=by
 have m:W ((i:Int)+1)=((i+1:Nat):Int):=by rw [W_id (by omega) (by omega)];omega
 have k:decide ((i:Int)<6)=true:=decide_eq_true (by omega);have c1:(([101,118,101,110,116,58,32,112,97,116,99,104]:Bs)==[101,118,101,110,116,58,32,115,110,97,112])=false:=rfl;refine aY_ ?_;simp only [ae_.turn5,ae_.step5,Int.toNat_natCast,cD_ hi,k,cond_true,cond_false,a2_,cb_ hi,true_and,m,hl,c1,beq_self_eq_true];exact h
theorem pi_ {c a:UInt8}(h:c≠a)(p t:Bs):((c::t:Bs)==(a::p))=false:=beq_eq_false_iff_ne.2 fun e=>h (List.cons.inj e).1
theorem itoa_ne (n:Int):(Lib.itoa n==[])=false:=by obtain ⟨c,t,e,_⟩:=hI_ n;rw [e];rfl
theorem line_id {v:Int}(m:0<=v)(k:v<=100000)(hi:i<L.length)(B:i<6)(hl:L.getD i []=tId++Lib.itoa v)
  (h:Ev (fun n N=>ae_.loop5 n (K n) N s ((i+1:Nat):Int) a b c d e f t40 v t42 t43 t44 t45 L t46 t47 t48) F) :
  Ev (fun n N=>ae_.loop5 n (K n) N s (i:Int) a b c d e f t40 t41 t42 t43 t44 t45 L t46 t47 t48) F:=by
 have z:W ((i:Int)+1)=((i+1:Nat):Int):=by rw [W_id (by omega) (by omega)];omega
 have u:decide ((i:Int)<6)=true:=decide_eq_true (by omega);have c1:∀ p,(tId++Lib.itoa v==(101::p))=false:=fun p=>pi_ (by decide) p _;have c3:eM_ (tId++Lib.itoa v) [105,100,58,32]=Lib.itoa v:=jj_ tId _;have c4:=itoa_ne v;refine aY_ ?_;simp only [ae_.turn5,ae_.step5,Int.toNat_natCast,cD_ hi,u,cond_true,cond_false,a2_,cb_ hi,true_and,z,hl,c1,ab_ iT_,c3,c4,Bool.not_false,ab_ (ol_ m k)];exact h
theorem line_base {v:Int}(m:0<=v)(k:v<=100000)(hi:i<L.length)(B:i<6)(hl:L.getD i []=kK_++Lib.itoa v)
  (h:Ev (fun n N=>ae_.loop5 n (K n) N s ((i+1:Nat):Int) a b c d e f t40 t41 v t43 t44 t45 L t46 t47 t48) F) :
  Ev (fun n N=>ae_.loop5 n (K n) N s (i:Int) a b c d e f t40 t41 t42 t43 t44 t45 L t46 t47 t48) F:=by
 have z:W ((i:Int)+1)=((i+1:Nat):Int):=by rw [W_id (by omega) (by omega)];omega
 have u:decide ((i:Int)<6)=true:=decide_eq_true (by omega);have c1:∀ p,(kK_++Lib.itoa v==(101::p))=false:=fun p=>pi_ (by decide) p _;have c2:eM_ (kK_++Lib.itoa v) [105,100,58,32]=[]:=kf_ (by decide) _ _;have c3:eM_ (kK_++Lib.itoa v) [98,97,115,101,58,32]=Lib.itoa v:=jj_ kK_ _;have c4:=itoa_ne v;have c5:(!(([]:Bs)==[]))=false:=rfl;refine aY_ ?_;simp only [ae_.turn5,ae_.step5,Int.toNat_natCast,cD_ hi,u,cond_true,cond_false,a2_,cb_ hi,true_and,z,hl,c1,ab_ iT_,c2,c3,c4,c5,Bool.not_false,ab_ (ol_ m k)];exact h
theorem line_data {j:aa_}(m:bC_ j≠[])(hi:i<L.length)(z:i<6)(hl:L.getD i []=fJ_++bC_ j)
  (h:Ev (fun n N=>ae_.loop5 n (K n) N s ((i+1:Nat):Int) a b c d e f 1 t41 t42 j.kind j.n_ j.s L j.list j.names t48) F) :
  Ev (fun n N=>ae_.loop5 n (K n) N s (i:Int) a b c d e f 1 t41 t42 t43 t44 t45 L t46 t47 t48) F:=by
 have u:W ((i:Int)+1)=((i+1:Nat):Int):=by rw [W_id (by omega) (by omega)];omega
 have k:decide ((i:Int)<6)=true:=decide_eq_true (by omega);have c1:∀ p,(fJ_++bC_ j==(101::p))=false:=fun p=>pi_ (by decide) p _;have c2:eM_ (fJ_++bC_ j) [105,100,58,32]=[]:=kf_ (by decide) _ _;have c6:eM_ (fJ_++bC_ j) [98,97,115,101,58,32]=[]:=kf_ (by decide) _ _;have c3:eM_ (fJ_++bC_ j) [100,97,116,97,58,32]=bC_ j:=jj_ fJ_ _;have c4:(bC_ j==[])=false:=beq_eq_false_iff_ne.2 m;have c5:(!(([]:Bs)==[]))=false:=rfl;have c7:((1:Int)==1)=true:=rfl;refine aY_ ?_;simp only [ae_.turn5,ae_.step5,Int.toNat_natCast,cD_ hi,k,cond_true,cond_false,a2_,cb_ hi,true_and,u,hl,c1,ab_ iT_,c2,c3,c4,c5,c6,c7,Bool.not_false,ab_ (ix_ m)];exact h
theorem line_ops {l:List TOp} (m:bC_ (eI_ l)≠[]) (hn:l.length<=400) (z:∀ o ∈ l,OpIn o) (hi:i<L.length) (B:i<6) (hl:L.getD i []=fJ_++bC_ (eI_ l))
  (h:Ev (fun n N=>ae_.loop5 n (K n) N s ((i+1:Nat):Int) a b c d e f 2 t41 t42 t43 t44 t45 L t46 t47 l) F) :
  Ev (fun n N=>ae_.loop5 n (K n) N s (i:Int) a b c d e f 2 t41 t42 t43 t44 t45 L t46 t47 []) F:=by
 have u:W ((i:Int)+1)=((i+1:Nat):Int):=by rw [W_id (by omega) (by omega)];omega
 have k:decide ((i:Int)<6)=true:=decide_eq_true (by omega);have c1:∀ p,(fJ_++bC_ (eI_ l)==(101::p))=false:=fun p=>pi_ (by decide) p _;have c2:eM_ (fJ_++bC_ (eI_ l)) [105,100,58,32]=[]:=kf_ (by decide) _ _;have c6:eM_ (fJ_++bC_ (eI_ l)) [98,97,115,101,58,32]=[]:=kf_ (by decide) _ _;have c3:eM_ (fJ_++bC_ (eI_ l)) [100,97,116,97,58,32]=bC_ (eI_ l):=jj_ fJ_ _;have c4:(bC_ (eI_ l)==[])=false:=beq_eq_false_iff_ne.2 m;have c5:(!(([]:Bs)==[]))=false:=rfl;have c7:((2:Int)==1)=false:=rfl;refine aY_ ?_;simp only [ae_.turn5,ae_.step5,Int.toNat_natCast,cD_ hi,k,cond_true,cond_false,a2_,cb_ hi,true_and,u,hl,c1,ab_ iT_,c2,c3,c4,c5,c6,c7,Bool.not_false,ab_ (ix_ m)];exact ops_enc hn z (by simp only [u];exact h)
theorem sS_ (hi:i<L.length)(u:i<6)(hl:L.getD i []=[])
  (h:Ev (fun n N=>ae_.loop5 n (K n) N s ((i+1:Nat):Int) a b c d e f t40 t41 t42 t43 t44 t45 L t46 t47 t48) F) :
  Ev (fun n N=>ae_.loop5 n (K n) N s (i:Int) a b c d e f t40 t41 t42 t43 t44 t45 L t46 t47 t48) F:=by
 have m:W ((i:Int)+1)=((i+1:Nat):Int):=by rw [W_id (by omega) (by omega)];omega
 have k:decide ((i:Int)<6)=true:=decide_eq_true (by omega);have c1:∀ (a:UInt8) p,(([]:Bs)==(a::p))=false:=fun a p=>rfl;have c2:∀ (a:UInt8) p,eM_ [] (a::p)=[]:=fun a p=>rfl;have c5:(!(([]:Bs)==[]))=false:=rfl;refine aY_ ?_;simp only [ae_.turn5,ae_.step5,Int.toNat_natCast,cD_ hi,k,cond_true,cond_false,a2_,cb_ hi,true_and,m,hl,c1,ab_ iT_,c2,c5];exact h
theorem sT_ (hi:i=L.length) (h:Ev (fun n _=>K n s a b c d e f t40 t41 t42 t43 t44 t45 t46 t47 t48) F) :
  Ev (fun n N=>ae_.loop5 n (K n) N s (i:Int) a b c d e f t40 t41 t42 t43 t44 t45 L t46 t47 t48) F:=by
 subst hi;refine aY_ ?_;simp only [ae_.turn5,ae_.step5,cj_,cond_false];exact h
end
theorem tT_ (v:Int){d:Bs}(hd:∀ c ∈ d,c≠10):f1_ [] (fQ_ v d)=[[101,118,101,110,116,58,32,115,110,97,112],tId++Lib.itoa v,fJ_++d,[]]:=by
 have e:fQ_ v d=[101,118,101,110,116,58,32,115,110,97,112]++10::((tId++Lib.itoa v)++10::((fJ_++d)++10::([]++10::[]))):=by simp [fQ_,n1_]
 have m:∀ c ∈ tId++Lib.itoa v,c≠10:=fun c hc=>by rcases List.mem_append.1 hc with h|h;exact (show ∀ c ∈ tId,c≠10 by decide) c h;exact hu_ v c h
 have k:∀ c ∈ fJ_++d,c≠10:=fun c hc=>by rcases List.mem_append.1 hc with h|h;exact (show ∀ c ∈ fJ_,c≠10 by decide) c h;exact hd c h
 rw [e,fO_ [] _ _ (by decide),fO_ [] _ _ m,fO_ [] _ _ k,fO_ [] _ _ (by decide)];rfl
theorem rC_ (v b:Int){d:Bs}(hd:∀ c ∈ d,c≠10):f1_ [] (fp_ v b d)=[[101,118,101,110,116,58,32,112,97,116,99,104],tId++Lib.itoa v,kK_++Lib.itoa b,fJ_++d,[]]:=by
 have e:fp_ v b d=[101,118,101,110,116,58,32,112,97,116,99,104]++10::((tId++Lib.itoa v)++10::((kK_++Lib.itoa b)++10::((fJ_++d)++10::([]++10::[])))):=by simp [fp_,n1_]
 have p:∀ c ∈ tId++Lib.itoa v,c≠10:=fun c hc=>by rcases List.mem_append.1 hc with h|h;exact (show ∀ c ∈ tId,c≠10 by decide) c h;exact hu_ v c h
 have k:∀ c ∈ kK_++Lib.itoa b,c≠10:=fun c hc=>by rcases List.mem_append.1 hc with h|h;exact (show ∀ c ∈ kK_,c≠10 by decide) c h;exact hu_ b c h
 have m:∀ c ∈ fJ_++d,c≠10:=fun c hc=>by rcases List.mem_append.1 hc with h|h;exact (show ∀ c ∈ fJ_,c≠10 by decide) c h;exact hd c h
 rw [e,fO_ [] _ _ (by decide),fO_ [] _ _ p,fO_ [] _ _ k,fO_ [] _ _ m,fO_ [] _ _ (by decide)];rfl
theorem e6_ {e:ar_}(h:co_ e=true):Ev (fun n _=>ae_ n (a0_ e)) (e,true):=by
 have u:=jg_ h;have p:(a0_ e==[])=false:=beq_eq_false_iff_ne.2 (qZ_ h);have z:=hD_ (ps_ h);refine ak_ ?_;simp only [ae_,ab_ (lN_ (s:=a0_ e) (by omega))];rcases gK_ h with ⟨m,hs⟩|⟨m,hs⟩
 . have hl:=tT_ e.version (ld_ hs.doc)
   rw [<-gZ_ h m] at hl;rw [hl];refine c3_ (line_snap (i:=0) (by simp only [List.length_cons,List.length_nil];omega) (by decide) rfl (line_id hs.ver.1 hs.ver.2 (by simp only [List.length_cons,List.length_nil];omega) (by decide) rfl (line_data hs.doc (by simp only [List.length_cons,List.length_nil];omega) (by decide) rfl (sS_ (by simp only [List.length_cons,List.length_nil];omega) (by decide) rfl (sT_ rfl ?_)))));have ee:ar_.mk 1 e.version 0 e.doc []=e:=by obtain ⟨k,v,b,d,o⟩:=e;have e1:=hs.base;have e2:=hs.ops;simp only at e1 e2 m;rw [e1,e2,m]
   simp only [dx_,ee,p,cond_false,ab_ z,beq_self_eq_true,Bool.not_true,ac_]
 . have hl:=rC_ e.version e.base (ld_ hs.enc)
   rw [<-go_ h m] at hl;rw [hl];refine c3_ (tU_ (i:=0) (by simp only [List.length_cons,List.length_nil];omega) (by decide) rfl (line_id hs.ver.1 hs.ver.2 (by simp only [List.length_cons,List.length_nil];omega) (by decide) rfl (line_base hs.base.1 hs.base.2 (by simp only [List.length_cons,List.length_nil];omega) (by decide) rfl (line_ops hs.enc hs.len hs.ops (by simp only [List.length_cons,List.length_nil];omega) (by decide) rfl (sS_ (by simp only [List.length_cons,List.length_nil];omega) (by decide) rfl (sT_ rfl ?_))))));have ee:ar_.mk 2 e.version e.base (aa_.mk 0 0 [] [] []) e.ops=e:=by obtain ⟨k,v,b,d,o⟩:=e;have e1:=hs.doc;simp only at e1 m;rw [e1,m];rfl
   simp only [ee,p,cond_false,ab_ z,beq_self_eq_true,Bool.not_true,ac_]
theorem qb_:∀ {l:List Bs}{c:Nat},(∀ x ∈ l,x.length<=c)->fU_ szB l<=l.length*c
 |[],_,_=>Nat.zero_le _
 |x::l,c,h=>by have:=qb_ (l:=l) fun y k=>h y (List.mem_cons_of_mem _ k);have:=h x (List.mem_cons_self ..);simp only [fU_,szB,List.length_cons,Nat.add_mul] at *;omega
theorem md_:∀ (d:Nat)(j:aa_),bp_ d j<=400->aa_.size j<=50000*bp_ d j
 |0,j,h=>by simp only [bp_] at h;omega
 |d+1,j,h=>by
  obtain ⟨p,hs⟩:=dj_ h;have hl:=gd_ h;have hn:=gj_ h;have m:∀ l:List aa_,(∀ x ∈ l,bp_ d x<=400)->fU_ aa_.size l<=50000*fU_ (bp_ d) l:=by
   intro l;induction l with
   |nil=>intro _;exact Nat.zero_le _
   |cons x l ih=>
    intro hx;have O:=md_ d x (hx x (List.mem_cons_self ..));have S:=ih fun y z=>hx y (List.mem_cons_of_mem _ z);simp only [fU_];omega
  have O:=m j.list fun x hx=>by have:=jC_ (bp_ d) hx;omega
  have k:FOwn j=true:=by
   simp only [bp_] at h;cases J:FOwn j with
   |true=>rfl
   |false=>rw [J,cond_false] at h;omega
  have B:j.s.length<=60:=by
   unfold FOwn at k;simp only [Bool.and_eq_true,Bool.or_eq_true] at k;rcases k.2.2.2.1 with e|e
   . have:j.s=[]:=by simpa using e
     rw [this];exact Nat.zero_le _
   . exact p.text (by simpa using e)
  have I:fU_ szB j.names<=j.names.length*60:=qb_ fun x hx=>by
   by_cases u:j.kind=5
   . obtain ⟨i,hi,e⟩:=List.mem_iff_getElem.1 hx
     have:=jk_ (p.obj u).2 hi;rw [List.getD_eq_getElem?_getD,List.getElem?_eq_getElem hi,Option.getD_some,e] at this;exact this
   . have:j.names.length=0:=by
      unfold FOwn at k;simp only [Bool.and_eq_true,Bool.or_eq_true] at k;rcases k.2.1 with e|e
      . exact of_decide_eq_true e
      . exact absurd (by simpa using e) u
     rw [List.eq_nil_of_length_eq_zero this] at hx;cases hx
  have e:=aa_.size_eq j;unfold o1_ at e;rw [hs];omega
abbrev hK_ (s:Bs):Int:=Lib.index s [10,10]
def FEnd (s:Bs):Int:=if hK_ s = -1 then -1 else hK_ s+2
theorem idx2_nil:hK_ [] = -1:=rfl
theorem pE_ (x:UInt8):hK_ [x] = -1:=by unfold hK_;rw [lB_,if_neg (by simp)];rfl
theorem gY_ (x y:UInt8)(l:Bs):hK_ (x::y::l)=if x=10/\y=10 then 0 else if hK_ (y::l) = -1 then -1 else hK_ (y::l)+1:=by
 unfold hK_;rw [lB_];by_cases h:x=10/\y=10
 . rw [if_pos h,if_pos (by simpa using h)]
 . rw [if_neg h,if_neg (by simpa using h)]
theorem nc_ (s:Bs) : -1<=hK_ s:=Lib.index_ge s [10,10]
theorem idx2_lt:∀ (s:Bs),hK_ s = -1\/hK_ s+2<=(s.length:Int)
 |[]=>.inl rfl
 |[x]=>.inl (pE_ x)
 |x::y::l=>by
  rw [gY_];by_cases h:x=10/\y=10
  . rw [if_pos h];right;simp only [List.length_cons];omega
  . rw [if_neg h]
    rcases idx2_lt (y::l) with e|e
    . rw [if_pos e];exact .inl rfl
    . have:=nc_ (y::l)
      by_cases e2:hK_ (y::l) = -1
      . rw [if_pos e2];exact .inl rfl
      . rw [if_neg e2];right;simp only [List.length_cons] at e ⊢;omega
theorem nk_ {s:Bs}(h:¬ FEnd s<0):2<=FEnd s/\FEnd s<=(s.length:Int):=by
 unfold FEnd at h ⊢;have:=nc_ s;by_cases e:hK_ s = -1
 . rw [if_pos e] at h;exact absurd (by decide) h
 . rw [if_neg e]
   rcases idx2_lt s with g|g
   . exact absurd g e
   . omega
theorem nK_ {s:Bs}(hs:s.length<=1000000000):Ev (fun n _=>b1_ n s) (FEnd s):=by
 have J:∀ c:UInt8,((c.toNat:Int)==10)=decide (c=10):=fun c=>lG_ c 10 10 rfl;refine ak_ ?_;simp only [b1_];have B:∀ (m i:Nat),i+m=s.length->1<=i->Ev (fun n N=>b1_.loop3 n (some (-1)) N s (i:Int)) (if hK_ (s.drop (i - 1)) = -1 then -1 else hK_ (s.drop (i - 1))+(i:Int)+1):=by
  intro m;induction m with
  |zero=>
   intro i hi T;have e:i=s.length:=by omega
   subst e;have hd:=dA_ 0 (show s.length - 1<s.length by omega);rw [show s.length - 1+1=s.length by omega,List.drop_length] at hd;refine aY_ ?_;simp only [b1_.turn3,b1_.step3,cj_,cond_false,ac_];rw [hd,pE_,if_pos rfl]
  |succ m ih=>
   intro i hi T;have p:i<s.length:=by omega
   have hd:=dA_ 0 (show i - 1<s.length by omega);have z:=dA_ 0 p;rw [show i - 1+1=i by omega,z] at hd;have hn:=ih (i+1) (by omega) (by omega);rw [show i+1 - 1=i by omega,z] at hn;have S:W ((i:Int)+1)=((i+1:Nat):Int):=by rw [W_id (by omega) (by omega)];omega
   have I:W ((i:Int) - 1)=((i - 1:Nat):Int):=by rw [W_id (by omega) (by omega)];omega
   refine aY_ ?_;simp only [b1_.turn3,b1_.step3,cD_ p,cond_true,a2_,cb_ p,cb_ (show i - 1<s.length by omega),true_and,Int.toNat_natCast,S,I,J,ag_,ac_];rw [hd,gY_];generalize s.getD i 0=y at hn ⊢;generalize s.getD (i - 1) 0=x at hn ⊢;generalize s.drop (i+1)=l at hn ⊢;have O:=nc_ (y::l);have k:¬ (x=10/\y=10)->Ev (fun n N=>b1_.loop3 n (some (-1)) N s ((i+1:Nat):Int)) (if (if x=10/\y=10 then (0:Int) else if hK_ (y::l) = -1 then -1 else hK_ (y::l)+1) = -1 then -1 else (if x=10/\y=10 then (0:Int) else if hK_ (y::l) = -1 then -1 else hK_ (y::l)+1)+(i:Int)+1):=by
    intro hc;rw [if_neg hc];by_cases e:hK_ (y::l) = -1
    . rw [if_pos e] at hn ⊢;rw [if_pos rfl];exact hn
    . rw [if_neg e] at hn ⊢
      rw [if_neg (by omega),show hK_ (y::l)+1+(i:Int)+1=hK_ (y::l)+((i+1:Nat):Int)+1 by omega];exact hn
   refine ⟨fun u=>⟨fun hx => ?_,fun hx=>k fun h => ?_⟩,fun u=>k fun h => ?_⟩
   . have hx:=of_decide_eq_true hx
     have u:=of_decide_eq_true u;rw [if_pos (show x=10/\y=10 from ⟨hx,u⟩),if_neg (by decide)];omega
   . exact of_decide_eq_false hx h.1
   . exact of_decide_eq_false u h.2
 cases s with
 |nil=>exact c3_ (f:=fun n N=>b1_.loop3 n (some (-1)) N [] 1) (aY_ ⟨0,fun _ _ _ _=>rfl⟩)
 |cons c l=>
  have:=B l.length 1 (by simp;omega) (Nat.le_refl _);have e:(if hK_ ((c::l).drop (1 - 1)) = -1 then -1 else hK_ ((c::l).drop (1 - 1))+((1:Nat):Int)+1)=FEnd (c::l):=by
   show (if hK_ (c::l) = -1 then -1 else hK_ (c::l)+((1:Nat):Int)+1)=_;unfold FEnd;split
   . rfl
   . omega
  rw [e] at this;exact c3_ (f:=fun n N=>b1_.loop3 n (some (-1)) N (c::l) ((1:Nat):Int)) this
theorem lL_ {s:Bs}(hs:s.length<=1000000000):Ev (fun n _=>strings_Index n s [10,10]) (hK_ s):=ak_ (by
 simp only [strings_Index,pk_,decide_eq_true (show s.length<4294967281 by omega),cond_true,ac_])
section
def IsEv (s:Bs)(e:ar_):Prop:=co_ e=true/\a0_ e=s
open Classical in
noncomputable def FRd (s:Bs):ar_×Bool:=if h:∃ e,IsEv s e then (Classical.choose h,true) else (zeroE,false)
def RdAt (s:Bs):Prop:=Ev (fun n _=>ae_ n s) (FRd s)/\Ev (fun n _=>dd_ n s) (FRd s)
theorem isEv_one {s:Bs}{e e':ar_}(h:IsEv s e)(h':IsEv s e'):e=e':=by have m:=e6_ h.1;have k:=e6_ h'.1;rw [h.2] at m;rw [h'.2] at k;exact congrArg Prod.fst ((dZ_ m).1 k)
theorem rd_text {e:ar_}(h:co_ e=true):FRd (a0_ e)=(e,true):=by
 have hx:∃ e',IsEv (a0_ e) e':=⟨e,h,rfl⟩
 unfold FRd;rw [dif_pos hx,isEv_one (Classical.choose_spec hx) ⟨h,rfl⟩]
theorem rd_ok {s:Bs} (h:(FRd s).2=true):co_ (FRd s).1=true:=by
 unfold FRd at h ⊢;by_cases hx:∃ e,IsEv s e
 . rw [dif_pos hx];exact (Classical.choose_spec hx).1
 . rw [dif_neg hx] at h;cases h
theorem rdAt_text {e:ar_}(h:co_ e=true):RdAt (a0_ e):=by unfold RdAt;rw [rd_text h];exact ⟨e6_ h,ko_ h⟩
theorem mt_:Ev (fun n _=>ae_ n [120,10,10]) (zeroE,false):=by
 refine ⟨60,fun n N hn _ => ?_⟩;obtain ⟨k,rfl⟩:∃ k,n=k+60:=⟨n - 60,by omega⟩
 rfl
theorem rK_:Ev (fun n _=>dd_ n [120,10,10]) (zeroE,false):=by
 have hx:∀ k,dd_ (k+60) [120,10,10]=some (zeroE,false):=fun k=>by kernel_rfl
 refine ⟨60,fun n N hn _ => ?_⟩;obtain ⟨k,rfl⟩:∃ k,n=k+60:=⟨n - 60,by omega⟩
 exact hx k
theorem rd_x:FRd [120,10,10]=(zeroE,false):=by
 unfold FRd;rw [dif_neg]
 rintro ⟨e,p,m⟩
 have k:=e6_ p;rw [m] at k;cases congrArg Prod.snd ((dZ_ mt_).1 k)
theorem rdAt_x:RdAt [120,10,10]:=by unfold RdAt;rw [rd_x];exact ⟨mt_,rK_⟩
noncomputable def FFr:Nat->Bs->aW_×List ar_
 |0,_=>(aW_.mk [] true,[])
 |m+1,w=>cond (decide (FEnd w<0)) (aW_.mk w false,[]) (cond (FRd (w.take (FEnd w).toNat)).2 ((FFr m (w.drop (FEnd w).toNat)).1,(FRd (w.take (FEnd w).toNat)).1::(FFr m (w.drop (FEnd w).toNat)).2) (aW_.mk [] true,[]))
def FTop (s:aW_):aW_:=cond (s.bad||decide ((s.wait.length:Int) > 14000)) (aW_.mk [] true) s
noncomputable def f8_ (s:aW_)(p:Bs):aW_×List ar_:=cond s.bad (aW_.mk [] true,[]) (FTop (FFr ((s.wait++p).length+1) (s.wait++p)).1,(FFr ((s.wait++p).length+1) (s.wait++p)).2)
theorem ng_ {w:Bs}(m:Nat)(h:FEnd w<0):FFr (m+1) w=(aW_.mk w false,[]):=by simp only [FFr];rw [decide_eq_true h];rfl
theorem ou_ {w:Bs}(m:Nat)(h:¬ FEnd w<0) (hr:(FRd (w.take (FEnd w).toNat)).2=false):FFr (m+1) w=(aW_.mk [] true,[]):=by simp only [FFr];rw [decide_eq_false h,hr];rfl
theorem rR_ {w:Bs}(m:Nat)(h:¬ FEnd w<0) (hr:(FRd (w.take (FEnd w).toNat)).2=true):FFr (m+1) w=((FFr m (w.drop (FEnd w).toNat)).1,(FRd (w.take (FEnd w).toNat)).1::(FFr m (w.drop (FEnd w).toNat)).2):=by simp only [FFr];rw [decide_eq_false h,hr];rfl
theorem fr_fuel:∀ (m m':Nat)(w:Bs),w.length<m->w.length<m'->FFr m w=FFr m' w:=by
 intro m;induction m with
 |zero=>intro m' w h;omega
 |succ m ih=>
  intro m' w h h';obtain ⟨k,rfl⟩:∃ k,m'=k+1:=⟨m' - 1,by omega⟩
  by_cases hn:FEnd w<0
  . rw [ng_ m hn,ng_ k hn]
  . have p:=nk_ hn
    cases hr:(FRd (w.take (FEnd w).toNat)).2
    . rw [ou_ m hn hr,ou_ k hn hr]
    . have hd:(w.drop (FEnd w).toNat).length=w.length - (FEnd w).toNat:=List.length_drop
      rw [rR_ m hn hr,rR_ k hn hr,ih k _ (by omega) (by omega)]
theorem s9_:∀ (m:Nat)(w:Bs),w.length<m->w.length<=4194304->(FFr m w).1.wait.length+(FFr m w).2.length<=w.length/\((FFr m w).1.bad=true->(FFr m w).1.wait=[])/\∀ e ∈ (FFr m w).2,co_ e=true:=by
 intro m;induction m with
 |zero=>intro w h;omega
 |succ m ih=>
  intro w h k;by_cases hn:FEnd w<0
  . rw [ng_ m hn];exact ⟨by simp,fun h=>(by cases h),fun e h=>(by cases h)⟩
  . have p:=nk_ hn
    cases hr:(FRd (w.take (FEnd w).toNat)).2
    . rw [ou_ m hn hr];exact ⟨by simp,fun _=>rfl,fun e h=>(by cases h)⟩
    . have hd:(w.drop (FEnd w).toNat).length=w.length - (FEnd w).toNat:=List.length_drop
      have hi:=ih (w.drop (FEnd w).toNat) (by omega) (by omega);rw [rR_ m hn hr];refine ⟨by simp only [List.length_cons];omega,hi.2.1,fun e he => ?_⟩;rcases List.mem_cons.1 he with rfl|he
      . exact rd_ok hr
      . exact hi.2.2 e he
theorem s3_:∀ (p q:Bs),hK_ p ≠ -1->hK_ (p++q)=hK_ p
 |[],q,h=>absurd idx2_nil h
 |[x],q,h=>absurd (pE_ x) h
 |x::y::l,q,h=>by
  have ih:=s3_ (y::l) q;simp only [List.cons_append] at ih ⊢;rw [gY_] at h ⊢;rw [gY_];by_cases c:x=10/\y=10
  . rw [if_pos c,if_pos c]
  . rw [if_neg c] at h
    rw [if_neg c,if_neg c];by_cases e:hK_ (y::l) = -1
    . rw [if_pos e] at h;exact absurd rfl h
    . rw [ih e]
theorem pL_ {p:Bs}(q:Bs)(h:¬ FEnd p<0):FEnd (p++q)=FEnd p:=by
 have k:hK_ p ≠ -1:=by intro e;unfold FEnd at h;rw [if_pos e] at h;exact h (by decide)
 unfold FEnd;rw [s3_ p q k]
theorem fr_app:∀ (m:Nat)(p q:Bs),p.length<m->p.length<=4194304->FFr (m+q.length) (p++q)=cond (FFr m p).1.bad (aW_.mk [] true,(FFr m p).2) ((FFr (m+q.length) ((FFr m p).1.wait++q)).1,(FFr m p).2++(FFr (m+q.length) ((FFr m p).1.wait++q)).2):=by
 intro m;induction m with
 |zero=>intro p q h;omega
 |succ m ih=>
  intro p q h I;by_cases hn:FEnd p<0
  . rw [ng_ m hn];simp only [cond_false,List.nil_append]
  . have he:=nk_ hn
    have u:=pL_ q hn;have k:¬ FEnd (p++q)<0:=by rw [u];exact hn
    have z:(p++q).take (FEnd p).toNat=p.take (FEnd p).toNat:=List.take_append_of_le_length (by omega);have hd:(p++q).drop (FEnd p).toNat=p.drop (FEnd p).toNat++q:=List.drop_append_of_le_length (by omega);have hM:m+1+q.length=(m+q.length)+1:=by omega
    cases hr:(FRd (p.take (FEnd p).toNat)).2
    . rw [ou_ m hn hr,hM,ou_ (m+q.length) k (by rw [u,z];exact hr)]
      simp only [cond_true]
    . have B:(p.drop (FEnd p).toNat).length=p.length - (FEnd p).toNat:=List.length_drop
      have hl:=(s9_ m (p.drop (FEnd p).toNat) (by omega) (by omega)).1;rw [rR_ m hn hr,hM,rR_ (m+q.length) k (by rw [u,z];exact hr),u,z,hd,ih (p.drop (FEnd p).toNat) q (by omega) (by omega)];cases hb:(FFr m (p.drop (FEnd p).toNat)).1.bad
      . simp only [cond_false]
        rw [fr_fuel (m+q.length) (m+q.length+1) _ (by simp;omega) (by simp;omega)];rfl
      . simp only [cond_true]
def RdOk:Nat->Bs->Prop
 |0,_=>True
 |m+1,w=>¬ FEnd w<0->RdAt (w.take (FEnd w).toNat)/\((FRd (w.take (FEnd w).toNat)).2=true->RdOk m (w.drop (FEnd w).toNat))
theorem fd_loops:∀ (m:Nat)(wait:Bs)(out:List ar_),wait.length<m->RdOk m wait->wait.length<=4194304->out.length+wait.length<=4194304 ->
  Ev (fun n N=>ct_.loop8 n (fun B3 B4 B5 B6 B7 B8=>(cond (decide ((B3.length:Int) > 14000)) (some ((aW_.mk B7 B8),B6)) (some ((aW_.mk B3 false),B6)))) N wait [] false out [] true) (FTop (FFr m wait).1,out++(FFr m wait).2) /\
  Ev (fun n N=>cv_.loop5 n (fun B3 B4 B5 B6 B7=>(cond B4 (some ((aW_.mk [] true),B7)) (some ((aW_.mk B3 false),B7)))) N wait false [] false out) (FTop (FFr m wait).1,out++(FFr m wait).2):=by
 intro m;induction m with
 |zero=>intro wait out h;omega
 |succ m ih=>
  intro wait out hm u hw ho;have S:=nK_ (s:=wait) (by omega);have V:=lL_ (s:=wait) (by omega);by_cases p:FEnd wait<0
  . have hn:hK_ wait = -1:=by
     unfold FEnd at p;by_cases e:hK_ wait = -1
     . exact e
     . rw [if_neg e] at p;have:=nc_ wait;omega
    have c1:decide (FEnd wait<0)=true:=decide_eq_true p;have c3:decide (hK_ wait<0)=true:=by rw [hn];rfl
    have eT:(FTop (FFr (m+1) wait).1,out++(FFr (m+1) wait).2)=cond (decide ((wait.length:Int) > 14000)) (aW_.mk [] true,out) (aW_.mk wait false,out):=by rw [ng_ m p,List.append_nil];unfold FTop;simp only [Bool.false_or];cases decide ((wait.length:Int) > 14000)<;>rfl
    rw [eT];refine ⟨aY_ ?_,aY_ ?_⟩
    . simp only [ct_.turn8,ct_.step8,ab_ S,c1,cond_true,ag_,ac_]
      cases decide ((wait.length:Int) > 14000)<;>simp
    . simp only [cv_.turn5,cv_.step5,Bool.not_false,ab_ V,c3,cond_true,ag_,ac_]
      cases decide ((wait.length:Int) > 14000)<;>simp
  . have hp:=nk_ p
    have T:hK_ wait ≠ -1:=by intro e;unfold FEnd at p;rw [if_pos e] at p;exact p (by decide)
    have hFE:FEnd wait=hK_ wait+2:=by unfold FEnd;rw [if_neg T]
    have Z:=nc_ wait;have B:=ou_ m p;have O:=rR_ m p;obtain ⟨k,U⟩:∃ k:Nat,FEnd wait=(k:Int):=⟨(FEnd wait).toNat,by omega⟩
    have Y:W (hK_ wait+2)=(k:Int):=by rw [W_id (by omega) (by omega)];omega
    rw [U] at S;rw [U,Int.toNat_natCast] at B O;have c1:decide ((k:Int)<0)=false:=decide_eq_false (by omega);have c3:decide (hK_ wait<0)=false:=decide_eq_false (by omega);have u:=u p;rw [U,Int.toNat_natCast] at u;obtain ⟨⟨hs,hi⟩,u⟩:=u;have z:(wait.take k).drop 0=wait.take k:=List.drop_zero;cases hq:(FRd (wait.take k)).2 with
    |false=>
     rw [B hq,List.append_nil];have eT:FTop (aW_.mk [] true)=aW_.mk [] true:=rfl;simp only [eT];refine ⟨aY_ ?_,aY_ ?_⟩
     . simp only [ct_.turn8,ct_.step8,ab_ S,c1,cond_false,eH_,Int.toNat_natCast,z,ab_ hs,hq,Bool.not_false,cond_true,ac_]
       exact ⟨by omega,trivial⟩
     . simp only [cv_.turn5,cv_.step5,Bool.not_false,ab_ V,c3,Y,cond_true,cond_false,eH_,Int.toNat_natCast,z,ab_ hi,hq,ac_]
       exact ⟨by omega,trivial⟩
    |true=>
     have hdl:(wait.drop k).length=wait.length - k:=List.length_drop;obtain ⟨I,J⟩:=ih (wait.drop k) (out++[(FRd (wait.take k)).1]) (by omega) (u hq) (by omega) (by simp;omega);rw [O hq];rw [List.append_assoc] at I J;refine ⟨aY_ ?_,aY_ ?_⟩
     . simp only [ct_.turn8,ct_.step8,aM_,jy_,ab_ S,c1,cond_false,eH_,Int.toNat_natCast,z,ab_ hs,hq,Bool.not_true,a6_,List.take_length]
       exact ⟨by omega,by simp;omega,by omega,I⟩
     . simp only [cv_.turn5,cv_.step5,aM_,jy_,Bool.not_false,ab_ V,c3,Y,cond_true,cond_false,eH_,Int.toNat_natCast,z,ab_ hi,hq,Bool.not_true,a6_,List.take_length]
       exact ⟨by omega,by simp;omega,by omega,J⟩
abbrev lS_:aW_:=aW_.mk [] false
theorem Feed_ev {p:Bs}(h:p.length<=4194304) (m:RdOk (p.length+1) p):Ev (fun n _=>ct_ n lS_ p) (f8_ lS_ p)/\Ev (fun n _=>cv_ n lS_ p) (f8_ lS_ p):=by
 have k:decide (([]:Bs).length+p.length<=9223372036854775807)=true:=decide_eq_true (by simp only [List.length_nil];omega);unfold f8_;obtain ⟨z,u⟩:=fd_loops (p.length+1) p [] (by omega) m (by omega) (by simp;omega);rw [List.nil_append] at z u;refine ⟨ak_ ?_,ak_ ?_⟩
 . simp only [ct_,k,cond_true,cond_false,List.nil_append]
   exact c3_ z
 . simp only [cv_,k,cond_true,cond_false,List.nil_append]
   exact c3_ u
theorem top_len (s:aW_):(FTop s).wait.length<=s.wait.length:=by
 unfold FTop;cases (s.bad||decide ((s.wait.length:Int) > 14000))
 . exact Nat.le_refl _
 . exact Nat.zero_le _
theorem feed_len {s:aW_}{p:Bs}(h:s.wait.length+p.length<=4194304):(f8_ s p).1.wait.length+(f8_ s p).2.length<=s.wait.length+p.length/\∀ e ∈ (f8_ s p).2,co_ e=true:=by
 unfold f8_;cases s.bad with
 |true=>exact ⟨Nat.zero_le _,fun e h=>(by cases h)⟩
 |false=>
  have m:=s9_ ((s.wait++p).length+1) (s.wait++p) (by omega) (by simp;omega);have u:=top_len (FFr ((s.wait++p).length+1) (s.wait++p)).1;have k:(s.wait++p).length=s.wait.length+p.length:=List.length_append;simp only [cond_false];exact ⟨by omega,m.2.2⟩
end
structure DwOk (c:am_):Prop where
 lo:0<=c.i
 hi:c.i<=(c.b.length:Int)
 len:c.b.length<=1048576
abbrev and64 (x y:Int):Int:=IntKind.i64.wrap (BitVec.ofInt (IntKind.bits .i64) x &&& BitVec.ofInt (IntKind.bits .i64) y).toNat
theorem ts_ (x:Int)(m:Nat)(u:m<2 ^ 31):0<=and64 x (m:Int)/\and64 x (m:Int)<=m:=by
 have p:(BitVec.ofInt (IntKind.bits .i64) x &&& BitVec.ofInt (IntKind.bits .i64) (m:Int)).toNat<=m:=by rw [BitVec.toNat_and];refine Nat.le_trans Nat.and_le_right ?_;rw [BitVec.ofInt_natCast,BitVec.toNat_ofNat];exact Nat.mod_le _ _
 show 0<=W _/\W _<=_;generalize (BitVec.ofInt (IntKind.bits .i64) x &&& BitVec.ofInt (IntKind.bits .i64) (m:Int)).toNat=k at p;rw [W_id (by omega) (by omega)];omega
theorem cur_next {c:am_}(h:DwOk c) (k:c.i<(c.b.length:Int)) (z:Int):DwOk (am_.mk c.b (W (c.i+1)) z):=by have p:=h.lo;have m:=h.len;have e:W (c.i+1)=c.i+1:=W_id (by omega) (by omega);exact ⟨by show 0<=W (c.i+1);rw [e];omega,by show W (c.i+1)<=(c.b.length:Int);rw [e];omega,m⟩
theorem cur_same {c:am_}(h:DwOk c)(z:Int):DwOk (am_.mk c.b c.i z):=⟨h.lo,h.hi,h.len⟩
theorem dM_ (c:am_):am_.mk c.b c.i c.h=c:=rfl
theorem l1New_ans {e9_:List Int}(hc:e9_.length<=1048576):Ans (fun n _=>ce_ n e9_) DwOk:=by
 have p:∀ (m i:Nat)(h:Int),i+m=e9_.length->Ans (fun n N=>ce_.loop4 n (fun B2 B3=>(some (am_.mk B2 0 B3))) N e9_ h (i:Int)) DwOk:=by
  intro m;induction m with
  |zero=>
   intro i h hi;have e:i=e9_.length:=by omega
   subst e;refine dn_ ?_;simp only [ce_.turn4,ce_.step4,cj_,cond_false,a8_];exact ⟨Int.le_refl _,by simp,hc⟩
  |succ m ih=>
   intro i h hi;have k:i<e9_.length:=by omega
   have u:=W_up k (show e9_.length<=b9_ by simp only [b9_];omega);refine dn_ ?_;simp only [ce_.turn4,ce_.step4,cD_ k,cond_true,cr_,eo_,a8_,u];exact ⟨fun _=>⟨by omega,ih (i+1) _ (by omega)⟩,fun _=>⟨Int.le_refl _,by simp,hc⟩⟩
 refine c5_ ?_;simp only [ce_];exact ge_ (p e9_.length 0 _ (by omega))
theorem hH_ {c:am_}(hc:DwOk c):Ans (fun n _=>dI_ n c) fun r=>0<=r.1/\r.1<=255/\DwOk r.2:=by
 refine c5_ ?_;simp only [dI_,cr_,eo_,a8_];refine ⟨fun h => ?_,fun _ => ?_⟩
 . have h:=of_decide_eq_true h
   exact ⟨⟨hc.lo,h⟩,(ts_ _ 255 (by decide)).1,(ts_ _ 255 (by decide)).2,cur_next hc h _⟩
 . exact ⟨(ts_ _ 255 (by decide)).1,(ts_ _ 255 (by decide)).2,cur_same hc _⟩
structure Drawn (n:Int) (r:Int×am_):Prop where
 lo:0<=r.1
 hi:r.1<n\/r.1=0
 cur:DwOk r.2
theorem cC_ {c:am_}{k:Int}(hc:DwOk c):Ans (fun n _=>ap_ n c k) (Drawn k):=by
 refine c5_ ?_;simp only [ap_,cr_,a8_];refine ⟨fun _=>⟨Int.le_refl _,.inr rfl,hc⟩,fun m=>⟨fun I => ?_,fun I => ?_⟩⟩
 . have m:=of_decide_eq_false m
   refine bJ_ (hH_ hc) fun r hr => ?_;simp only [cr_,tr_,a8_];refine ⟨fun h=>by have:=of_decide_eq_true h;omega,fun _=>⟨Int.tmod_nonneg _ hr.1,.inl (Int.tmod_lt_of_pos _ (by omega)),hr.2.2⟩⟩
 . have m:=of_decide_eq_false m
   refine bJ_ (hH_ hc) fun r1 z=>bJ_ (hH_ z.2.2) fun r2 u=>bJ_ (hH_ u.2.2) fun r3 p=>bJ_ (hH_ p.2.2) fun r4 B => ?_;simp only [cr_,tr_,a8_];refine ⟨fun h=>by have:=of_decide_eq_true h;omega,fun _ => ?_⟩;obtain ⟨a1,a2,_⟩:=z;obtain ⟨b1,b2,_⟩:=u;obtain ⟨c1,c2,_⟩:=p;obtain ⟨d1,d2,hq⟩:=B;have e1:W (r1.1*16777216)=r1.1*16777216:=W_id (by omega) (by omega);have e2:W (r2.1*65536)=r2.1*65536:=W_id (by omega) (by omega);have e3:W (r3.1*256)=r3.1*256:=W_id (by omega) (by omega);rw [e1,e2,e3,W_id (n:=r1.1*16777216+r2.1*65536) (by omega) (by omega),W_id (n:=r1.1*16777216+r2.1*65536+r3.1*256) (by omega) (by omega),W_id (n:=r1.1*16777216+r2.1*65536+r3.1*256+r4.1) (by omega) (by omega)];exact ⟨Int.tmod_nonneg _ (by omega),.inl (Int.tmod_lt_of_pos _ (by omega)),hq⟩
theorem hG_ {c:am_}{k:Int}(hc:DwOk c):Ans (fun n _=>cV_ n c k) fun r=>DwOk r.2:=by refine c5_ ?_;simp only [cV_];exact bJ_ (cC_ hc) fun r hr=>a8_.2 hr.cur
theorem kn_ {c:am_}{l:List Int}(hc:DwOk c)(hl:l≠[]):Ans (fun n _=>b8_ n c l) fun r=>r.1 ∈ l/\DwOk r.2:=by have m:0<l.length:=List.length_pos_iff.2 hl;refine c5_ ?_;simp only [b8_];refine bJ_ (cC_ hc) fun r hr => ?_;have k:=hr.lo;have p:=hr.hi;simp only [eo_,a8_];exact ⟨⟨k,by omega⟩,bB_ _ (by omega),hr.cur⟩
def uy_ (c:Nat)(q:ax_):Prop:=q.where_.length<=c/\q.show_.length<=c
def hV_ (c:Nat)(r:List TRow):Prop:=r.length<=c/\∀ x ∈ r,x.cells.length<=c
def kX_ (c:Nat)(v:bF_):Prop:=uy_ c v.q/\hV_ c v.rows/\v.kids.length<=c
def lenS (c:Nat)(s:c1_):Prop:=kX_ c s.view/\kX_ c s.last
def g5_ (s:a7_):Bool:=jm_ (fun i=>inn (s.cols.getD i 0) 1 4) s.cols.length&&inn s.cols.length 1 3
theorem ie_ {s:a7_}(hs:s.cols.length<=b9_):Ev (fun n _=>a1_ n s) (g5_ s):=by
 refine ak_ ?_;simp only [a1_];refine fv_ (fun n N i=>a1_.loop3 n _ N (i:Int) s.cols) _ (fun i w hi ih => ?_) ?_
 . simp only [a1_.turn3,a1_.step3,Int.toNat_natCast,ag_,a2_,gl_,ac_,W_up hi hs,dZ_ ih,cD_ hi,cb_ hi]
   grind
 . simp only [a1_.turn3,a1_.step3,cj_,cond_false,gl_,ac_]
def FConds (w:Int)(c:List ci_):Bool:=jm_ (fun i=>inn (c.getD i ci_.dflt).col 0 (W (w - 1))&&(inn (c.getD i ci_.dflt).op 1 4&&inn (c.getD i ci_.dflt).v (-1000000000) 1000000000)) c.length
def FShow (w:Int)(s:List Int):Bool:=jm_ (fun i=>inn (s.getD i 0) 0 (W (w - 1))&&(decide (i=0)||decide (s.getD (i - 1) 0<s.getD i 0))) s.length
def FKids (s:a7_)(q:ax_):Bool:=cond q.kids (inn q.kidTable 0 (W ((s.cols.length:Int) - 1))&&inn q.kidCol 0 (W ((s.cols.getD q.kidTable.toNat 0) - 1))) ((q.kidTable==0)&&(q.kidCol==0))
def jB_ (s:a7_)(q:ax_):Bool:=g5_ s&&(inn q.table 0 (W ((s.cols.length:Int) - 1))&&(decide (q.where_.length<=3)&&(FConds (s.cols.getD q.table.toNat 0) q.where_&&(FShow (s.cols.getD q.table.toNat 0) q.show_ &&
 (inn q.order 0 (s.cols.getD q.table.toNat 0)&&(inn q.first 0 24&&(!((q.order==0)&&q.down)&&FKids s q)))))))
section
variable {w:Int} {cols sh:List Int} {wh:List ci_} {t o f kt kc:Int} {d ks v:Bool}
theorem j5_ {k:Nat->ay_.K7}(hl:wh.length<=b9_) (m:Ev (fun n N=>k n w cols t wh o d f sh ks kt kc) v) :
  Ev (fun n _=>ay_.loop7 n (k n) n w 0 cols t wh o d f sh ks kt kc) (FConds w wh&&v):=by
 refine fv_ (fun n N i=>ay_.loop7 n (k n) N w (i:Int) cols t wh o d f sh ks kt kc) _ (fun i u hi ih => ?_) ?_
 . simp only [ay_.turn7,ay_.step7,Int.toNat_natCast,W_up hi hl,ag_,a2_,gl_,ac_,dZ_ ih,cD_ hi,cb_ hi]
   clear ih m
   repeat' (first|apply And.intro|intro _)
   all_goals (try rw [Bool.eq_iff_iff])
   all_goals (try simp only [Bool.not_eq_true',Bool.not_eq_false',decide_eq_true_eq,decide_eq_false_iff_not,beq_iff_eq,beq_eq_false_iff_ne,Bool.and_eq_true,Bool.or_eq_true,Bool.and_eq_false_iff,Bool.or_eq_false_iff] at *)
   all_goals grind
 . simp only [ay_.turn7,ay_.step7,cj_,cond_false]
   exact m
theorem jF_ {k:Nat->ay_.K16}(hl:sh.length<=b9_) (m:Ev (fun n N=>k n w cols t wh o d f sh ks kt kc) v) :
  Ev (fun n _=>ay_.loop16 n (k n) n w 0 cols t wh o d f sh ks kt kc) (FShow w sh&&v):=by
 refine fv_ (fun n N i=>ay_.loop16 n (k n) N w (i:Int) cols t wh o d f sh ks kt kc) _ (fun i u hi ih => ?_) ?_
 . simp only [ay_.turn16,ay_.step16,Int.toNat_natCast,W_up hi hl,W_dn (i:=i) (by omega),l4_,ag_,a2_,gl_,ac_,dZ_ ih,cD_ hi,cb_ hi]
   clear ih m
   repeat' (first|apply And.intro|intro _)
   all_goals (try rw [Bool.eq_iff_iff])
   all_goals (try simp only [Bool.not_eq_true',Bool.not_eq_false',decide_eq_true_eq,decide_eq_false_iff_not,beq_iff_eq,beq_eq_false_iff_ne,Bool.and_eq_true,Bool.or_eq_true,Bool.and_eq_false_iff,Bool.or_eq_false_iff] at *)
   all_goals grind
 . simp only [ay_.turn16,ay_.step16,cj_,cond_false]
   exact m
end
theorem fb_ {β:Type}{s:a7_}(hs:s.cols.length<=b9_){g:Nat->Nat->Bool->Option β}{v:β}:Ev (fun n N=>(a1_ n s).bind (g n N)) v↔Ev (fun n N=>g n N (g5_ s)) v:=ab_ (ie_ hs)
theorem iu_ {s:a7_}{q:ax_}(hs:s.cols.length<=b9_)(hq:uy_ b9_ q):Ev (fun n _=>ay_ n s q) (jB_ s q):=by
 refine ak_ ?_;have e:=@W_dn s.cols.length hs;simp only [ay_,fb_ hs,gl_,ag_,a2_,ac_];refine ⟨fun h=>by simp at h;simp [jB_,h],fun u=>⟨fun h=>by simp at h;simp [jB_,h],fun m=>⟨fun h=>by simp at h;simp [jB_];grind,fun p=>⟨by simp at m;have:=gH_ m;omega,?_⟩⟩⟩⟩;refine gJ_ (j5_ (k:=fun n=>_) hq.1 (jF_ (k:=fun n=>_) (v:=inn q.order 0 (s.cols.getD q.table.toNat 0)&&(inn q.first 0 24&&(!((q.order==0)&&q.down)&&FKids s q))) hq.2 ?_)) ?_
 . simp only [gl_,ag_,a2_,ac_,FKids]
   repeat' (first|apply And.intro|intro _)
   all_goals (try rw [Bool.eq_iff_iff])
   all_goals (try simp only [inn,cond_true,cond_false,Bool.not_eq_true',Bool.not_eq_false',decide_eq_true_eq,decide_eq_false_iff_not,beq_iff_eq,beq_eq_false_iff_ne,Bool.and_eq_true,Bool.or_eq_true,Bool.and_eq_false_iff,Bool.or_eq_false_iff] at *)
   all_goals grind
 . simp [jB_];grind
def g8_ (r:TRow)(col:Int):Int:=cond (inn col 0 (W ((r.cells.length:Int) - 1))) (r.cells.getD col.toNat 0) 0
theorem fq_ {r:TRow}{col:Int}(hr:r.cells.length<=b9_):Ev (fun n _=>bV_ n r col) (g8_ r col):=by
 refine ak_ ?_;have e:=@W_dn r.cells.length hr;simp only [bV_,gl_,ag_,a2_,ac_,g8_];cases hi:inn col 0 (W ((r.cells.length:Int) - 1)) with
 |false=>simp
 |true=>have:=gH_ hi;exact ⟨fun h=>(by cases h),fun _=>⟨by omega,rfl⟩⟩
theorem jf_ {rows:List TRow}(hr:hV_ b9_ rows)(i:Nat):(rows.getD i TRow.dflt).cells.length<=b9_:=by
 by_cases h:i<rows.length
 . exact hr.2 _ (bB_ _ h)
 . rw [List.getD_eq_getElem?_getD,List.getElem?_eq_none (by omega)];exact Nat.zero_le _
def FCells (c:List Int):Bool:=jm_ (fun i=>inn (c.getD i 0) (-1000000000) 1000000000) c.length
def FRow (s:a7_)(t:Int)(r:TRow):Bool:=g5_ s&&(inn t 0 (W ((s.cols.length:Int) - 1))&&(inn r.id_ 1 999&&(decide ((r.cells.length:Int)=s.cols.getD t.toNat 0)&&FCells r.cells)))
theorem j4_ {s:a7_}{t:Int}{r:TRow}(hs:s.cols.length<=b9_)(hr:r.cells.length<=b9_):Ev (fun n _=>cl_ n s t r) (FRow s t r):=by
 refine ak_ ?_;have e:=@W_dn s.cols.length hs;have hl:Ev (fun n _=>cl_.loop6 n (some true) n 0 r.id_ r.cells) (FCells r.cells&&true):=by
  refine fv_ (fun n N i=>cl_.loop6 n (some true) N (i:Int) r.id_ r.cells) _ (fun i u hi ih => ?_) ?_
  . simp only [cl_.turn6,cl_.step6,Int.toNat_natCast,W_up hi hr,ag_,a2_,gl_,ac_,dZ_ ih,cD_ hi,cb_ hi]
    clear ih
    grind
  . simp only [cl_.turn6,cl_.step6,cj_,cond_false,ac_]
 simp only [cl_,fb_ hs,gl_,ag_,a2_,ac_,dZ_ hl];clear hl
 repeat' (first|apply And.intro|intro _)
 all_goals (try rw [Bool.eq_iff_iff])
 all_goals (try simp only [FRow,inn,bne_iff_ne,bne_eq_false_iff_eq,Bool.not_eq_true',Bool.not_eq_false',decide_eq_true_eq,decide_eq_false_iff_not,beq_iff_eq,beq_eq_false_iff_ne,Bool.and_eq_true,Bool.or_eq_true,Bool.and_eq_false_iff,Bool.or_eq_false_iff] at *)
 all_goals grind
def rg_ (c:ci_)(r:TRow):Bool:=inn c.col 0 (W ((r.cells.length:Int) - 1))&&(cond (c.op==1) (r.cells.getD c.col.toNat 0==c.v) (cond (c.op==2) (decide (r.cells.getD c.col.toNat 0<c.v)) (cond (c.op==3) (decide (r.cells.getD c.col.toNat 0 > c.v)) (cond (c.op==4) (r.cells.getD c.col.toNat 0 != c.v) false))))
theorem mu_ {c:ci_}{r:TRow}(hr:r.cells.length<=b9_):Ev (fun n _=>eb_ n c r) (rg_ c r):=by
 refine ak_ ?_;have e:=@W_dn r.cells.length hr;simp only [eb_,gl_,ag_,a2_,ac_,rg_]
 repeat' (first|apply And.intro|intro _)
 all_goals (try simp only [inn,Bool.not_eq_true',Bool.not_eq_false',decide_eq_true_eq,decide_eq_false_iff_not,Bool.and_eq_true,Bool.and_eq_false_iff] at *)
 all_goals simp_all
 all_goals omega
def gM_ (q:ax_)(r:TRow):Bool:=jm_ (fun i=>rg_ (q.where_.getD i ci_.dflt) r) q.where_.length
theorem iv_ {q:ax_}{r:TRow}(hq:q.where_.length<=b9_)(hr:r.cells.length<=b9_):Ev (fun n _=>bR_ n q r) (gM_ q r):=by
 refine ak_ ?_;simp only [bR_];have k:∀ (c:ci_)(g:Nat->Nat->Bool->Option Bool)(v:Bool),Ev (fun n N=>(eb_ n c (TRow.mk r.id_ r.cells)).bind (g n N)) v↔Ev (fun n N=>g n N (rg_ c r)) v:=fun c g v=>ab_ (mu_ hr);refine gJ_ (fv_ (fun n N i=>bR_.loop3 n (some true) N (i:Int) q.table q.where_ q.order q.down q.first q.show_ q.kids q.kidTable q.kidCol r.id_ r.cells) (fun i=>rg_ (q.where_.getD i ci_.dflt) r) (len:=q.where_.length) (v:=true) (fun i u hi ih => ?_) ?_) (by rw [Bool.and_true];rfl)
 . simp only [bR_.turn3,bR_.step3,Int.toNat_natCast,W_up hi hq,ag_,a2_,k,ac_,dZ_ ih,cD_ hi,cb_ hi]
   clear ih k
   grind
 . simp only [bR_.turn3,bR_.step3,cj_,cond_false,ac_]
def gz_ (rows:List TRow)(id:Int):Int:=hm_ (fun i x=>cond ((rows.getD i TRow.dflt).id_==id) (i:Int) x) (-1) rows.length 0
theorem hR_ {rows:List TRow}{id:Int}(hr:rows.length<=b9_):Ev (fun n _=>cf_ n rows id) (gz_ rows id):=by
 refine ak_ ?_;simp only [cf_];refine ni_ (fun n N i=>cf_.loop3 n (some (-1)) N rows id (i:Int)) _ (fun i u hi ih => ?_) ?_
 . simp only [cf_.turn3,cf_.step3,Int.toNat_natCast,W_up hi hr,ag_,a2_,ac_,dZ_ ih,cD_ hi,cb_ hi]
   clear ih
   grind
 . simp only [cf_.turn3,cf_.step3,cj_,cond_false,ac_]
def im_ (q:ax_)(a b:TRow):Bool:=cond (q.order==0) (decide (a.id_<b.id_)) (cond (g8_ a (W (q.order - 1))==g8_ b (W (q.order - 1))) (decide (a.id_<b.id_)) (cond q.down (decide (g8_ a (W (q.order - 1)) > g8_ b (W (q.order - 1)))) (decide (g8_ a (W (q.order - 1))<g8_ b (W (q.order - 1))))))
theorem o0_ {q:ax_}{a b:TRow}(ha:a.cells.length<=b9_)(hb:b.cells.length<=b9_):Ev (fun n _=>e2_ n q a b) (im_ q a b):=by refine ak_ ?_;simp only [e2_,ab_ (fq_ ha),ab_ (fq_ hb),ag_,ac_,im_];generalize g8_ a (W (q.order - 1))=x;generalize g8_ b (W (q.order - 1))=y;cases hd:q.down<;>grind
def lenRR (c:Nat) (t:List (List TRow)):Prop:=t.length<=c/\∀ x ∈ t,hV_ c x
def f2_ (c:Nat)(s:aA_):Prop:=s.schema.cols.length<=c/\lenRR c s.tables
theorem gm_ {c:Nat}{t:List (List TRow)}(h:∀ x ∈ t,hV_ c x)(i:Nat):hV_ c (t.getD i []):=by
 by_cases hi:i<t.length
 . exact h _ (bB_ [] hi)
 . rw [List.getD_eq_getElem?_getD,List.getElem?_eq_none (by omega)]
   exact ⟨Nat.zero_le _,fun x hx=>by cases hx⟩
theorem i8_ (s:a7_):a7_.mk s.cols=s:=rfl
def sh_ (s:a7_)(t:Int)(rows:List TRow):Bool :=
 jm_ (fun i=>FRow s t (rows.getD i TRow.dflt)&&(decide (i=0)||decide ((rows.getD (i - 1) TRow.dflt).id_<(rows.getD i TRow.dflt).id_))) rows.length&&(g5_ s&&(inn t 0 (W ((s.cols.length:Int) - 1))&&decide ((rows.length:Int)<=24)))
theorem nN_ {s:a7_}{t:Int}{rows:List TRow}(hs:s.cols.length<=b9_)(hr:hV_ b9_ rows):Ev (fun n _=>b3_ n s t rows) (sh_ s t rows):=by
 refine ak_ ?_;simp only [b3_];refine fv_ (fun n N i=>b3_.loop3 n _ N t rows (i:Int) s.cols) _ (fun i u hi ih => ?_) ?_
 . simp only [i8_,b3_.turn3,b3_.step3,Int.toNat_natCast,W_up hi hr.1,W_dn (i:=i) (by have:=hr.1;omega),l4_,ag_,a2_,ab_ (j4_ (s:=s) (t:=t) (r:=rows.getD i TRow.dflt) hs (jf_ hr i)),ac_,dZ_ ih,cD_ hi,cb_ hi]
   clear ih
   repeat' (first|apply And.intro|intro _)
   all_goals (try rw [Bool.eq_iff_iff])
   all_goals (try simp only [Bool.not_eq_true',Bool.not_eq_false',decide_eq_true_eq,decide_eq_false_iff_not,beq_iff_eq,beq_eq_false_iff_ne,Bool.and_eq_true,Bool.or_eq_true,Bool.and_eq_false_iff,Bool.or_eq_false_iff] at *)
   all_goals grind
 . simp only [i8_,b3_.turn3,b3_.step3,cj_,cond_false,fb_ (s:=s) hs,gl_,ag_,ac_]
   repeat' (first|apply And.intro|intro _)
   all_goals (try simp_all)
def FTables (s:a7_) (t:List (List TRow)):Bool:=jm_ (fun i=>sh_ s (i:Int) (t.getD i [])) t.length
def fX_ (s:aA_):Bool:=g5_ s.schema&&(inn s.version 0 100000&&(decide (s.tables.length=s.schema.cols.length)&&FTables s.schema s.tables))
theorem fM_ {s:aA_}(h:f2_ b9_ s):Ev (fun n _=>bD_ n s) (fX_ s):=by
 refine ak_ ?_;have hl:Ev (fun n _=>bD_.loop6 n (some true) n 0 s.schema.cols s.version s.tables) (FTables s.schema s.tables&&true):=by
  refine fv_ (fun n N i=>bD_.loop6 n (some true) N (i:Int) s.schema.cols s.version s.tables) _ (fun i u hi ih => ?_) ?_
  . simp only [i8_,bD_.turn6,bD_.step6,Int.toNat_natCast,W_up hi h.2.1,ag_,a2_,ab_ (nN_ (s:=s.schema) (t:=(i:Int)) h.1 (gm_ h.2.2 i)),ac_,dZ_ ih,cD_ hi,cb_ hi]
    clear ih
    repeat' (first|apply And.intro|intro _)
    all_goals (try simp_all)
  . simp only [i8_,bD_.turn6,bD_.step6,cj_,cond_false,ac_]
 simp only [bD_,fb_ h.1,gl_,ag_,ac_,dZ_ hl,fX_];clear hl
 repeat' (first|apply And.intro|intro _)
 all_goals (try simp_all)
 all_goals (intros;omega)
section
variable {β:Type} {g:Nat->Nat->List Int->Option β} {gr:Nat->Nat->TRow->Option β} {v:β}
theorem hj_ {r:TRow}(h:r.cells.length<=fI_):Ev (fun n N=>(cB_ n r).bind (gr n N)) v↔Ev (fun n N=>gr n N r) v :=
 ab_ (ak_ (by simp only [cB_,a6_,ac_,List.nil_append,and_true];simp only [fI_] at h;simp;omega))
end
theorem nf_ {c:Nat}{rows:List TRow}(hr:hV_ c rows)(i:Nat):(rows.getD i TRow.dflt).cells.length<=c:=by
 by_cases hi:i<rows.length
 . exact hr.2 _ (bB_ TRow.dflt hi)
 . rw [List.getD_eq_getElem?_getD,List.getElem?_eq_none (by omega)]
   exact Nat.zero_le _
theorem qC_ {rows:List TRow}(h:hV_ fI_ rows):Ev (fun n _=>bX_ n rows) rows:=by
 refine ak_ ?_;have hl:=h.1;simp only [fI_] at hl;simp only [bX_];refine qY_ TRow.dflt rows id (fun n N i s=>bX_.loop4 n _ N rows (i:Int) s) rows (fun i s hi hs F k => ?_) ?_
 . simp only [bX_.turn4,bX_.step4,Int.toNat_natCast,W_up hi (show rows.length<=b9_ by simp only [b9_];omega),ag_,a2_,hj_ (nf_ h i),a6_,cD_ hi,cb_ hi]
   exact ⟨fun _=>⟨trivial,by simp;omega,k⟩,fun h=>by cases h⟩
 . simp only [bX_.turn4,bX_.step4,cj_,cond_false,ac_,List.map_id]
theorem ok_ {β:Type}{s:a7_}{g:Nat->Nat->a7_->Option β}{v:β}(h:s.cols.length<=fI_):Ev (fun n N=>(dN_ n s).bind (g n N)) v↔Ev (fun n N=>g n N s) v :=
 ab_ (ak_ (by simp only [dN_,a6_,ac_,List.nil_append,and_true];simp only [fI_] at h;simp;omega))
theorem mZ_ {s:aA_}(h:f2_ fI_ s):Ev (fun n _=>bx_ n s) s:=by
 refine ak_ ?_;have hl:=h.2.1;simp only [fI_] at hl;simp only [bx_,ok_ h.1];refine qY_ [] s.tables id (fun n N i q=>bx_.loop4 n _ N (i:Int) s.schema.cols s.version s.tables 0 s.version s.schema.cols q) s (fun i q hi hs F k => ?_) ?_
 . simp only [bx_.turn4,bx_.step4,Int.toNat_natCast,W_up hi (show s.tables.length<=b9_ by simp only [b9_];omega),ag_,a2_,ab_ (qC_ (gm_ h.2.2 i)),a6_,cD_ hi,cb_ hi]
   exact ⟨fun _=>⟨trivial,by simp;omega,k⟩,fun h=>by cases h⟩
 . simp only [bx_.turn4,bx_.step4,cj_,cond_false,ac_,List.map_id]
theorem oJ_ (rows:List TRow)(id:Int):gz_ rows id=if rows.findIdx (fun r=>r.id_==id)<rows.length then (rows.findIdx (fun r=>r.id_==id):Int) else -1:=hl_ TRow.dflt (fun r=>r.id_==id) rows
def kF_ (rows:List TRow)(id:Int):List TRow:=rows.eraseIdx (rows.findIdx (fun r=>r.id_==id))
def iR_ (rows:List TRow)(at_ i:Nat):List TRow:=(rows.take i).eraseIdx at_
theorem rV_ {rows:List TRow}{i:Nat}(h:i<rows.length):iR_ rows i (i+1)=iR_ rows i i:=by
 unfold iR_;rw [cz_ TRow.dflt h];have e:(rows.take i).length=i:=by rw [List.length_take];omega
 rw [List.eraseIdx_of_length_le (l:=rows.take i) (by omega),List.eraseIdx_append_of_length_le (by omega),e,Nat.sub_self];simp
theorem q1_ {rows:List TRow}{at_ i:Nat}(h:i<rows.length)(k:i≠at_):iR_ rows at_ (i+1)=iR_ rows at_ i++[rows.getD i TRow.dflt]:=by
 unfold iR_;rw [cz_ TRow.dflt h];have e:(rows.take i).length=i:=by rw [List.length_take];omega
 by_cases m:at_<i
 . rw [List.eraseIdx_append_of_lt_length (by omega)]
 . rw [List.eraseIdx_of_length_le (l:=rows.take i) (by omega),List.eraseIdx_of_length_le (by simp;omega)]
theorem uf_ {rows:List TRow}{at_ i:Nat}:(iR_ rows at_ i).length<=rows.length:=by unfold iR_;have:=List.length_eraseIdx_le (rows.take i) at_;rw [List.length_take] at this;omega
theorem gS_ {rows:List TRow}{id:Int}(h:hV_ fI_ rows):Ev (fun n _=>bh_ n rows id) (kF_ rows id):=by
 refine ak_ ?_;have hl:=h.1;simp only [fI_] at hl;have z:rows.length<=b9_:=by simp only [b9_];omega
 simp only [bh_,ab_ (hR_ (rows:=rows) (id:=id) z)];obtain ⟨p,B⟩:∃ p,p=rows.findIdx (fun r=>r.id_==id):=⟨_,rfl⟩
 have k:∀ i:Nat,i<rows.length->(((i:Int) != gz_ rows id)=true↔i≠p):=fun i hi=>by rw [oJ_,<-B,bne_iff_ne];split<;>omega
 have m:kF_ rows id=iR_ rows p rows.length:=by unfold kF_ iR_;rw [List.take_length,B]
 rw [m];refine eR_ (fun i=>iR_ rows p i) rows.length (fun n N i s=>bh_.loop5 n (fun B3=>some B3) N rows (gz_ rows id) (i:Int) s) _ (fun i hi F m => ?_) ?_
 . have I:=uf_ (rows:=rows) (at_:=p) (i:=i)
   simp only [bh_.turn5,bh_.step5,Int.toNat_natCast,W_up hi z,ag_,a2_,hj_ (nf_ h i),a6_,cD_ hi,cb_ hi];refine ⟨fun _=>⟨fun u=>⟨trivial,by simp;omega,?_⟩,fun heq => ?_⟩,fun h=>by cases h⟩
   . rw [<-q1_ hi ((k i hi).1 u)];exact m
   . have:i=p:=Classical.byContradiction fun hn=>by rw [(k i hi).2 hn] at heq;cases heq
     subst this;rw [<-rV_ hi];exact m
 . simp only [bh_.turn5,bh_.step5,cj_,cond_false,ac_]
def sameC (x y:ci_):Bool:=cond (x.col==y.col) (cond (x.op==y.op) (cond (x.v==y.v) true false) false) false
def sm_ (a b:List ci_):Bool:=decide (a.length=b.length)&&jm_ (fun i=>sameC (a.getD i ci_.dflt) (b.getD i ci_.dflt)) a.length
def FInts2 (a b:List Int):Bool:=decide (a.length=b.length)&&jm_ (fun i=>a.getD i 0==b.getD i 0) a.length
def lj_ (a b:ax_):Bool:=(a.table==b.table)&&(sm_ a.where_ b.where_&&((a.order==b.order)&&((a.down==b.down)&&((a.first==b.first)&&(FInts2 a.show_ b.show_&&((a.kids==b.kids)&&((a.kidTable==b.kidTable)&&(a.kidCol==b.kidCol))))))))
theorem sO_ {n m:Nat}{p:Nat->Bool}:(jm_ p (min n m)&&decide (n=m))=(decide (n=m)&&jm_ p n):=by
 by_cases h:n=m
 . subst h;simp [Nat.min_self,Bool.and_comm]
 . simp [h]
theorem mv_ {a b:List ci_}(ha:a.length<=b9_):Ev (fun n _=>bK_ n a b) (sm_ a b):=by
 refine ak_ ?_;simp only [bK_];refine gJ_ (fv_ (fun n N i=>bK_.loop3 n (fun x y=>some ((x.length:Int)==(y.length:Int))) N a b (i:Int)) (fun i=>sameC (a.getD i ci_.dflt) (b.getD i ci_.dflt)) (len:=min a.length b.length) (v:=decide (a.length=b.length)) (fun i u hi ih => ?_) ?_) sO_
 . have k:i<a.length:=by omega
   have m:i<b.length:=by omega
   simp only [bK_.turn3,bK_.step3,Int.toNat_natCast,W_up k ha,ag_,a2_,ac_,dZ_ ih,cD_ k,cb_ k,cD_ m,cb_ m];clear ih;simp only [sameC];generalize (cond ((a.getD i ci_.dflt).col==(b.getD i ci_.dflt).col) (cond ((a.getD i ci_.dflt).op==(b.getD i ci_.dflt).op) (cond ((a.getD i ci_.dflt).v==(b.getD i ci_.dflt).v) true false) false) false)=c;cases c<;>simp
 . simp only [bK_.turn3,bK_.step3,ag_,ac_,a2_]
   grind
theorem nI_ {a b:List Int}(ha:a.length<=b9_):Ev (fun n _=>b0_ n a b) (FInts2 a b):=by
 refine ak_ ?_;simp only [b0_];refine gJ_ (fv_ (fun n N i=>b0_.loop3 n (fun x y=>some ((x.length:Int)==(y.length:Int))) N a b (i:Int)) (fun i=>a.getD i 0==b.getD i 0) (len:=min a.length b.length) (v:=decide (a.length=b.length)) (fun i u hi ih => ?_) ?_) sO_
 . have k:i<a.length:=by omega
   have m:i<b.length:=by omega
   simp only [b0_.turn3,b0_.step3,Int.toNat_natCast,W_up k ha,ag_,a2_,ac_,dZ_ ih,cD_ k,cb_ k,cD_ m,cb_ m];clear ih;generalize a.getD i 0=x;generalize b.getD i 0=y
   grind
 . simp only [b0_.turn3,b0_.step3,ag_,ac_,a2_]
   grind
theorem kP_ {a b:ax_}(ha:uy_ b9_ a):Ev (fun n _=>dS_ n a b) (lj_ a b):=by refine ak_ ?_;simp only [dS_,ab_ (mv_ ha.1),ab_ (nI_ ha.2),ag_,ac_,lj_];generalize sm_ a.where_ b.where_=c;generalize FInts2 a.show_ b.show_=d;cases c<;>cases d<;>grind
def ke_ (rows:List TRow)(id:Int):Nat:=rows.findIdx (fun x=>decide (x.id_ > id))
def i1_ (rows:List TRow)(r:TRow):List TRow :=
 cond (decide (gz_ rows r.id_>=0)) (rows.set (gz_ rows r.id_).toNat r) (rows.take (ke_ rows r.id_)++[r]++rows.drop (ke_ rows r.id_))
theorem atCases (rows:List TRow)(id:Int):(∃ p,p<rows.length/\gz_ rows id=(p:Int)/\rows.findIdx (fun r=>r.id_==id)=p)\/(gz_ rows id = -1/\kF_ rows id=rows):=by
 rw [oJ_];by_cases h:rows.findIdx (fun r=>r.id_==id)<rows.length
 . exact .inl ⟨_,h,if_pos h,rfl⟩
 . refine .inr ⟨if_neg h,?_⟩
   unfold kF_;rw [List.eraseIdx_of_length_le (by omega)]
theorem idx_down (rows:List TRow)(P:TRow->Bool){j:Nat}(k:j<rows.length) :
  j+(rows.drop j).findIdx P=cond (P (rows.getD j TRow.dflt)) j (j+1+(rows.drop (j+1)).findIdx P):=by
 rw [dA_ TRow.dflt k,List.findIdx_cons];cases P (rows.getD j TRow.dflt)<;>simp only [cond_true,cond_false]<;>omega
theorem js_ {rows:List TRow}{r:TRow}(h:hV_ fI_ rows)(hr:r.cells.length<=fI_):Ev (fun n _=>bG_ n rows r) (i1_ rows r):=by
 refine ak_ ?_;have hl:=h.1;simp only [fI_] at hl;have U:rows.length<=b9_:=by simp only [b9_];omega
 have e0:∀ r:TRow,TRow.mk r.id_ r.cells=r:=fun _=>rfl;simp only [bG_,ab_ (gS_ (id:=r.id_) h),ab_ (hR_ (rows:=rows) (id:=r.id_) U),ag_];rcases atCases rows r.id_ with ⟨p,Y,e1,e2⟩|⟨e1,e2⟩
 . have hd:kF_ rows r.id_=rows.take p++rows.drop (p+1):=by unfold kF_;rw [e2,List.eraseIdx_eq_take_drop_succ]
   have J:(kF_ rows r.id_).length=rows.length - 1:=by rw [hd];simp;omega
   refine ⟨fun _ => ?_,fun h=>by rw [e1] at h;simp at h⟩;rw [e1];simp only [eH_,a6_,hj_ hr,ac_,Int.toNat_natCast,List.length_nil,List.nil_append,List.drop_zero,J];refine ⟨by omega,by simp;omega,by simp;omega,by omega,by simp;omega,?_⟩;unfold i1_;rw [e1,decide_eq_true (by omega),cond_true,Int.toNat_natCast,hd,List.set_eq_take_append_cons_drop,if_pos Y];have t1:(rows.take p++rows.drop (p+1)).take p=rows.take p:=by rw [List.take_append_of_le_length (by simp;omega),List.take_take,Nat.min_self]
   have t2:((rows.take p++rows.drop (p+1)).take (rows.length - 1)).drop p=rows.drop (p+1):=by rw [List.take_of_length_le (by simp;omega),List.drop_append_of_le_length (by simp;omega),List.drop_eq_nil_of_le (by simp;omega),List.nil_append]
   rw [t1,t2];simp
 . refine ⟨fun h=>by rw [e1] at h;simp at h,fun _ => ?_⟩
   rw [e2];have u:i1_ rows r=rows.take (ke_ rows r.id_)++[r]++rows.drop (ke_ rows r.id_):=by unfold i1_;rw [e1];rfl
   rw [u];obtain ⟨S,z⟩:∃ S:Nat->Int,S=fun i=>(((rows.length - i)+(rows.drop (rows.length - i)).findIdx (fun x=>decide (x.id_ > r.id_)):Nat):Int):=⟨_,rfl⟩
   have O:S 0=(rows.length:Int):=by rw [z];simp
   have:=eR_ S rows.length (fun n N i (s:Int)=>bG_.loop6 n (fun B5 B6 B7 B8=>(fF_ 0 B5 B8.length (bj_ (([]:List TRow).length+((B8.take B5.toNat).drop 0).length) 32 ((cB_ n (TRow.mk B6 B7)).bind fun A9=>(bj_ ((([]:List TRow)++((B8.take B5.toNat).drop 0)).length+([A9]:List TRow).length) 32 (fF_ B5 (B8.length:Int) B8.length (bj_ (((([]:List TRow)++((B8.take B5.toNat).drop 0))++([A9]:List TRow)).length+((B8.take ((B8.length:Int).toNat)).drop B5.toNat).length) 32 (some (((([]:List TRow)++((B8.take B5.toNat).drop 0))++([A9]:List TRow))++((B8.take ((B8.length:Int).toNat)).drop B5.toNat)))))))))) N s (((rows.length - i:Nat):Int) - 1) r.id_ r.cells rows) (rows.take (ke_ rows r.id_)++[r]++rows.drop (ke_ rows r.id_)) (fun i hi F u => ?_) ?_
   . rw [O] at this
     rw [W_dn U];simpa using this
   . obtain ⟨j,Z⟩:∃ j,j=rows.length - i - 1:=⟨_,rfl⟩
     have I:rows.length - i=j+1:=by omega
     have k:rows.length - (i+1)=j:=by omega
     have B:j<rows.length:=by omega
     have m:=idx_down rows (fun x=>decide (x.id_ > r.id_)) B;have s1:S i=((j+1+(rows.drop (j+1)).findIdx (fun x=>decide (x.id_ > r.id_)):Nat):Int):=by rw [z];simp only [I]
     have s2:S (i+1)=((j+(rows.drop j).findIdx (fun x=>decide (x.id_ > r.id_)):Nat):Int):=by rw [z];simp only [k]
     have ei:((rows.length - i:Nat):Int) - 1=(j:Int):=by omega
     have T:W ((j:Int) - 1)=((rows.length - (i+1):Nat):Int) - 1:=by rw [W_dn (by omega),k]
     rw [s2,m] at u;rw [ei,s1];simp only [bG_.turn6,bG_.step6,ag_,a2_,Int.toNat_natCast,T];refine ⟨fun _=>⟨by omega,fun hc => ?_,fun hc => ?_⟩,fun h=>by simp at h⟩
     . rw [hc] at u;exact u
     . rw [hc] at u;exact u
   . have s1:S rows.length=(ke_ rows r.id_:Int):=by rw [z];simp [ke_]
     have V:ke_ rows r.id_<=rows.length:=List.findIdx_le_length;rw [s1];simp only [bG_.turn6,bG_.step6,Nat.sub_self,e0];rw [show decide (((0:Nat):Int) - 1>=0)=false from by simp];simp only [cond_false,eH_,a6_,hj_ hr,ac_,Int.toNat_natCast,List.length_nil,List.nil_append,List.drop_zero];refine ⟨by omega,by simp;omega,by simp;omega,by omega,by simp;omega,?_⟩;rw [List.take_length]
def ri_ (c:Nat)(x:aX_):Prop:=x.old.cells.length<=c/\x.new.cells.length<=c
theorem hP_ {c n:Nat}(h:n<=c)(hc:c<=fI_):n<=b9_:=by simp only [fI_] at hc;simp only [b9_];omega
theorem hV_.upto {c d:Nat}{r:List TRow}(h:hV_ c r)(hc:c<=d):hV_ d r:=⟨Nat.le_trans h.1 hc,fun x hx=>Nat.le_trans (h.2 x hx) hc⟩
theorem f2_.upto {c d:Nat}{s:aA_}(h:f2_ c s)(hc:c<=d):f2_ d s:=⟨Nat.le_trans h.1 hc,Nat.le_trans h.2.1 hc,fun x hx=>(h.2.2 x hx).upto hc⟩
theorem nA_ {c:Nat}{rows:List TRow}{id:Int}(h:hV_ c rows):hV_ c (kF_ rows id):=by unfold kF_;exact ⟨Nat.le_trans (List.length_eraseIdx_le _ _) h.1,fun x hx=>h.2 x (List.mem_of_mem_eraseIdx hx)⟩
theorem nw_ {c:Nat}{rows:List TRow}{r:TRow}(h:hV_ c rows)(hr:r.cells.length<=c):hV_ (c+1) (i1_ rows r):=by
 unfold i1_;have k:=h.1;cases decide (gz_ rows r.id_>=0)<;>simp only [cond_true,cond_false]
 . refine ⟨by simp;omega,fun x hx => ?_⟩
   rcases List.mem_append.1 hx with hx|hx
   . rcases List.mem_append.1 hx with hx|hx
     . exact Nat.le_succ_of_le (h.2 x (List.mem_of_mem_take hx))
     . rw [List.mem_singleton.1 hx];omega
   . exact Nat.le_succ_of_le (h.2 x (List.mem_of_mem_drop hx))
 . refine ⟨by simp;omega,fun x hx => ?_⟩
   rcases List.mem_or_eq_of_mem_set hx with hx|rfl
   . exact Nat.le_succ_of_le (h.2 x hx)
   . omega
def jb_ (s:a7_):aA_:=⟨s,0,List.replicate s.cols.length []⟩
theorem lenSt_new {c:Nat}{s:a7_}(hs:s.cols.length<=c):f2_ c (jb_ s):=by
 refine ⟨hs,?_,fun x hx => ?_⟩
 . simp only [jb_,List.length_replicate];exact hs
 . simp only [jb_] at hx
   rw [List.eq_of_mem_replicate hx];exact ⟨Nat.zero_le _,fun x hx=>by cases hx⟩
def zStore:aA_:=⟨⟨[]⟩,0,[]⟩
def FNew (s:a7_):aA_×Bool:=cond (g5_ s) (jb_ s,true) (zStore,false)
theorem lO_ {s:a7_}(hs:s.cols.length<=cap):Ev (fun n _=>d8_ n s) (FNew s):=by
 refine ak_ ?_;simp only [cap] at hs;simp only [d8_,fb_ (show s.cols.length<=b9_ by simp only [b9_];omega),ok_ (show s.cols.length<=fI_ by simp only [fI_];omega),ag_,ac_,do_,FNew,jb_,zStore,Int.toNat_natCast]
 repeat' (first|apply And.intro|intro _)
 all_goals (try simp_all)
 all_goals (try omega)
theorem Wn {x:Int}(m : -1000000000000<=x)(k:x<=1000000000000):W x=x:=W_id (by omega) (by omega)
theorem j2_ {a b:Int}:Ev (fun n _=>cT_ n a b) (max a b):=by refine ak_ ?_;simp only [cT_,ag_,ac_];exact ⟨fun h=>by have:=of_decide_eq_true h;omega,fun h=>by have:=of_decide_eq_false h;omega⟩
theorem lU_ {c:am_}(hc:DwOk c):Ans (fun n _=>aK_ n c) fun r=>r.1.cols.length<=3/\(∀ x ∈ r.1.cols,x<=4)/\DwOk r.2:=by
 have p:∀ (m i:Nat)(c:am_)(o:List Int),i+m=3->DwOk c->o.length=i->(∀ x ∈ o,x<=4) ->
   Ans (fun n N=>aK_.loop4 n (fun B3 B4 B5 B6=>(some ((a7_.mk B6),(am_.mk B3 B4 B5)))) N (i:Int) c.b c.i c.h o) fun r=>r.1.cols.length<=3/\(∀ x ∈ r.1.cols,x<=4)/\DwOk r.2:=by
  intro m;induction m with
  |zero=>
   intro i c o hi hc z hx;refine dn_ ?_;simp only [aK_.turn4,aK_.step4,dM_];refine bJ_ (cC_ hc) fun r hr => ?_;have I:=hr.lo;have B:=hr.hi;rw [Wn (by omega) (by omega),decide_eq_false (by omega)];simp only [cond_false,dM_,a8_];exact ⟨by omega,hx,hr.cur⟩
  |succ m ih=>
   intro i c o hi hc z hx;refine dn_ ?_;simp only [aK_.turn4,aK_.step4,dM_];refine bJ_ (cC_ hc) fun r hr => ?_;simp only [cr_,dM_,a8_];refine ⟨fun _=>bJ_ (cC_ hr.cur) fun r2 k => ?_,fun _=>⟨by omega,hx,hr.cur⟩⟩;have I:=k.lo;have B:=k.hi;have e1:W ((i:Int)+1)=((i+1:Nat):Int):=by rw [Wn (by omega) (by omega)];rfl
   rw [Wn (x:=1+r2.1) (by omega) (by omega),e1];simp only [gq_];refine ⟨by simp;omega,ih (i+1) r2.2 _ (by omega) k.cur (by simp;omega) fun x u => ?_⟩;rcases List.mem_append.1 u with h|h
   . exact hx x h
   . rw [List.mem_singleton.1 h];omega
 refine c5_ ?_;simp only [aK_];exact ge_ (p 3 0 c [] rfl hc rfl fun x hx=>(by cases hx))
theorem km_ {c:am_}{cols:Int}(hc:DwOk c)(u:cols<=1000):Ans (fun n _=>a5_ n c cols) fun r=>r.1.cells.length<=1000/\DwOk r.2:=by
 have k:∀ (m i:Nat)(c:am_)(id:Int)(o:List Int),i+m=1000->DwOk c->o.length=i ->
   Ans (fun n N=>a5_.loop4 n (fun B3 B4 B5 B6 B7 B8=>(some ((TRow.mk B7 B8),(am_.mk B3 B4 B5)))) N cols (i:Int) c.b c.i c.h 0 id o) fun r=>r.1.cells.length<=1000/\DwOk r.2:=by
  intro m;induction m with
  |zero=>
   intro i c id o hi hc z;refine dn_ ?_;simp only [a5_.turn4,a5_.step4,dM_];rw [decide_eq_false (by omega)];simp only [cond_false,dM_,a8_];exact ⟨by omega,hc⟩
  |succ m ih=>
   intro i c id o hi hc z;refine dn_ ?_;simp only [a5_.turn4,a5_.step4,dM_,cr_,a8_];refine ⟨fun _=>bJ_ (cC_ hc) fun r2 p => ?_,fun _=>⟨by omega,hc⟩⟩;have e1:W ((i:Int)+1)=((i+1:Nat):Int):=by rw [Wn (by omega) (by omega)];rfl
   rw [e1];simp only [gq_];exact ⟨by simp;omega,ih (i+1) r2.2 _ _ (by omega) p.cur (by simp;omega)⟩
 refine c5_ ?_;simp only [a5_];exact bJ_ (cC_ hc) fun r hr=>ge_ (k 1000 0 r.2 _ [] rfl hr.cur rfl)
theorem nU_ {c:am_}{cols:Int}(hc:DwOk c)(u:cols<=1000):Ans (fun n _=>aZ_ n c cols) fun r=>hV_ 1010 r.1/\DwOk r.2:=by
 have z:∀ (m i:Nat)(c:am_)(o:List TRow),i+m=9->DwOk c->hV_ (1000+i) o ->
   Ans (fun n N=>aZ_.loop4 n (fun B4 B5 B6 B7=>(some (B7,(am_.mk B4 B5 B6)))) N cols (i:Int) c.b c.i c.h o) fun r=>hV_ 1010 r.1/\DwOk r.2:=by
  intro m;induction m with
  |zero=>
   intro i c o hi hc p;refine dn_ ?_;simp only [aZ_.turn4,aZ_.step4,dM_];refine bJ_ (cC_ hc) fun r hr => ?_;have J:=hr.lo;have I:=hr.hi;rw [decide_eq_false (by omega)];simp only [cond_false,dM_,a8_];exact ⟨p.upto (by omega),hr.cur⟩
  |succ m ih=>
   intro i c o hi hc p;refine dn_ ?_;simp only [aZ_.turn4,aZ_.step4,dM_];refine bJ_ (cC_ hc) fun r hr => ?_;simp only [cr_,dM_,a8_];refine ⟨fun _=>bJ_ (km_ hr.cur u) fun r2 k => ?_,fun _=>⟨p.upto (by omega),hr.cur⟩⟩;have e1:W ((i:Int)+1)=((i+1:Nat):Int):=by rw [Wn (by omega) (by omega)];rfl
   have B:=js_ (rows:=o) (r:=r2.1) (p.upto (by simp only [fI_];omega)) (by have:=k.1;simp only [fI_];omega);rw [bZ_ B,e1];exact ih (i+1) r2.2 _ (by omega) k.2 (by rw [<-Nat.add_assoc];exact nw_ p (by have:=k.1;omega))
 refine c5_ ?_;simp only [aZ_];exact ge_ (z 9 0 c [] rfl hc ⟨Nat.zero_le _,fun x hx=>(by cases hx)⟩)
structure StIn (c:Nat) (s:aA_):Prop where
 len:f2_ c s
 col:∀ x ∈ s.schema.cols,x<=1000
theorem StIn.upto {c d:Nat}{s:aA_}(h:StIn c s)(hc:c<=d):StIn d s:=⟨h.len.upto hc,h.col⟩
theorem StIn.getD {c:Nat}{s:aA_}(h:StIn c s)(i:Nat):s.schema.cols.getD i 0<=1000:=by
 by_cases hi:i<s.schema.cols.length
 . exact h.col _ (bB_ _ hi)
 . rw [List.getD_eq_getElem?_getD,List.getElem?_eq_none (by omega)];decide
theorem mX_ {c:am_}(hc:DwOk c):Ans (fun n _=>aP_ n c) fun r=>StIn 1010 r.1/\DwOk r.2:=by
 have p:∀ (m i:Nat)(c:am_)(s:aA_),i+m=s.tables.length->s.tables.length<=s.schema.cols.length->DwOk c->StIn 1010 s ->
   Ans (fun n N=>aP_.loop4 n (fun B5 B6 B7 B8 B9 B10 B11=>((ap_ n (am_.mk B5 B6 B7) 5).bind fun A12=>(some ((aA_.mk (a7_.mk B10) A12.1 B11),A12.2)))) N (i:Int) c.b c.i c.h 0 s.version s.schema.cols s.tables) fun r=>StIn 1010 r.1/\DwOk r.2:=by
  intro m;induction m with
  |zero=>
   intro i c s hi hl hc hs;have e:i=s.tables.length:=by omega
   subst e;refine dn_ ?_;simp only [aP_.turn4,aP_.step4,cj_,cond_false,dM_];exact bJ_ (cC_ hc) fun r hr=>a8_.2 ⟨⟨hs.len,hs.col⟩,hr.cur⟩
  |succ m ih=>
   intro i c s hi hl hc hs;have k:i<s.tables.length:=by omega
   have B:=hs.len.2.1;have u:=W_up k (show s.tables.length<=b9_ by simp only [b9_];omega);refine dn_ ?_;simp only [aP_.turn4,aP_.step4,cD_ k,cond_true,dM_,eo_,Int.toNat_natCast];refine ⟨⟨by omega,by omega⟩,bJ_ (nU_ hc (hs.getD i)) fun r hr => ?_⟩;simp only [eo_,u];refine ⟨⟨by omega,by omega⟩,?_⟩;have:=ih (i+1) r.2 (aA_.mk s.schema s.version (s.tables.set i r.1)) (by simp;omega) (by simp;exact hl) hr.2 ⟨⟨hs.len.1,by simp only [List.length_set];exact B,fun x hx=>by
    rcases List.mem_or_eq_of_mem_set hx with hx|rfl
    . exact hs.len.2.2 x hx
    . exact hr.1⟩,hs.col⟩
   exact this
 refine c5_ ?_;simp only [aP_];refine bJ_ (lU_ hc) fun r hr => ?_;have z:=lO_ (s:=r.1) (by have:=hr.1;simp only [cap];omega);rw [bZ_ z];refine ge_ (f:=fun n N=>aP_.loop4 n (fun B5 B6 B7 B8 B9 B10 B11=>((ap_ n (am_.mk B5 B6 B7) 5).bind fun A12=>(some ((aA_.mk (a7_.mk B10) A12.1 B11),A12.2)))) N 0 r.2.b r.2.i r.2.h 0 (FNew r.1).1.version (FNew r.1).1.schema.cols (FNew r.1).1.tables) (p (FNew r.1).1.tables.length 0 r.2 (FNew r.1).1 (Nat.zero_add _) ?_ hr.2.2 ?_)
 . unfold FNew
   cases g5_ r.1
   . exact Nat.le_refl _
   . simp [jb_]
 . unfold FNew
   cases g5_ r.1
   . exact ⟨⟨Nat.zero_le _,Nat.zero_le _,fun x hx=>(by cases hx)⟩,fun x hx=>(by cases hx)⟩
   . exact ⟨lenSt_new (Nat.le_trans hr.1 (by decide)),fun x hx=>Int.le_trans (hr.2.1 x hx) (by decide)⟩
def qx_:TRow:=TRow.mk 0 []
def noCh:aX_:=aX_.mk 0 false false qx_ qx_
def zeroSt:aA_:=aA_.mk (a7_.mk []) 0 []
def kD_ (s:a7_)(m:TMut):Bool:=cond (m.kind==3) (g5_ s&&(inn m.table 0 (W ((s.cols.length:Int) - 1))&&(inn m.row.id_ 1 999&&((m.row.cells.length:Int)==0)))) (inn m.kind 1 2&&FRow s m.table m.row)
def gg_ (s:aA_)(m:TMut):List TRow:=s.tables.getD m.table.toNat []
def sk_ (s:aA_)(m:TMut):Bool:=(decide (gz_ (gg_ s m) m.row.id_>=0)==(m.kind != 1)) && !((m.kind==1)&&(((gg_ s m).length:Int)==24))
def FDo (s:aA_)(m:TMut):aA_:=aA_.mk s.schema s.version (s.tables.set m.table.toNat (cond (m.kind != 3) (i1_ (gg_ s m) m.row) (kF_ (gg_ s m) m.row.id_)))
def FDoCh (s:aA_)(m:TMut):aX_:=aX_.mk m.table (m.kind != 1) (m.kind != 3) (cond (m.kind != 1) ((gg_ s m).getD (gz_ (gg_ s m) m.row.id_).toNat TRow.dflt) qx_) (cond (m.kind != 3) m.row qx_)
def ho_ (s:aA_)(m:TMut):aA_×aX_×Bool:=cond (fX_ s) (cond (kD_ s.schema m&&sk_ s m) (FDo s m,FDoCh s m,true) (s,noCh,false)) (zeroSt,noCh,false)
theorem l5_ (r:TRow):TRow.mk r.id_ r.cells=r:=rfl
theorem fY_ (s:aA_):aA_.mk s.schema s.version s.tables=s:=rfl
theorem gU_ (s:a7_):a7_.mk s.cols=s:=rfl
theorem pl_ (m:TMut):TMut.mk m.kind m.table m.row=m:=rfl
theorem oY_ {s:a7_}{m:TMut}(hs:s.cols.length<=b9_)(hr:m.row.cells.length<=b9_):Ev (fun n _=>fl_ n s m) (kD_ s m):=by refine ak_ ?_;simp only [fl_,ab_ (ie_ hs),ab_ (j4_ (t:=m.table) hs hr),gl_,ag_,ac_,kD_];generalize (m.kind==3)=a;generalize g5_ s=b;generalize inn m.table 0 _=c;generalize inn m.row.id_ 1 999=d;generalize inn m.kind 1 2=e;cases a<;>cases b<;>cases c<;>cases d<;>cases e<;>simp
theorem rA_ {s:aA_}{m:TMut}(hs:fX_ s=true)(k:kD_ s.schema m=true)(hc:s.schema.cols.length<=b9_):0<=m.table/\m.table<(s.tables.length:Int):=by
 have e:=@W_dn s.schema.cols.length hc;have hl:s.tables.length=s.schema.cols.length:=by unfold fX_ at hs;simp only [Bool.and_eq_true] at hs;exact of_decide_eq_true hs.2.2.1
 have:inn m.table 0 (W ((s.schema.cols.length:Int) - 1))=true:=by
  unfold kD_ at k;cases p:(m.kind==3)<;>rw [p] at k
  . simp only [cond_false,Bool.and_eq_true] at k
    have:=k.2;unfold FRow at this;simp only [Bool.and_eq_true] at this;exact this.2.1
  . simp only [cond_true,Bool.and_eq_true] at k
    exact k.2.1
 have:=hv_.1 this;rw [e] at this;omega
theorem rs_ (rows:List TRow)(id:Int):gz_ rows id = -1\/0<=gz_ rows id/\gz_ rows id<(rows.length:Int):=by
 rcases atCases rows id with ⟨p,m,k,_⟩|⟨h,_⟩
 . exact .inr ⟨by omega,by omega⟩
 . exact .inl h
theorem qh_ {s:aA_}{m:TMut}(hl:f2_ fI_ s)(hr:m.row.cells.length<=fI_) (J:0<=m.table/\m.table<(s.tables.length:Int)):Ev (fun n _=>fK_ n s m) (cond (sk_ s m) (FDo s m,FDoCh s m,true) (s,noCh,false)):=by
 have z:hV_ fI_ (gg_ s m):=gm_ hl.2.2 _;have I:(gg_ s m).length<=b9_:=hP_ z.1 (Nat.le_refl _);have u:∀ i,((gg_ s m).getD i TRow.dflt).cells.length<=fI_:=fun i=>by
  by_cases hi:i<(gg_ s m).length
  . exact z.2 _ (bB_ _ hi)
  . rw [List.getD_eq_getElem?_getD,List.getElem?_eq_none (by omega)];exact Nat.zero_le _
 have B:=rs_ (gg_ s m) m.row.id_;have e0:s.tables.getD m.table.toNat []=gg_ s m:=rfl;refine ak_ ?_;simp only [fK_,e0,l5_,a2_,J,true_and,and_true,ab_ (hR_ (id:=m.row.id_) I),hj_ (u _),hj_ hr,ab_ (js_ z hr),ab_ (gS_ (id:=m.row.id_) z),ag_,ac_];unfold sk_ FDo FDoCh noCh qx_;generalize i1_ (gg_ s m) m.row=p;generalize kF_ (gg_ s m) m.row.id_=q;generalize gz_ (gg_ s m) m.row.id_=a at B ⊢;have hb:(m.kind==1)=true->(m.kind != 1)=false:=by simp [bne]
 have k:(m.kind==1)=false->(m.kind != 1)=true:=by intro h;simp [bne,h]
 generalize (m.kind != 1)=k1 at hb k ⊢;cases O:(m.kind==1)<;>rw [O] at hb k
 . have:=k rfl
   subst this;cases ha:decide (a>=0)
   . simp
   . have ha:=of_decide_eq_true ha
     cases (m.kind != 3)<;>simp<;>omega
 . have:=hb rfl
   subst this;cases ha:decide (a>=0)<;>cases (((gg_ s m).length:Int)==24)<;>cases (m.kind != 3)<;>simp
theorem j6_ {s:aA_}{m:TMut}(hl:f2_ fI_ s)(hr:m.row.cells.length<=fI_):Ev (fun n _=>e1_ n s m) (ho_ s m):=by
 have hs:s.schema.cols.length<=b9_:=hP_ hl.1 (Nat.le_refl _);have k:m.row.cells.length<=b9_:=hP_ hr (Nat.le_refl _);refine ak_ ?_;simp only [e1_,fY_,pl_,l5_,ab_ (fM_ (hl.upto (show fI_<=b9_ by decide))),ab_ (oY_ hs k),ab_ (mZ_ hl),ag_,ac_];unfold ho_;cases u:fX_ s
 . exact ⟨fun _=>rfl,fun h=>(by cases h)⟩
 . refine ⟨fun h=>(by cases h),fun _ => ?_⟩
   cases p:kD_ s.schema m
   . exact ⟨fun _=>rfl,fun h=>(by cases h)⟩
   . refine ⟨fun h=>(by cases h),fun _ => ?_⟩
     simp only [ab_ (qh_ hl hr (rA_ u p hs)),ag_,ac_];cases sk_ s m<;>simp [noCh,qx_,ab_ (mZ_ hl),ac_]
theorem FDo_len {c:Nat}{s:aA_}{m:TMut}(h:f2_ c s)(hr:m.row.cells.length<=c):f2_ (c+1) (FDo s m):=by
 have k:hV_ c (gg_ s m):=gm_ h.2.2 _;refine ⟨Nat.le_succ_of_le h.1,by simp only [FDo,List.length_set];exact Nat.le_succ_of_le h.2.1,fun x hx => ?_⟩;rcases List.mem_or_eq_of_mem_set hx with hx|rfl
 . exact (h.2.2 x hx).upto (Nat.le_succ _)
 . cases (m.kind != 3)
   . exact (nA_ k).upto (Nat.le_succ _)
   . exact nw_ k hr
theorem FDoCh_len {c:Nat}{s:aA_}{m:TMut}(h:f2_ c s)(hr:m.row.cells.length<=c):ri_ c (FDoCh s m):=by
 have k:hV_ c (gg_ s m):=gm_ h.2.2 _;refine ⟨?_,?_⟩
 . show (cond (m.kind != 1) _ qx_).cells.length<=c
   cases (m.kind != 1)
   . exact Nat.zero_le _
   . by_cases hi:(gz_ (gg_ s m) m.row.id_).toNat<(gg_ s m).length
     . exact k.2 _ (bB_ _ hi)
     . simp only [cond_true];rw [List.getD_eq_getElem?_getD,List.getElem?_eq_none (by omega)];exact Nat.zero_le _
 . show (cond (m.kind != 3) m.row qx_).cells.length<=c
   cases (m.kind != 3)
   . exact Nat.zero_le _
   . exact hr
theorem lm_ {c:Nat}{s:aA_}{m:TMut}(h:f2_ c s)(hr:m.row.cells.length<=c):f2_ (c+1) (ho_ s m).1/\ri_ c (ho_ s m).2.1:=by
 have z:ri_ c noCh:=⟨Nat.zero_le _,Nat.zero_le _⟩
 unfold ho_;cases fX_ s
 . exact ⟨⟨Nat.zero_le _,Nat.zero_le _,fun x hx=>(by cases hx)⟩,z⟩
 . cases (kD_ s.schema m&&sk_ s m)
   . exact ⟨h.upto (Nat.le_succ _),z⟩
   . exact ⟨FDo_len h hr,FDoCh_len h hr⟩
def g9_:aA_->List TMut->List aX_->Option (aA_×List aX_)
 |s,[],l=>some (s,l)
 |s,m::r,l=>cond (ho_ s m).2.2 (g9_ (ho_ s m).1 r (l++[(ho_ s m).2.1])) none
def nB_ (s:aA_):Option (aA_×List aX_)->aA_×List aX_×Bool
 |some p=>(aA_.mk p.1.schema (W (s.version+1)) p.1.tables,p.2,true)
 |none=>(s,[],false)
def fS_ (s:aA_)(l:List TMut):aA_×List aX_×Bool:=cond (fX_ s) (cond (inn (l.length:Int) 1 5 && !(s.version==100000)) (nB_ s (g9_ s l [])) (s,[],false)) (zeroSt,[],false)
def mV_ (c:Nat)(l:List TMut):Prop:=∀ m ∈ l,m.row.cells.length<=c
theorem mE_ {c:Nat}{s:aA_}{l:List TMut}(hl:f2_ c s)(J:mV_ c l)(hc:c+l.length<=1000000):Ev (fun n _=>br_ n s l) (fS_ s l):=by
 have p:f2_ fI_ s:=hl.upto (by simp only [fI_];omega);have B:=mZ_ p;refine ak_ ?_;simp only [br_,fY_,ab_ (fM_ (p.upto (show fI_<=b9_ by decide))),gl_,ab_ B,ag_,ac_];unfold fS_;cases V:fX_ s
 . exact ⟨fun _=>rfl,fun h=>(by cases h)⟩
 refine ⟨fun h=>(by cases h),fun _ => ?_⟩;cases U:inn (l.length:Int) 1 5
 . exact ⟨fun _=>rfl,fun h=>(by cases h)⟩
 refine ⟨fun h=>(by cases h),fun _ => ?_⟩;cases T:(s.version==100000)
 . refine ⟨fun h=>(by cases h),fun _ => ?_⟩
   have u:∀ (m i:Nat)(t:aA_)(o:List aX_),i+m=l.length->f2_ (c+i) t->o.length<=i ->
     Ev (fun n N=>br_.loop12 n (fun B8 B9 B10 B11 B12 B13 B14 B15=>(some ((aA_.mk (a7_.mk B14) (W (B9+1)) B15),B13,true))) N l (i:Int) s.schema.cols s.version s.tables 0 [] t.version o t.schema.cols t.tables) (nB_ s (g9_ t (l.drop i) o)):=by
    intro m;induction m with
    |zero=>
     intro i t o hi z I;have e:i=l.length:=by omega
     subst e;refine aY_ ?_;simp only [br_.turn12,br_.step12,cj_,cond_false,ac_,List.drop_length,g9_,nB_]
    |succ m ih=>
     intro i t o hi z I;have k:i<l.length:=by omega
     have hr:=J _ (bB_ TMut.dflt k);have S:=j6_ (m:=l.getD i TMut.dflt) (z.upto (show c+i<=fI_ by simp only [fI_];omega)) (Nat.le_trans hr (by simp only [fI_];omega));have O:=W_up k (show l.length<=b9_ by simp only [b9_];omega);have hn:=lm_ (m:=l.getD i TMut.dflt) z (Nat.le_trans hr (Nat.le_add_right _ _));rw [dA_ TMut.dflt k];refine aY_ ?_;simp only [br_.turn12,br_.step12,gU_,fY_,pl_,l5_,cD_ k,cond_true,a2_,cb_ k,true_and,Int.toNat_natCast,O,ab_ S,ag_,ac_,ab_ B,a6_,g9_];cases hq:(ho_ t (l.getD i TMut.dflt)).2.2
     . exact ⟨fun _=>rfl,fun h=>(by cases h)⟩
     . exact ⟨fun h=>(by cases h),fun _=>⟨by simp;omega,ih (i+1) _ _ (by omega) (by rw [<-Nat.add_assoc];exact hn.1) (by simp;omega)⟩⟩
   exact c3_ (u l.length 0 s [] (by omega) hl (Nat.le_refl _))
 . exact ⟨fun _=>rfl,fun h=>(by cases h)⟩
theorem nC_ {c:Nat}:∀ {l:List TMut}{s:aA_}{o:List aX_}{k:Nat},f2_ (c+k) s->mV_ c l->(∀ x ∈ o,ri_ (c+k) x)->∀ p,g9_ s l o=some p->f2_ (c+k+l.length) p.1/\p.2.length=o.length+l.length/\∀ x ∈ p.2,ri_ (c+k+l.length) x
 |[],s,o,k,h,_,u,p,e=>by cases e;exact ⟨h,rfl,u⟩
 |m::r,s,o,k,h,z,u,p,e=>by
  unfold g9_ at e;cases hq:(ho_ s m).2.2<;>rw [hq] at e
  . cases e
  . have hr:=z m (List.mem_cons_self ..)
    have hn:=lm_ (m:=m) h (Nat.le_trans hr (Nat.le_add_right _ _));have:=nC_ (l:=r) (k:=k+1) (by rw [<-Nat.add_assoc];exact hn.1) (fun x hx=>z x (List.mem_cons_of_mem _ hx)) (fun x hx=>by
     rcases List.mem_append.1 hx with hx|hx
     . exact ⟨Nat.le_succ_of_le (u x hx).1,Nat.le_succ_of_le (u x hx).2⟩
     . rw [List.mem_singleton.1 hx];exact ⟨Nat.le_succ_of_le hn.2.1,Nat.le_succ_of_le hn.2.2⟩) p e
    simp only [List.length_append,List.length_cons,List.length_nil] at this ⊢;refine ⟨this.1.upto (by omega),by omega,fun x hx=>⟨Nat.le_trans (this.2.2 x hx).1 (by omega),Nat.le_trans (this.2.2 x hx).2 (by omega)⟩⟩
theorem lK_ {c:Nat}{s:aA_}{l:List TMut}(h:f2_ c s)(u:mV_ c l):f2_ (c+l.length) (fS_ s l).1/\(fS_ s l).2.1.length<=5/\∀ x ∈ (fS_ s l).2.1,ri_ (c+l.length) x:=by
 unfold fS_;cases fX_ s
 . exact ⟨⟨Nat.zero_le _,Nat.zero_le _,fun x hx=>(by cases hx)⟩,Nat.zero_le _,fun x hx=>(by cases hx)⟩
 . cases m:(inn (l.length:Int) 1 5 && !(s.version==100000))
   . exact ⟨h.upto (Nat.le_add_right _ _),Nat.zero_le _,fun x hx=>(by cases hx)⟩
   . simp only [cond_true]
     cases hb:g9_ s l [] with
     |none=>exact ⟨h.upto (Nat.le_add_right _ _),Nat.zero_le _,fun x hx=>(by cases hx)⟩
     |some p=>
      have:=nC_ (c:=c) (k:=0) (o:=[]) h u (fun x hx=>(by cases hx)) p hb;rw [Bool.and_eq_true] at m;have z:=hv_.1 m.1;simp only [Nat.add_zero,List.length_nil,Nat.zero_add] at this;exact ⟨this.1,by show p.2.length<=5;omega,this.2.2⟩
structure QIn (q:ax_):Prop where
 len:uy_ 1010 q
 show_:∀ x ∈ q.show_,0<=x/\x<=1000
theorem up1 {i:Nat}(h:i<=1000000):W ((i:Int)+1)=((i+1:Nat):Int):=by rw [Wn (by omega) (by omega)];rfl
theorem l9loop7 {K:Nat->ah_.K7}{P:ax_×am_->Prop}{t6 t30 t40 t42 t43 t44 t46 t47 t48 t50 t52 t53 t54 t56 t57 t58} (p:∀ c o,DwOk c->o.length<=3->Ans (fun n _=>K n t6 c.b c.i c.h t30 t40 t42 t43 t44 t46 t47 t48 t50 t52 t53 t54 t56 t57 t58 o) P) {c:am_} (hc:DwOk c) :
  Ans (fun n _=>ah_.loop7 n (K n) n t6 0 c.b c.i c.h t30 t40 t42 t43 t44 t46 t47 t48 t50 t52 t53 t54 t56 t57 t58 []) P:=by
 have k:∀ (m i:Nat)(c:am_)(o:List ci_),i+m=3->DwOk c->o.length=i->Ans (fun n N=>ah_.loop7 n (K n) N t6 (i:Int) c.b c.i c.h t30 t40 t42 t43 t44 t46 t47 t48 t50 t52 t53 t54 t56 t57 t58 o) P:=by
  intro m;induction m with
  |zero=>
   intro i c o hi hc z;refine dn_ ?_;simp only [ah_.turn7,ah_.step7,dM_];refine bJ_ (cC_ hc) fun r hr => ?_;have J:=hr.lo;have u:=hr.hi;rw [decide_eq_false (by omega)];simp only [cond_false];exact p _ _ hr.cur (by omega)
  |succ m ih=>
   intro i c o hi hc z;refine dn_ ?_;simp only [ah_.turn7,ah_.step7,dM_];refine bJ_ (cC_ hc) fun r hr => ?_;simp only [cr_];refine ⟨fun _=>bJ_ (cC_ hr.cur) fun r2 u=>bJ_ (cC_ u.cur) fun r3 I=>bJ_ (cC_ I.cur) fun r4 B => ?_,fun _=>p _ _ hr.cur (by omega)⟩;simp only [gq_,up1 (show i<=1000000 by omega)];exact ⟨by simp;omega,ih (i+1) r4.2 _ (by omega) B.cur (by simp;omega)⟩
 exact ge_ (k 3 0 c [] rfl hc rfl)
theorem l9loop16 {K:Nat->ah_.K16}{P:ax_×am_->Prop}{t6 t30 t40 t42 t43 t44 t46 t47 t48 t50 t52 t53 t54 t56 t57 t58 t51}(B:t6<=1000) (u:∀ c o,DwOk c->o.length<=1000->(∀ x ∈ o,0<=x/\x<=1000)->Ans (fun n _=>K n c.b c.i c.h t30 t40 t42 t43 t44 t46 t47 t48 t50 t52 t53 t54 t56 t57 t58 t51 o) P) {c:am_} (hc:DwOk c) :
  Ans (fun n _=>ah_.loop16 n (K n) n t6 0 c.b c.i c.h t30 t40 t42 t43 t44 t46 t47 t48 t50 t52 t53 t54 t56 t57 t58 t51 []) P:=by
 have k:∀ (m i:Nat)(c:am_)(o:List Int),i+m=1000->DwOk c->o.length<=i->(∀ x ∈ o,0<=x/\x<=1000)->Ans (fun n N=>ah_.loop16 n (K n) N t6 (i:Int) c.b c.i c.h t30 t40 t42 t43 t44 t46 t47 t48 t50 t52 t53 t54 t56 t57 t58 t51 o) P:=by
  intro m;induction m with
  |zero=>
   intro i c o hi hc z hx;refine dn_ ?_;simp only [ah_.turn16,ah_.step16,dM_];rw [decide_eq_false (by omega)];simp only [cond_false];exact u _ _ hc (by omega) hx
  |succ m ih=>
   intro i c o hi hc z hx;refine dn_ ?_;simp only [ah_.turn16,ah_.step16,dM_,cr_];refine ⟨fun _=>bJ_ (hG_ hc) fun r hr => ?_,fun _=>u _ _ hc (by omega) hx⟩;simp only [cr_,gq_,up1 (show i<=1000000 by omega)];refine ⟨fun _=>⟨by simp;omega,ih (i+1) r.2 _ (by omega) hr (by simp;omega) fun x p => ?_⟩,fun _=>ih (i+1) r.2 _ (by omega) hr (by omega) hx⟩;rcases List.mem_append.1 p with h|h
   . exact hx x h
   . rw [List.mem_singleton.1 h];omega
 exact ge_ (k 1000 0 c [] rfl hc (Nat.le_refl _) fun x hx=>(by cases hx))
theorem mW_ {c:am_}{s:a7_}(hc:DwOk c)(hs:∀ x ∈ s.cols,x<=1000):Ans (fun n _=>ah_ n c s) fun r=>QIn r.1/\DwOk r.2:=by
 have m:∀ i,s.cols.getD i 0<=1000:=fun i=>by
  by_cases hi:i<s.cols.length
  . exact hs _ (bB_ _ hi)
  . rw [List.getD_eq_getElem?_getD,List.getElem?_eq_none (by omega)];decide
 have k:∀ i,max (s.cols.getD i 0) 1<=1000:=fun i=>by have:=m i;omega
 refine c5_ ?_;simp only [ah_]
 repeat' (first
  |(rw [bZ_ j2_])
  |(refine bJ_ (cC_ (by assumption)) fun _ hd => ?_;obtain ⟨_,_,_⟩:=hd)
  |(refine bJ_ (hG_ (by assumption)) fun _ _ => ?_)
  |(refine bJ_ (kn_ (by assumption) (by simp)) fun _ hd => ?_;obtain ⟨_,_⟩:=hd)
  |(with_reducible refine cr_.2 ⟨fun _ => ?_,fun _ => ?_⟩)
  |(with_reducible refine eo_.2 ⟨⟨?_,?_⟩,?_⟩)
  |(refine l9loop7 (fun _ _ _ _ => ?_) (by assumption))
  |(refine l9loop16 (by first|exact k _|decide) (fun _ _ _ _ _ => ?_) (by assumption))
  |((with_reducible refine a8_.2 ?_);refine ⟨⟨⟨?_,?_⟩,?_⟩,?_⟩))
 all_goals (first|assumption|(simp only [decide_eq_true_eq] at *;assumption)|(refine Nat.le_trans ?_ (show 3<=1010 by decide);assumption)|(refine Nat.le_trans ?_ (show 1000<=1010 by decide);assumption))
theorem pv_ {k:Nat}{c:am_}{s:aA_}(hc:DwOk c)(hs:StIn k s):Ans (fun n _=>dO_ n c s) fun r=>r.1.row.cells.length<=1000/\DwOk r.2:=by
 refine c5_ ?_;simp only [dO_]
 repeat' (first
  |(rw [bZ_ j2_])
  |(refine bJ_ (cC_ (by assumption)) fun _ hd => ?_;obtain ⟨_,_,_⟩:=hd)
  |(refine bJ_ (hG_ (by assumption)) fun _ _ => ?_)
  |(refine bJ_ (kn_ (by assumption) (by simp)) fun _ hd => ?_;obtain ⟨_,_⟩:=hd)
  |(refine bJ_ (km_ (by assumption) (hs.getD _)) fun _ hd => ?_;obtain ⟨_,_⟩:=hd)
  |(with_reducible refine cr_.2 ⟨fun _ => ?_,fun _ => ?_⟩)
  |(with_reducible refine eo_.2 ⟨⟨?_,?_⟩,?_⟩)
  |(with_reducible refine a8_.2 ⟨?_,by assumption⟩))
 all_goals (first|assumption|exact Nat.zero_le _|(simp only [decide_eq_true_eq,decide_eq_false_iff_not] at *;omega))
theorem FMutDo_in {k:Nat}{s:aA_}{m:TMut}(h:StIn k s)(hr:m.row.cells.length<=k):StIn (k+1) (ho_ s m).1:=by
 refine ⟨(lm_ h.len hr).1,?_⟩;unfold ho_;cases fX_ s
 . exact fun x hx=>(by cases hx)
 . cases (kD_ s.schema m&&sk_ s m)<;>exact h.col
theorem so_ {k:Nat}{s:aA_}{l:List TMut}(h:StIn k s)(B:mV_ k l):StIn (k+l.length) (fS_ s l).1:=by
 refine ⟨(lK_ h.len B).1,?_⟩;unfold fS_;cases fX_ s
 . exact fun x hx=>(by cases hx)
 . cases (inn (l.length:Int) 1 5 && !(s.version==100000))
   . exact h.col
   . have u:∀ (l:List TMut)(t:aA_)(o:List aX_),(∀ x ∈ t.schema.cols,x<=1000)->∀ p,g9_ t l o=some p->∀ x ∈ p.1.schema.cols,x<=1000:=by
      intro l;induction l with
      |nil=>intro t o z p e;cases e;exact z
      |cons m r ih=>
       intro t o z p e;unfold g9_ at e;cases hq:(ho_ t m).2.2<;>rw [hq] at e
       . cases e
       . refine ih _ _ ?_ p e
         unfold ho_;cases fX_ t
         . exact fun x hx=>(by cases hx)
         . cases (kD_ t.schema m&&sk_ t m)<;>exact z
     simp only [cond_true];cases hb:g9_ s l [] with
     |none=>exact h.col
     |some p=>exact u l s [] h.col p hb
theorem mY_ {k:Nat}{c:am_}{s:aA_}(hc:DwOk c)(hs:StIn k s)(Z:1000<=k)(U:k<=90000):Ans (fun n _=>az_ n c s) fun r=>r.1.length<=3/\mV_ 1000 r.1/\DwOk r.2:=by
 have J:∀ (m i:Nat)(c:am_)(s:aA_)(o:List TMut),i+m=3->DwOk c->StIn (k+i) s->o.length<=i->mV_ 1000 o ->
   Ans (fun n N=>az_.loop5 n (fun B14 B15 B16 B17=>(some (B17,(am_.mk B14 B15 B16)))) N (i:Int) c.b c.i c.h s.schema.cols s.version s.tables o) fun r=>r.1.length<=3/\mV_ 1000 r.1/\DwOk r.2:=by
  intro m;induction m with
  |zero=>
   intro i c s o hi hc hs T I;refine dn_ ?_;simp only [az_.turn5,az_.step5,dM_];refine bJ_ (cC_ hc) fun r hr => ?_;have S:=hr.lo;have B:=hr.hi;rw [Wn (x:=1+r.1) (by omega) (by omega),decide_eq_false (by omega)];simp only [cond_false,dM_,a8_];exact ⟨by omega,I,hr.cur⟩
  |succ m ih=>
   intro i c s o hi hc hs T I;refine dn_ ?_;simp only [az_.turn5,az_.step5,dM_];refine bJ_ (cC_ hc) fun r hr => ?_;simp only [cr_,dM_,a8_,gU_,fY_];refine ⟨fun _=>bJ_ (pv_ hr.cur hs) fun r2 B => ?_,fun _=>⟨by omega,I,hr.cur⟩⟩;have V:=j6_ (s:=s) (m:=r2.1) (hs.len.upto (by simp only [fI_];omega)) (Nat.le_trans B.1 (by decide));have hn:=FMutDo_in (m:=r2.1) hs (Nat.le_trans B.1 (by omega));have z:mV_ 1000 (o++[r2.1]):=fun x hx=>by
    rcases List.mem_append.1 hx with h|h
    . exact I x h
    . rw [List.mem_singleton.1 h];exact B.1
   have e1:=up1 (show i<=1000000 by omega);have u:StIn (k+(i+1)) s:=hs.upto (by omega);have p:∀ (t:aA_)(c:am_)(q:List TMut),StIn (k+(i+1)) t->DwOk c->q.length<=i+1->mV_ 1000 q->Ans (fun n N=>az_.loop5 n (fun B14 B15 B16 B17=>(some (B17,(am_.mk B14 B15 B16)))) N ((i+1:Nat):Int) c.b c.i c.h t.schema.cols t.version t.tables q) fun r=>r.1.length<=3/\mV_ 1000 r.1/\DwOk r.2:=fun t c q S B O Y=>ih (i+1) c t q (by omega) B S O Y;simp only [az_.tail9,gU_,fY_,pl_,l5_,bZ_ V,e1,dM_]
   repeat' (first
    |(with_reducible refine cr_.2 ⟨fun _ => ?_,fun _ => ?_⟩)
    |(refine bJ_ (hG_ B.2) fun r3 O => ?_)
    |(with_reducible refine gq_.2 ⟨by simp;omega,?_⟩))
   all_goals (first
    |exact p _ _ _ hn B.2 (by simp;omega) z
    |exact p _ _ _ hn (by assumption) (by simp;omega) z
    |exact p _ _ _ hn (by assumption) (by omega) I
    |exact p s _ _ u B.2 (by simp;omega) z
    |exact p s _ _ u (by assumption) (by simp;omega) z
    |exact p s _ _ u (by assumption) (by omega) I)
 refine c5_ ?_;simp only [az_];exact ge_ (J 3 0 c s [] rfl hc hs (Nat.le_refl _) fun x hx=>(by cases hx))
def FPut (q:ax_)(rows:List TRow)(r:TRow):List TRow:=rows.take (rows.findIdx (fun x=>im_ q r x))++[r]++rows.drop (rows.findIdx (fun x=>im_ q r x))
theorem take_mid {α:Type}(d:α){a m:List α}{i p:Nat}(hi:i<a.length)(h:p<=i):a.take p++m++(a.take (i+1)).drop p=a.take p++m++(a.take i).drop p++[a.getD i d]:=by rw [cz_ d hi,List.drop_append_of_le_length (by simp;omega)];simp
theorem ahead_idx {q:ax_}{r:TRow}{rows:List TRow}{i:Nat}(hi:i<rows.length) (k:i<=rows.findIdx (fun x=>im_ q r x)):im_ q r (rows.getD i TRow.dflt)=decide (i=rows.findIdx (fun x=>im_ q r x)):=by
 rw [List.getD_eq_getElem?_getD,List.getElem?_eq_getElem hi,Option.getD_some];by_cases h:i=rows.findIdx (fun x=>im_ q r x)
 . rw [decide_eq_true h]
   have:=List.findIdx_getElem (xs:=rows) (p:=fun x=>im_ q r x) (w:=by omega);simp only [<-h] at this;exact this
 . rw [decide_eq_false h]
   have:=List.not_of_lt_findIdx (xs:=rows) (p:=fun x=>im_ q r x) (i:=i) (by omega);simpa using this
theorem hq_ {q:ax_}{rows:List TRow}{r:TRow}(h:hV_ fI_ rows)(hr:r.cells.length<=fI_):Ev (fun n _=>bW_ n q rows r) (FPut q rows r):=by
 refine ak_ ?_;have hl:=h.1;simp only [fI_] at hl;have I:rows.length<=b9_:=by simp only [b9_];omega
 have u:r.cells.length<=b9_:=by simp only [b9_];simp only [fI_] at hr;omega
 simp only [bW_];have e0:∀ r:TRow,TRow.mk r.id_ r.cells=r:=fun _=>rfl;have T:∀ (x:TRow) (g:Nat->Nat->Bool->Option (List TRow)) (v:List TRow),x.cells.length<=b9_->(Ev (fun n N=>(e2_ n (ax_.mk q.table q.where_ q.order q.down q.first q.show_ q.kids q.kidTable q.kidCol) r x).bind (g n N)) v↔Ev (fun n N=>g n N (im_ q r x)) v):=fun x g v hx=>ab_ (o0_ u hx);obtain ⟨p,z⟩:∃ p,p=rows.findIdx (fun x=>im_ q r x):=⟨_,rfl⟩
 have J:p<=rows.length:=by rw [z];exact List.findIdx_le_length
 let S:Nat->Bool×List TRow:=fun i=>if i<=p then (false,rows.take i) else (true,rows.take p++[r]++(rows.take i).drop p)
 have B:S 0=(false,[]):=by simp [S]
 have:=eR_ S rows.length (fun n N i (s:Bool×List TRow)=>bW_.loop5 n (fun B3 B4 B5 B6=>(cond (!B3) ((cB_ n (TRow.mk B4 B5)).bind fun A7=>(bj_ (B6.length+([A7]:List TRow).length) 32 (some (B6++([A7]:List TRow))))) (some B6))) N rows s.1 (i:Int) q.table q.where_ q.order q.down q.first q.show_ q.kids q.kidTable q.kidCol r.id_ r.cells s.2) (FPut q rows r) (fun i hi F m => ?_) ?_
 . rw [B] at this;exact this
 . simp only [bW_.turn5,bW_.step5,Int.toNat_natCast,W_up hi I,e0]
   have hx:=ahead_idx (q:=q) (r:=r) hi;rw [<-z] at hx;have O:(S i).2.length<=rows.length+1:=by simp only [S];split<;>simp<;>omega
   simp only [ag_,a2_,T _ _ _ (jf_ (rows:=rows) ⟨I,fun x hx=>by have:=h.2 x hx;simp only [fI_] at this;simp only [b9_];omega⟩ i),hj_ hr,a6_,cD_ hi,cb_ hi];refine ⟨fun _=>⟨fun hn=>⟨trivial,fun ha=>⟨by simp;omega,trivial,by simp;omega,?_⟩,fun ha=>⟨trivial,by simp;omega,?_⟩⟩,fun hn=>⟨trivial,by simp;omega,?_⟩⟩,fun h=>by cases h⟩;all_goals (by_cases k:i<=p)
   . have e:i=p:=by rw [hx k] at ha;exact of_decide_eq_true ha
     subst e;simp only [S,if_neg (show ¬ i+1<=i by omega),if_pos (Nat.le_refl i),cz_ TRow.dflt hi,List.drop_append_of_le_length (show i<=(rows.take i).length by simp;omega),List.drop_eq_nil_of_le (show (rows.take i).length<=i by simp;omega),List.nil_append] at m ⊢;exact m
   . simp only [S,if_neg k] at hn;cases hn
   . have e:i≠p:=by rw [hx k] at ha;exact of_decide_eq_false ha
     simp only [S,if_pos k,if_pos (show i+1<=p by omega),cz_ TRow.dflt hi] at m ⊢;exact m
   . simp only [S,if_neg k] at hn;cases hn
   . simp only [S,if_pos k] at hn;cases hn
   . simp only [S,if_neg k,if_neg (show ¬ i+1<=p by omega),take_mid TRow.dflt hi (show p<=i by omega)] at m ⊢
     exact m
 . simp only [bW_.turn5,bW_.step5,cj_,cond_false,e0,ag_,hj_ hr,a6_,ac_]
   unfold FPut;rw [<-z];by_cases k:rows.length<=p
   . have e:rows.length=p:=by omega
     simp only [S,if_pos k,<-e];simp;omega
   . simp only [S,if_neg k]
     simp
def hk_ (kids:List TKid)(id:Int):Nat:=kids.findIdx (fun k=>decide (k.id_>=id))
def qE_ (k:TKid)(id by_:Int):List TKid :=
 cond (k.id_==id) (cond (decide (W (k.n_+by_) > 0)) [TKid.mk id (W (k.n_+by_))] []) (cond (decide (by_ > 0)) [TKid.mk id by_,k] [k])
def FKid (kids:List TKid)(id by_:Int):List TKid :=
 cond (decide (hk_ kids id<kids.length)) (kids.take (hk_ kids id)++qE_ (kids.getD (hk_ kids id) TKid.dflt) id by_++kids.drop (hk_ kids id+1)) (cond (decide (by_ > 0)) (kids++[TKid.mk id by_]) kids)
theorem kid_idx {kids:List TKid}{id:Int}{i:Nat}(hi:i<kids.length)(u:i<=hk_ kids id):((kids.getD i TKid.dflt).id_>=id↔i=hk_ kids id)/\((kids.getD i TKid.dflt).id_<id↔i≠hk_ kids id):=by
 have m:(kids.getD i TKid.dflt).id_>=id↔i=hk_ kids id:=by
  rw [List.getD_eq_getElem?_getD,List.getElem?_eq_getElem hi,Option.getD_some];unfold hk_ at u ⊢;constructor
  . intro h
    refine Classical.byContradiction fun z => ?_;have:=List.not_of_lt_findIdx (xs:=kids) (p:=fun k=>decide (k.id_>=id)) (i:=i) (by omega);rw [decide_eq_true h] at this;cases this
  . intro h
    have:=List.findIdx_getElem (xs:=kids) (p:=fun k=>decide (k.id_>=id)) (w:=by omega);simp only [<-h] at this;exact of_decide_eq_true this
 exact ⟨m,fun h e=>by have:=m.2 e;omega,fun h=>by have:=fun g=>h (m.1 g);omega⟩
theorem k0_ (k:TKid)(id by_:Int):(qE_ k id by_).length<=2:=by
 unfold qE_;cases (k.id_==id)<;>simp only [cond_true,cond_false]
 . cases decide (by_ > 0)<;>simp
 . cases decide (W (k.n_+by_) > 0)<;>simp
theorem take_midK {a m:List TKid}{i p:Nat}(hi:i<a.length)(h:p+1<=i):a.take p++m++(a.take (i+1)).drop (p+1)=a.take p++m++(a.take i).drop (p+1)++[a.getD i TKid.dflt]:=by rw [cz_ TKid.dflt hi,List.drop_append_of_le_length (by simp;omega)];simp
theorem gb_ {kids:List TKid}{id by_:Int}(h:kids.length<=fI_):Ev (fun n _=>aQ_ n kids id by_) (FKid kids id by_):=by
 refine ak_ ?_;have hl:=h;simp only [fI_] at hl;have Y:kids.length<=b9_:=by simp only [b9_];omega
 simp only [aQ_];obtain ⟨p,O⟩:∃ p,p=hk_ kids id:=⟨_,rfl⟩
 have Z:p<=kids.length:=by rw [O];exact List.findIdx_le_length
 obtain ⟨m,T⟩:∃ m,m=qE_ (kids.getD p TKid.dflt) id by_:=⟨_,rfl⟩
 have hml:m.length<=2:=by rw [T];exact k0_ _ _ _
 let S:Nat->Bool×List TKid:=fun i=>if i<=p then (false,kids.take i) else (true,kids.take p++m++(kids.take i).drop (p+1))
 have V:S 0=(false,[]):=by simp [S]
 have:=eR_ S kids.length (fun n N i (s:Bool×List TKid)=>aQ_.loop5 n (fun B1 B2 B3 B4=>(cond (!B3) (cond (decide (B2 > 0)) (bj_ (B4.length+([(TKid.mk B1 B2)]:List TKid).length) 16 (some (B4++([(TKid.mk B1 B2)]:List TKid)))) (some B4)) (some B4))) N kids id by_ s.1 (i:Int) s.2) (FKid kids id by_) (fun i hi F z => ?_) ?_
 . rw [V] at this;exact this
 . have hx:=kid_idx (kids:=kids) (id:=id) hi
   rw [<-O] at hx;have B:(S i).2.length<=kids.length+2:=by simp only [S];split<;>simp<;>omega
   obtain ⟨k,I⟩:∃ k,k=kids.getD i TKid.dflt:=⟨_,rfl⟩
   simp only [aQ_.turn5,aQ_.step5,Int.toNat_natCast,W_up hi Y,ag_,a2_,a6_,cD_ hi,cb_ hi,<-I];refine ⟨fun _=>⟨trivial,?_⟩,fun h=>by cases h⟩;by_cases u:i<=p
   . have s1:S i=(false,kids.take i):=by simp only [S,if_pos u]
     rw [s1] at B ⊢;by_cases e:i=p
     . have U:k.id_>=id:=by rw [I];exact (hx u).1.2 e
       subst e;have s2:S (i+1)=(true,kids.take i++m):=by simp only [S,if_neg (show ¬ i+1<=i by omega)];rw [List.drop_eq_nil_of_le (by simp;omega),List.append_nil]
       rw [s2,T,<-I] at z;unfold qE_ at z;simp only [U,decide_true,Bool.not_false,cond_true] at z ⊢;cases h1:(k.id_==id)<;>cases h2:decide (by_ > 0)<;>cases h3:decide (W (k.n_+by_) > 0)<;>simp only [h1,h2,h3,cond_true,cond_false] at z ⊢;all_goals (repeat' (first|apply And.intro|intro _))
       all_goals (first|contradiction|exact z|(simpa using z)|(simp;omega))
     . have J:¬ k.id_>=id:=by rw [I];exact fun h=>e ((hx u).1.1 h)
       have s2:S (i+1)=(false,kids.take i++[k]):=by simp only [S,if_pos (show i+1<=p by omega),I,cz_ TKid.dflt hi]
       rw [s2] at z;simp only [J,decide_false]
       repeat' (first|apply And.intro|intro _)
       all_goals (first|contradiction|exact z|(simpa using z)|(simp;omega))
   . have s1:S i=(true,kids.take p++m++(kids.take i).drop (p+1)):=by simp only [S,if_neg u]
     have s2:S (i+1)=(true,kids.take p++m++(kids.take i).drop (p+1)++[k]):=by simp only [S,if_neg (show ¬ i+1<=p by omega),I];rw [take_midK hi (by omega)]
     rw [s1] at B ⊢;rw [s2] at z
     repeat' (first|apply And.intro|intro _)
     all_goals (first|contradiction|exact z|(simp at B ⊢;omega))
 . simp only [aQ_.turn5,aQ_.step5,cj_,cond_false,ag_,a6_,ac_]
   unfold FKid;rw [<-O,<-T];by_cases u:kids.length<=p
   . have e:p=kids.length:=by omega
     have s1:S kids.length=(false,kids):=by simp only [S,if_pos u,List.take_length]
     rw [s1,decide_eq_false (show ¬ p<kids.length by omega)];simp only [cond_false];refine ⟨fun _=>⟨fun h=>⟨by simp;omega,by rw [h];rfl⟩,fun h=>by rw [h];rfl⟩,fun h=>by cases h⟩
   . have s1:S kids.length=(true,kids.take p++m++kids.drop (p+1)):=by simp only [S,if_neg u,List.take_length]
     rw [s1,decide_eq_true (show p<kids.length by omega)];exact ⟨fun h=>(by cases h),fun _=>rfl⟩
theorem kX_.upto {c d:Nat}{v:bF_}(h:kX_ c v)(hc:c<=d):kX_ d v:=⟨⟨Nat.le_trans h.1.1 hc,Nat.le_trans h.1.2 hc⟩,h.2.1.upto hc,Nat.le_trans h.2.2 hc⟩
section
variable {β:Type}
theorem sX_ {q:ax_}(h:uy_ fI_ q){g:Nat->Nat->ax_->Option β}{v:β}:Ev (fun n N=>(eA_ n q).bind (g n N)) v↔Ev (fun n N=>g n N q) v :=
 ab_ (ak_ (by have m:=h.1;have k:=h.2;simp only [fI_] at m k;simp only [eA_,a6_,ac_,List.nil_append,and_true,List.length_nil];omega))
theorem iF_ {x:bF_}(h:kX_ fI_ x){g:Nat->Nat->bF_->Option β}{v:β}:Ev (fun n N=>(c8_ n x).bind (g n N)) v↔Ev (fun n N=>g n N x) v :=
 ab_ (ak_ (by have k:=h.2.2;simp only [fI_] at k;simp only [c8_,sX_ h.1,ab_ (qC_ h.2.1),a6_,ac_,List.nil_append,and_true,List.length_nil];omega))
theorem qD_ {x:c1_}(h:lenS fI_ x){g:Nat->Nat->c1_->Option β}{v:β}:Ev (fun n N=>(ec_ n x).bind (g n N)) v↔Ev (fun n N=>g n N x) v :=
 ab_ (ak_ (by simp only [ec_,iF_ h.1,iF_ h.2,ac_]))
end
def tv_ (v:bF_)(c:aX_):List TRow :=
 cond (c.table==v.q.table) (cond (c.has&&gM_ v.q c.new) (FPut v.q (cond c.had (kF_ v.rows c.old.id_) v.rows) c.new) (cond c.had (kF_ v.rows c.old.id_) v.rows)) v.rows
def tw_ (v:bF_)(c:aX_):List TKid :=
 cond (v.q.kids&&(c.table==v.q.kidTable)) (cond c.has (FKid (cond c.had (FKid v.kids (g8_ c.old v.q.kidCol) (-1)) v.kids) (g8_ c.new v.q.kidCol) 1) (cond c.had (FKid v.kids (g8_ c.old v.q.kidCol) (-1)) v.kids)) v.kids
def ln_ (v:bF_)(c:aX_):bF_:=⟨v.q,tv_ v c,tw_ v c⟩
theorem mh_ {c:Nat}{q:ax_}{rows:List TRow}{r:TRow}(h:hV_ c rows)(hr:r.cells.length<=c):hV_ (c+1) (FPut q rows r):=by
 unfold FPut;refine ⟨by have:=h.1;simp;omega,fun x hx => ?_⟩;rcases List.mem_append.1 hx with hx|hx
 . rcases List.mem_append.1 hx with hx|hx
   . exact Nat.le_succ_of_le (h.2 x (List.mem_of_mem_take hx))
   . rw [List.mem_singleton.1 hx];omega
 . exact Nat.le_succ_of_le (h.2 x (List.mem_of_mem_drop hx))
theorem mj_ {kids:List TKid}{id by_:Int}:(FKid kids id by_).length<=kids.length+1:=by
 unfold FKid;have:=k0_ (kids.getD (hk_ kids id) TKid.dflt) id by_;by_cases h:hk_ kids id<kids.length
 . rw [decide_eq_true h,cond_true];simp only [List.length_append,List.length_take,List.length_drop];omega
 . rw [decide_eq_false h];cases decide (by_ > 0)<;>simp
theorem j3_ {c:Nat}{v:bF_}{x:aX_}(h:kX_ c v)(hx:ri_ c x)(hc:c+1<=fI_):Ev (fun n _=>dv_ n v x) (ln_ v x):=by
 refine ak_ ?_;have k:=h.upto (show c<=fI_ by omega);have hd:=nA_ (id:=x.old.id_) k.2.1;have hr:x.new.cells.length<=fI_:=by have:=hx.2;omega
 have p:=k.2.2;have m:∀ id b,(FKid v.kids id b).length<=fI_:=fun id b=>by have:=mj_ (kids:=v.kids) (id:=id) (by_:=b);have:=h.2.2;omega
 simp only [dv_,iF_ k,ag_,ab_ (gS_ (id:=x.old.id_) k.2.1),ab_ (iv_ (q:=v.q) (r:=x.new) (hP_ k.1.1 (Nat.le_refl _)) (hP_ hr (Nat.le_refl _))),ab_ (hq_ (q:=v.q) (r:=x.new) hd hr),ab_ (hq_ (q:=v.q) (r:=x.new) k.2.1 hr),
  ab_ (fq_ (r:=x.old) (col:=v.q.kidCol) (hP_ hx.1 (by omega))),ab_ (fq_ (r:=x.new) (col:=v.q.kidCol) (hP_ hx.2 (by omega))),
  ab_ (gb_ (kids:=v.kids) (id:=g8_ x.old v.q.kidCol) (by_:=-1) p),ab_ (gb_ (kids:=v.kids) (id:=g8_ x.new v.q.kidCol) (by_:=1) p),ab_ (gb_ (id:=g8_ x.new v.q.kidCol) (by_:=1) (m (g8_ x.old v.q.kidCol) (-1))),ac_]
 unfold ln_ tv_ tw_;cases O:(x.table==v.q.table)<;>cases J:x.had<;>cases I:x.has<;>cases B:gM_ v.q x.new<;>cases z:v.q.kids<;>cases u:(x.table==v.q.kidTable)<;>simp
def li_ (q:ax_)(o rows:List TRow):List TRow:=rows.foldl (fun o r=>cond (gM_ q r) (FPut q o r) o) o
def FSQ (s:aA_)(q:ax_):Bool:=fX_ s&&jB_ s.schema q
def h6_ (s:aA_)(q:ax_):List TRow:=cond (FSQ s q) (li_ q [] (s.tables.getD q.table.toNat [])) []
def jU_ (q:ax_)(k:List TKid)(rows:List TRow):List TKid:=rows.foldl (fun k r=>FKid k (r.cells.getD q.kidCol.toNat 0) 1) k
def mi_ (s:aA_)(q:ax_):List TKid:=cond q.kids (jU_ q [] (s.tables.getD q.kidTable.toNat [])) []
def zeroQ:ax_:=ax_.mk 0 [] 0 false 0 [] false 0 0
def tz_:bF_:=bF_.mk zeroQ [] []
def hA_ (s:aA_)(q:ax_):bF_×Bool:=cond (FSQ s q) (bF_.mk q (h6_ s q) (mi_ s q),true) (tz_,false)
theorem kU_ (q:ax_):ax_.mk q.table q.where_ q.order q.down q.first q.show_ q.kids q.kidTable q.kidCol=q:=rfl
structure SQ (s:aA_) (q:ax_):Prop where
 tab:0<=q.table/\q.table<(s.tables.length:Int)
 kid:0<=q.kidTable/\q.kidTable<(s.tables.length:Int)
 col:q.kids=true->∀ r ∈ s.tables.getD q.kidTable.toNat [],0<=q.kidCol/\q.kidCol<(r.cells.length:Int)
theorem sq_of {s:aA_}{q:ax_}(h:FSQ s q=true)(hc:s.schema.cols.length<=b9_)(U:s.tables.length<=b9_)(I:∀ x ∈ s.tables,x.length<=b9_/\∀ r ∈ x,r.cells.length<=b9_):SQ s q:=by
 have e:=@W_dn s.schema.cols.length hc;unfold FSQ at h;rw [Bool.and_eq_true] at h;obtain ⟨B,z⟩:=h;unfold fX_ at B;simp only [Bool.and_eq_true] at B;have hl:s.tables.length=s.schema.cols.length:=of_decide_eq_true B.2.2.1;have V:=B.2.2.2;unfold jB_ at z;simp only [Bool.and_eq_true] at z;have T:=hv_.1 z.2.1;rw [e] at T;have hcl:1<=s.schema.cols.length:=by omega
 have p:FKids s.schema q=true:=by
  have:=z.2.2.2.2.2
  grind
 unfold FKids at p;cases u:q.kids<;>rw [u] at p
 . simp only [cond_false,Bool.and_eq_true,beq_iff_eq] at p
   exact ⟨by omega,by omega,fun h=>by rw [u] at h;cases h⟩
 . simp only [cond_true,Bool.and_eq_true] at p
   have k1:=hv_.1 p.1;have k2:=hv_.1 p.2;rw [e] at k1;refine ⟨by omega,by omega,fun _ r hr => ?_⟩;have hi:q.kidTable.toNat<s.tables.length:=by omega
   have k:=e7_.1 V q.kidTable.toNat hi;unfold sh_ at k;obtain ⟨j,S,rfl⟩:=List.mem_iff_getElem.1 hr;simp only [Bool.and_eq_true] at k;have O:FRow s.schema (q.kidTable.toNat:Int) ((s.tables.getD q.kidTable.toNat []).getD j TRow.dflt)=true:=by have:=e7_.1 k.1 j S;simp only [Bool.and_eq_true] at this;exact this.1
   unfold FRow at O;simp only [Bool.and_eq_true] at O;have m:=of_decide_eq_true O.2.2.2.1;rw [List.getD_eq_getElem?_getD,List.getElem?_eq_getElem S,Option.getD_some,Int.toNat_natCast] at m;have J:((s.tables.getD q.kidTable.toNat [])[j]).cells.length<=b9_:=(I _ (bB_ _ hi)).2 _ hr;rw [<-m,W_dn J] at k2;omega
theorem nv_ {c:Nat}{q:ax_}:∀ {rows o:List TRow}{k:Nat},hV_ (c+k) o->(∀ r ∈ rows,r.cells.length<=c)->hV_ (c+k+rows.length) (li_ q o rows)
 |[],o,k,h,_=>h
 |r::rows,o,k,h,hr=>by
  have p:=hr r (List.mem_cons_self ..);have m:hV_ (c+(k+1)) (cond (gM_ q r) (FPut q o r) o):=by
   cases gM_ q r
   . exact h.upto (by omega)
   . exact mh_ h (Nat.le_trans p (Nat.le_add_right _ _))
  have:=nv_ (q:=q) (rows:=rows) m fun x hx=>hr x (List.mem_cons_of_mem _ hx);exact this.upto (by simp;omega)
theorem rf_ {kids:List TKid}{id by_:Int}:(FKid kids id by_).length<=kids.length+1:=by
 have:=k0_ (kids.getD (hk_ kids id) TKid.dflt) id by_;unfold FKid;cases h:decide (hk_ kids id<kids.length)
 . cases decide (by_ > 0)<;>simp
 . have:=of_decide_eq_true h
   simp only [cond_true,List.length_append,List.length_take,List.length_drop];omega
theorem nx_ {q:ax_}:∀ {rows:List TRow}{k:List TKid},(jU_ q k rows).length<=k.length+rows.length
 |[],k=>Nat.le_refl _
 |r::rows,k=>by have p:=rf_ (kids:=k) (id:=r.cells.getD q.kidCol.toNat 0) (by_:=1);have m:=nx_ (q:=q) (rows:=rows) (k:=FKid k (r.cells.getD q.kidCol.toNat 0) 1);show (jU_ q _ rows).length<=_;simp only [List.length_cons];omega
section
variable {s:aA_} {q:ax_} {c:Nat} (hl:f2_ c s) (hq:uy_ 100000 q) (hc:c<=100000)
include hl hq hc
theorem mC_:Ev (fun n _=>bL_ n s q) (h6_ s q):=by
 have hs:s.schema.cols.length<=b9_:=hP_ (Nat.le_trans hl.1 hc) (by decide);have I:f2_ b9_ s:=hl.upto (Nat.le_trans hc (by decide));have p:uy_ b9_ q:=⟨Nat.le_trans hq.1 (by decide),Nat.le_trans hq.2 (by decide)⟩
 refine ak_ ?_;simp only [bL_,ab_ (fM_ I),ab_ (iu_ hs p),ag_,ac_,a2_];unfold h6_ FSQ;cases J:fX_ s
 . exact ⟨fun _=>rfl,fun h=>(by cases h)⟩
 refine ⟨fun h=>(by cases h),fun _ => ?_⟩;cases U:jB_ s.schema q
 . exact ⟨fun _=>rfl,fun h=>(by cases h)⟩
 refine ⟨fun h=>(by cases h),fun _ => ?_⟩;have S:=sq_of (s:=s) (q:=q) (by unfold FSQ;rw [J,U];rfl) hs I.2.1 I.2.2;refine ⟨S.tab,?_⟩;have B:hV_ c (s.tables.getD q.table.toNat []):=gm_ hl.2.2 _;simp only [Bool.and_self,cond_true];generalize s.tables.getD q.table.toNat []=rows at B ⊢;have z:∀ (m i:Nat)(o:List TRow),i+m=rows.length->hV_ (c+i) o->Ev (fun n N=>bL_.loop8 n (fun B5=>(some B5)) N rows (i:Int) q.table q.where_ q.order q.down q.first q.show_ q.kids q.kidTable q.kidCol o) (li_ q o (rows.drop i)):=by
  intro m;induction m with
  |zero=>
   intro i o hi u;have e:i=rows.length:=by omega
   subst e;refine aY_ ?_;simp only [bL_.turn8,bL_.step8,cj_,cond_false,ac_,List.drop_length,li_,List.foldl_nil]
  |succ m ih=>
   intro i o hi u;have k:i<rows.length:=by omega
   have J:=B.1;have hr:=B.2 _ (bB_ TRow.dflt k);have hM:=iv_ (q:=q) (r:=rows.getD i TRow.dflt) p.1 (by simp only [b9_];omega);have T:=hq_ (q:=q) (rows:=o) (r:=rows.getD i TRow.dflt) (u.upto (by simp only [fI_];omega)) (by simp only [fI_];omega);have O:=W_up k (show rows.length<=b9_ by simp only [b9_];omega);have e1:li_ q o (rows.drop i)=li_ q (cond (gM_ q (rows.getD i TRow.dflt)) (FPut q o (rows.getD i TRow.dflt)) o) (rows.drop (i+1)):=by rw [dA_ TRow.dflt k];rfl
   rw [e1];refine aY_ ?_;simp only [bL_.turn8,bL_.step8,kU_,cD_ k,cond_true,a2_,cb_ k,true_and,Int.toNat_natCast,O,ab_ hM,ab_ T,ag_];cases V:gM_ q (rows.getD i TRow.dflt)
   . exact ⟨fun h=>(by cases h),fun _=>ih (i+1) _ (by omega) (u.upto (by omega))⟩
   . exact ⟨fun _=>ih (i+1) _ (by omega) (mh_ u (Nat.le_trans hr (Nat.le_add_right _ _))),fun h=>(by cases h)⟩
 exact c3_ (z rows.length 0 [] (by omega) ⟨Nat.zero_le _,fun x hx=>(by cases hx)⟩)
theorem nL_:Ev (fun n _=>b2_ n s q) (hA_ s q):=by
 have hs:s.schema.cols.length<=b9_:=hP_ (Nat.le_trans hl.1 hc) (by decide);have O:f2_ b9_ s:=hl.upto (Nat.le_trans hc (by decide));have hR:=mC_ hl hq hc;have I:uy_ b9_ q:=⟨Nat.le_trans hq.1 (by decide),Nat.le_trans hq.2 (by decide)⟩
 refine ak_ ?_;simp only [b2_,ab_ (fM_ O),ab_ (iu_ hs I),ag_,ac_];unfold hA_;have e0:FSQ s q=(fX_ s&&jB_ s.schema q):=rfl;cases z:fX_ s
 . rw [e0,z];exact ⟨fun _=>rfl,fun h=>(by cases h)⟩
 refine ⟨fun h=>(by cases h),fun _ => ?_⟩;cases S:jB_ s.schema q
 . rw [e0,z,S];exact ⟨fun _=>rfl,fun h=>(by cases h)⟩
 refine ⟨fun h=>(by cases h),fun _ => ?_⟩;have V:=sq_of (s:=s) (q:=q) (by rw [e0,z,S];rfl) hs O.2.1 O.2.2;have J:uy_ fI_ q:=⟨Nat.le_trans hq.1 (by decide),Nat.le_trans hq.2 (by decide)⟩
 rw [e0,z,S];simp only [sX_ J,ab_ hR,a2_,Bool.and_self,cond_true];refine ⟨V.kid,?_⟩;have U:hV_ c (s.tables.getD q.kidTable.toNat []):=gm_ hl.2.2 _;have u:=V.col;unfold mi_;generalize s.tables.getD q.kidTable.toNat []=rows at U u ⊢;have B:∀ (m i:Nat)(k:List TKid),i+m=rows.length->k.length<=i->Ev (fun n N=>b2_.loop8 n (fun B6 B7 B8 B9 B10 B11 B12 B13 B14 B15 B16 B17 B18 B19 B20 B21 B22 B23=>(some ((bF_.mk (ax_.mk B13 B20 B14 B15 B16 B21 B17 B18 B19) B22 B23),true))) N rows (i:Int) q.table q.where_ q.order q.down q.first q.show_ q.kids q.kidTable q.kidCol 0 0 false 0 false 0 0 q.table q.order q.down q.first q.kids q.kidTable q.kidCol q.where_ q.show_ (h6_ s q) k) (bF_.mk q (h6_ s q) (cond q.kids (jU_ q k (rows.drop i)) k),true):=by
  intro m;induction m with
  |zero=>
   intro i k hi Y;have e:i=rows.length:=by omega
   subst e;refine aY_ ?_;simp only [b2_.turn8,b2_.step8,cj_,cond_false,ac_,List.drop_length,jU_,List.foldl_nil];have e:(cond q.kids k k)=k:=by cases q.kids<;>rfl
   rw [e]
  |succ m ih=>
   intro i k hi Y;have p:i<rows.length:=by omega
   have z:=U.1;have hP:=gb_ (kids:=k) (id:=(rows.getD i TRow.dflt).cells.getD q.kidCol.toNat 0) (by_:=1) (by simp only [fI_];omega);have Z:=W_up p (show rows.length<=b9_ by simp only [b9_];omega);have hn:=rf_ (kids:=k) (id:=(rows.getD i TRow.dflt).cells.getD q.kidCol.toNat 0) (by_:=1);have e1:jU_ q k (rows.drop i)=jU_ q (FKid k ((rows.getD i TRow.dflt).cells.getD q.kidCol.toNat 0) 1) (rows.drop (i+1)):=by rw [dA_ TRow.dflt p];rfl
   refine aY_ ?_;simp only [b2_.turn8,b2_.step8,kU_,cD_ p,cond_true,a2_,cb_ p,true_and,Int.toNat_natCast,Z,ab_ hP,ag_,ac_];cases T:q.kids
   . exact ⟨fun h=>(by cases h),fun _=>rfl⟩
   . refine ⟨fun _=>⟨u T _ (bB_ TRow.dflt p),?_⟩,fun h=>(by cases h)⟩
     have:=ih (i+1) (FKid k ((rows.getD i TRow.dflt).cells.getD q.kidCol.toNat 0) 1) (by omega) (by omega);rw [T] at this;simp only [cond_true,e1] at this ⊢;exact this
 exact c3_ (B rows.length 0 [] (by omega) (Nat.le_refl _))
end
theorem isNaN_ev {x:Bs}:Ev (fun n _=>cp_ n x) false:=ak_ (by simp [cp_,ac_])
theorem isNaN2_ev {x:Bs}:Ev (fun n _=>cY_ n x) false:=ak_ (by simp [cY_,ac_])
theorem ui_ {x y:Bs}:Ev (fun n _=>dl_ n x y) (Op.bytesLess x y):=by refine ak_ ?_;simp only [dl_,ab_ isNaN2_ev,ag_,ac_];cases Op.bytesLess x y<;>simp
theorem half {i j:Nat}(h:i+j<=4000000):W (Int.fdiv (IntKind.u64.wrap (W ((i:Int)+(j:Int)))) (2 ^ min (1:Int).toNat (IntKind.bits .u64)))=(((i+j) / 2:Nat):Int):=by
 have e1:W ((i:Int)+(j:Int))=((i+j:Nat):Int):=by rw [W_id (by omega) (by omega)];omega
 have e2:IntKind.u64.wrap ((i+j:Nat):Int)=((i+j:Nat):Int):=by
  show (((i+j:Nat):Int)) % _=_;exact Int.emod_eq_of_lt (by omega) (by
   have:((i+j:Nat):Int)<=4000000:=by omega
   exact Int.lt_of_le_of_lt this (by decide))
 have e3:(2:Int) ^ min (1:Int).toNat (IntKind.bits .u64)=2:=by decide
 rw [e1,e2,e3,Int.fdiv_eq_ediv_of_nonneg _ (by decide)];rw [W_id (by omega) (by omega)];omega
theorem nF_ {ns:List Bs}{x:Bs}(hl:ns.length<=2000000) (hM:∀ h,h<ns.length->Op.bytesLess (ns.getD h []) x=decide (h<el_ ns x)) :
  Ev (fun n _=>al_ n ns x) ((el_ ns x:Int),decide (el_ ns x<ns.length)&&(ns.getD (el_ ns x) []==x)):=by
 refine ak_ ?_;have k:el_ ns x<=ns.length:=List.findIdx_le_length;obtain ⟨p,J⟩:∃ p,p=el_ ns x:=⟨_,rfl⟩
 rw [<-J] at k hM ⊢;simp only [al_];have m:∀ (d i j:Nat),j - i<=d->i<=p->p<=j->j<=ns.length->Ev (fun n N=>al_.loop4 n (fun B3 B4 B5 B6=>(cond (decide (B6<B5)) (inB B6 B3.length (cond ((B3.getD B6.toNat [])==B4) (some (B6,true)) (inB B6 B3.length ((cp_ n (B3.getD B6.toNat [])).bind fun A7=>(cond A7 ((cp_ n B4).bind fun A8=>(some (B6,A8))) (some (B6,false))))))) (some (B6,false)))) N ns x (ns.length:Int) (i:Int) (j:Int)) ((p:Int),decide (p<ns.length)&&(ns.getD p []==x)):=by
  intro d;induction d with
  |zero=>
   intro i j hd I B z;have e:i=p:=by omega
   have e':j=p:=by omega
   subst e;subst e';refine aY_ ?_;simp only [al_.turn4,al_.step4,Int.lt_irrefl,decide_false,cond_false,ag_,a2_,ac_,Int.toNat_natCast,ab_ isNaN_ev];by_cases hc:j<ns.length
   . rw [decide_eq_true hc,decide_eq_true (show (j:Int)<(ns.length:Int) by omega)]
     cases hs:(ns.getD j []==x)<;>simp<;>omega
   . rw [decide_eq_false hc,decide_eq_false (show ¬ (j:Int)<(ns.length:Int) by omega)]
     exact ⟨fun h=>(by cases h),fun _=>rfl⟩
  |succ d ih=>
   intro i j hd I B z;by_cases O:i<j
   . have S:=half (i:=i) (j:=j) (by omega)
     have u:(i+j) / 2<ns.length:=by omega
     refine aY_ ?_;simp only [al_.turn4,al_.step4,S,decide_eq_true (show (i:Int)<(j:Int) by omega),cond_true,ag_,a2_,Int.toNat_natCast,ab_ ui_,cb_ u,hM _ u,W_up u (show ns.length<=b9_ by simp only [b9_];omega)];refine ⟨trivial,fun hc => ?_,fun hc => ?_⟩
     . have hc:=of_decide_eq_true hc
       exact ih ((i+j) / 2+1) j (by omega) (by omega) B z
     . have hc:=of_decide_eq_false hc
       exact ih i ((i+j) / 2) (by omega) I (by omega) (by omega)
   . exact ih i j (by omega) I B z
 exact c3_ (f:=fun n N=>al_.loop4 n _ N ns x (ns.length:Int) 0 (ns.length:Int)) (m ns.length 0 ns.length (by omega) (Nat.zero_le _) k (Nat.le_refl _))
def ins (x:Bs)(y:Int):List (Bs×Int)->List (Bs×Int)
 |[]=>[(x,y)]
 |(k,v)::l=>if k<x then (k,v)::ins x y l else if k=x then (x,y)::l else (x,y)::(k,v)::l
def ht_:List (Bs×Int)->Prop
 |[]=>True
 |(k,_)::l=>(∀ p ∈ l,k<p.1)/\ht_ l
theorem pz_ {x:Bs}{y:Int}:∀ {l:List (Bs×Int)}{p:Bs×Int},p ∈ ins x y l->p=(x,y)\/p ∈ l
 |[],p,h=>by simp only [ins,List.mem_singleton] at h;exact .inl h
 |(k,v)::l,p,h=>by
  simp only [ins] at h;split at h
  . rcases List.mem_cons.1 h with h|h
    . exact .inr (h ▸ List.mem_cons_self ..)
    . rcases pz_ h with h|h
      . exact .inl h
      . exact .inr (List.mem_cons_of_mem _ h)
  . split at h
    . rcases List.mem_cons.1 h with h|h
      . exact .inl h
      . exact .inr (List.mem_cons_of_mem _ h)
    . rcases List.mem_cons.1 h with h|h
      . exact .inl h
      . exact .inr h
theorem not_lt_lt {a b:Bs}(m:¬ a<b)(k:a≠b):b<a:=by
 rcases Decidable.em (b<a) with h|h
 . exact h
 . exact absurd (List.le_antisymm (List.not_lt.1 h) (List.not_lt.1 m)) k
theorem rI_ {x:Bs}{y:Int}:∀ {l:List (Bs×Int)},ht_ l->ht_ (ins x y l)
 |[],_=>⟨fun p m=>(by cases m),trivial⟩
 |(k,v)::l,h=>by
  simp only [ins];split
  . rename_i B
    exact ⟨fun p m=>(pz_ m).elim (fun e=>e ▸ B) (h.1 p),rI_ h.2⟩
  . split
    . rename_i z u
      subst u;exact ⟨h.1,h.2⟩
    . rename_i z u
      have hx:=not_lt_lt z u;exact ⟨fun p m=>by
       rcases List.mem_cons.1 m with e|m
       . rw [e];exact hx
       . exact List.lt_trans hx (h.1 p m),h⟩
theorem putL_nil {α:Type}{x:Bs}{y:α}:lu_ [] x [] y=[y]:=by simp [lu_]
theorem putL_cons {α:Type}{k x:Bs}{ns:List Bs}{a y:α}{l:List α}:lu_ (k::ns) x (a::l) y=if k<x then a::lu_ ns x l y else if k=x then y::l else y::a::l:=by
 by_cases h:k<x
 . have hb:Op.bytesLess k x=true:=by rw [f6_];exact decide_eq_true h
   have e1:el_ (k::ns) x=el_ ns x+1:=by unfold el_;rw [List.findIdx_cons];simp [hb]
   have e2:gW_ (k::ns) x=gW_ ns x+1:=by unfold gW_;rw [e1];simp only [List.getD_cons_succ,List.length_cons,Nat.add_lt_add_iff_right];split<;>rfl
   rw [if_pos h];unfold lu_;rw [e1,e2];simp
 . have hb:Op.bytesLess k x=false:=by rw [f6_];exact decide_eq_false h
   have e1:el_ (k::ns) x=0:=by unfold el_;rw [List.findIdx_cons];simp [hb]
   rw [if_neg h];unfold lu_ gW_;rw [e1];by_cases m:k=x
   . simp [m]
   . simp [m]
theorem pa_ {α:Type}(g:Bs×Int->α)(x:Bs)(y:Int):∀ l:List (Bs×Int),lu_ (l.map (·.1)) x (l.map g) (g (x,y))=(ins x y l).map g
 |[]=>by simp only [List.map_nil,ins,List.map_cons];exact putL_nil
 |(k,v)::l=>by
  simp only [List.map_cons,putL_cons,ins];split
  . rw [pa_ g x y l];rfl
  . split<;>rfl
theorem tK_ {k x:Bs}{ns:List Bs}:gW_ (k::ns) x=if k<x then gW_ ns x+1 else if k=x then 1 else 0:=by
 by_cases h:k<x
 . have hb:Op.bytesLess k x=true:=by rw [f6_];exact decide_eq_true h
   have e1:el_ (k::ns) x=el_ ns x+1:=by unfold el_;rw [List.findIdx_cons];simp [hb]
   unfold gW_;rw [e1,if_pos h];simp only [List.getD_cons_succ,List.length_cons,Nat.add_lt_add_iff_right];split<;>rfl
 . have hb:Op.bytesLess k x=false:=by rw [f6_];exact decide_eq_false h
   have e1:el_ (k::ns) x=0:=by unfold el_;rw [List.findIdx_cons];simp [hb]
   rw [if_neg h];unfold gW_;rw [e1];by_cases m:k=x
   . simp [m]
   . simp [m]
theorem asc_ne {x:Bs}:∀ {l:List (Bs×Int)},ht_ l->∀ i,gW_ (l.map (·.1)) x<=i->i<(l.map (·.1)).length->((l.map (·.1)).getD i []==x)=false
 |[],_,i,_,hi=>by simp at hi
 |(k,v)::l,h,i,z,hi=>by
  simp only [List.map_cons,tK_] at z;have u:∀ i',i'<(l.map (·.1)).length->k<(l.map (·.1)).getD i' []:=fun i' m=>by have J:=bB_ (d:=([]:Bs)) (a:=l.map (·.1)) (i:=i') m;obtain ⟨p,z,e⟩:=List.mem_map.1 J;rw [<-e];exact h.1 p z
  cases i with
  |zero=>
   simp only [List.map_cons,List.getD_cons_zero];by_cases B:k<x
   . rw [if_pos B] at z;omega
   . rw [if_neg B] at z
     by_cases I:k=x
     . rw [if_pos I] at z;omega
     . exact beq_eq_false_iff_ne.2 I
  |succ i=>
   have m:i<(l.map (·.1)).length:=by simpa using hi
   simp only [List.map_cons,List.getD_cons_succ];by_cases B:k<x
   . rw [if_pos B] at z
     exact asc_ne h.2 i (by omega) m
   . refine beq_eq_false_iff_ne.2 fun e=>B ?_
     rw [<-e];exact u i m
def rz_ (n:Int):aa_:=aa_.mk 2 n [] [] []
def objJ (l:List (Bs×Int)):aa_:=aa_.mk 5 0 [] (l.map fun p=>rz_ p.2) (l.map (·.1))
theorem m1_ {l:List (Bs×Int)}{x:Bs}{y:Int}(h:ht_ l)(hl:l.length<=2000000):Ev (fun n _=>bM_ n (objJ l) x (rz_ y)) (objJ (ins x y l)):=by
 have:=hQ_ (o:=objJ l) (j:=rz_ y) (x:=x) (by simp [objJ];exact hl) (by simp [objJ]) (fun z k=>by
  rw [f6_] at k;exact beq_eq_false_iff_ne.2 fun e=>by subst e;exact List.lt_irrefl z (of_decide_eq_true k)) (fun i u m=>asc_ne h i u m)
 refine gJ_ this ?_;have e1:=pa_ (fun p=>rz_ p.2) x y l;have e2:=pa_ (fun p=>p.1) x y l;show aa_.mk 5 0 [] (lu_ (l.map (·.1)) x (l.map fun p=>rz_ p.2) (rz_ y)) (lu_ (l.map (·.1)) x (l.map (·.1)) x)=_;rw [e1,e2];rfl
def no_ (c:Int):Bs:=99::Lib.itoa c
def ll_ (r:TRow)(c:Int):Bs×Int:=(no_ c,g8_ r c)
def fW_ (ps:List (Bs×Int)) (l:List (Bs×Int)):List (Bs×Int):=ps.foldl (fun l p=>ins p.1 p.2 l) l
theorem rJ_ (ps:List (Bs×Int)) (p:Bs×Int) (l:List (Bs×Int)):fW_ (ps++[p]) l=ins p.1 p.2 (fW_ ps l):=by simp [fW_]
theorem k3_:∀ (ps:List (Bs×Int)) {l:List (Bs×Int)},ht_ l->ht_ (fW_ ps l)
 |[],_,h=>h
 |p::ps,_,h=>k3_ ps (rI_ h)
theorem k2_:∀ {ps:List (Bs×Int)}{l:List (Bs×Int)}{p:Bs×Int},p ∈ fW_ ps l->p ∈ ps\/p ∈ l
 |[],_,_,h=>.inr h
 |q::ps,l,p,h=>by
  rcases k2_ (ps:=ps) h with h|h
  . exact .inl (List.mem_cons_of_mem _ h)
  . rcases pz_ h with h|h
    . exact .inl (h ▸ List.mem_cons_self ..)
    . exact .inr h
theorem pA_ {x:Bs}{y:Int}:∀ {l:List (Bs×Int)},(ins x y l).length<=l.length+1
 |[]=>Nat.le_refl _
 |(k,v)::l=>by
  have:=pA_ (x:=x) (y:=y) (l:=l);simp only [ins];split
  . simp only [List.length_cons];omega
  . split<;>simp only [List.length_cons]<;>omega
theorem hJ_:∀ {ps:List (Bs×Int)}{l:List (Bs×Int)},(fW_ ps l).length<=l.length+ps.length
 |[],_=>Nat.le_refl _
 |p::ps,l=>by have:=hJ_ (ps:=ps) (l:=ins p.1 p.2 l);have h:=pA_ (x:=p.1) (y:=p.2) (l:=l);simp only [List.length_cons];show (fW_ ps (ins p.1 p.2 l)).length<=_;omega
theorem me_ {α β:Type}(f:α->β)(d:α)(e:β){l:List α}{i:Nat}(h:i<l.length):(l.map f).getD i e=f (l.getD i d):=by rw [List.getD_eq_getElem?_getD,List.getD_eq_getElem?_getD,List.getElem?_map,List.getElem?_eq_getElem h];rfl
abbrev nmId:Bs:=[105,100]
abbrev nmKids:Bs:=[107,105,100,115]
abbrev i64 (x:Int):Prop:=-9223372036854775808<=x/\x<=9223372036854775807
def tZ_ (q:ax_)(kids:Int):List (Bs×Int):=cond q.kids [(nmKids,kids)] []
def FRowL (q:ax_)(r:TRow)(kids:Int):List (Bs×Int):=fW_ (tZ_ q kids) (ins nmId r.id_ (fW_ (q.show_.map (ll_ r)) []))
def p0_ (q:ax_)(r:TRow)(kids:Int):aa_:=objJ (FRowL q r kids)
theorem kidsL_len {q:ax_}{kids:Int}:(tZ_ q kids).length<=1:=by unfold tZ_;cases q.kids<;>simp
theorem FRowL_len {q:ax_}{r:TRow}{kids:Int}:(FRowL q r kids).length<=q.show_.length+2:=by
 have k:=hJ_ (ps:=q.show_.map (ll_ r)) (l:=[]);have u:=pA_ (x:=nmId) (y:=r.id_) (l:=fW_ (q.show_.map (ll_ r)) []);have p:=hJ_ (ps:=tZ_ q kids) (l:=ins nmId r.id_ (fW_ (q.show_.map (ll_ r)) []));have m:=kidsL_len (q:=q) (kids:=kids);simp at k
 unfold FRowL;omega
theorem r0_ {c:Int}(h:i64 c):(no_ c).length<=22:=by have:=Lib.itoa_length_le c h.1 h.2;simp only [no_,List.length_cons];omega
theorem si_ {q:ax_}{r:TRow}{kids:Int}(hs:∀ c ∈ q.show_,i64 c):∀ p ∈ FRowL q r kids,p.1.length<=22:=fun p k=>by
 rcases k2_ k with h|h
 . unfold tZ_ at h
   cases hq:q.kids<;>rw [hq] at h
   . cases h
   . rw [List.mem_singleton.1 h];show nmKids.length<=22;decide
 . rcases pz_ h with h|h
   . rw [h];show nmId.length<=22;decide
   . rcases k2_ h with h|h
     . obtain ⟨c,hc,e⟩:=List.mem_map.1 h
       rw [<-e];exact r0_ (hs c hc)
     . cases h
theorem mc_ {n:Int}:∀ d,gk_ d (rz_ n)
 |0=>trivial
 |d+1=>⟨⟨Nat.zero_le _,Nat.zero_le _,fun x hx=>(by cases hx)⟩,Nat.zero_le _,fun x hx=>(by cases hx)⟩
theorem lenJ_obj {l:List (Bs×Int)}(hl:l.length<=2000000)(hn:∀ p ∈ l,p.1.length<=22):∀ d,gk_ d (objJ l)
 |0=>trivial
 |d+1=>⟨⟨Nat.zero_le _,by simp [objJ,b9_];omega,fun x hx=>by
   obtain ⟨p,k,e⟩:=List.mem_map.1 hx;rw [<-e];have:=hn p k;simp only [b9_];omega⟩,by simp [objJ,b9_];omega,fun x hx=>by
   obtain ⟨p,k,e⟩:=List.mem_map.1 hx;rw [<-e];exact mc_ d⟩
theorem pq_ {q:ax_}{r:TRow}{kids:Int}(hq:q.show_.length<=1100000)(hs:∀ c ∈ q.show_,i64 c)(d:Nat):gk_ d (p0_ q r kids) :=
 lenJ_obj (by have:=FRowL_len (q:=q) (r:=r) (kids:=kids);omega) (si_ hs) d
theorem m2_ {j:aa_}(h:gk_ 6 j):Ev (fun n _=>du_ n j) (fe_ j):=by refine ak_ ?_;simp only [du_,aM_,ab_ (dc_ h),ag_,ac_,fe_,gi_];cases bU_ j<;>simp
theorem m3_ {x:Int}:Ev (fun n _=>dm_ n x) (rz_ x):=ak_ (by simp only [dm_,ac_,rz_])
section
variable {q:ax_} {r:TRow} {kids:Int} (hq:q.show_.length<=1100000) (hs:∀ c ∈ q.show_,i64 c) (hr:r.cells.length<=b9_)
include hq hs hr
theorem jr_:Ev (fun n _=>bQ_ n q r kids) (p0_ q r kids):=by
 refine ak_ ?_;simp only [bQ_]
 let S:Nat->aa_:=fun i=>objJ (fW_ ((q.show_.take i).map (ll_ r)) [])
 have:=eR_ S q.show_.length (fun n N i (s:aa_)=>bQ_.loop4 n (fun B5 B6 B7 B8 B9 B10 B11 B12 B13 B14 B15 B16 B17 B18 B19 B20 B21 B22 B23 B24=>((dm_ n B15).bind fun A25=>((bM_ n (aa_.mk B20 B21 B22 B23 B24) [105,100] (aa_.re A25)).bind fun A26=>(cond B12 ((dm_ n B5).bind fun A27=>((bM_ n (aa_.re A26) [107,105,100,115] (aa_.re A27)).bind fun A28=>(some (aa_.re A28)))) (some (aa_.re A26)))))) N kids (i:Int) q.table q.where_ q.order q.down q.first q.show_ q.kids q.kidTable q.kidCol r.id_ r.cells 0 0 [] s.kind s.n_ s.s s.list s.names) (p0_ q r kids) (fun i hi F m => ?_) ?_
 . exact this
 . have e2:fW_ ((q.show_.take (i+1)).map (ll_ r)) []=ins (no_ (q.show_.getD i 0)) (g8_ r (q.show_.getD i 0)) (fW_ ((q.show_.take i).map (ll_ r)) []):=by
    rw [cz_ 0 hi,List.map_append];exact rJ_ _ _ _
   have ha:ht_ (fW_ ((q.show_.take i).map (ll_ r)) []):=k3_ _ trivial;have k:=hJ_ (ps:=(q.show_.take i).map (ll_ r)) (l:=[]);simp only [S,e2] at m ⊢;generalize fW_ ((q.show_.take i).map (ll_ r)) []=l at m ha k ⊢;have p:l.length<=2000000:=by simp at k;omega
   have hc:=hs _ (bB_ 0 hi);have hd:=Lib.itoa_length_le _ hc.1 hc.2;have e0:TRow.mk r.id_ r.cells=r:=rfl;have e3:([99]:Bs)++Lib.itoa (q.show_.getD i 0)=no_ (q.show_.getD i 0):=rfl;simp only [bQ_.turn4,bQ_.step4,Int.toNat_natCast,W_up hi (show q.show_.length<=b9_ by simp only [b9_];omega),cD_ hi,cb_ hi,dx_,aM_,e0,e3,ag_,a2_,do_,ab_ (db_ hc.1 hc.2),ab_ (fq_ hr),ab_ m3_,ab_ (m1_ ha p)];simp only [aM_] at m;refine ⟨fun _=>⟨trivial,fun _=>⟨trivial,m⟩,fun h => ?_⟩,fun h=>(by cases h)⟩;have h:=of_decide_eq_false h;simp only [List.length_singleton] at h;omega
 . have ha:ht_ (fW_ (q.show_.map (ll_ r)) []):=k3_ _ trivial
   have k:=hJ_ (ps:=q.show_.map (ll_ r)) (l:=[]);have u:=pA_ (x:=nmId) (y:=r.id_) (l:=fW_ (q.show_.map (ll_ r)) []);simp at k
   simp only [bQ_.turn4,bQ_.step4,cj_,cond_false,S,List.take_length,dx_,aM_,ab_ m3_,ab_ (m1_ ha (show _<=2000000 by omega)),ab_ (m1_ (x:=nmKids) (y:=kids) (rI_ (x:=nmId) (y:=r.id_) ha) (show _<=2000000 by omega)),ag_,ac_];unfold p0_ FRowL tZ_;exact ⟨fun h=>by rw [h];rfl,fun h=>by rw [h];rfl⟩
end
structure bn_ where
 key:Int
 value:aa_
def bn_.dflt:bn_:=bn_.mk 0 aa_.dflt
def ck_ (l:List bn_):List Int:=l.map (·.key)
def kAt (ks:List Int)(k:Int):Int:=if ks.findIdx (fun y=>y==k)<ks.length then ((ks.findIdx (fun y=>y==k):Nat):Int) else -1
theorem rF_ {ks:List Int}{k:Int}:kAt ks k<0↔k ∉ ks:=by
 have e:(ks.findIdx (fun y=>y==k)<ks.length)↔k ∈ ks:=by rw [List.findIdx_lt_length];simp
 unfold kAt;by_cases h:k ∈ ks
 . rw [if_pos (e.2 h)];simp [h]
 . rw [if_neg (fun h'=>h (e.1 h'))];simp [h]
theorem om_ {ks:List Int}{k:Int}(h:k ∈ ks):∃ p:Nat,kAt ks k=p/\p<ks.length/\ks.getD p 0=k:=by
 have e:ks.findIdx (fun y=>y==k)<ks.length:=by rw [List.findIdx_lt_length];simp [h]
 refine ⟨_,by unfold kAt;rw [if_pos e],e,?_⟩;rw [List.getD_eq_getElem?_getD,List.getElem?_eq_getElem e,Option.getD_some];have:=List.findIdx_getElem (xs:=ks) (p:=fun y=>y==k) (w:=e);simpa using this
theorem qF_ {ks:List Int}{k:Int}{p:Nat}(h:kAt ks k=p):p<ks.length/\ks.getD p 0=k:=by
 have m:k ∈ ks:=Classical.byContradiction fun hn=>by have:=rF_.2 hn;omega
 obtain ⟨q,e,z,u⟩:=om_ m;have:q=p:=by omega
 subst this;exact ⟨z,u⟩
theorem he_ {ks:List Int}{k:Int}(hl:ks.length<=b9_):Ev (fun n _=>cA_ n ks k) (kAt ks k):=by
 refine ak_ ?_;unfold kAt;rw [<-hl_ 0];simp only [cA_];refine ni_ (fun n N i=>cA_.loop3 n (some (-1)) N ks k (i:Int)) _ (fun i u hi ih => ?_) ?_
 . simp only [cA_.turn3,cA_.step3,Int.toNat_natCast,W_up hi hl,ag_,a2_,ac_,dZ_ ih,cD_ hi,cb_ hi]
   clear ih;cases (ks.getD i 0==k)<;>simp
 . simp only [cA_.turn3,cA_.step3,cj_,cond_false,ac_]
theorem cU_ (l:List bn_):(ck_ l).length=l.length:=List.length_map _
def kOk (docs:List aa_)(keys:List Int):Bool:=decide (docs.length=keys.length)&&jm_ (fun i=>bU_ (docs.getD i aa_.dflt) && !decide (keys.getD i 0 ∈ keys.take i)) docs.length
def p2_ (docs:List aa_)(keys:List Int)(m:Nat):List bn_:=(List.range m).map fun i=>bn_.mk (keys.getD i 0) (docs.getD i aa_.dflt)
theorem i4_ {docs:List aa_}{keys:List Int}{m:Nat}:(p2_ docs keys m).length=m:=by unfold p2_;simp
theorem allN_and {p q:Nat->Bool}{len:Nat}:jm_ (fun i=>p i&&q i) len=(jm_ p len&&jm_ q len):=by rw [Bool.eq_iff_iff,Bool.and_eq_true,e7_,e7_,e7_];exact ⟨fun h=>⟨fun i hi=>(Bool.and_eq_true_iff.1 (h i hi)).1,fun i hi=>(Bool.and_eq_true_iff.1 (h i hi)).2⟩,fun h i hi=>by rw [h.1 i hi,h.2 i hi];rfl⟩
theorem jp_ {docs:List aa_}{keys:List Int}(hd:docs.length<=2000000)(J:keys.length<=2000000)(hJ:∀ j ∈ docs,gk_ 6 j):Ev (fun n _=>aJ_ n keys docs) (kOk docs keys):=by
 refine ak_ ?_;have z:docs.length<=b9_:=by simp only [b9_];omega
 have p:keys.length<=b9_:=by simp only [b9_];omega
 have e:kOk docs keys=(jm_ (fun i => !decide (keys.getD i 0 ∈ keys.take i)) keys.length&&(jm_ (fun i=>bU_ (docs.getD i aa_.dflt)) docs.length&&((keys.length:Int)==(docs.length:Int)))):=by
  unfold kOk;by_cases hl:docs.length=keys.length
  . rw [decide_eq_true hl,allN_and,<-hl]
    simp [Bool.and_comm]
  . rw [decide_eq_false hl]
    have:((keys.length:Int)==(docs.length:Int))=false:=by rw [beq_eq_false_iff_ne];omega
    rw [this];simp
 rw [e];simp only [aJ_];have u:Ev (fun n _=>aJ_.loop11 n (fun B5 B6=>(some ((B5.length:Int)==(B6.length:Int)))) n keys docs 0) (jm_ (fun i=>bU_ (docs.getD i aa_.dflt)) docs.length&&((keys.length:Int)==(docs.length:Int))):=by
  refine fv_ (fun n N i=>aJ_.loop11 n (fun B5 B6=>(some ((B5.length:Int)==(B6.length:Int)))) N keys docs (i:Int)) _ (fun i w hi ih => ?_) ?_
  . simp only [aJ_.turn11,aJ_.step11,aM_,Int.toNat_natCast,W_up hi z,ag_,a2_,ab_ (dc_ (hJ _ (bB_ aa_.dflt hi))),ac_,dZ_ ih,cD_ hi,cb_ hi]
    cases bU_ (docs.getD i aa_.dflt)<;>simp
  . simp only [aJ_.turn11,aJ_.step11,cj_,cond_false,ac_]
 refine fv_ (fun n N i=>aJ_.loop3 n (fun B2 B3=>(aJ_.loop11 n (fun B5 B6=>(some ((B5.length:Int)==(B6.length:Int)))) n B2 B3 0)) N keys docs (i:Int)) _ (fun i w hi ih => ?_) ?_
 . have I:=he_ (ks:=keys.take i) (k:=keys.getD i 0) (by simp;omega)
   have B:decide (kAt (keys.take i) (keys.getD i 0)>=0)=decide (keys.getD i 0 ∈ keys.take i):=by
    have:=rF_ (ks:=keys.take i) (k:=keys.getD i 0);by_cases m:keys.getD i 0 ∈ keys.take i
    . rw [decide_eq_true m,decide_eq_true];exact Int.not_lt.1 fun h=>this.1 h m
    . rw [decide_eq_false m,decide_eq_false];intro h;exact absurd (this.2 m) (by omega)
   simp only [aJ_.turn3,aJ_.step3,Int.toNat_natCast,List.drop_zero,W_up hi p,ag_,a2_,eH_,ab_ I,B,ac_,dZ_ ih,cD_ hi,cb_ hi];cases decide (keys.getD i 0 ∈ keys.take i)<;>simp<;>omega
 . simp only [aJ_.turn3,aJ_.step3,cj_,cond_false]
   exact u
def del {α:Type}(l:List α)(k:Nat):List α:=l.take k++l.drop (k+1)
def in_ {α:Type}(l:List α)(k:Nat)(x:α):List α:=l.take k++[x]++l.drop k
def rmOp (k:Nat):TOp:=TOp.mk 2 [Lib.itoa k] (aa_.mk 0 0 [] [] [])
def repOp (k:Nat)(j:aa_):TOp:=TOp.mk 3 [Lib.itoa k] j
def addOp (k:Nat)(j:aa_):TOp:=TOp.mk 1 [Lib.itoa k] j
theorem nl_ {α:Type}{l:List α}{k:Nat}(h:k<l.length):(del l k).length+1=l.length:=by simp only [del,List.length_append,List.length_take,List.length_drop];omega
theorem qJ_ {α:Type}{l:List α}{k:Nat}{x:α}(h:k<=l.length):(in_ l k x).length=l.length+1:=by simp only [in_,List.length_append,List.length_take,List.length_drop,List.length_cons,List.length_nil];omega
theorem del_mem {α:Type}{l:List α}{k:Nat}{x:α}(h:x ∈ del l k):x ∈ l:=by
 rcases List.mem_append.1 h with h|h
 . exact List.mem_of_mem_take h
 . exact List.mem_of_mem_drop h
theorem qH_ {α:Type}{l:List α}{k:Nat}{x y:α}(h:y ∈ in_ l k x):y=x\/y ∈ l:=by
 rcases List.mem_append.1 h with h|h
 . rcases List.mem_append.1 h with h|h
   . exact .inr (List.mem_of_mem_take h)
   . exact .inl (List.mem_singleton.1 h)
 . exact .inr (List.mem_of_mem_drop h)
theorem del_map {α β:Type}(f:α->β)(l:List α)(k:Nat):(del l k).map f=del (l.map f) k:=by simp only [del,List.map_append,List.map_take,List.map_drop]
theorem qI_ {α β:Type}(f:α->β)(l:List α)(k:Nat)(x:α):(in_ l k x).map f=in_ (l.map f) k (f x):=by simp only [in_,List.map_append,List.map_take,List.map_drop,List.map_cons,List.map_nil]
theorem n2_ {ks:List Int}{k:Nat}(h:k<ks.length)(hl:ks.length<=10000000):Ev (fun n _=>dp_ n ks (k:Int)) (del ks k):=by
 refine ak_ ?_;have m:=W_up h (show ks.length<=b9_ by simp only [b9_];omega);simp only [dp_,m,eH_,a6_,ac_,Int.toNat_natCast,List.drop_zero,List.nil_append,List.take_length,del,List.length_nil,List.length_take,List.length_drop]
 repeat' (first|apply And.intro)
 all_goals (first|trivial|rfl|omega)
theorem qG_ {ks:List Int}{k:Nat}{x:Int}(h:k<=ks.length)(hl:ks.length<=10000000):Ev (fun n _=>dP_ n ks (k:Int) x) (in_ ks k x):=by
 refine ak_ ?_;simp only [dP_,eH_,a6_,ac_,Int.toNat_natCast,List.drop_zero,List.nil_append,List.take_length,in_,List.length_nil,List.length_append,List.length_cons,List.length_take,List.length_drop]
 repeat' (first|apply And.intro)
 all_goals (first|trivial|rfl|omega)
def sE_ (nk:List Int)(old:List bn_):Nat->List bn_->List TOp->List bn_×List TOp
 |0,l,ops=>(l,ops)
 |k+1,l,ops=>if (old.getD k bn_.dflt).key ∈ nk then sE_ nk old k l ops else sE_ nk old k (del l k) (ops++[rmOp k])
theorem o7_ (nk:List Int)(old:List bn_):∀ k l ops,∀ x ∈ (sE_ nk old k l ops).1,x ∈ l
 |0,l,ops,x,h=>h
 |k+1,l,ops,x,h=>by
  simp only [sE_] at h;split at h
  . exact o7_ nk old k l ops x h
  . exact del_mem (o7_ nk old k (del l k) _ x h)
theorem l7_ (nk:List Int)(old:List bn_):∀ k l ops,k<=l.length->(sE_ nk old k l ops).1.length<=l.length/\(sE_ nk old k l ops).2.length<=ops.length+k
 |0,l,ops,_=>⟨Nat.le_refl _,Nat.le_refl _⟩
 |k+1,l,ops,h=>by
  simp only [sE_];split
  . have:=l7_ nk old k l ops (by omega);omega
  . have hd:=nl_ (l:=l) (k:=k) (by omega)
    have:=l7_ nk old k (del l k) (ops++[rmOp k]) (by omega);simp only [List.length_append,List.length_cons,List.length_nil] at this;omega
theorem dn_ge {k:Nat}:decide ((k:Int)>=0)=true:=decide_eq_true (by omega)
theorem dn_eq {k:Nat}:(((k+1:Nat):Int) - 1)=(k:Int):=by omega
theorem neg_dec {ks:List Int}{k:Int}:decide (kAt ks k<0) = !decide (k ∈ ks):=by
 have:=rF_ (ks:=ks) (k:=k);by_cases h:k ∈ ks
 . rw [decide_eq_true h,decide_eq_false (fun h'=>this.1 h' h)];rfl
 . rw [decide_eq_false h,decide_eq_true (this.2 h)];rfl
theorem f3_ {l:List bn_}{k:Nat}(h:k<l.length):(ck_ l).getD k 0=(l.getD k bn_.dflt).key:=me_ (fun x:bn_=>x.key) bn_.dflt 0 h
theorem rn_ {old now:List bn_}(hn:now.length<=2000000)(m:old.length<=2000000)(o t2:List aa_) (K:Nat->List aa_->List Int->List aa_->List Int->List TOp->List Int->Option (List TOp)) (F:List TOp):∀ k l ops,k<=old.length->k<=l.length->l.length<=2000000->ops.length+k<=2000000 ->
  Ev (fun n N=>K n o (ck_ old) t2 (ck_ now) (sE_ (ck_ now) old k l ops).2 (ck_ (sE_ (ck_ now) old k l ops).1)) F->Ev (fun n N=>aG_.loop5 n (K n) N o (ck_ old) t2 (ck_ now) ((k:Int) - 1) ops (ck_ l)) F
 |0,l,ops,_,_,_,_,hF=>by refine aY_ ?_;have e:decide ((((0:Nat):Int) - 1)>=0)=false:=rfl;simp only [aG_.turn5,aG_.step5,e,cond_false];exact hF
 |k+1,l,ops,hko,hk,hl,ho,hF=>by
  refine aY_ ?_;have p:k<(ck_ old).length:=by rw [cU_];omega
  have z:k<l.length:=by omega
  have u:k<(ck_ l).length:=by rw [cU_];omega
  have J:=f3_ (l:=old) (k:=k) (by omega);have O:=he_ (ks:=ck_ now) (k:=(old.getD k bn_.dflt).key) (by rw [cU_];simp only [b9_];omega);have B:=n2_ u (by rw [cU_];omega);have I:del (ck_ l) k=ck_ (del l k):=(del_map (fun x:bn_=>x.key) l k).symm;rw [I] at B;simp only [sE_] at hF;simp only [aG_.turn5,aG_.step5,dn_ge,dn_eq,cond_true,a2_,cb_ p,Int.toNat_natCast,J,ab_ O,neg_dec,ag_,W_dn (i:=k) (by simp only [b9_];omega),ab_ (db_ (x:=(k:Int)) (by omega) (by omega)),a6_,ab_ B];refine ⟨trivial,fun hc => ?_,fun hc => ?_⟩
  . have hc:¬ (old.getD k bn_.dflt).key ∈ ck_ now:=by simpa using hc
    rw [if_neg hc] at hF;have hd:=nl_ z;exact ⟨by simp only [List.length_cons,List.length_nil];omega,rn_ hn m o t2 K F k (del l k) _ (by omega) (by omega) (by omega) (by simp only [List.length_append,List.length_cons,List.length_nil];omega) hF⟩
  . have hc:(old.getD k bn_.dflt).key ∈ ck_ now:=by simpa using hc
    rw [if_pos hc] at hF;exact rn_ hn m o t2 K F k l ops (by omega) (by omega) hl (by omega) hF
def hM_ (l:List bn_)(i:Nat)(x:bn_):List bn_×List TOp :=
 if kAt (ck_ l) x.key=(i:Int) then (l,cond (eT_ 6 (l.getD i bn_.dflt).value x.value) [] [repOp i x.value])
 else if (i:Int)<kAt (ck_ l) x.key then (in_ (del l (kAt (ck_ l) x.key).toNat) i x,[rmOp (kAt (ck_ l) x.key).toNat,addOp i x.value])
 else (in_ l i x,[addOp i x.value])
def jQ_ (now:List bn_)(s:List bn_×List TOp):Nat->List bn_×List TOp
 |0=>s
 |i+1=>((hM_ (jQ_ now s i).1 i (now.getD i bn_.dflt)).1,(jQ_ now s i).2++(hM_ (jQ_ now s i).1 i (now.getD i bn_.dflt)).2)
theorem sY_ {l:List bn_}{k:Int}{i:Nat} (h:(i:Int)<kAt (ck_ l) k):∃ p:Nat,kAt (ck_ l) k=p/\i<p/\p<l.length:=by
 obtain ⟨p,m⟩:∃ p:Nat,kAt (ck_ l) k=p:=⟨(kAt (ck_ l) k).toNat,by omega⟩
 have:=(qF_ m).1;rw [cU_] at this;exact ⟨p,m,by omega,this⟩
theorem oF_ {l:List bn_}{i:Nat}{x:bn_}(h:i<=l.length):i+1<=(hM_ l i x).1.length/\(hM_ l i x).1.length<=l.length+1/\(hM_ l i x).2.length<=2:=by
 unfold hM_;by_cases u:kAt (ck_ l) x.key=(i:Int)
 . rw [if_pos u]
   have:=(qF_ u).1;rw [cU_] at this;refine ⟨by dsimp only;omega,by dsimp only;omega,?_⟩;dsimp only
   cases eT_ 6 (l.getD i bn_.dflt).value x.value<;>simp
 . rw [if_neg u]
   by_cases m:(i:Int)<kAt (ck_ l) x.key
   . rw [if_pos m]
     obtain ⟨p,z,I,B⟩:=sY_ m;rw [z,Int.toNat_natCast];have:=nl_ B;have:=qJ_ (l:=del l p) (k:=i) (x:=x) (by omega);exact ⟨by dsimp only;omega,by dsimp only;omega,Nat.le_refl _⟩
   . rw [if_neg m]
     have:=qJ_ (l:=l) (k:=i) (x:=x) h;exact ⟨by dsimp only;omega,by dsimp only;omega,by simp⟩
theorem un_ {l:List bn_}{i:Nat}{x y:bn_} (h:y ∈ (hM_ l i x).1):y=x\/y ∈ l:=by
 unfold hM_ at h;split at h
 . exact .inr h
 . split at h
   . rcases qH_ h with h|h
     . exact .inl h
     . exact .inr (del_mem h)
   . exact qH_ h
theorem kw_ (now:List bn_)(s:List bn_×List TOp):∀ i,i<=(jQ_ now s i).1.length/\(jQ_ now s i).1.length<=s.1.length+i/\(jQ_ now s i).2.length<=s.2.length+2*i
 |0=>⟨Nat.zero_le _,Nat.le_refl _,Nat.le_refl _⟩
 |i+1=>by have h:=kw_ now s i;have k:=oF_ (x:=now.getD i bn_.dflt) h.1;simp only [jQ_,List.length_append];omega
def okK (x:bn_):Prop:=bU_ x.value=true/\gk_ 6 x.value
theorem ma_ {x:bn_}(h:okK x):bp_ 6 x.value<=400:=of_decide_eq_true h.1
structure AddInv (old now:List bn_) (l:List bn_) (i:Nat):Prop where
 len:i<=l.length
 front:∀ j,j<i->(l.getD j bn_.dflt).key=(now.getD j bn_.dflt).key
 from_:∀ x ∈ l,x ∈ old\/∃ j,j<i/\x.key=(now.getD j bn_.dflt).key
def pN_ (now:List bn_):Prop:=∀ i j,i<j->j<now.length->(now.getD i bn_.dflt).key≠(now.getD j bn_.dflt).key
theorem qS_ {α:Type}(d:α){a b:List α}{j:Nat}(h:j<a.length):(a++b).getD j d=a.getD j d:=by rw [List.getD_eq_getElem?_getD,List.getD_eq_getElem?_getD,List.getElem?_append_left h]
theorem m6_ {l:List bn_}{i j:Nat}{x:bn_}(hi:i<=l.length)(h:j<i):(in_ l i x).getD j bn_.dflt=l.getD j bn_.dflt:=by
 have hl:(l.take i).length=i:=by simp;omega
 unfold in_;rw [List.append_assoc,qS_ _ (by omega),List.getD_eq_getElem?_getD,List.getD_eq_getElem?_getD,List.getElem?_take_of_lt h]
theorem s0_ {l:List bn_}{i:Nat}{x:bn_}(hi:i<=l.length):(in_ l i x).getD i bn_.dflt=x:=by
 have hl:(l.take i).length=i:=by simp;omega
 unfold in_;rw [List.append_assoc,List.getD_eq_getElem?_getD,List.getElem?_append_right (by omega),hl,Nat.sub_self];rfl
theorem del_front {l:List bn_}{p j:Nat}(k:p<=l.length)(h:j<p):(del l p).getD j bn_.dflt=l.getD j bn_.dflt:=by
 have hl:(l.take p).length=p:=by simp;omega
 unfold del;rw [qS_ _ (by omega),List.getD_eq_getElem?_getD,List.getD_eq_getElem?_getD,List.getElem?_take_of_lt h]
theorem r8_ {old now l:List bn_}{i:Nat}(h:AddInv old now l i)(hi:i<now.length):AddInv old now (hM_ l i (now.getD i bn_.dflt)).1 (i+1):=by
 refine ⟨(oF_ h.len).1,fun j z => ?_,fun x hx => ?_⟩
 . unfold hM_
   by_cases m:kAt (ck_ l) (now.getD i bn_.dflt).key=(i:Int)
   . rw [if_pos m]
     by_cases e:j=i
     . subst e
       obtain ⟨a,b⟩:=qF_ m;rw [cU_] at a;rw [<-b,f3_ a]
     . exact h.front j (by omega)
   . rw [if_neg m]
     by_cases k:(i:Int)<kAt (ck_ l) (now.getD i bn_.dflt).key
     . rw [if_pos k]
       obtain ⟨p,u,J,I⟩:=sY_ k;rw [u,Int.toNat_natCast];have B:=nl_ I;by_cases e:j=i
       . subst e;rw [s0_ (by omega)]
       . rw [m6_ (by omega) (by omega),del_front (by omega) (by omega)];exact h.front j (by omega)
     . rw [if_neg k]
       by_cases e:j=i
       . subst e;rw [s0_ h.len]
       . rw [m6_ h.len (by omega)];exact h.front j (by omega)
 . rcases un_ hx with e|hx
   . exact .inr ⟨i,by omega,by rw [e]⟩
   . rcases h.from_ x hx with h' | ⟨j,z,e⟩
     . exact .inl h'
     . exact .inr ⟨j,by omega,e⟩
theorem oG_ {old now:List bn_}{s:List bn_×List TOp}(k:∀ x ∈ s.1,x ∈ old):∀ i,i<=now.length->AddInv old now (jQ_ now s i).1 i
 |0,_=>⟨Nat.zero_le _,fun j m=>by omega,fun x hx=>.inl (k x hx)⟩
 |i+1,hi=>r8_ (oG_ k i (by omega)) (by omega)
theorem mm_ {l:List bn_}{k:Nat}(h:k<l.length):(l.map (·.value)).getD k aa_.dflt=(l.getD k bn_.dflt).value:=me_ (fun x:bn_=>x.value) bn_.dflt aa_.dflt h
theorem spec_add {old now:List bn_}{s:List bn_×List TOp}(hnl:now.length<=2000000)(hold:old.length<=2000000)(hsl:s.1.length<=2000000)(hol:s.2.length<=2000000)(hn:∀ x ∈ now,okK x)(ho:∀ x ∈ old,okK x)(h0:∀ x ∈ s.1,x ∈ old)
  (hd:pN_ now) (hod:∀ x ∈ old,∀ y ∈ old,x.key=y.key->x=y) :
  Ev (fun n _=>aG_.loop13 n (fun B21=>(some B21)) n (old.map (·.value)) (ck_ old) (now.map (·.value)) (ck_ now) 0 s.2 (ck_ s.1)) (jQ_ now s now.length).2:=by
 refine eR_ (jQ_ now s) now.length (fun n N i (z:List bn_×List TOp)=>aG_.loop13 n (fun B21=>(some B21)) N (old.map (·.value)) (ck_ old) (now.map (·.value)) (ck_ now) (i:Int) z.2 (ck_ z.1)) _ (fun i hi F m => ?_) ?_
 . have hL:=kw_ now s i
   have hI:=oG_ (now:=now) h0 i (by omega);simp only [jQ_] at m;obtain ⟨x,hx⟩:∃ x,x=now.getD i bn_.dflt:=⟨_,rfl⟩
   have hxo:okK x:=by rw [hx];exact hn _ (bB_ bn_.dflt hi)
   have u:i<(ck_ now).length:=by rw [cU_];exact hi
   have S:i<(now.map (·.value)).length:=by simpa using hi
   have hkey:(ck_ now).getD i 0=x.key:=by rw [f3_ hi,hx]
   have Y:(now.map (·.value)).getD i aa_.dflt=x.value:=by rw [mm_ hi,hx]
   rw [<-hx] at m;generalize jQ_ now s i=z at m hL hI ⊢;obtain ⟨l,ops⟩:=z;dsimp only at m hL hI ⊢
   have hA:=he_ (ks:=ck_ l) (k:=x.key) (by rw [cU_];simp only [b9_];omega);have hC:=dq_ 6 x.value (ma_ hxo);have hWi:=db_ (x:=(i:Int)) (by omega) (by omega);simp only [aG_.turn13,aG_.step13,aM_,Int.toNat_natCast,hkey,Y,W_up u (show (ck_ now).length<=b9_ by rw [cU_];simp only [b9_];omega),cD_ u,cb_ u,cb_ S,cond_true,a2_,ab_ hA,ab_ hWi];refine ⟨trivial,?_⟩;unfold hM_ at m;by_cases h1:kAt (ck_ l) x.key=(i:Int)
   . rw [if_pos h1] at m
     obtain ⟨V,O⟩:=qF_ h1;rw [cU_] at V;rw [f3_ V] at O;have B:l.getD i bn_.dflt ∈ old:=by
      rcases hI.from_ _ (bB_ bn_.dflt V) with h' | ⟨j,hj,e⟩
      . exact h'
      . exact absurd (by rw [<-e,O,hx]) (hd j i hj hi)
     have hin:x.key ∈ ck_ old:=List.mem_map.2 ⟨_,B,O⟩;obtain ⟨q,hq,hql,hqk⟩:=om_ hin
     have I:q<old.length:=by rwa [cU_] at hql
     have hqe:old.getD q bn_.dflt=l.getD i bn_.dflt:=hod _ (bB_ bn_.dflt I) _ B (by rw [<-f3_ I,hqk,O]);have hqv:(old.map (·.value)).getD q aa_.dflt=(l.getD i bn_.dflt).value:=by rw [mm_ I,hqe]
     have J:q<(old.map (·.value)).length:=by simpa using I
     have hB:=he_ (ks:=ck_ old) (k:=x.key) (by rw [cU_];simp only [b9_];omega);rw [hq] at hB;have Z:=ho _ B;have hK:=e0_ 6 (l.getD i bn_.dflt).value x.value (fE_ 6 _ (ma_ Z)) Z.2;simp only [h1,beq_self_eq_true,cond_true,a2_,ab_ hB,cb_ J,cb_ u,cb_ S,Int.toNat_natCast,hqv,ab_ hK,ag_,ab_ hC,a6_];refine ⟨trivial,trivial,trivial,fun hc => ?_,fun hc => ?_⟩
     . have hc:eT_ 6 (l.getD i bn_.dflt).value x.value=false:=by simpa using hc
       rw [hc] at m;exact ⟨trivial,by simp only [List.length_cons,List.length_nil];omega,m⟩
     . have hc:eT_ 6 (l.getD i bn_.dflt).value x.value=true:=by simpa using hc
       rw [hc] at m;simp only [cond_true,List.append_nil] at m;exact m
   . rw [if_neg h1] at m
     have T:(kAt (ck_ l) x.key==(i:Int))=false:=beq_eq_false_iff_ne.2 h1;by_cases h2:(i:Int)<kAt (ck_ l) x.key
     . rw [if_pos h2] at m
       obtain ⟨p,hp,h3,h4⟩:=sY_ h2;rw [hp,Int.toNat_natCast] at m;rw [hp] at h2 T;have hdl:=nl_ h4;have hpk:p<(ck_ l).length:=by rw [cU_];exact h4
       have hW:=n2_ hpk (by rw [cU_];omega);have hm:del (ck_ l) p=ck_ (del l p):=(del_map (fun x:bn_=>x.key) l p).symm;rw [hm] at hW;have hN:=qG_ (ks:=ck_ (del l p)) (k:=i) (x:=x.key) (by rw [cU_];omega) (by rw [cU_];omega);have U:in_ (ck_ (del l p)) i x.key=ck_ (in_ (del l p) i x):=(qI_ (fun x:bn_=>x.key) (del l p) i x).symm;rw [U] at hN;simp only [hp,T,decide_eq_true (show (p:Int)>=0 by omega),cond_true,cond_false,ab_ (db_ (x:=(p:Int)) (by omega) (by omega)),a6_,ab_ hW,a2_,cb_ u,cb_ S,ab_ hC,ab_ hN];refine ⟨by simp only [List.length_cons,List.length_nil];omega,trivial,by simp only [List.length_append,List.length_cons,List.length_nil];omega,trivial,?_⟩;rw [List.append_assoc];exact m
     . rw [if_neg h2] at m
       have hlt:kAt (ck_ l) x.key<0:=Classical.byContradiction fun hc=>by
        obtain ⟨q,hq⟩:∃ q:Nat,kAt (ck_ l) x.key=q:=⟨(kAt (ck_ l) x.key).toNat,by omega⟩
        have J:q<i:=by omega
        obtain ⟨a,b⟩:=qF_ hq;rw [cU_] at a;rw [f3_ a,hI.front q J,hx] at b;exact hd q i J hi b
       have hN:=qG_ (ks:=ck_ l) (k:=i) (x:=x.key) (by rw [cU_];omega) (by rw [cU_];omega);have U:in_ (ck_ l) i x.key=ck_ (in_ l i x):=(qI_ (fun x:bn_=>x.key) l i x).symm;rw [U] at hN;simp only [T,decide_eq_false (show ¬ kAt (ck_ l) x.key>=0 by omega),cond_false,a2_,cb_ u,cb_ S,ab_ hC,a6_,ab_ hN];exact ⟨trivial,by simp only [List.length_cons,List.length_nil];omega,trivial,m⟩
 . have e:((ck_ now).length:Int)=(now.length:Int):=by rw [cU_]
   simp only [aG_.turn13,aG_.step13,e,cj_,cond_false,ac_]
def jT_ (kids:List TKid)(id:Int):Int:=hm_ (fun i x=>cond ((kids.getD i TKid.dflt).id_==id) (kids.getD i TKid.dflt).n_ x) 0 kids.length 0
theorem jt_ {v:bF_}{id:Int}(h:v.kids.length<=b9_):Ev (fun n _=>b7_ n v id) (jT_ v.kids id):=by
 refine ak_ ?_;simp only [b7_];refine ni_ (fun n N i=>b7_.loop3 n (some 0) N id (i:Int) v.q.table v.q.where_ v.q.order v.q.down v.q.first v.q.show_ v.q.kids v.q.kidTable v.q.kidCol v.rows v.kids) _ (fun i u hi ih => ?_) ?_
 . simp only [b7_.turn3,b7_.step3,Int.toNat_natCast,W_up hi h,ag_,a2_,ac_,dZ_ ih,cD_ hi,cb_ hi]
   cases ((v.kids.getD i TKid.dflt).id_==id)<;>simp
 . simp only [b7_.turn3,b7_.step3,cj_,cond_false,ac_]
def fC_ (v:bF_):List Int:=v.rows.map fun r=>jT_ v.kids r.id_
theorem view_eta (v:bF_):bF_.mk (ax_.mk v.q.table v.q.where_ v.q.order v.q.down v.q.first v.q.show_ v.q.kids v.q.kidTable v.q.kidCol) v.rows v.kids=v:=rfl
theorem kO_ {v:bF_}(h:v.kids.length<=b9_)(hr:v.rows.length<=fI_):Ev (fun n _=>ba_ n v) (fC_ v):=by
 refine ak_ ?_;have hl:=hr;simp only [fI_] at hl;simp only [ba_];refine qY_ TRow.dflt v.rows (fun r=>jT_ v.kids r.id_) (fun n N i s=>ba_.loop4 n (fun B2=>(some B2)) N (i:Int) v.q.table v.q.where_ v.q.order v.q.down v.q.first v.q.show_ v.q.kids v.q.kidTable v.q.kidCol v.rows v.kids s) (fC_ v) (fun i s hi hs F k => ?_) ?_
 . simp only [ba_.turn4,ba_.step4,view_eta,Int.toNat_natCast,W_up hi (show v.rows.length<=b9_ by simp only [b9_];omega),ag_,a2_,ab_ (jt_ (v:=v) (id:=(v.rows.getD i TRow.dflt).id_) h),a6_,cD_ hi,cb_ hi]
   exact ⟨fun _=>⟨trivial,by simp;omega,k⟩,fun h=>by cases h⟩
 . simp only [ba_.turn4,ba_.step4,cj_,cond_false,ac_];rfl
def il_ (q:ax_)(n:Nat):Nat:=if q.first=0 then n else min n q.first.toNat
theorem fx_ {q:ax_}{n:Nat}:Ev (fun m _=>dQ_ m q (n:Int)) (il_ q n:Int):=by refine ak_ ?_;have k:∀ a b:Int,Ev (fun m _=>fi_ m a b) (min a b):=fun a b=>ak_ (by simp only [fi_,ag_,ac_,decide_eq_true_eq,decide_eq_false_iff_not];constructor<;>intro h<;>omega);have p:∀ a b:Int,Ev (fun m _=>cT_ m a b) (max a b):=fun a b=>ak_ (by simp only [cT_,ag_,ac_,decide_eq_true_eq,decide_eq_false_iff_not];constructor<;>intro h<;>omega);simp only [dQ_,ag_,ac_,ab_ (k _ _),ab_ (p _ _),il_];refine ⟨fun h=>by rw [if_pos (by simpa using h)],fun h => ?_⟩;rw [if_neg (by simpa using h)];omega
def kH_ (g:aa_->aa_)(q:ax_)(rows:List TRow)(kids:List Int)(m:Nat):List aa_:=(List.range m).map fun i=>g (p0_ q (rows.getD i TRow.dflt) (kids.getD i 0))
theorem oP_ {g:aa_->aa_}{q:ax_}{rows:List TRow}{kids:List Int}{m:Nat}:kH_ g q rows kids (m+1)=kH_ g q rows kids m++[g (p0_ q (rows.getD m TRow.dflt) (kids.getD m 0))]:=by unfold kH_;rw [List.range_succ,List.map_append];rfl
theorem kG_ {g:aa_->aa_}{q:ax_}{rows:List TRow}{kids:List Int}{m:Nat}:(kH_ g q rows kids m).length=m:=by unfold kH_;simp
abbrev nmCount:Bs:=[99,111,117,110,116]
abbrev lx_:Bs:=[114,111,119,115]
def oH_ (n:Nat)(docs:List aa_):aa_:=aa_.mk 5 0 [] [rz_ n,aa_.mk 4 0 [] docs []] [nmCount,lx_]
theorem nz_ {q:ax_}{n:Nat}:il_ q n<=n:=by unfold il_;split<;>omega
def FDoc (q:ax_)(rows:List TRow)(kids:List Int):aa_:=fe_ (oH_ rows.length (kH_ id q rows kids (il_ q rows.length)))
theorem tW_ {n:Nat}{docs:List aa_}(hl:docs.length<=b9_)(hd:∀ j ∈ docs,gk_ 4 j):gk_ 6 (oH_ n docs):=by
 refine ⟨⟨Nat.zero_le _,by show 2<=b9_;decide,fun x hx => ?_⟩,by show 2<=b9_;decide,fun x hx => ?_⟩
 . rcases List.mem_cons.1 hx with e|hx
   . rw [e];show 5<=b9_;decide
   . rw [List.mem_singleton.1 hx];show 4<=b9_;decide
 . rcases List.mem_cons.1 hx with e|hx
   . rw [e];exact mc_ 5
   . rw [List.mem_singleton.1 hx]
     exact ⟨⟨Nat.zero_le _,Nat.zero_le _,fun x hx=>(by cases hx)⟩,hl,hd⟩
theorem qA_ {q:ax_}{rows:List TRow}{kids:List Int}(hq:q.show_.length<=1100000)(hs:∀ c ∈ q.show_,i64 c)(hl:rows.length<=2000000){m:Nat}(p:m<=rows.length):gk_ 6 (oH_ rows.length (kH_ id q rows kids m)):=by refine tW_ (by rw [kG_];simp only [b9_];omega) fun j k => ?_;obtain ⟨i,_,e⟩:=List.mem_map.1 k;rw [<-e];exact pq_ hq hs 4
section
variable {q:ax_} {rows:List TRow} {kids:List Int} (hq:q.show_.length<=1100000) (hs:∀ c ∈ q.show_,i64 c) (hr:hV_ b9_ rows) (hl:rows.length<=2000000)
include hq hs hr hl
theorem oZ_ (O:kids.length<=b9_):Ev (fun n _=>cg_ n q rows kids) (FDoc q rows kids):=by
 refine ak_ ?_;simp only [cg_];have p:=nz_ (q:=q) (n:=rows.length);have B:ax_.mk q.table q.where_ q.order q.down q.first q.show_ q.kids q.kidTable q.kidCol=q:=rfl;have:=eR_ (kH_ id q rows kids) (il_ q rows.length) (fun n N i (s:List aa_)=>cg_.loop4 n (fun B4 B5 B6 B7 B8 B9 B10 B11=>((dm_ n (B4.length:Int)).bind fun A12=>((du_ n (aa_.mk 5 0 [] ([(aa_.re A12),(aa_.mk B8 B9 B10 B11 [])]:List aa_) ([[99,111,117,110,116],[114,111,119,115]]:List Bs))).bind fun A13=>(some (aa_.re A13))))) N rows kids (i:Int) q.table q.where_ q.order q.down q.first q.show_ q.kids q.kidTable q.kidCol 0 0 [] 4 0 [] s) (FDoc q rows kids) (fun i hi F p => ?_) ?_
 . exact this
 . have z:i<rows.length:=by omega
   have J:∀ k,Ev (fun n _=>bQ_ n q (rows.getD i TRow.dflt) k) (p0_ q (rows.getD i TRow.dflt) k):=fun k=>jr_ hq hs (jf_ hr i);rw [oP_] at p;simp only [aM_] at p;have u:=kG_ (g:=id) (q:=q) (rows:=rows) (kids:=kids) (m:=i);generalize kH_ id q rows kids i=s at p u;simp only [cg_.turn4,cg_.step4,B,Int.toNat_natCast,aM_,W_up z (show rows.length<=b9_ by simp only [b9_];omega),ab_ fx_,ab_ (J _),decide_eq_true (show ((i:Int)<(il_ q rows.length:Int)) by omega),cb_ z,cond_true,ag_,a2_,a6_];refine ⟨fun h=>⟨⟨by omega,by have:=of_decide_eq_true h;omega⟩,trivial,by simp;omega,p⟩,fun h=>⟨trivial,by simp;omega,?_⟩⟩;have h:=of_decide_eq_false h;have e:kids.getD i 0=0:=by rw [List.getD_eq_getElem?_getD,List.getElem?_eq_none (by omega)];rfl
   rw [e] at p;exact p
 . have I:=m2_ (qA_ hq hs hl (kids:=kids) p)
   unfold oH_ at I;simp only [cg_.turn4,cg_.step4,B,aM_,ab_ fx_,cj_,cond_false,ab_ m3_,ab_ I,ac_];rfl
end
def fz_ (v:bF_):aa_:=FDoc v.q v.rows (fC_ v)
theorem sl_ {v:bF_}:(fC_ v).length=v.rows.length:=by unfold fC_;simp
theorem hV_.top {r:List TRow}(h:hV_ cap r):hV_ b9_ r:=⟨Nat.le_trans h.1 (by decide),fun x hx=>Nat.le_trans (h.2 x hx) (by decide)⟩
section
variable {v:bF_} (h:kX_ cap v) (hs:∀ c ∈ v.q.show_,i64 c)
include h hs
theorem hi_:gk_ 6 (fz_ v):=by
 have m:=h.1.2;have k:=h.2.1.1;simp only [cap] at m k;unfold fz_ FDoc fe_;have:=qA_ (kids:=fC_ v) (rows:=v.rows) (show v.q.show_.length<=1100000 by omega) hs (by omega) (nz_ (q:=v.q));cases bU_ (oH_ v.rows.length (kH_ id v.q v.rows (fC_ v) (il_ v.q v.rows.length))) with
 |true=>exact this
 |false=>exact ⟨⟨Nat.zero_le _,Nat.zero_le _,fun x hx=>(by cases hx)⟩,Nat.zero_le _,fun x hx=>(by cases hx)⟩
theorem fL_:Ev (fun n _=>dE_ n v) (fz_ v):=by refine ak_ ?_;have u:=h.1.2;have p:=h.2.1.1;have m:=h.2.2;simp only [cap] at u p m;have hc:=sl_ (v:=v);have k:=oZ_ (q:=v.q) (rows:=v.rows) (kids:=fC_ v) (by omega) hs h.2.1.top (by omega) (by simp only [b9_];omega);simp only [dE_,aM_,ab_ (kO_ (v:=v) (by simp only [b9_];omega) (by simp only [fI_];omega)),ab_ k,ac_];rfl
end
def pZ_ (old now:List bn_):List TOp:=(jQ_ now (sE_ (ck_ now) old old.length old []) now.length).2
def g6_ (docs:List aa_)(keys:List Int)(docs':List aa_)(keys':List Int):List TOp:=cond (kOk docs keys) (cond (kOk docs' keys') (pZ_ (p2_ docs keys docs.length) (p2_ docs' keys' docs'.length)) []) []
structure KIs (docs:List aa_) (keys:List Int):Prop where
 len:docs.length=keys.length
 ok:∀ i,i<docs.length->bU_ (docs.getD i aa_.dflt)=true
 no:∀ i,i<docs.length->keys.getD i 0 ∉ keys.take i
theorem k_is {docs:List aa_}{keys:List Int}(h:kOk docs keys=true):KIs docs keys:=by
 unfold kOk at h;rw [Bool.and_eq_true,e7_] at h;refine ⟨of_decide_eq_true h.1,fun i hi => ?_,fun i hi => ?_⟩
 . have:=h.2 i hi
   rw [Bool.and_eq_true] at this;exact this.1
 . have:=h.2 i hi
   rw [Bool.and_eq_true] at this;simpa using this.2
theorem ml_ {docs:List aa_}{keys:List Int}{m i:Nat}(h:i<m):(p2_ docs keys m).getD i bn_.dflt=bn_.mk (keys.getD i 0) (docs.getD i aa_.dflt):=by
 unfold p2_;rw [me_ (fun i=>bn_.mk (keys.getD i 0) (docs.getD i aa_.dflt)) 0 bn_.dflt (by simpa using h)];have:(List.range m).getD i 0=i:=by rw [List.getD_eq_getElem?_getD,List.getElem?_range h];rfl
 rw [this]
theorem of_ {α:Type}(d:α)(l:List α):(List.range l.length).map (fun i=>l.getD i d)=l:=by
 apply List.ext_getElem?;intro i;by_cases h:i<l.length
 . rw [List.getElem?_map,List.getElem?_range h,List.getElem?_eq_getElem h]
   simp only [Option.map_some];rw [List.getD_eq_getElem?_getD,List.getElem?_eq_getElem h];rfl
 . rw [List.getElem?_eq_none (by simpa using h),List.getElem?_eq_none (by omega)]
theorem mk_ {docs:List aa_}{keys:List Int}:(p2_ docs keys docs.length).map (·.value)=docs:=by unfold p2_;rw [List.map_map];exact of_ aa_.dflt docs
theorem p4_ {docs:List aa_}{keys:List Int}(h:docs.length=keys.length):ck_ (p2_ docs keys docs.length)=keys:=by unfold ck_ p2_;rw [List.map_map,h];exact of_ 0 keys
theorem pm_ {α:Type}(d:α){l:List α}{x:α}(h:x ∈ l):∃ i,i<l.length/\l.getD i d=x:=by obtain ⟨i,hi,e⟩:=List.mem_iff_getElem.1 h;exact ⟨i,hi,by rw [List.getD_eq_getElem?_getD,List.getElem?_eq_getElem hi];exact e⟩
theorem oS_ {α:Type}(d:α){l:List α}{i j:Nat}(h:i<j)(k:j<=l.length):l.getD i d ∈ l.take j:=by
 have e:(l.take j).getD i d=l.getD i d:=by rw [List.getD_eq_getElem?_getD,List.getD_eq_getElem?_getD,List.getElem?_take_of_lt h]
 rw [<-e];exact bB_ d (by simp;omega)
theorem jW_ {docs:List aa_}{keys:List Int}(h:KIs docs keys):pN_ (p2_ docs keys docs.length):=by intro i j m k;rw [i4_] at k;rw [ml_ (by omega),ml_ k];intro e;have e:keys.getD i 0=keys.getD j 0:=e;exact h.no j k (e ▸ oS_ 0 m (by have:=h.len;omega))
theorem pM_ {l:List bn_}(h:pN_ l):∀ x ∈ l,∀ y ∈ l,x.key=y.key->x=y:=by
 intro x hx y m e;obtain ⟨i,hi,ei⟩:=pm_ bn_.dflt hx;obtain ⟨j,p,ej⟩:=pm_ bn_.dflt m;rcases Nat.lt_trichotomy i j with k|k|k
 . exact absurd (by rw [ei,ej,e]) (h i j k p)
 . subst k;rw [<-ei,<-ej]
 . exact absurd (by rw [ei,ej,e]) (h j i k hi)
theorem rj_ {docs:List aa_}{keys:List Int}(h:KIs docs keys)(hJ:∀ j ∈ docs,gk_ 6 j):∀ x ∈ p2_ docs keys docs.length,okK x:=by intro x hx;obtain ⟨i,hi,e⟩:=pm_ bn_.dflt hx;rw [i4_] at hi;rw [ml_ hi] at e;rw [<-e];exact ⟨h.ok i hi,hJ _ (bB_ aa_.dflt hi)⟩
section
variable {docs docs':List aa_} {keys keys':List Int} (hd:docs.length<=1500000) (hd':docs'.length<=1500000) (hJ:∀ j ∈ docs,gk_ 6 j) (hJ':∀ j ∈ docs',gk_ 6 j)
include hd hd' hJ hJ'
theorem qi_ (I:keys.length<=1500000)(p:keys'.length<=1500000):Ev (fun n _=>fs_ n docs keys docs' keys') (g6_ docs keys docs' keys'):=by
 refine ak_ ?_;simp only [fs_,ab_ (jp_ (docs:=docs) (keys:=keys) (by omega) (by omega) hJ),ab_ (jp_ (docs:=docs') (keys:=keys') (by omega) (by omega) hJ'),ag_,ac_,g6_];cases B:kOk docs keys with
 |false=>exact ⟨fun _=>rfl,fun h=>(by cases h)⟩
 |true=>
  cases z:kOk docs' keys' with
  |false=>exact ⟨fun h=>(by cases h),fun _=>⟨fun _=>rfl,fun h=>(by cases h)⟩⟩
  |true=>
   refine ⟨fun h=>(by cases h),fun _=>⟨fun h=>(by cases h),fun _ => ?_⟩⟩;simp only [cond_true];have k1:=k_is B;have k2:=k_is z;have o1:=rj_ k1 hJ;have o2:=rj_ k2 hJ';have d1:=pM_ (jW_ k1);have d2:=jW_ k2;have l1:=i4_ (docs:=docs) (keys:=keys) (m:=docs.length);have l2:=i4_ (docs:=docs') (keys:=keys') (m:=docs'.length);have u:Ev (fun n _=>aG_ n docs keys docs' keys') (pZ_ (p2_ docs keys docs.length) (p2_ docs' keys' docs'.length)):=by have v1:=mk_ (docs:=docs) (keys:=keys);have v2:=mk_ (docs:=docs') (keys:=keys');have e1:=p4_ k1.len;have e2:=p4_ k2.len;generalize p2_ docs keys docs.length=old at o1 l1 d1 v1 e1 ⊢;generalize p2_ docs' keys' docs'.length=now at o2 l2 d2 v2 e2 ⊢;subst e1 e2 v1 v2;simp only [List.length_map] at l1 l2 hd hd';have hr:=l7_ (ck_ now) old old.length old [] (Nat.le_refl _);have k:=o7_ (ck_ now) old old.length old [];simp only [List.length_nil] at hr;refine ak_ ?_;simp only [aG_,a6_,List.nil_append,List.length_nil,cU_,W_dn (show old.length<=b9_ by simp only [b9_];omega)];refine ⟨by omega,?_⟩;refine c3_ (f:=fun n N=>aG_.loop5 n (fun B4 B5 B6 B7 B8 B9=>(aG_.loop13 n (fun B21=>(some B21)) n B4 B5 B6 B7 0 B8 B9)) N (old.map (·.value)) (ck_ old) (now.map (·.value)) (ck_ now) ((old.length:Int) - 1) [] (ck_ old)) (rn_ (old:=old) (by omega) (by omega) _ _ (fun n B4 B5 B6 B7 B8 B9=>(aG_.loop13 n (fun B21=>(some B21)) n B4 B5 B6 B7 0 B8 B9)) _ old.length old [] (Nat.le_refl _) (Nat.le_refl _) (by omega) (by simp only [List.length_nil];omega) ?_);exact spec_add (by omega) (by omega) (by omega) (by omega) o2 o1 (fun x hx=>k x hx) d2 d1
   simp only [ab_ u,ac_]
end
def opK (o:TOp):Prop:=(∃ t:Bs,t.length<=25/\o.way=[t])/\bp_ 6 o.value<=400/\gk_ 6 o.value
theorem null_size:bp_ 6 (aa_.mk 0 0 [] [] [])<=400:=by decide
theorem k1_ {k:Nat}(h:k<=4000000):(Lib.itoa (k:Int)).length<=25:=by have:=Lib.itoa_length_le (k:Int) (by omega) (by omega);omega
theorem rmOp_ok {k:Nat}(h:k<=4000000):opK (rmOp k):=⟨⟨_,k1_ h,rfl⟩,null_size,fP_ 6⟩
theorem o6_ (nk:List Int)(old:List bn_):∀ k l ops,k<=4000000->(∀ o ∈ ops,opK o)->∀ o ∈ (sE_ nk old k l ops).2,opK o
 |0,l,ops,_,h=>h
 |k+1,l,ops,hk,h=>by
  simp only [sE_];split
  . exact o6_ nk old k l ops (by omega) h
  . refine o6_ nk old k (del l k) _ (by omega) fun o m => ?_
    rcases List.mem_append.1 m with m|m
    . exact h o m
    . rw [List.mem_singleton.1 m];exact rmOp_ok (by omega)
theorem um_ {l:List bn_}{i:Nat}{x:bn_}(hl:l.length<=4000000)(hi:i<=4000000)(hx:okK x):∀ o ∈ (hM_ l i x).2,opK o:=by
 have ha:∀ k,k<=4000000->opK (addOp k x.value):=fun k u=>⟨⟨_,k1_ u,rfl⟩,ma_ hx,hx.2⟩
 have hr:∀ k,k<=4000000->opK (repOp k x.value):=fun k u=>⟨⟨_,k1_ u,rfl⟩,ma_ hx,hx.2⟩
 unfold hM_;by_cases B:kAt (ck_ l) x.key=(i:Int)
 . rw [if_pos B]
   dsimp only
   cases eT_ 6 (l.getD i bn_.dflt).value x.value with
   |true=>intro o m;cases m
   |false=>intro o m;rw [List.mem_singleton.1 m];exact hr i hi
 . rw [if_neg B]
   by_cases z:(i:Int)<kAt (ck_ l) x.key
   . rw [if_pos z]
     obtain ⟨p,I,O,J⟩:=sY_ z;intro o m;rw [I,Int.toNat_natCast] at m;rcases List.mem_cons.1 m with e|m
     . rw [e];exact rmOp_ok (by omega)
     . rw [List.mem_singleton.1 m];exact ha i hi
   . rw [if_neg z]
     intro o m;rw [List.mem_singleton.1 m];exact ha i hi
theorem ra_ {now:List bn_}{s:List bn_×List TOp}(p:now.length<=1500000)(m:s.1.length<=1500000)(hn:∀ x ∈ now,okK x)(h:∀ o ∈ s.2,opK o):∀ i,i<=now.length->∀ o ∈ (jQ_ now s i).2,opK o
 |0,_=>h
 |i+1,hi=>by
  intro o k;simp only [jQ_] at k;have u:=kw_ now s i;rcases List.mem_append.1 k with k|k
  . exact ra_ p m hn h i (by omega) o k
  . exact um_ (by omega) (by omega) (hn _ (bB_ bn_.dflt (by omega))) o k
theorem uv_ {docs docs':List aa_}{keys keys':List Int}(hd:docs.length<=1500000)(hd':docs'.length<=1500000)(hJ:∀ j ∈ docs,gk_ 6 j)(hJ':∀ j ∈ docs',gk_ 6 j):(∀ o ∈ g6_ docs keys docs' keys',opK o)/\(g6_ docs keys docs' keys').length<=docs.length+2*docs'.length:=by
 unfold g6_;cases z:kOk docs keys with
 |false=>exact ⟨fun o k=>(by cases k),Nat.zero_le _⟩
 |true=>
  cases p:kOk docs' keys' with
  |false=>exact ⟨fun o k=>(by cases k),Nat.zero_le _⟩
  |true=>
   simp only [cond_true,pZ_];have o2:=rj_ (k_is p) hJ';have l1:=i4_ (docs:=docs) (keys:=keys) (m:=docs.length);have l2:=i4_ (docs:=docs') (keys:=keys') (m:=docs'.length);generalize p2_ docs keys docs.length=old at l1 ⊢;generalize p2_ docs' keys' docs'.length=now at o2 l2 ⊢;have hr:=l7_ (ck_ now) old old.length old [] (Nat.le_refl _);have u:=kw_ now (sE_ (ck_ now) old old.length old []) now.length;simp only [List.length_nil] at hr;exact ⟨ra_ (by omega) (by omega) o2 (o6_ _ _ _ _ _ (by omega) fun o k=>(by cases k)) now.length (Nat.le_refl _),by omega⟩
def underOp (name:Bs)(o:TOp):TOp:=TOp.mk o.kind (name::o.way) o.value
def rd_ (name:Bs)(l:List TOp):List TOp:=l.map (underOp name)
def lenO (l:List TOp):Prop:=l.length<=6000000/\∀ o ∈ l,o.way.length<=1000000/\bp_ 6 o.value<=400
theorem oV_ {name:Bs}{l:List TOp}(h:lenO l):Ev (fun n _=>cd_ n name l) (rd_ name l):=by
 refine ak_ ?_;have hl:=h.1;have m:l.length<=b9_:=by simp only [b9_];omega
 simp only [cd_];refine qY_ TOp.dflt l (underOp name) (fun n N i (s:List TOp)=>cd_.loop4 n (fun B2=>(some B2)) N name l (i:Int) s) _ (fun i s hi hs F p => ?_) ?_
 . have k:=h.2 _ (bB_ TOp.dflt hi)
   have u:=dq_ 6 _ k.2;have z:=k.1;simp only [cd_.turn4,cd_.step4,aM_,Int.toNat_natCast,W_up hi m,cD_ hi,cb_ hi,cond_true,a2_,a6_,ab_ u];exact ⟨trivial,trivial,by simp only [List.length_cons,List.length_nil];omega,trivial,by simp only [List.length_cons,List.length_nil];omega,p⟩
 . simp only [cd_.turn4,cd_.step4,cj_,cond_false,ac_];rfl
def kz_ (v:bF_):Nat:=il_ v.q v.rows.length
def eS_ (v:bF_):List aa_:=kH_ fe_ v.q v.rows (fC_ v) (kz_ v)
def eL_ (v:bF_):List Int:=(List.range (kz_ v)).map fun i=>(v.rows.getD i TRow.dflt).id_
theorem i0_ (v:bF_):kz_ v<=v.rows.length:=nz_
theorem ids_next (v:bF_)(i:Nat):((List.range (i+1)).map fun i=>(v.rows.getD i TRow.dflt).id_)=((List.range i).map fun i=>(v.rows.getD i TRow.dflt).id_)++[(v.rows.getD i TRow.dflt).id_]:=by rw [List.range_succ,List.map_append];rfl
theorem rZ_ {v:bF_}{i:Nat}(h:i<v.rows.length):(fC_ v).getD i 0=jT_ v.kids (v.rows.getD i TRow.dflt).id_:=me_ (fun r:TRow=>jT_ v.kids r.id_) TRow.dflt 0 h
section
variable {v:bF_} (h:kX_ cap v) (hs:∀ c ∈ v.q.show_,i64 c)
include h hs
theorem it_:Ev (fun n _=>bq_ n v) (eS_ v,eL_ v):=by
 refine ak_ ?_;have V:=h.1.2;have U:=h.2.1.1;have T:=h.2.2;simp only [cap] at V U T;have Y:=i0_ v;simp only [bq_]
 let S:Nat->List aa_×List Int:=fun i=>(kH_ fe_ v.q v.rows (fC_ v) i,(List.range i).map fun i=>(v.rows.getD i TRow.dflt).id_)
 have:=eR_ S (kz_ v) (fun n N i (s:List aa_×List Int)=>bq_.loop5 n (fun B4 B5=>(some (B4,B5))) N (i:Int) v.q.table v.q.where_ v.q.order v.q.down v.q.first v.q.show_ v.q.kids v.q.kidTable v.q.kidCol v.rows v.kids s.1 s.2) (eS_ v,eL_ v) (fun i hi F B => ?_) ?_
 . exact this
 . have p:i<v.rows.length:=by omega
   simp only [S,oP_,ids_next,rZ_ p] at B ⊢;have I:=kG_ (g:=fe_) (q:=v.q) (rows:=v.rows) (kids:=fC_ v) (m:=i);have z:((List.range i).map fun i=>(v.rows.getD i TRow.dflt).id_).length=i:=by simp
   generalize ((List.range i).map fun i=>(v.rows.getD i TRow.dflt).id_)=s2 at B z ⊢;generalize kH_ fe_ v.q v.rows (fC_ v) i=s1 at B I ⊢;have e0:ax_.mk v.q.table v.q.where_ v.q.order v.q.down v.q.first v.q.show_ v.q.kids v.q.kidTable v.q.kidCol=v.q:=rfl;have e1:bF_.mk v.q v.rows v.kids=v:=rfl;have O:=jt_ (v:=v) (id:=(v.rows.getD i TRow.dflt).id_) (by simp only [b9_];omega);have u:=jf_ h.2.1.top i;have J:Ev (fun n _=>eW_ n v.q (v.rows.getD i TRow.dflt) (jT_ v.kids (v.rows.getD i TRow.dflt).id_)) (fe_ (p0_ v.q (v.rows.getD i TRow.dflt) (jT_ v.kids (v.rows.getD i TRow.dflt).id_))) :=
    ak_ (by simp only [eW_,aM_,ab_ (jr_ (q:=v.q) (by omega) hs u),ab_ (m2_ (pq_ (q:=v.q) (by omega) hs 6)),ac_])
   have k:decide ((i:Int)<(il_ v.q v.rows.length:Int))=true:=decide_eq_true (by unfold kz_ at hi;omega);simp only [bq_.turn5,bq_.step5,e0,e1,aM_,Int.toNat_natCast,W_up p (show v.rows.length<=b9_ by simp only [b9_];omega),ab_ fx_,k,cb_ p,cond_true,a2_,ab_ O,ab_ J,a6_];exact ⟨trivial,trivial,by simp only [List.length_cons,List.length_nil];omega,trivial,by simp only [List.length_cons,List.length_nil];omega,B⟩
 . have e0:ax_.mk v.q.table v.q.where_ v.q.order v.q.down v.q.first v.q.show_ v.q.kids v.q.kidTable v.q.kidCol=v.q:=rfl
   have k:decide ((kz_ v:Int)<(il_ v.q v.rows.length:Int))=false:=decide_eq_false (by unfold kz_;omega);simp only [bq_.turn5,bq_.step5,e0,ab_ fx_,k,cond_false,ac_];rfl
theorem jc_:∀ j ∈ eS_ v,gk_ 6 j:=by
 have m:=h.1.2;simp only [cap] at m;intro j k;obtain ⟨i,_,e⟩:=List.mem_map.1 k;rw [<-e];unfold fe_;cases bU_ (p0_ v.q (v.rows.getD i TRow.dflt) ((fC_ v).getD i 0)) with
 |true=>exact pq_ (by omega) hs 6
 |false=>exact fP_ 6
end
theorem gP_ (v:bF_):(eS_ v).length=kz_ v:=kG_
theorem oI_ (v:bF_):(eL_ v).length=kz_ v:=by unfold eL_;simp
def h7_ (a b:bF_):List TOp:=cond (!decide (a.rows.length=b.rows.length)) [TOp.mk 3 [nmCount] (fe_ (rz_ b.rows.length))] []
def er_ (a b:bF_):List TOp:=cond (lj_ a.q b.q) (h7_ a b++rd_ lx_ (g6_ (eS_ a) (eL_ a) (eS_ b) (eL_ b))) []
theorem oX_ {n:Nat}:Ev (fun m _=>fk_ m (n:Int)) (fe_ (rz_ n)):=by refine ak_ ?_;have:=dc_ (mc_ (n:=(n:Int)) 6);unfold fe_;unfold rz_ at this ⊢;simp only [fk_,ab_ this,ag_,ac_,gi_];cases bU_ (aa_.mk 2 (n:Int) [] [] [])<;>simp
section
variable {a b:bF_} (ha:kX_ cap a) (hb:kX_ cap b) (hsa:∀ c ∈ a.q.show_,i64 c) (hsb:∀ c ∈ b.q.show_,i64 c)
include ha hb hsa hsb
theorem mM_:lenO (g6_ (eS_ a) (eL_ a) (eS_ b) (eL_ b))/\(∀ o ∈ g6_ (eS_ a) (eL_ a) (eS_ b) (eL_ b),opK o)/\(g6_ (eS_ a) (eL_ a) (eS_ b) (eL_ b)).length<=a.rows.length+2*b.rows.length:=by have p:=ha.2.1.1;have m:=hb.2.1.1;simp only [cap] at p m;have:=i0_ a;have:=i0_ b;obtain ⟨k1,k2⟩:=uv_ (keys:=eL_ a) (keys':=eL_ b) (by rw [gP_];omega) (by rw [gP_];omega) (jc_ ha hsa) (jc_ hb hsb);rw [gP_,gP_] at k2;refine ⟨⟨by omega,fun o k=>⟨?_,(k1 o k).2.1⟩⟩,k1,by omega⟩;obtain ⟨t,_,e⟩:=(k1 o k).1;rw [e];exact (by decide:1<=1000000)
theorem hC_:Ev (fun n _=>dr_ n a b) (er_ a b):=by
 refine ak_ ?_;have z:=ha.2.1.1;have u:=hb.2.1.1;simp only [cap] at z u;have n1:=i0_ a;have n2:=i0_ b;obtain ⟨r1,_,r3⟩:=mM_ ha hb hsa hsb;have p:=qi_ (docs:=eS_ a) (keys:=eL_ a) (docs':=eS_ b) (keys':=eL_ b) (by rw [gP_];omega) (by rw [gP_];omega) (jc_ ha hsa) (jc_ hb hsb) (by rw [oI_];omega) (by rw [oI_];omega);have m:=oV_ (name:=lx_) r1;have hq:uy_ b9_ a.q:=⟨Nat.le_trans ha.1.1 (by decide),Nat.le_trans ha.1.2 (by decide)⟩
 have k:(rd_ lx_ (g6_ (eS_ a) (eL_ a) (eS_ b) (eL_ b))).length=(g6_ (eS_ a) (eL_ a) (eS_ b) (eL_ b)).length:=List.length_map _;simp only [dr_,ab_ (kP_ hq),sL_,ag_,aM_,ab_ oX_,ab_ (it_ ha hsa),ab_ (it_ hb hsb),ab_ p,ab_ m,a6_,ac_,List.nil_append,List.length_nil,er_,h7_];cases lj_ a.q b.q with
 |false=>exact ⟨fun _=>rfl,fun h=>(by cases h)⟩
 |true=>
  refine ⟨fun h=>(by cases h),fun _=>⟨fun hc=>⟨?_,?_,?_⟩,fun hc=>⟨?_,?_⟩⟩⟩
  . simp only [List.length_cons,List.length_nil];omega
  . simp only [List.length_cons,List.length_nil];omega
  . rw [hc];rfl
  . omega
  . rw [hc];rfl
theorem ly_ (hab:a.rows.length+b.rows.length<=1500000):kk_ (er_ a b):=by
 obtain ⟨r1,r2,r3⟩:=mM_ ha hb hsa hsb;unfold er_;cases lj_ a.q b.q with
 |false=>exact ⟨Nat.zero_le _,fun o k=>(by cases k)⟩
 |true=>
  have u:(rd_ lx_ (g6_ (eS_ a) (eL_ a) (eS_ b) (eL_ b))).length=(g6_ (eS_ a) (eL_ a) (eS_ b) (eL_ b)).length:=List.length_map _;have hcl:(h7_ a b).length<=1:=by unfold h7_;cases (!decide (a.rows.length=b.rows.length))<;>simp
  refine ⟨by simp only [cond_true,List.length_append];omega,fun o k => ?_⟩;rw [cond_true] at k;rcases List.mem_append.1 k with k|k
  . unfold h7_ at k
    cases hc:(!decide (a.rows.length=b.rows.length))<;>rw [hc] at k
    . cases k
    . rw [List.mem_singleton.1 k]
      refine ⟨⟨by show 1<=b9_;decide,fun x hx => ?_⟩,?_⟩
      . rw [List.mem_singleton.1 hx];show 5<=b9_;decide
      . show gk_ 6 (fe_ (rz_ b.rows.length))
        unfold fe_;cases bU_ (rz_ b.rows.length) with
        |true=>exact mc_ 6
        |false=>exact fP_ 6
  . obtain ⟨o',m,e⟩:=List.mem_map.1 k
    obtain ⟨⟨t,z,e2⟩,_,p⟩:=r2 o' m;rw [<-e];refine ⟨⟨?_,fun x hx => ?_⟩,p⟩
    . show (lx_::o'.way).length<=b9_
      rw [e2];show 2<=b9_;decide
    . have hx:x ∈ lx_::o'.way:=hx
      rw [e2] at hx;rcases List.mem_cons.1 hx with e3|hx
      . rw [e3];show 4<=b9_;decide
      . rw [List.mem_singleton.1 hx];simp only [b9_];omega
end
theorem kQ_ {l:List TOp}(h:kk_ l):Ev (fun n _=>a3_ n l) (eP_ l):=by
 refine ak_ ?_;have hl:=h.1;have B:l.length<=b9_:=by simp only [b9_];omega
 have hb:fG_ l<=l.length:=List.findIdx_le_length;simp only [a3_];have:=eR_ (fun i=>(l.take i).map cN_) (fG_ l) (fun n N i (o:List aa_)=>a3_.loop4 n (fun B2 B3 B4 B5=>((c9_ n (aa_.mk B2 B3 B4 B5 [])).bind fun A6=>(cond (A6==[]) (some (-1)) (some (A6.length:Int))))) N l (i:Int) 4 0 [] o) (eP_ l) (fun i hi F u => ?_) ?_
 . exact this
 . have k:i<l.length:=by omega
   have hx:=ft_ (h.2 _ (bB_ TOp.dflt k));rw [pn_ cN_ TOp.dflt k] at u;have p:((l.take i).map cN_).length<=i:=by simp;omega
   generalize (l.take i).map cN_=o at u p ⊢;simp only [a3_.turn4,a3_.step4,aM_,fu_,Int.toNat_natCast,W_up k B,cD_ k,cb_ k,lg_ hi,cond_true,cond_false,a2_,a6_,ab_ hx];exact ⟨trivial,by simp;omega,u⟩
 . by_cases m:fG_ l<l.length
   . have hx:=ft_ (h.2 _ (bB_ TOp.dflt m))
     simp only [a3_.turn4,a3_.step4,aM_,fu_,Int.toNat_natCast,cD_ m,cb_ m,bad_at m,cond_true,a2_,ab_ hx,ac_];unfold eP_;rw [decide_eq_true m];exact ⟨trivial,rfl⟩
   . have e:fG_ l=l.length:=by omega
     have z:=eC_ (kl_ h);unfold eP_;rw [decide_eq_false m,cond_false];unfold eI_ at z ⊢;rw [e,List.take_length];simp only [a3_.turn4,a3_.step4,cj_,cond_false,ab_ z,ag_,ac_];generalize bC_ _=s;cases (s==[])<;>simp
def kA_ (a b:bF_):Bool:=decide (((er_ a b).length:Int)<=40)&&(decide (eP_ (er_ a b)>=0)&&decide (eP_ (er_ a b)<((bC_ (fz_ b)).length:Int)))
section
variable {a b:bF_} (ha:kX_ cap a) (hb:kX_ cap b) (hsa:∀ c ∈ a.q.show_,i64 c) (hsb:∀ c ∈ b.q.show_,i64 c) (hab:a.rows.length+b.rows.length<=1500000)
include ha hb hsa hsb hab
theorem mz_:Ev (fun n _=>eu_ n a b) (kA_ a b):=by refine ak_ ?_;have k:=kQ_ (ly_ ha hb hsa hsb hab);have m:=eC_ (hi_ hb hsb);simp only [eu_,aM_,ab_ (hC_ ha hb hsa hsb),ab_ k,ag_,ab_ (fL_ hb hsb),ab_ m,ac_,kA_];cases decide (((er_ a b).length:Int)<=40)<;>cases decide (eP_ (er_ a b)>=0)<;>simp
end
def FDue (x:c1_):Bool:=!x.began || !g7_ (fz_ x.view) (fz_ x.last)
def intsS (x:c1_):Prop:=(∀ c ∈ x.view.q.show_,i64 c)/\∀ c ∈ x.last.q.show_,i64 c
theorem mB_ {x:c1_}(h:lenS cap x)(hi:intsS x):Ev (fun n _=>ew_ n x) (FDue x):=by refine ak_ ?_;simp only [ew_,aM_,ab_ (fL_ h.1 hi.1),ab_ (fL_ h.2 hi.2),ab_ (if_ (hi_ h.1 hi.1) (hi_ h.2 hi.2)),ag_,ac_,FDue];cases x.began<;>simp
def noEv:ar_:=ar_.mk 0 0 0 (aa_.mk 0 0 [] [] []) []
def FEvOf (x:c1_):ar_:=cond (x.began&&kA_ x.last x.view) (ar_.mk 2 x.version x.lastVersion (aa_.mk 0 0 [] [] []) (er_ x.last x.view)) (ar_.mk 1 x.version 0 (fz_ x.view) [])
def FTaken (x:c1_):c1_:=c1_.mk x.view x.version x.view x.version true
def gs_ (x:c1_):c1_×ar_×Bool:=cond (FDue x) (FTaken x,FEvOf x,true) (x,noEv,false)
section
variable {x:c1_} (h:lenS cap x) (hi:intsS x) (hr:x.last.rows.length+x.view.rows.length<=1500000)
include h hi hr
theorem lP_:Ev (fun n _=>dR_ n x) (gs_ x):=by
 have k:lenS fI_ x:=⟨h.1.upto (by decide),h.2.upto (by decide)⟩
 refine ak_ ?_;simp only [dR_,aM_,qD_ k,ab_ (mB_ h hi),ag_,ab_ (fL_ h.1 hi.1),ab_ (mz_ h.2 h.1 hi.2 hi.1 hr),ab_ (hC_ h.2 h.1 hi.2 hi.1),iF_ k.1,ac_,gs_,FTaken,FEvOf,noEv];cases FDue x<;>cases x.began<;>cases kA_ x.last x.view<;>simp
end
def fA_ (v:bF_)(l:List aX_):bF_:=l.foldl ln_ v
theorem sn_ {c:Nat}{v:bF_}{x:aX_}(h:kX_ c v)(hx:ri_ c x):kX_ (c+2) (ln_ v x):=by
 have hr:hV_ (c+1) (tv_ v x):=by have k:=nA_ (id:=x.old.id_) h.2.1;unfold tv_;cases (x.table==v.q.table)<;>cases (x.has&&gM_ v.q x.new)<;>cases x.had<;>simp only [cond_true,cond_false];all_goals (first|exact mh_ k hx.2|exact mh_ h.2.1 hx.2|exact k.upto (by omega)|exact h.2.1.upto (by omega))
 have m:(tw_ v x).length<=c+2:=by have z:=h.2.2;have k:=mj_ (kids:=v.kids) (id:=g8_ x.old v.q.kidCol) (by_:=-1);have u:=mj_ (kids:=v.kids) (id:=g8_ x.new v.q.kidCol) (by_:=1);have p:=mj_ (kids:=FKid v.kids (g8_ x.old v.q.kidCol) (-1)) (id:=g8_ x.new v.q.kidCol) (by_:=1);unfold tw_;cases (v.q.kids&&(x.table==v.q.kidTable))<;>cases x.has<;>cases x.had<;>simp only [cond_true,cond_false]<;>omega
 exact ⟨⟨Nat.le_trans h.1.1 (by omega),Nat.le_trans h.1.2 (by omega)⟩,hr.upto (by omega),m⟩
theorem lJ_ {c:Nat}{v:bF_}{l:List aX_}(h:kX_ c v)(hl:∀ x ∈ l,ri_ c x):kX_ (c+2*l.length) (fA_ v l):=by
 have k:∀ (l:List aX_)(d:Nat)(v:bF_),c<=d->kX_ d v->(∀ x ∈ l,ri_ c x)->kX_ (d+2*l.length) (fA_ v l):=by
  intro l;induction l with
  |nil=>intro d v _ h _;exact h
  |cons x l ih=>
   intro d v hd h hl;have hx:=hl x (List.mem_cons_self ..);have:=ih (d+2) (ln_ v x) (by omega) (sn_ h ⟨Nat.le_trans hx.1 hd,Nat.le_trans hx.2 hd⟩) (fun y m=>hl y (List.mem_cons_of_mem _ m));simp only [List.length_cons];rw [show d+2*(l.length+1)=d+2+2*l.length by omega];exact this
 exact k l c v (Nat.le_refl _) h hl
section
variable {v:bF_} {l:List aX_} (h:kX_ cap v) (hl:l.length<=cap) (hx:∀ x ∈ l,ri_ cap x)
include h hl hx
omit hl in
theorem q5_ {i:Nat}(hi:i<l.length):kX_ (cap+2*i) (fA_ v (l.take i))/\ri_ (cap+2*i) (l.getD i aX_.dflt)/\fA_ v (l.take (i+1))=ln_ (fA_ v (l.take i)) (l.getD i aX_.dflt):=by
 refine ⟨?_,?_,?_⟩
 . have:=lJ_ (l:=l.take i) h fun x h=>hx x (List.mem_of_mem_take h)
   rwa [List.length_take,Nat.min_eq_left (by omega)] at this
 . have:=hx _ (bB_ aX_.dflt hi)
   exact ⟨Nat.le_trans this.1 (by omega),Nat.le_trans this.2 (by omega)⟩
 . rw [cz_ aX_.dflt hi];simp only [fA_,List.foldl_append,List.foldl_cons,List.foldl_nil]
theorem jE_:Ev (fun n _=>aS_ n v l) (fA_ v l):=by
 refine ak_ ?_;simp only [cap] at hl;have m:l.length<=b9_:=by simp only [b9_];omega
 simp only [aS_,iF_ (h.upto (show cap<=fI_ by decide))];refine eR_ (fun i=>fA_ v (l.take i)) l.length (fun n N i (s:bF_)=>aS_.loop4 n (fun B3 B4 B5 B6 B7 B8 B9 B10 B11 B12 B13 B14 B15 B16 B17 B18 B19 B20=>(some (bF_.mk (ax_.mk B10 B17 B11 B12 B13 B18 B14 B15 B16) B19 B20))) N l (i:Int) 0 0 false 0 false 0 0 s.q.table s.q.order s.q.down s.q.first s.q.kids s.q.kidTable s.q.kidCol s.q.where_ s.q.show_ s.rows s.kids) _ (fun i hi F k => ?_) ?_
 . obtain ⟨a,b,e⟩:=q5_ h hx hi
   have hs:=j3_ a b (by simp only [fI_,cap];omega);rw [e] at k;simp only [aS_.turn4,aS_.step4,Int.toNat_natCast,W_up hi m,ag_,a2_,cD_ hi,cb_ hi];refine ⟨fun _=>⟨trivial,?_⟩,fun h=>by cases h⟩;exact (ab_ hs).2 k
 . simp only [aS_.turn4,aS_.step4,cj_,cond_false,ac_,List.take_length]
end
def pY_ (x:c1_)(l:List aX_):c1_:={ x with view:=fA_ x.view l,version:=W (x.version+1) }
section
variable {x:c1_} {l:List aX_} (h:lenS cap x) (hl:l.length<=cap) (hx:∀ x ∈ l,ri_ cap x)
include h hl hx
omit hl hx in
theorem lenS.toR:lenS fI_ x:=⟨h.1.upto (by decide),h.2.upto (by decide)⟩
theorem nM_:Ev (fun n _=>dJ_ n x l) (pY_ x l):=by refine ak_ ?_;simp only [dJ_,qD_ (lenS.toR h),ab_ (jE_ h.1 hl hx),ac_];rfl
end
def kB_ (s:aA_)(q:ax_):c1_×Bool:=cond (hA_ s q).2 (c1_.mk (hA_ s q).1 s.version tz_ 0 false,true) (c1_.mk tz_ 0 tz_ 0 false,false)
theorem mA_ {s:aA_}{q:ax_}{c:Nat}(hl:f2_ c s)(hq:uy_ 100000 q)(hc:c<=100000):Ev (fun n _=>ev_ n s q) (kB_ s q):=by refine ak_ ?_;simp only [ev_,ab_ (nL_ hl hq hc),ag_,ac_];unfold kB_;cases (hA_ s q).2<;>simp [tz_,zeroQ]
theorem jX_ (c:Nat):kX_ c tz_:=⟨⟨Nat.zero_le _,Nat.zero_le _⟩,⟨Nat.zero_le _,fun x hx=>(by cases hx)⟩,Nat.zero_le _⟩
theorem sg_ {s:aA_}{q:ax_}{c:Nat}(hl:f2_ c s)(hq:uy_ c q):kX_ (c+c) (hA_ s q).1:=by
 have m:∀ i,hV_ c (s.tables.getD i []):=fun i=>gm_ hl.2.2 i;unfold hA_;cases FSQ s q
 . exact jX_ _
 . refine ⟨⟨Nat.le_trans hq.1 (Nat.le_add_right _ _),Nat.le_trans hq.2 (Nat.le_add_right _ _)⟩,?_,?_⟩
   . show hV_ (c+c) (h6_ s q)
     unfold h6_;cases FSQ s q
     . exact ⟨Nat.zero_le _,fun x hx=>(by cases hx)⟩
     . have:=nv_ (c:=c) (q:=q) (rows:=s.tables.getD q.table.toNat []) (o:=[]) (k:=0) ⟨Nat.zero_le _,fun x hx=>(by cases hx)⟩ (m _).2
       exact this.upto (by have:=(m q.table.toNat).1;omega)
   . show (mi_ s q).length<=c+c
     unfold mi_;cases q.kids
     . exact Nat.zero_le _
     . have:=nx_ (q:=q) (rows:=s.tables.getD q.kidTable.toNat []) (k:=[])
       have:=(m q.kidTable.toNat).1;simp only [cond_true,List.length_nil] at *;omega
structure SsIn (c:Nat) (x:c1_):Prop where
 len:lenS c x
 v:∀ y ∈ x.view.q.show_,0<=y/\y<=1000
 l:∀ y ∈ x.last.q.show_,0<=y/\y<=1000
theorem SsIn.ints {c:Nat}{x:c1_}(h:SsIn c x):intsS x:=⟨fun y k=>by have:=h.v y k;unfold i64;omega,fun y k=>by have:=h.l y k;unfold i64;omega⟩
theorem SsIn.upto {c d:Nat}{x:c1_}(h:SsIn c x)(hc:c<=d):SsIn d x:=⟨⟨h.len.1.upto hc,h.len.2.upto hc⟩,h.v,h.l⟩
theorem tE_ {s:aA_}{q:ax_}{c:Nat}(hs:f2_ c s)(hq:QIn q)(hc:1010<=c):SsIn (c+c) (kB_ s q).1:=by
 have p:=sg_ hs (q:=q) ⟨Nat.le_trans hq.len.1 hc,Nat.le_trans hq.len.2 hc⟩;unfold kB_;cases m:(hA_ s q).2
 . exact ⟨⟨jX_ _,jX_ _⟩,fun y k=>(by cases k),fun y k=>(by cases k)⟩
 . refine ⟨⟨p,jX_ _⟩,?_,fun y k=>(by cases k)⟩
   show ∀ y ∈ (hA_ s q).1.q.show_,_;unfold hA_ at m ⊢;cases h:FSQ s q<;>rw [h] at m
   . cases m
   . exact hq.show_
theorem mH_ {x:c1_}{c:Nat}(h:SsIn c x):SsIn c (gs_ x).1:=by
 unfold gs_;cases FDue x
 . exact h
 . exact ⟨⟨h.len.1,h.len.1⟩,h.v,h.v⟩
theorem changes_q (l:List aX_)(v:bF_):(fA_ v l).q=v.q:=by
 unfold fA_;induction l generalizing v with
 |nil=>rfl
 |cons x l ih=>rw [List.foldl_cons,ih];rfl
theorem sessGo_in {x:c1_}{l:List aX_}{c:Nat}(h:SsIn c x)(hl:∀ y ∈ l,ri_ c y)(k:l.length<=5):SsIn (c+10) (pY_ x l):=by refine ⟨⟨(lJ_ h.len.1 hl).upto (by omega),h.len.2.upto (by omega)⟩,?_,h.l⟩;show ∀ y ∈ (fA_ x.view l).q.show_,_;rw [changes_q];exact h.v
theorem SsIn.take {c:Nat}{x:c1_}(h:SsIn c x)(hc:c<=700000):Ev (fun n _=>dR_ n x) (gs_ x) :=
 lP_ ⟨h.len.1.upto (by simp only [cap];omega),h.len.2.upto (by simp only [cap];omega)⟩ h.ints (by have:=h.len.1.2.1.1;have:=h.len.2.2.1.1;omega)
theorem SsIn.go {c:Nat}{x:c1_}{l:List aX_}(h:SsIn c x)(hc:c<=700000)(hl:∀ y ∈ l,ri_ c y)(m:l.length<=5):Ev (fun n _=>dJ_ n x l) (pY_ x l) :=
 nM_ ⟨h.len.1.upto (by simp only [cap];omega),h.len.2.upto (by simp only [cap];omega)⟩ (by simp only [cap];omega) fun y k=>⟨Nat.le_trans (hl y k).1 (by simp only [cap];omega),Nat.le_trans (hl y k).2 (by simp only [cap];omega)⟩
theorem sess_etaD (x:c1_):c1_.mk x.view x.version x.last x.lastVersion x.began=x:=rfl
theorem view_etaD (x:bF_):bF_.mk x.q x.rows x.kids=x:=rfl
structure EvDw (e:ar_):Prop where
 len:pt_ e
 doc:aa_.size e.doc<=2000000000
 few:e.ops.length<=3900000
section
variable {a b:bF_} (ha:kX_ cap a) (hb:kX_ cap b) (hsa:∀ c ∈ a.q.show_,i64 c) (hsb:∀ c ∈ b.q.show_,i64 c)
include ha hb hsa hsb
theorem patch_few (hab:a.rows.length+b.rows.length<=1500000):(er_ a b).length<=3900000:=by
 obtain ⟨r1,r2,r3⟩:=mM_ ha hb hsa hsb;unfold er_;cases lj_ a.q b.q with
 |false=>exact Nat.zero_le _
 |true=>
  have k:(rd_ lx_ (g6_ (eS_ a) (eL_ a) (eS_ b) (eL_ b))).length=(g6_ (eS_ a) (eL_ a) (eS_ b) (eL_ b)).length:=List.length_map _;have hcl:(h7_ a b).length<=1:=by unfold h7_;cases (!decide (a.rows.length=b.rows.length))<;>simp
  simp only [cond_true,List.length_append];omega
end
theorem evOf_in {x:c1_}{c:Nat}(h:SsIn c x)(hc:c<=700000):EvDw (FEvOf x):=by
 have k1:kX_ cap x.view:=h.len.1.upto (by simp only [cap];omega);have k2:kX_ cap x.last:=h.len.2.upto (by simp only [cap];omega);unfold FEvOf;cases (x.began&&kA_ x.last x.view)
 . refine ⟨⟨hi_ k1 h.ints.1,Nat.zero_le _,fun o k=>(by cases k)⟩,?_,Nat.zero_le _⟩
   have:bU_ (fz_ x.view)=true\/fz_ x.view=gi_:=by
    unfold fz_ FDoc fe_;cases h:bU_ (oH_ x.view.rows.length (kH_ id x.view.q x.view.rows (fC_ x.view) (il_ x.view.q x.view.rows.length)))
    . exact .inr rfl
    . exact .inl h
   rcases this with h|h
   . have h:=of_decide_eq_true h
     have:=md_ 6 _ h;show aa_.size (fz_ x.view)<=_;omega
   . show aa_.size (fz_ x.view)<=_;rw [h];decide
 . have hab:x.last.rows.length+x.view.rows.length<=1500000:=by have:=h.len.1.2.1.1;have:=h.len.2.2.1.1;omega
   exact ⟨⟨fP_ 6,ly_ k2 k1 h.ints.2 h.ints.1 hab⟩,show aa_.size (aa_.mk 0 0 [] [] [])<=2000000000 by decide,patch_few k2 k1 h.ints.2 h.ints.1 hab⟩
theorem sessEv_in {x:c1_}{c:Nat}(h:SsIn c x)(hc:c<=700000):EvDw (gs_ x).2.1:=by
 unfold gs_;cases FDue x
 . exact ⟨⟨fP_ 6,Nat.zero_le _,fun o k=>(by cases k)⟩,show aa_.size (aa_.mk 0 0 [] [] [])<=2000000000 by decide,Nat.zero_le _⟩
 . exact evOf_in h hc
theorem ev_etaD (e:ar_):ar_.mk e.kind e.version e.base e.doc e.ops=e:=rfl
theorem kZ_ {c:am_}(hc:DwOk c):Ans (fun n _=>aq_ n c) fun r=>r.1.length<=6/\(∀ e ∈ r.1,EvDw e)/\DwOk r.2:=by
 refine c5_ ?_;simp only [aq_];refine bJ_ (mX_ hc) fun r hr => ?_;simp only [aq_.tail1,gU_,fY_,dM_];refine bJ_ (mW_ hr.2 hr.1.col) fun q hq => ?_;have U:=mA_ (s:=r.1) (q:=q.1) hr.1.len ⟨Nat.le_trans hq.1.len.1 (by decide),Nat.le_trans hq.1.len.2 (by decide)⟩ (by decide);rw [bZ_ U];refine bJ_ (cC_ hq.2) fun b hb => ?_;have b1:=hb.lo;have b2:=hb.hi;rw [Wn (x:=1+b.1) (by omega) (by omega)];have I:∀ (m i:Nat)(c:am_)(s:aA_)(x:c1_)(o:List ar_),i+m=6->DwOk c->StIn (1010+3*i) s->SsIn (5000+10*i) x->o.length<=i->(∀ e ∈ o,EvDw e) ->
   Ans (fun n N=>aq_.loop7 n (fun B50 B51 B52 B53=>(some (B53,(am_.mk B50 B51 B52)))) N (1+b.1) (i:Int) c.b c.i c.h s.schema.cols s.version s.tables x.view.q.table x.view.q.where_ x.view.q.order x.view.q.down x.view.q.first x.view.q.show_ x.view.q.kids x.view.q.kidTable x.view.q.kidCol x.view.rows x.view.kids x.version x.last.q.table x.last.q.where_ x.last.q.order x.last.q.down x.last.q.first x.last.q.show_ x.last.q.kids x.last.q.kidTable x.last.q.kidCol x.last.rows x.last.kids x.lastVersion x.began o) fun r=>r.1.length<=6/\(∀ e ∈ r.1,EvDw e)/\DwOk r.2:=by
  intro m;induction m with
  |zero=>
   intro i c s x o hi hc hs hx u he;refine dn_ ?_;simp only [aq_.turn7,aq_.step7];rw [decide_eq_false (by omega)];simp only [cond_false,dM_,a8_];exact ⟨by omega,he,hc⟩
  |succ m ih=>
   intro i c s x o hi hc hs hx u he;refine dn_ ?_;simp only [aq_.turn7,aq_.step7,cr_,dM_,a8_];refine ⟨fun _ => ?_,fun _=>⟨by omega,he,hc⟩⟩;have k:∀ (y:c1_)(c:am_)(o:List ar_),SsIn (5000+10*i) y->DwOk c->o.length<=i+1->(∀ e ∈ o,EvDw e)->Ans (fun n N=>(az_ n c s).bind fun A7=>((br_ n s A7.1).bind fun A8=>(cond A8.2.2 ((dJ_ n y A8.2.1).bind fun A9=>(aq_.loop7 n (fun B50 B51 B52 B53=>(some (B53,(am_.mk B50 B51 B52)))) N (1+b.1) (W ((i:Int)+1)) A7.2.b A7.2.i A7.2.h A8.1.schema.cols A8.1.version A8.1.tables A9.view.q.table A9.view.q.where_ A9.view.q.order A9.view.q.down A9.view.q.first A9.view.q.show_ A9.view.q.kids A9.view.q.kidTable A9.view.q.kidCol A9.view.rows A9.view.kids A9.version A9.last.q.table A9.last.q.where_ A9.last.q.order A9.last.q.down A9.last.q.first A9.last.q.show_ A9.last.q.kids A9.last.q.kidTable A9.last.q.kidCol A9.last.rows A9.last.kids A9.lastVersion A9.began o)) (aq_.loop7 n (fun B50 B51 B52 B53=>(some (B53,(am_.mk B50 B51 B52)))) N (1+b.1) (W ((i:Int)+1)) A7.2.b A7.2.i A7.2.h s.schema.cols s.version s.tables y.view.q.table y.view.q.where_ y.view.q.order y.view.q.down y.view.q.first y.view.q.show_ y.view.q.kids y.view.q.kidTable y.view.q.kidCol y.view.rows y.view.kids y.version y.last.q.table y.last.q.where_ y.last.q.order y.last.q.down y.last.q.first y.last.q.show_ y.last.q.kids y.last.q.kidTable y.last.q.kidCol y.last.rows y.last.kids y.lastVersion y.began o)))) fun r=>r.1.length<=6/\(∀ e ∈ r.1,EvDw e)/\DwOk r.2:=by
    intro y c o J hc u he;refine bJ_ (mY_ hc hs (by omega) (by omega)) fun b hb => ?_;have O:mV_ (1010+3*i) b.1:=fun z p=>Nat.le_trans (hb.2.1 z p) (by omega);have Z:=mE_ (l:=b.1) hs.len O (by have:=hb.1;omega);have B:=lK_ (l:=b.1) hs.len O;have V:=so_ (l:=b.1) hs O;have S:∀ z ∈ (fS_ s b.1).2.1,ri_ (5000+10*i) z:=fun z p=>⟨Nat.le_trans (B.2.2 z p).1 (by have:=hb.1;omega),Nat.le_trans (B.2.2 z p).2 (by have:=hb.1;omega)⟩
    have e1:=up1 (show i<=1000000 by omega);rw [bZ_ Z];simp only [cr_,bZ_ (J.go (by omega) S B.2.1),e1];refine ⟨fun _=>ih (i+1) b.2 (fS_ s b.1).1 (pY_ y (fS_ s b.1).2.1) o (by omega) hb.2.2 (V.upto (by have:=hb.1;omega)) ?_ u he,fun _=>ih (i+1) b.2 s y o (by omega) hb.2.2 (hs.upto (by omega)) (J.upto (by omega)) u he⟩;exact (sessGo_in J S B.2.1).upto (by omega)
   have Y:∀ e ∈ o++[(gs_ x).2.1],EvDw e:=fun e h=>by
    rcases List.mem_append.1 h with h|h
    . exact he e h
    . rw [List.mem_singleton.1 h];exact sessEv_in hx (by omega)
   simp only [aq_.tail8,gU_,fY_,kU_,view_etaD,sess_etaD,dM_,aM_,ev_etaD,cr_,bZ_ (hx.take (by omega))];refine ⟨fun _=>bJ_ (hG_ hc) fun r2 T => ?_,fun _=>k x c o hx hc (by omega) he⟩;simp only [cr_,gq_];exact ⟨fun _=>⟨by simp;omega,k _ _ _ (mH_ hx) T (by simp;omega) Y⟩,fun _=>k _ _ _ (mH_ hx) T (by omega) he⟩
 exact ge_ (I 6 0 b.2 r.1 (kB_ r.1 q.1).1 [] rfl hb.cur hr.1 ((tE_ hr.1.len hq.1 (Nat.le_refl _)).upto (by decide)) (Nat.le_refl _) fun e he=>(by cases he))
def FPos (s:Bs):Int:=match (List.range 1000).find? (fun x:Nat=>Lib.itoa (x:Int)==s) with
 |some x=>(x:Int)
 |none => -1
theorem t0_ {x y:Nat}(hx:x<=999)(p:y<=999) (h:Lib.itoa (x:Int)=Lib.itoa (y:Int)):x=y:=by have k:=iU_ (n:=(x:Int)) (by omega) (by omega);have m:=iU_ (n:=(y:Int)) (by omega) (by omega);rw [h,m] at k;cases k;rfl
theorem pos_itoa {x:Nat}(h:x<=999):FPos (Lib.itoa (x:Int))=x:=by
 unfold FPos;cases e:(List.range 1000).find? (fun y:Nat=>Lib.itoa (y:Int)==Lib.itoa (x:Int)) with
 |none=>
  have:=List.find?_eq_none.1 e x (List.mem_range.2 (by omega));simp at this
 |some y=>
  have m:=List.find?_some e;have p:=List.mem_range.1 (List.mem_of_find?_eq_some e);have k:=t0_ (x:=y) (y:=x) (by omega) h (eq_of_beq m);show ((y:Nat):Int)=(x:Int);rw [k]
theorem pos_none {s:Bs} (h:∀ x:Nat,x<=999->Lib.itoa (x:Int)≠s):FPos s = -1:=by unfold FPos;rw [List.find?_eq_none.2 fun x hx=>by have:=h x (by have:=List.mem_range.1 hx;omega);simp;exact this]
theorem iC_ (s:Bs):(∃ x:Nat,x<=999/\s=Lib.itoa (x:Int)/\FPos s=x)\/((∀ x:Nat,x<=999->Lib.itoa (x:Int)≠s)/\FPos s = -1):=by
 by_cases h:∃ x:Nat,x<=999/\s=Lib.itoa (x:Int)
 . obtain ⟨x,k,rfl⟩:=h
   exact .inl ⟨x,k,rfl,pos_itoa k⟩
 . have h':∀ x:Nat,x<=999->Lib.itoa (x:Int)≠s:=fun x hx e=>h ⟨x,hx,e.symm⟩
   exact .inr ⟨h',pos_none h'⟩
theorem mQ_ (s:Bs) : -1<=FPos s/\FPos s<=999:=by rcases iC_ s with ⟨x,h,_,e⟩|⟨_,e⟩<;>rw [e]<;>omega
theorem sZ_ (x:Nat):Lib.itoa (x:Int)=Lib.decDigits x:=by unfold Lib.itoa;rw [if_neg (by omega)];simp
theorem iM_ {s:Bs}(hs:s.length<=281474976710656):Ev (fun n _=>eh_ n s) (FPos s):=by
 refine ak_ ?_;simp only [eh_,ab_ (sp_ hs)];rcases iC_ s with ⟨x,h,rfl,e⟩|⟨h,e⟩
 . rw [iU_ (n:=(x:Int)) (by omega) (by omega),e]
   have e2:endOf (Lib.itoa (x:Int)) (.ok (x:Int))=((x:Int),true):=rfl;have e3:inn (x:Int) 0 999=true:=by simp [inn];omega
   simp only [e2,e3,Bool.not_true,cond_false,ab_ jY_,ac_,ab_ (pW_ (x:=(x:Int)) (by omega) (by omega)),beq_self_eq_true]
 . rw [e]
   generalize endOf s (Lib.atoiAll s)=v;obtain ⟨x,ok⟩:=v;simp only [ag_,ac_,ab_ jY_];refine ⟨fun _=>trivial,fun _=>⟨fun _=>trivial,fun m => ?_⟩⟩;have m:0<=x/\x<=999:=by simpa [inn] using m
   have k:=h x.toNat (by omega);rw [Int.toNat_of_nonneg m.1] at k;simp only [ab_ (pW_ (x:=x) (by omega) (by omega)),ag_,ac_];exact ⟨fun _=>trivial,fun hq=>by simp [k] at hq⟩
def FVal (x:Nat):Bs->Option Nat
 |[]=>some x
 |c::l=>if 48<=c.toNat/\c.toNat<=57 then FVal (10*x+(c.toNat - 48)) l else none
theorem s7_:∀ (x:Nat)(l:Bs),(∀ c ∈ l,fV_ c)->FVal x l=some (jZ_ x l)
 |_,[],_=>rfl
 |x,c::l,h=>by unfold FVal;rw [if_pos (show 48<=c.toNat/\c.toNat<=57 from h c (List.mem_cons_self ..)),s7_ _ l fun y k=>h y (List.mem_cons_of_mem _ k),i5_]
theorem fval_lt:∀ (l:Bs)(x i y:Nat),x<10 ^ i->FVal x l=some y->y<10 ^ (i+l.length)
 |[],x,i,y,hx,h=>by simp only [FVal,Option.some.injEq] at h;subst h;simpa using hx
 |c::l,x,i,y,hx,h=>by
  unfold FVal at h;split at h
  . rename_i hc
    have:=fval_lt l _ (i+1) y (by rw [Nat.pow_succ];omega) h;rw [List.length_cons,show i+(l.length+1)=i+1+l.length by omega];exact this
  . cases h
def FPos1 (s:Bs):Option Nat->Int
 |some y=>cond (!(Lib.itoa (y:Int)==s)) (-1) y
 |none => -1
theorem gT_ {s:Bs}:Ev (fun n _=>bw_ n s) (FPos s):=by
 refine ak_ ?_;simp only [bw_,ag_,ac_];refine ⟨fun h => ?_,fun _=>⟨fun h => ?_,fun hl => ?_⟩⟩
 . have:s=[]:=by simpa using h
   subst this;rcases iC_ [] with ⟨x,J,k,B⟩|⟨_,e⟩
   . obtain ⟨c,t,e,_⟩:=hI_ (x:Int)
     rw [e] at k;cases k
   . exact e.symm
 . rcases iC_ s with ⟨x,J,k,B⟩|⟨_,e⟩
   . have h:=of_decide_eq_true h
     have:=pO_ 2 x (by omega);rw [k,sZ_] at h;omega
   . exact e.symm
 . have hl:s.length<=3:=by have:=of_decide_eq_false hl;omega
   have z:∀ (m i x:Nat),i+m=s.length->x<10 ^ i ->
     Ev (fun n N=>bw_.loop7 n (fun B1 B2=>((aN_ n B2).bind fun A3=>(cond (!(A3==B1)) (some (-1)) (some B2)))) N s (x:Int) (i:Int)) (FPos1 s (FVal x (s.drop i))):=by
    intro m;induction m with
    |zero=>
     intro i x hi hx;have:i=s.length:=by omega
     subst this;have u:10 ^ s.length<=10 ^ 3:=Nat.pow_le_pow_right (by omega) hl;refine aY_ ?_;simp only [bw_.turn7,bw_.step7,cj_,cond_false,List.drop_length,FVal,FPos1,ab_ (db_ (x:=(x:Int)) (by omega) (by omega)),ag_,ac_];cases (!(Lib.itoa (x:Int)==s))<;>simp
    |succ m ih=>
     intro i x hi hx;have p:i<s.length:=by omega
     have u:10 ^ i<=10 ^ 3:=Nat.pow_le_pow_right (by omega) (by omega);have S:=W_up p (show s.length<=b9_ by simp only [b9_];omega);have hd:=dA_ 0 p;refine aY_ ?_;simp only [bw_.turn7,bw_.step7,cD_ p,cond_true,a2_,cb_ p,true_and,Int.toNat_natCast,S,ag_,ac_];rw [hd,FVal];have hc:(s.getD i 0).toNat<=255:=by have:=(s.getD i 0).toNat_lt;omega
     refine ⟨fun h => ?_,fun h=>⟨fun k => ?_,fun k => ?_⟩⟩
     . have h:=of_decide_eq_true h
       rw [if_neg (by omega)];rfl
     . have k:=of_decide_eq_true k
       rw [if_neg (by omega)];rfl
     . have h:=of_decide_eq_false h
       have k:=of_decide_eq_false k;rw [if_pos (by omega)];have e:W (W (W (10*(x:Int))+W ((s.getD i 0).toNat:Int)) - 48)=((10*x+((s.getD i 0).toNat - 48):Nat):Int):=by rw [W_id (n:=10*(x:Int)) (by omega) (by omega),W_id (n:=((s.getD i 0).toNat:Int)) (by omega) (by omega),W_id (n:=10*(x:Int)+((s.getD i 0).toNat:Int)) (by omega) (by omega),W_id (by omega) (by omega)];omega
       rw [e];exact ih (i+1) _ (by omega) (by rw [Nat.pow_succ];omega)
   have I:=z s.length 0 0 (by omega) (by omega);have e:FPos1 s (FVal 0 (s.drop 0))=FPos s:=by
    rw [List.drop_zero];rcases iC_ s with ⟨x,J,k,B⟩|⟨h,e⟩
    . rw [B]
      have:FVal 0 s=some x:=by rw [k,sZ_,s7_ _ _ (hZ_ x),mn_]
      rw [this,FPos1,<-k];simp
    . rw [e]
      cases O:FVal 0 s with
      |none=>rfl
      |some y=>
       have:=fval_lt s 0 0 y (by omega) O;have u:10 ^ (0+s.length)<=10 ^ 3:=Nat.pow_le_pow_right (by omega) (by omega);have:=h y (by omega);have hb:(Lib.itoa (y:Int)==s)=false:=beq_eq_false_iff_ne.2 this;simp only [FPos1,hb,Bool.not_false,cond_true]
   rw [e] at I;exact c3_ (f:=fun n N=>bw_.loop7 n (fun B1 B2=>((aN_ n B2).bind fun A3=>(cond (!(A3==B1)) (some (-1)) (some B2)))) N s 0 0) I
def FAt (j:aa_)(s:Bs):Int:=cond (j.kind==5) (FIdx j.names s) (cond (j.kind==4) (cond (decide (FPos s<(j.list.length:Int))) (FPos s) (-1)) (-1))
theorem idx_low (l:List Bs)(x:Bs) : -1<=FIdx l x/\FIdx l x<(l.length:Int):=by unfold FIdx;split<;>omega
theorem lq_ {j:aa_}{s:Bs}(hn:j.names.length<=b9_):Ev (fun n _=>fr_ n j s) (FAt j s):=by refine ak_ ?_;simp only [fr_,aM_,ag_,ab_ (lr_ (x:=s) hn),ab_ gT_,ac_,FAt];cases (j.kind==5)<;>cases (j.kind==4)<;>cases (decide (FPos s<(j.list.length:Int)))<;>simp
theorem m8_ {j:aa_}{s:Bs}(hn:j.names.length<=b9_)(he:j.kind=5->j.list.length=j.names.length)(hs:s.length<=281474976710656):Ev (fun n _=>ef_ n j s) (FAt j s):=by
 refine ak_ ?_;simp only [ef_,aM_,ag_,ab_ (g3_ (x:=s) hn),ab_ (iM_ hs),ac_,FAt];have u:=idx_low j.names s;refine ⟨fun k => ?_,fun k=>⟨fun m => ?_,fun m => ?_⟩⟩
 . have p:j.kind=5:=by simpa using k
   have:=he p;rw [k];exact ⟨fun h=>by have:=of_decide_eq_true h;omega,fun _=>rfl⟩
 . rw [k,m]
   refine ⟨fun h => ?_,fun h => ?_⟩
   . have:=of_decide_eq_true h
     rw [decide_eq_false (by omega)];rfl
   . have:=of_decide_eq_false h
     rw [decide_eq_true (by omega)];rfl
 . rw [k,m]
   exact ⟨fun _=>rfl,fun _=>rfl⟩
theorem mg_ (j:aa_)(s:Bs)(he:j.kind=5->j.list.length=j.names.length) : -1<=FAt j s/\FAt j s<(j.list.length:Int):=by
 have z:=idx_low j.names s;have u:=mQ_ s;unfold FAt;cases m:(j.kind==5)
 . cases p:(j.kind==4)
   . simp;omega
   . simp only [cond_false,cond_true]
     cases hd:decide (FPos s<(j.list.length:Int))
     . simp;omega
     . have:=of_decide_eq_true hd
       simp only [cond_true];omega
 . have k:j.kind=5:=by simpa using m
   have:=he k;simp only [cond_true];omega
def ascB:List Bs->Prop
 |[]=>True
 |k::l=>(∀ y ∈ l,k<y)/\ascB l
theorem tq_:∀ {l:List Bs},ascB l->ht_ (l.map fun y=>(y,(0:Int)))
 |[],_=>trivial
 |k::l,h=>⟨fun p u=>by
   obtain ⟨y,m,rfl⟩:=List.mem_map.1 u;exact h.1 y m,tq_ h.2⟩
theorem keys_map (l:List Bs):(l.map fun y=>(y,(0:Int))).map (·.1)=l:=by rw [List.map_map];exact List.map_id'' (fun _=>rfl) l
theorem ascB_ne {l:List Bs}{x:Bs}(h:ascB l):∀ i,gW_ l x<=i->i<l.length->(l.getD i []==x)=false:=by have:=asc_ne (x:=x) (tq_ h);rw [keys_map] at this;exact this
theorem rw_ {k x:Bs}{ns:List Bs}:el_ (k::ns) x=if k<x then el_ ns x+1 else 0:=by
 by_cases h:k<x
 . have hb:Op.bytesLess k x=true:=by rw [f6_];exact decide_eq_true h
   rw [if_pos h];unfold el_;rw [List.findIdx_cons];simp [hb]
 . have hb:Op.bytesLess k x=false:=by rw [f6_];exact decide_eq_false h
   rw [if_neg h];unfold el_;rw [List.findIdx_cons];simp [hb]
theorem q7_ {x:Bs}:∀ {l:List Bs},ascB l->∀ h,h<l.length->Op.bytesLess (l.getD h []) x=decide (h<el_ l x)
 |[],_,h,u=>by simp at u
 |k::l,ha,h,u=>by
  rw [f6_];simp only [rw_];cases h with
  |zero=>
   simp only [List.getD_cons_zero];by_cases m:k<x
   . rw [if_pos m,decide_eq_true m];simp
   . rw [if_neg m,decide_eq_false m];simp
  |succ h=>
   have p:h<l.length:=by simpa using u
   simp only [List.getD_cons_succ];by_cases m:k<x
   . have:=q7_ (x:=x) ha.2 h p
     rw [f6_] at this;rw [if_pos m,this];simp
   . rw [if_neg m]
     have z:=ha.1 _ (bB_ (d:=([]:Bs)) (a:=l) p);rw [decide_eq_false fun B=>m (List.lt_trans z B)];simp
theorem oj_:∀ {l:List Bs},(∀ i,i+1<l.length->l.getD i []<l.getD (i+1) [])->ascB l
 |[],_=>trivial
 |[k],_=>⟨fun y m=>(by cases m),trivial⟩
 |k::k2::l,h=>by
  have p:ascB (k2::l):=oj_ fun i hi=>h (i+1) (by simpa using hi);have u:k<k2:=h 0 (by simp);refine ⟨fun y m => ?_,p⟩;rcases List.mem_cons.1 m with rfl|m
  . exact u
  . exact List.lt_trans u (p.1 y m)
theorem oM_ {l:List Bs}(h:kC_ l=true):ascB l:=by
 refine oj_ fun i hi => ?_;have:=e7_.1 h (i+1) hi;simp only [Bool.and_eq_true,Bool.or_eq_true,decide_eq_true_eq,Nat.add_sub_cancel] at this;rcases this.2 with h|h
 . omega
 . rw [f6_] at h;exact of_decide_eq_true h
def Ok2 (x:Option aa_)(r:aa_×Bool):Prop:=r.2=x.isSome/\∀ y,x=some y->r.1=y
theorem hh_ {j:aa_}:Ok2 none (j,false):=⟨rfl,fun y h=>(by cases h)⟩
theorem e5_ {j:aa_}:Ok2 (some j) (j,true):=⟨rfl,fun y h=>(by cases h;rfl)⟩
def lR_ {α:Type}(l:List α)(k:Nat)(v:α):List α:=l.take k++[v]++l.drop k
def addAt (j:aa_)(name:Bs):Int:=cond (name==[45]) (j.list.length:Int) (FPos name)
def FAdd (j:aa_)(name:Bs)(v:aa_):Option aa_ :=
 cond (j.kind==5) (some (aa_.mk 5 0 [] (lu_ j.names name j.list v) (lu_ j.names name j.names name)))
  (cond (j.kind==4) (cond (inn (addAt j name) 0 (j.list.length:Int)) (some (aa_.mk j.kind j.n_ j.s (lR_ j.list (addAt j name).toNat v) j.names)) none) none)
theorem size_pos:∀ (d:Nat)(x:aa_),1<=bp_ d x
 |0,_=>by simp [bp_]
 |d+1,x=>by simp only [bp_];cases FOwn x<;>simp only [cond_true,cond_false]<;>omega
theorem sum_len (d:Nat):∀ l:List aa_,l.length<=fU_ (bp_ d) l
 |[]=>Nat.zero_le _
 |x::l=>by have m:=sum_len d l;have k:=size_pos d x;show l.length+1<=bp_ d x+fU_ (bp_ d) l;omega
theorem hE_ {d:Nat}{j:aa_} (h:bp_ (d+1) j<=400):j.list.length<=399:=by have m:=(dj_ h).2;have k:=sum_len d j.list;omega
theorem l1_ {l:List Bs}{k:Nat}{x:Bs}(h:k<=l.length)(hl:l.length<=10000):Ev (fun n _=>cO_ n l (k:Int) [x]) (lR_ l k x):=by refine ak_ ?_;simp only [cO_,kV_,ag_,ac_,do_,Int.toNat_natCast,lR_];simp;omega
theorem hz_ {l:List aa_}{k:Nat}{x:aa_}(h:k<=l.length)(hl:l.length<=10000):Ev (fun n _=>cF_ n l (k:Int) [x]) (lR_ l k x):=by refine ak_ ?_;simp only [cF_,kV_,ag_,ac_,do_,Int.toNat_natCast,lR_];simp;omega
theorem putL_new {α:Type}{ns:List Bs}{x:Bs} (h:(decide (el_ ns x<ns.length)&&(ns.getD (el_ ns x) []==x))=false) (l:List α) (y:α):lu_ ns x l y=lR_ l (el_ ns x) y:=by
 unfold lu_ lR_ gW_;rw [if_neg]
 rintro ⟨m,k⟩
 rw [decide_eq_true k,m] at h;simp at h
theorem sH_ {α:Type}{ns:List Bs}{x:Bs} (h:(decide (el_ ns x<ns.length)&&(ns.getD (el_ ns x) []==x))=true) (l:List α) (y:α) (hl:el_ ns x<l.length):lu_ ns x l y=l.set (el_ ns x) y:=by simp only [Bool.and_eq_true,decide_eq_true_eq] at h;unfold lu_ gW_;rw [if_pos ⟨eq_of_beq h.2,h.1⟩,List.set_eq_take_append_cons_drop,if_pos hl];simp
theorem set_same {l:List Bs}{p:Nat}{x:Bs}(h:p<l.length)(e:l.getD p []=x):l.set p x=l:=by rw [List.getD_eq_getElem?_getD,List.getElem?_eq_getElem h,Option.getD_some] at e;subst e;exact List.set_getElem_self h
theorem lX_ {d:Nat}{j:aa_} (h:bp_ (d+1) j<=400) {name:Bs} {v:aa_} (hn:name.length<=281474976710656):Ans (fun n _=>ez_ n j name v) (Ok2 (FAdd j name v)):=by
 have J:=(dj_ h).1;have o2:=fw_ (fc_ h);have hl:=hE_ h;refine c5_ ?_;simp only [ez_,aM_];unfold FAdd;cases V:(j.kind==5)
 . cases Y:(j.kind==4)
   . simp only [cond_false,a8_];exact hh_
   . simp only [cond_false,cond_true,bZ_ (iM_ hn),cr_,bZ_ jY_,a8_]
     have hr:=mQ_ name;unfold addAt;refine ⟨fun hq => ?_,fun hq => ?_⟩
     . rw [hq,cond_true]
       have e:inn (j.list.length:Int) 0 (j.list.length:Int)=true:=by simp [inn]
       rw [e];simp only [Bool.not_true,cond_true,bZ_ (hz_ (l:=j.list) (k:=j.list.length) (x:=v) (Nat.le_refl _) (by omega)),a8_,Int.toNat_natCast];exact ⟨fun h=>(by cases h),fun _=>e5_⟩
     . rw [hq,cond_false]
       cases e:inn (FPos name) 0 (j.list.length:Int)
       . simp only [Bool.not_false,cond_false]
         exact ⟨fun _=>hh_,fun h=>(by cases h)⟩
       . have hi:=hv_.1 e
         have z:((FPos name).toNat:Int)=FPos name:=Int.toNat_of_nonneg hi.1;have B:=hz_ (l:=j.list) (k:=(FPos name).toNat) (x:=v) (by omega) (by omega);rw [z] at B;simp only [Bool.not_true,cond_true,bZ_ B,a8_];exact ⟨fun h=>(by cases h),fun _=>e5_⟩
 . have u:j.kind=5:=by simpa using V
   obtain ⟨he,O⟩:=J.obj u;have T:=oM_ O;have S:=nF_ (ns:=j.names) (x:=name) (by omega) (q7_ T);have I:el_ j.names name<=j.names.length:=List.findIdx_le_length;simp only [cond_true,bZ_ S];have n0:=o2.n0 (by omega) (by omega);have s0:=o2.s0 (by omega);cases m:(decide (el_ j.names name<j.names.length)&&(j.names.getD (el_ j.names name) []==name))
   . simp only [cond_false,bZ_ (l1_ (l:=j.names) (k:=el_ j.names name) (x:=name) I (by omega)),bZ_ (hz_ (l:=j.list) (k:=el_ j.names name) (x:=v) (by omega) (by omega)),a8_,putL_new m,u,n0,s0]
     exact e5_
   . have p:el_ j.names name<j.names.length:=by simp only [Bool.and_eq_true,decide_eq_true_eq] at m;exact m.1
     have e2:j.names.set (el_ j.names name) name=j.names:=by
      have U:j.names.getD (el_ j.names name) []=name:=by simp only [Bool.and_eq_true] at m;exact eq_of_beq m.2
      exact set_same p U
     simp only [cond_true,eo_,cb_ (show el_ j.names name<j.list.length by omega),true_and,Int.toNat_natCast,a8_,sH_ m j.list v (by omega),sH_ m j.names name p,u,n0,s0];rw [e2];exact e5_
theorem nJ_ {d:Nat}{j:aa_} (h:bp_ (d+1) j<=400) {name:Bs} {o:TOp} (B:bp_ 6 o.value<=400):Ans (fun n _=>fh_ n j name o) (Ok2 (FAdd j name o.value)):=by
 have I:=(dj_ h).1;have hl:=hE_ h;have p:=dq_ 6 o.value B;refine c5_ ?_;simp only [fh_,aM_];unfold FAdd;cases U:(j.kind==5)
 . cases u:(j.kind==4)
   . have k:(j.kind != 4)=true:=by rw [bne,u];rfl
     simp only [k,cond_false,cond_true,bZ_ gT_,cr_,a8_];exact ⟨fun _=>hh_,fun _=>hh_⟩
   . have k:(j.kind != 4)=false:=by rw [bne,u];rfl
     have hr:=mQ_ name;simp only [k,cond_false,cond_true,bZ_ gT_,cr_,bZ_ l1In_ev,a8_,bZ_ p,h4_,gq_,List.nil_append,List.length_nil,List.drop_zero,List.take_length,Int.toNat_natCast];unfold addAt;refine ⟨fun hq => ?_,fun hq => ?_⟩
     . rw [hq,cond_true]
       have e:inn (j.list.length:Int) 0 (j.list.length:Int)=true:=by simp [inn]
       have e9:lR_ j.list j.list.length o.value=j.list++[o.value]++j.list.drop j.list.length:=by unfold lR_;rw [List.take_length]
       rw [e];simp only [Bool.not_true,cond_true,Int.toNat_natCast,e9];refine ⟨fun h=>(by cases h),fun _ => ?_⟩
       repeat' (first|exact e5_|apply And.intro)
       all_goals (first|omega|(simp;done)|(simp;omega)|trace_state)
     . rw [hq,cond_false]
       cases e:inn (FPos name) 0 (j.list.length:Int)
       . simp only [Bool.not_false,cond_false]
         exact ⟨fun _=>hh_,fun h=>(by cases h)⟩
       . have hi:=hv_.1 e
         simp only [Bool.not_true,cond_true];refine ⟨fun h=>(by cases h),fun _ => ?_⟩
         repeat' (first|exact e5_|apply And.intro)
         all_goals (first|omega|(simp;done)|(simp;omega)|trace_state)
 . have J:j.kind=5:=by simpa using U
   obtain ⟨he,S⟩:=I.obj J;have T:=oM_ S;have O:=hQ_ (o:=j) (j:=o.value) (x:=name) (by omega) he.symm (fun z m=>by
    rw [f6_] at m;exact beq_eq_false_iff_ne.2 fun e=>by subst e;exact List.lt_irrefl z (of_decide_eq_true m)) (ascB_ne T)
   simp only [cond_true,bZ_ p,bZ_ O,a8_];exact e5_
def iY_ (d:Nat)(j:aa_)(o:TOp):Option aa_:=cond (o.kind==4) (cond (eT_ d j o.value) (some j) none) (cond (o.kind==2) none (some o.value))
def o2_ (j:aa_)(i:Nat)(y:aa_):aa_:=aa_.mk j.kind j.n_ j.s (j.list.set i y) j.names
def oz_ (j:aa_)(i:Nat):aa_:=aa_.mk j.kind j.n_ j.s (j.list.take i++j.list.drop (i+1)) (cond (j.kind==5) (j.names.take i++j.names.drop (i+1)) j.names)
def FPat:Nat->aa_->List Bs->TOp->Option aa_
 |d,j,[],o=>iY_ d j o
 |0,_,_::_,_=>none
 |d+1,j,x::w,o=>cond (w.isEmpty&&(o.kind==1)) (FAdd j x o.value) (cond (decide (FAt j x<0)) none (cond (w.isEmpty&&(o.kind==2)) (some (oz_ j (FAt j x).toNat))
   ((FPat d (j.list.getD (FAt j x).toNat aa_.dflt) w o).map (o2_ j (FAt j x).toNat))))
structure sb_ (o:TOp):Prop where
 kind:o.kind=1\/o.kind=2\/o.kind=3\/o.kind=4
 value:bp_ 6 o.value<=400
theorem nV_ {d:Nat}{j:aa_}{o:TOp}(h:bp_ d j<=400)(m:sb_ o):Ans (fun n _=>fm_ n j o) (Ok2 (iY_ d j o)):=by
 have p:=d4_ 6 o.value m.value;have u:=hX_ d j o.value (fE_ d j h) (cQ_ d j h);refine c5_ ?_;simp only [fm_,aM_];unfold iY_;rcases m.kind with k|k|k|k<;>rw [k]
 . simp only [show ((1:Int)==1)=true from rfl,show ((1:Int)==4)=false from rfl,show ((1:Int)==2)=false from rfl,cond_true,cond_false,bZ_ p,a8_];exact e5_
 . simp only [show ((2:Int)==1)=false from rfl,show ((2:Int)==3)=false from rfl,show ((2:Int)==4)=false from rfl,show ((2:Int)==2)=true from rfl,cond_true,cond_false,a8_];exact hh_
 . simp only [show ((3:Int)==1)=false from rfl,show ((3:Int)==3)=true from rfl,show ((3:Int)==4)=false from rfl,show ((3:Int)==2)=false from rfl,cond_true,cond_false,bZ_ p,a8_];exact e5_
 . simp only [show ((4:Int)==1)=false from rfl,show ((4:Int)==3)=false from rfl,show ((4:Int)==4)=true from rfl,cond_true,cond_false,bZ_ u,a8_]
   cases eT_ d j o.value
   . exact hh_
   . exact e5_
theorem nH_ {d:Nat}{j:aa_}{o:TOp}(h:bp_ d j<=400)(m:sb_ o):Ans (fun n _=>es_ n j o) (Ok2 (iY_ d j o)):=by
 have p:=dq_ 6 o.value m.value;have u:=e0_ d j o.value (fE_ d j h) (cQ_ d j h);refine c5_ ?_;simp only [es_,aM_];unfold iY_;rcases m.kind with k|k|k|k<;>rw [k]
 . simp only [show ((1:Int)==4)=false from rfl,show ((1:Int)==2)=false from rfl,cond_true,cond_false,bZ_ p,a8_];exact e5_
 . simp only [show ((2:Int)==4)=false from rfl,show ((2:Int)==2)=true from rfl,cond_true,cond_false,a8_];exact hh_
 . simp only [show ((3:Int)==4)=false from rfl,show ((3:Int)==2)=false from rfl,cond_true,cond_false,bZ_ p,a8_];exact e5_
 . simp only [show ((4:Int)==4)=true from rfl,show ((4:Int)==2)=false from rfl,cond_true,cond_false,bZ_ u,a8_]
   cases eT_ d j o.value
   . exact hh_
   . exact e5_
theorem lW_ {j:aa_}{i:Nat}(hi:i<j.list.length)(hl:j.list.length<=10000)(he:j.kind=5->j.names.length=j.list.length):Ev (fun n _=>dU_ n j (i:Int)) (oz_ j i):=by
 have m:=W_up hi (show j.list.length<=b9_ by simp only [b9_];omega);have e1:((i+1:Nat):Int).toNat=i+1:=Int.toNat_natCast _;have u:Ev (fun n _=>c2_ n j.list (i:Int) ((i+1:Nat):Int)) (j.list.take i++j.list.drop (i+1)):=by refine ak_ ?_;simp only [c2_,kW_,ag_,ac_,do_,Int.toNat_natCast,e1];simp;omega
 refine ak_ ?_;simp only [dU_,m,ab_ u,ag_,ac_];unfold oz_;refine ⟨fun k => ?_,fun k => ?_⟩
 . have z:=he (by simpa using k)
   have p:Ev (fun n _=>cP_ n j.names (i:Int) ((i+1:Nat):Int)) (j.names.take i++j.names.drop (i+1)):=by refine ak_ ?_;simp only [cP_,kW_,ag_,ac_,do_,Int.toNat_natCast,e1];simp;omega
   rw [k];simp only [ab_ p,ac_,cond_true]
 . rw [k];rfl
theorem ry_ {x:Option aa_}{r:aa_×Bool}(h:Ok2 x r){f:aa_->aa_}{z:aa_}(p:r.2=true->z=f r.1):Ok2 (x.map f) (z,r.2):=by
 obtain ⟨m,u⟩:=h;refine ⟨by rw [m];cases x<;>rfl,fun y k => ?_⟩;cases x with
 |none=>cases k
 |some x0=>
  simp only [Option.map_some,Option.some.injEq] at k;rw [<-k,<-u x0 rfl];exact p (by rw [m];rfl)
theorem beq_nat (n:Nat):Nat.beq n n=true:=Nat.beq_refl n
theorem ig_:∀ (d:Nat)(j:aa_)(way:List Bs)(o:TOp),bp_ d j<=400->(∀ x ∈ way,x.length<=281474976710656)->way.length<=1000->sb_ o->Ans (fun n _=>da_ n j way o) (Ok2 (FPat d j way o))
 |0,j,way,o,h,O,hl,B=>by simp only [bp_] at h;omega
 |d+1,j,[],o,h,O,hl,B=>by have hW:=nV_ h B;refine c5_ ?_;simp only [da_,aM_,fu_,List.length_nil,show (((0:Nat):Int)==0)=true from rfl,cond_true];exact bJ_ hW fun r hr=>a8_.2 hr
 |d+1,j,x::w,o,h,O,hl,B=>by
  have m:=(dj_ h).1;have hjl:=hE_ h;have he:j.kind=5->j.list.length=j.names.length:=fun S=>(m.obj S).1.symm;have T:j.names.length<=b9_:=by have:=(cQ_ (d+1) j h).1.2;exact this.1
  have hx:=O x (List.mem_cons_self ..);have hC:=d4_ 6 o.value B.value;have Y:=m8_ (s:=x) T he hx;have J:=lX_ h (name:=x) (v:=o.value) hx;have hr:=mg_ j x he;have I:(0:Int)<=1/\(1:Int)<=((x::w).length:Int)/\((x::w).length:Int)<=((x::w).length:Int):=⟨by omega,by simp;omega,by omega⟩
  have k:(0:Int)<=0/\(0:Int)<((x::w).length:Int):=⟨by omega,by simp<;>omega⟩
  have e0:(((x::w).length:Int)==0)=false:=by simp;omega
  have ew:(((x::w).take (((x::w).length:Nat):Int).toNat).drop 1)=w:=by rw [Int.toNat_natCast,List.take_length];rfl
  have jl_:¬ FAt j x<0->Ans (fun n N=>inB (FAt j x) j.list.length (fF_ 1 ((x::w).length:Int) (x::w).length (cond (Nat.beq (FAt j x).toNat (FAt j x).toNat) (cond (Nat.beq (FAt j x).toNat (FAt j x).toNat) ((da_ n (j.list.getD (FAt j x).toNat aa_.dflt) w o).bind fun A6=>(cond (!A6.2) (some ((aa_.mk 0 0 [] ([]:List aa_) ([]:List Bs)),false)) (inB (FAt j x) j.list.length (cond (Nat.beq (FAt j x).toNat (FAt j x).toNat) (let D7:List aa_:=j.list.set (FAt j x).toNat A6.1;(some ((aa_.mk j.kind j.n_ j.s D7 j.names),true))) none)))) none) none)))
    (Ok2 ((FPat d (j.list.getD (FAt j x).toNat aa_.dflt) w o).map (o2_ j (FAt j x).toNat))):=fun hn=>by
   have U:(FAt j x).toNat<j.list.length:=by omega
   have ih:=ig_ d (j.list.getD (FAt j x).toNat aa_.dflt) w o (gN_ h (bB_ _ U)) (fun y hy=>O y (List.mem_cons_of_mem _ hy)) (by simp at hl;omega) B;simp only [beq_nat,cond_true,eo_,h4_];refine ⟨⟨by omega,by omega⟩,I,?_⟩;refine bJ_ ih fun r hr => ?_;simp only [cr_,a8_,eo_];refine ⟨fun p => ?_,fun p=>⟨⟨by omega,by omega⟩,?_⟩⟩
   . have p:r.2=false:=by simpa using p
     have:=ry_ hr (f:=o2_ j (FAt j x).toNat) (z:=aa_.mk 0 0 [] ([]:List aa_) ([]:List Bs)) (fun e=>by rw [p] at e;cases e)
     rwa [p] at this
   . have p:r.2=true:=by simpa using p
     have:=ry_ hr (f:=o2_ j (FAt j x).toNat) (z:=o2_ j (FAt j x).toNat r.1) (fun _=>rfl)
     rwa [p] at this
  refine c5_ ?_;simp only [da_,aM_,fu_,e0,cond_false,ew,List.getD_cons_zero];cases w with
  |nil=>
   have e1:(([x]:List Bs).length:Int)==1:=rfl;have e1:((([x]:List Bs).length:Int)==1)=true:=rfl;simp only [e1,cond_true,FPat,List.isEmpty_nil,Bool.true_and];cases S:(o.kind==1)
   . simp only [cond_false,eo_,bZ_ Y,cr_,a8_]
     refine ⟨k,fun hn => ?_,fun hn => ?_⟩
     . rw [hn];exact hh_
     . have u:=of_decide_eq_false hn
       rw [hn];refine ⟨fun V => ?_,fun V => ?_⟩
       . have hi:((FAt j x).toNat:Int)=FAt j x:=Int.toNat_of_nonneg (by omega)
         have Z:=lW_ (j:=j) (i:=(FAt j x).toNat) (by omega) (by omega) (fun S=>(m.obj S).1);rw [hi] at Z;simp only [bZ_ Z,a8_,V,cond_true,cond_false];exact e5_
       . rw [V]
         have hq:=eo_.1 (jl_ u);simp only [FPat] at hq;exact hq
   . simp only [cond_true,eo_,bZ_ hC]
     refine ⟨k,?_⟩;exact bJ_ J fun r hr=>a8_.2 hr
  |cons x2 w=>
   have e1:(((x::x2::w).length:Int)==1)=false:=by simp<;>omega
   simp only [e1,cond_false,FPat,List.isEmpty_cons,Bool.false_and];simp only [eo_,bZ_ Y,cr_,a8_];refine ⟨k,fun hn => ?_,fun hn => ?_⟩
   . rw [hn];exact hh_
   . have u:=of_decide_eq_false hn
     rw [hn];exact eo_.1 (jl_ u)
theorem tD_ {j:aa_}{i:Nat}(h:i<j.list.length):o2_ j i (j.list.getD i aa_.dflt)=j:=by unfold o2_;rw [List.getD_eq_getElem?_getD,List.getElem?_eq_getElem h,Option.getD_some,List.set_getElem_self];exact dx_ j
theorem tail_drop {j:aa_}{i:Nat}(hi:i<j.list.length)(hl:j.list.length<=10000)(he:j.kind=5->j.names.length=j.list.length):Ans (fun n (_:Nat)=>dH_.tail8 n (i:Int) j.names j.kind j.n_ j.s j.list 0 0 []) (Ok2 (some (oz_ j i))):=by
 have m:=W_up hi (show j.list.length<=b9_ by simp only [b9_];omega);have e1:((i+1:Nat):Int).toNat=i+1:=Int.toNat_natCast _;simp only [dH_.tail8,dH_.tail17,m,h4_,gq_,cr_,a8_,Int.toNat_natCast,e1,List.take_length,List.drop_zero,List.nil_append,List.length_nil];unfold oz_;refine ⟨by omega,by simp;omega,by omega,by simp;omega,fun k => ?_,fun k => ?_⟩
 . have p:=he (by simpa using k)
   rw [k];refine ⟨by omega,by simp;omega,by omega,by simp;omega,e5_⟩
 . rw [k];exact e5_
theorem oU_ {d:Nat}{j:aa_}{x:Bs}{o:TOp} (h:bp_ (d+1) j<=400) (O:sb_ o):Ans (fun n _=>dH_ n j x o) (Ok2 (FPat (d+1) j [x] o)):=by
 have m:=(dj_ h).1;have U:=hE_ h;have he:j.kind=5->j.list.length=j.names.length:=fun k=>(m.obj k).1.symm;have S:j.names.length<=b9_:=(cQ_ (d+1) j h).1.2.1;have V:=lq_ (j:=j) (s:=x) S;have hr:=mg_ j x he;have Y:=dq_ 6 o.value O.value;refine c5_ ?_;simp only [dH_,aM_,fu_,bZ_ V,cr_,a8_,eo_,FPat,List.isEmpty_nil,Bool.true_and];have I:=nJ_ h (name:=x) O.value;refine ⟨fun k => ?_,fun k=>⟨fun hn => ?_,fun hn=>⟨fun p => ?_,fun p=>⟨fun J => ?_,fun J => ?_⟩⟩⟩⟩
 . rw [k];exact bJ_ I fun r hr=>a8_.2 hr
 . rw [k,hn];exact hh_
 . have z:=of_decide_eq_false hn
   have B:(FAt j x).toNat<j.list.length:=by omega
   have hc:=gN_ h (bB_ aa_.dflt B);have Z:=e0_ d (j.list.getD (FAt j x).toNat aa_.dflt) o.value (fE_ d _ hc) (cQ_ d _ hc);have u:(o.kind==2)=false:=by
    have:o.kind=4:=by simpa using p
    rw [this];rfl
   rw [k,hn,u];unfold iY_;rw [p];refine ⟨⟨by omega,by omega⟩,?_⟩;simp only [bZ_ Z,a8_,cond_true,cond_false];cases eT_ d (j.list.getD (FAt j x).toNat aa_.dflt) o.value
   . exact hh_
   . simp only [cond_true,Option.map_some,tD_ B];exact e5_
 . have z:=of_decide_eq_false hn
   have u:(o.kind==2)=false:=by
    have:o.kind=3:=by simpa using J
    rw [this];rfl
   rw [k,hn,u];unfold iY_;rw [p,u];simp only [bZ_ Y,eo_,a8_,cond_false,Option.map_some];exact ⟨⟨by omega,by omega⟩,e5_⟩
 . have z:=of_decide_eq_false hn
   have u:(o.kind==2)=true:=by rcases O.kind with e|e|e|e<;>rw [e] at k J p ⊢ <;> first|rfl|(cases k;done)|(cases J;done)|(cases p;done)
   have hi:((FAt j x).toNat:Int)=FAt j x:=Int.toNat_of_nonneg (by omega);have T:=tail_drop (j:=j) (i:=(FAt j x).toNat) (by omega) (by omega) (fun k=>(m.obj k).1);rw [hi] at T;rw [k,hn,u];exact T
end Go.Pi
