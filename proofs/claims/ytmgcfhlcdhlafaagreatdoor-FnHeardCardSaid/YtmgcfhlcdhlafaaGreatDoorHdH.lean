/- FnHeard: what is cut off of a drawn text leaves whoever listens with what came ahead of it: a version that was, never a later one. No condition. Text 8 of 8. -/
import Derived.Test.YtmgcfhlcdhlafaaGreatDoorHdG
set_option linter.unusedVariables false
set_option maxRecDepth 100000
set_option linter.unusedSimpArgs false
namespace Go.Pi
theorem ib_:∀ (d:Nat)(j:aa_)(way:List Bs)(o:TOp),bp_ d j<=400->way.length<=1000->sb_ o->Ans (fun n _=>dC_ n j way o) (Ok2 (FPat d j way o))
 |0,j,way,o,h,hl,k=>by simp only [bp_] at h;omega
 |d+1,j,[],o,h,hl,k=>by have O:=nH_ h k;refine c5_ ?_;simp only [dC_,aM_,fu_,List.length_nil,show (((0:Nat):Int)==0)=true from rfl,cond_true];exact bJ_ O fun r hr=>a8_.2 hr
 |d+1,j,[x],o,h,hl,k=>by have T:=oU_ h (x:=x) k;have e0:((([x]:List Bs).length:Int)==0)=false:=rfl;have e1:((([x]:List Bs).length:Int)==1)=true:=rfl;refine c5_ ?_;simp only [dC_,aM_,fu_,e0,e1,cond_false,cond_true,eo_,List.getD_cons_zero];exact ⟨⟨by omega,by simp⟩,bJ_ T fun r hr=>a8_.2 hr⟩
 |d+1,j,x::x2::w,o,h,hl,k=>by
  have m:=(dj_ h).1;have J:=hE_ h;have he:j.kind=5->j.list.length=j.names.length:=fun I=>(m.obj I).1.symm;have u:j.names.length<=b9_:=(cQ_ (d+1) j h).1.2.1;have S:=lq_ (j:=j) (s:=x) u;have hr:=mg_ j x he;have e0:(((x::x2::w).length:Int)==0)=false:=by simp<;>omega
  have e1:(((x::x2::w).length:Int)==1)=false:=by simp<;>omega
  have ew:(((x::x2::w).take (((x::x2::w).length:Nat):Int).toNat).drop 1)=x2::w:=by rw [Int.toNat_natCast,List.take_length];rfl
  have p:(0:Int)<=1/\(1:Int)<=((x::x2::w).length:Int)/\((x::x2::w).length:Int)<=((x::x2::w).length:Int):=⟨by omega,by simp<;>omega,by omega⟩
  refine c5_ ?_;simp only [dC_,aM_,fu_,e0,e1,ew,cond_false,cond_true,eo_,List.getD_cons_zero,bZ_ S,cr_,a8_,FPat,List.isEmpty_cons,Bool.false_and,beq_nat,h4_];refine ⟨⟨by omega,by simp<;>omega⟩,fun hn => ?_,fun hn => ?_⟩
  . rw [hn];exact hh_
  . have B:=of_decide_eq_false hn
    have z:(FAt j x).toNat<j.list.length:=by omega
    have ih:=ib_ d (j.list.getD (FAt j x).toNat aa_.dflt) (x2::w) o (gN_ h (bB_ _ z)) (by simp at hl ⊢;omega) k;rw [hn];refine ⟨⟨by omega,by omega⟩,p,?_⟩;refine bJ_ ih fun r hr => ?_;simp only [a8_,eo_,cond_false];exact ⟨⟨by omega,by omega⟩,ry_ hr (f:=o2_ j (FAt j x).toNat) (fun _=>rfl)⟩
theorem rE_ {e:Nat}{v:aa_}(h:gk_ e v):∀ {k d:Nat},d+k=e->gk_ d v
 |0,d,hd=>by
  have:d=e:=by omega
  rw [this];exact h
 |k+1,d,hd=>pr_ d v (rE_ h (k:=k) (by omega))
theorem sI_ {α:Type}{ns:List Bs}{x:Bs}{l:List α}{y z:α}(h:z ∈ lu_ ns x l y):z=y\/z ∈ l:=by
 unfold lu_ at h;rcases List.mem_append.1 h with h|h
 . rcases List.mem_append.1 h with h|h
   . exact .inr (List.mem_of_mem_take h)
   . exact .inl (List.mem_singleton.1 h)
 . exact .inr (List.mem_of_mem_drop h)
theorem sJ_ {α:Type}{ns:List Bs}{x:Bs}{l:List α}{y:α}:(lu_ ns x l y).length<=l.length+1:=by
 have:el_ ns x<=gW_ ns x:=by unfold gW_;split<;>omega
 unfold lu_;simp;omega
theorem putIn_mem {α:Type}{k:Nat}{l:List α}{y z:α}(h:z ∈ lR_ l k y):z=y\/z ∈ l:=by
 unfold lR_ at h;rcases List.mem_append.1 h with h|h
 . rcases List.mem_append.1 h with h|h
   . exact .inr (List.mem_of_mem_take h)
   . exact .inl (List.mem_singleton.1 h)
 . exact .inr (List.mem_of_mem_drop h)
theorem cut_mem {α:Type}{k m:Nat}{l:List α}{z:α}(h:z ∈ l.take k++l.drop m):z ∈ l:=by
 rcases List.mem_append.1 h with h|h
 . exact List.mem_of_mem_take h
 . exact List.mem_of_mem_drop h
theorem p1_:∀ (d:Nat)(j:aa_)(way:List Bs)(o:TOp)(y:aa_),d<=6->bp_ d j<=400->(∀ x ∈ way,x.length<=1000)->sb_ o->FPat d j way o=some y->gk_ d y
 |0,j,way,o,y,hd,h,J,B,e=>by simp only [bp_] at h;omega
 |d+1,j,[],o,y,hd,h,J,B,e=>by
  have U:=cQ_ (d+1) j h;have O:=rE_ (cQ_ 6 _ B.value) (d:=d+1) (k:=5 - d) (by omega);simp only [FPat,iY_] at e;cases Y:(o.kind==4)<;>rw [Y] at e
  . cases h2:(o.kind==2)<;>rw [h2] at e
    . cases e;exact O
    . cases e
  . cases ha:eT_ (d+1) j o.value<;>rw [ha] at e
    . cases e
    . cases e;exact U
 |d+1,j,x::w,o,y,hd,h,J,B,e=>by
  have U:=cQ_ (d+1) j h;obtain ⟨⟨hs,hn,m⟩,hl,S⟩:=U;have hjl:=hE_ h;have O:=rE_ (cQ_ 6 _ B.value) (d:=d) (k:=6 - d) (by omega);have hx:=J x (List.mem_cons_self ..);have p:=(dj_ h).1;have ht:(1000000:Nat)<=b9_:=by simp only [b9_];omega
  have I:j.kind=5->j.names.length<=400:=fun u=>by have:=(p.obj u).1;omega
  simp only [FPat] at e;cases c1:(w.isEmpty&&(o.kind==1))<;>rw [c1] at e
  . cases c2:decide (FAt j x<0)<;>rw [c2] at e
    . cases c3:(w.isEmpty&&(o.kind==2))<;>rw [c3] at e
      . simp only [cond_false] at e
        cases V:FPat d (j.list.getD (FAt j x).toNat aa_.dflt) w o with
        |none=>rw [V] at e;cases e
        |some z=>
         rw [V] at e;simp only [Option.map_some,Option.some.injEq] at e;subst e;have hr:=mg_ j x fun u=>(p.obj u).1.symm;have c2':=of_decide_eq_false c2;have T:(FAt j x).toNat<j.list.length:=by omega
         have ih:=p1_ d _ w o z (by omega) (gN_ h (bB_ _ T)) (fun y Z=>J y (List.mem_cons_of_mem _ Z)) B V;refine ⟨⟨hs,hn,m⟩,by simp only [o2_,List.length_set];exact hl,fun q hq => ?_⟩;rcases List.mem_or_eq_of_mem_set hq with hq|rfl
         . exact S q hq
         . exact ih
      . simp only [cond_true,cond_false,Option.some.injEq] at e
        subst e;refine ⟨⟨hs,?_⟩,?_,fun q hq=>S q (cut_mem hq)⟩
        . show tV_ b9_ (cond (j.kind==5) _ _)
          cases u:(j.kind==5)
          . exact ⟨hn,m⟩
          . have:=I (by simpa using u)
            exact ⟨by simp;omega,fun q hq=>m q (cut_mem hq)⟩
        . simp only [oz_];simp;omega
    . cases e
  . simp only [cond_true,FAdd] at e
    cases u:(j.kind==5)<;>rw [u] at e
    . cases Y:(j.kind==4)<;>rw [Y] at e
      . cases e
      . simp only [cond_true,cond_false] at e
        cases hi:inn (addAt j x) 0 (j.list.length:Int)<;>rw [hi] at e
        . cases e
        . cases e
          refine ⟨⟨hs,hn,m⟩,?_,fun q hq => ?_⟩
          . simp only [lR_];simp;omega
          . rcases putIn_mem hq with rfl|hq
            . exact O
            . exact S q hq
    . cases e
      have:=I (by simpa using u);have p1:=sJ_ (ns:=j.names) (x:=x) (l:=j.names) (y:=x);have p2:=sJ_ (ns:=j.names) (x:=x) (l:=j.list) (y:=o.value);refine ⟨⟨Nat.zero_le _,(by show (lu_ j.names x j.names x).length<=b9_;omega),fun q hq => ?_⟩,by show (lu_ j.names x j.list o.value).length<=b9_;omega,fun q hq => ?_⟩
      . rcases sI_ hq with rfl|hq
        . omega
        . exact m q hq
      . rcases sI_ hq with rfl|hq
        . exact O
        . exact S q hq
def ik_ (j:aa_)(o:TOp):aa_×Bool:=cond (bU_ j&&hc_ o) (match FPat 6 j o.way o with
 |some y=>cond (bU_ y) (y,true) (gi_,false)
 |none=>(gi_,false)) (gi_,false)
theorem op_fit {o:TOp}(h:hc_ o=true):sb_ o/\o.way.length<=6/\∀ x ∈ o.way,x.length<=60:=by unfold hc_ at h;simp only [Bool.and_eq_true] at h;obtain ⟨k,u,p,m,z⟩:=h;have k:=hv_.1 k;refine ⟨⟨by omega,of_decide_eq_true p⟩,of_decide_eq_true u,fun x hx => ?_⟩;obtain ⟨i,hi,rfl⟩:=List.mem_iff_getElem.1 hx;have:=e7_.1 m i hi;rw [List.getD_eq_getElem?_getD,List.getElem?_eq_getElem hi,Option.getD_some] at this;simp only [jo_,Bool.and_eq_true,decide_eq_true_eq] at this;omega
theorem pC_ {j:aa_}{o:TOp}(p:gk_ 6 j)(m:lT_ o):Ev (fun n _=>fo_ n j o) (ik_ j o):=by
 refine ev_ans (c5_ ?_);simp only [fo_,aM_,fu_,bZ_ (dW_ p),cr_,a8_,bZ_ (iL_ m)];unfold ik_;cases I:bU_ j
 . exact ⟨fun _=>rfl,fun h=>(by cases h)⟩
 . cases B:hc_ o
   . exact ⟨fun h=>(by cases h),fun _=>⟨fun _=>rfl,fun h=>(by cases h)⟩⟩
   . refine ⟨fun h=>(by cases h),fun _=>⟨fun h=>(by cases h),fun _ => ?_⟩⟩
     obtain ⟨f1,f2,f3⟩:=op_fit B;have hs:bp_ 6 j<=400:=of_decide_eq_true I;have z:=d4_ 6 j hs;have u:=ig_ 6 j o.way o hs (fun x hx=>by have:=f3 x hx;omega) (by omega) f1;rw [bZ_ z];refine bJ_ u fun r hr => ?_;obtain ⟨r1,r2⟩:=hr;simp only [cr_,a8_,Bool.and_self,cond_true];cases k:FPat 6 j o.way o with
     |none=>
      rw [k] at r1;rw [r1];exact ⟨fun _=>rfl,fun h=>(by cases h)⟩
     |some y=>
      rw [k] at r1;rw [r1,r2 y k];refine ⟨fun h=>(by cases h),fun _ => ?_⟩;have hl:=p1_ 6 j o.way o y (Nat.le_refl _) hs (fun x hx=>by have:=f3 x hx;omega) f1 k;rw [bZ_ (dW_ hl)];simp only [cr_,a8_];cases bU_ y
      . exact ⟨fun _=>rfl,fun h=>(by cases h)⟩
      . exact ⟨fun h=>(by cases h),fun _=>rfl⟩
theorem oW_ {j:aa_}{o:TOp}(p:gk_ 6 j)(m:lT_ o):Ev (fun n _=>fj_ n j o) (ik_ j o):=by
 refine ev_ans (c5_ ?_);simp only [fj_,aM_,fu_,bZ_ (dc_ p),cr_,a8_,bZ_ (ls_ m)];unfold ik_;cases I:bU_ j
 . exact ⟨fun _=>rfl,fun h=>(by cases h)⟩
 . cases B:hc_ o
   . exact ⟨fun h=>(by cases h),fun _=>⟨fun _=>rfl,fun h=>(by cases h)⟩⟩
   . refine ⟨fun h=>(by cases h),fun _=>⟨fun h=>(by cases h),fun _ => ?_⟩⟩
     obtain ⟨f1,f2,f3⟩:=op_fit B;have hs:bp_ 6 j<=400:=of_decide_eq_true I;have z:=dq_ 6 j hs;have u:=ib_ 6 j o.way o hs (by omega) f1;rw [bZ_ z];refine bJ_ u fun r hr => ?_;obtain ⟨r1,r2⟩:=hr;simp only [cr_,a8_,Bool.and_self,cond_true];cases k:FPat 6 j o.way o with
     |none=>
      rw [k] at r1;rw [r1];exact ⟨fun _=>rfl,fun h=>(by cases h)⟩
     |some y=>
      rw [k] at r1;rw [r1,r2 y k];refine ⟨fun h=>(by cases h),fun _ => ?_⟩;have hl:=p1_ 6 j o.way o y (Nat.le_refl _) hs (fun x hx=>by have:=f3 x hx;omega) f1 k;rw [bZ_ (dc_ hl)];simp only [cr_,a8_];cases bU_ y
      . exact ⟨fun _=>rfl,fun h=>(by cases h)⟩
      . exact ⟨fun h=>(by cases h),fun _=>rfl⟩
def fR_:aa_->List TOp->aa_×Bool
 |j,[]=>(j,true)
 |j,o::l=>cond (ik_ j o).2 (fR_ (ik_ j o).1 l) (gi_,false)
def eQ_ (j:aa_)(l:List TOp):aa_×Bool:=cond (bU_ j&&decide (l.length<=40)) (fR_ j l) (gi_,false)
theorem jJ_ {j:aa_}{o:TOp} (h:(ik_ j o).2=true):bU_ (ik_ j o).1=true:=by
 unfold ik_ at h ⊢;cases p:(bU_ j&&hc_ o)<;>rw [p] at h
 . cases h
 . simp only [cond_true] at h ⊢
   cases m:FPat 6 j o.way o with
   |none=>rw [m] at h;cases h
   |some y=>
    rw [m] at h;simp only at h ⊢;cases k:bU_ y<;>rw [k] at h
    . cases h
    . exact k
theorem kg_:∀ {l:List TOp}{j:aa_},bU_ j=true->(fR_ j l).2=true->bU_ (fR_ j l).1=true
 |[],j,hj,_=>hj
 |o::l,j,hj,h=>by
  unfold fR_ at h ⊢;cases k:(ik_ j o).2<;>rw [k] at h
  . cases h
  . exact kg_ (jJ_ k) h
theorem nR_ {l:List TOp}{j:aa_} (h:(eQ_ j l).2=true):bU_ (eQ_ j l).1=true:=by
 unfold eQ_ at h ⊢;cases k:(bU_ j&&decide (l.length<=40))<;>rw [k] at h
 . cases h
 . rw [Bool.and_eq_true] at k
   exact kg_ k.1 h
theorem gt40 (n:Nat):decide ((n:Int) > 40) = !decide (n<=40):=by
 by_cases h:n<=40
 . rw [decide_eq_true h,decide_eq_false (by omega)];rfl
 . rw [decide_eq_false h,decide_eq_true (by omega)];rfl
theorem pe_ {j:aa_}(h:bU_ j=true):gk_ 6 j:=cQ_ 6 j (of_decide_eq_true h)
theorem lY_ {j:aa_}{l:List TOp}(I:gk_ 6 j)(hl:kk_ l):Ev (fun n _=>bl_ n j l) (eQ_ j l):=by
 refine ak_ ?_;simp only [bl_,aM_,gt40,ab_ (dW_ I),ag_,ac_];unfold eQ_;cases z:bU_ j
 . exact ⟨fun _=>rfl,fun h=>(by cases h)⟩
 . refine ⟨fun h=>(by cases h),fun _ => ?_⟩
   cases T:decide (l.length<=40)
   . exact ⟨fun _=>rfl,fun h=>(by cases h)⟩
   . refine ⟨fun h=>(by cases h),fun _ => ?_⟩
     have S:=d4_ 6 j (of_decide_eq_true z);simp only [ab_ S,Bool.and_true,cond_true];have p:∀ (m i:Nat)(v:aa_),i+m=l.length->bU_ v=true ->
       Ev (fun n N=>bl_.loop7 n (fun B4 B5 B6 B7 B8 B9 B10 B11=>(some ((aa_.mk B7 B8 B9 B10 B11),true))) N l (l.length:Int) (i:Int) 0 0 [] v.kind v.n_ v.s v.list v.names) (fR_ v (l.drop i)):=by
      intro m;induction m with
      |zero=>
       intro i v hi u;have e:i=l.length:=by omega
       subst e;refine aY_ ?_;simp only [bl_.turn7,bl_.step7,cj_,cond_false,ac_,List.drop_length,fR_,dx_]
      |succ m ih=>
       intro i v hi u;have k:i<l.length:=by omega
       have O:=pC_ (j:=v) (o:=l.getD i TOp.dflt) (pe_ u) (hl.2 _ (bB_ _ k));have J:=W_up k (show l.length<=b9_ by have:=hl.1;simp only [b9_];omega);rw [dA_ TOp.dflt k];refine aY_ ?_;simp only [bl_.turn7,bl_.step7,aM_,dx_,fu_,cD_ k,cond_true,a2_,cb_ k,true_and,Int.toNat_natCast,J,ab_ O,ag_,ac_,fR_];cases B:(ik_ v (l.getD i TOp.dflt)).2
       . exact ⟨fun _=>rfl,fun h=>(by cases h)⟩
       . exact ⟨fun h=>(by cases h),fun _=>ih (i+1) _ (by omega) (jJ_ B)⟩
     exact c3_ (p l.length 0 j (by omega) z)
theorem lQ_ {j:aa_}{l:List TOp}(I:gk_ 6 j)(hl:kk_ l):Ev (fun n _=>bo_ n j l) (eQ_ j l):=by
 refine ak_ ?_;simp only [bo_,aM_,gt40,ab_ (dc_ I),ag_,ac_];unfold eQ_;cases z:bU_ j
 . exact ⟨fun _=>rfl,fun h=>(by cases h)⟩
 . refine ⟨fun h=>(by cases h),fun _ => ?_⟩
   cases T:decide (l.length<=40)
   . exact ⟨fun _=>rfl,fun h=>(by cases h)⟩
   . refine ⟨fun h=>(by cases h),fun _ => ?_⟩
     have S:=dq_ 6 j (of_decide_eq_true z);simp only [ab_ S,Bool.and_true,cond_true];have p:∀ (m i:Nat)(v:aa_),i+m=l.length->bU_ v=true ->
       Ev (fun n N=>bo_.loop7 n (fun B4 B5 B6 B7 B8 B9 B10 B11=>(some ((aa_.mk B7 B8 B9 B11 B10),true))) N l (i:Int) 0 0 [] v.kind v.n_ v.s v.names v.list) (fR_ v (l.drop i)):=by
      intro m;induction m with
      |zero=>
       intro i v hi u;have e:i=l.length:=by omega
       subst e;refine aY_ ?_;simp only [bo_.turn7,bo_.step7,cj_,cond_false,ac_,List.drop_length,fR_,dx_]
      |succ m ih=>
       intro i v hi u;have k:i<l.length:=by omega
       have O:=oW_ (j:=v) (o:=l.getD i TOp.dflt) (pe_ u) (hl.2 _ (bB_ _ k));have J:=W_up k (show l.length<=b9_ by have:=hl.1;simp only [b9_];omega);rw [dA_ TOp.dflt k];refine aY_ ?_;simp only [bo_.turn7,bo_.step7,aM_,dx_,fu_,cD_ k,cond_true,a2_,cb_ k,true_and,Int.toNat_natCast,J,ab_ O,ag_,ac_,fR_];cases B:(ik_ v (l.getD i TOp.dflt)).2
       . exact ⟨fun _=>rfl,fun h=>(by cases h)⟩
       . exact ⟨fun h=>(by cases h),fun _=>ih (i+1) _ (by omega) (jJ_ B)⟩
     exact c3_ (p l.length 0 j (by omega) z)
theorem f4_ (j:aa_)(h:aa_.size j<=4000000000):Ev (fun n _=>aw_ n j) j:=by
 have e:=aa_.size_eq j;have e1:o1_ aa_.size j.list=j.list.length+fU_ aa_.size j.list:=rfl;have e2:o1_ szB j.names=j.names.length+fU_ szB j.names:=rfl;have hx:∀ x ∈ j.list,Ev (fun n _=>aw_ n x) x:=fun x hx=>f4_ x (by have:=jC_ aa_.size hx;omega);refine ak_ ?_;have hc:Ev (fun n _=>dh_ n j.names) j.names:=ak_ (by simp only [dh_,a6_,ac_,List.nil_append,List.length_nil,and_true];omega);simp only [aw_,ab_ hc];have:=eR_ (fun i=>j.list.take i) j.list.length (fun n N i (o:List aa_)=>aw_.loop4 n (aw_ n) (fun B3 B4 B5 B6 B7 B8 B9 B10=>(some (aa_.mk B6 B7 B8 B9 B10))) N j.list (j.list.length:Int) (i:Int) 0 0 [] j.kind j.n_ j.s o j.names) j (fun i hi F k => ?_) ?_
 . exact this
 . have hx:=hx _ (bB_ aa_.dflt hi)
   rw [cz_ aa_.dflt hi] at k;simp only [aw_.turn4,aw_.step4,aM_,Int.toNat_natCast,W_up hi (show j.list.length<=b9_ by simp only [b9_];omega),ag_,a2_,a6_,cD_ hi,cb_ hi,ab_ hx];exact ⟨fun _=>⟨trivial,by simp;omega,k⟩,fun h=>(by cases h)⟩
 . simp only [aw_.turn4,aw_.step4,cj_,cond_false,List.take_length,ac_,dx_]
termination_by SizeOf.sizeOf j.list
decreasing_by exact aa_.dec hx
theorem gR_ (j:aa_)(h:aa_.size j<=4000000000):Ev (fun n _=>aF_ n j) j:=by
 have e:=aa_.size_eq j;have e1:o1_ aa_.size j.list=j.list.length+fU_ aa_.size j.list:=rfl;have e2:o1_ szB j.names=j.names.length+fU_ szB j.names:=rfl;have hx:∀ x ∈ j.list,Ev (fun n _=>aF_ n x) x:=fun x hx=>gR_ x (by have:=jC_ aa_.size hx;omega);refine ak_ ?_;simp only [aF_,a6_,List.nil_append,List.length_nil];refine ⟨by omega,?_⟩;have:=eR_ (fun i=>j.list.take i) j.list.length (fun n N i (o:List aa_)=>aF_.loop4 n (aF_ n) (fun B2 B3 B4 B5 B6 B7 B8 B9=>(some (aa_.mk B5 B6 B7 B8 B9))) N (i:Int) j.kind j.n_ j.s j.list j.names 0 0 [] j.kind j.n_ j.s o j.names) j (fun i hi F k => ?_) ?_
 . exact this
 . have hx:=hx _ (bB_ aa_.dflt hi)
   rw [cz_ aa_.dflt hi] at k;simp only [aF_.turn4,aF_.step4,aM_,Int.toNat_natCast,W_up hi (show j.list.length<=b9_ by simp only [b9_];omega),ag_,a2_,a6_,cD_ hi,cb_ hi,ab_ hx];exact ⟨fun _=>⟨trivial,by simp;omega,k⟩,fun h=>(by cases h)⟩
 . simp only [aF_.turn4,aF_.step4,cj_,cond_false,List.take_length,ac_,dx_]
termination_by SizeOf.sizeOf j.list
decreasing_by exact aa_.dec hx
def badC (c:bf_):bf_:=bf_.mk c.doc c.version c.began true
def cJ_ (c:bf_)(e:ar_):bf_:=cond c.bad c (cond (co_ e) (cond (e.kind==1) (cond (c.began&&decide (e.version<=c.version)) (badC c) (bf_.mk e.doc e.version true false))
 (cond (c.began&&(e.base==c.version)&&(eQ_ c.doc e.ops).2) (bf_.mk (eQ_ c.doc e.ops).1 e.version true false) (badC c))) (badC c))
theorem fD_ (c:bf_):bf_.mk c.doc c.version c.began c.bad=c:=rfl
theorem qW_ {e:ar_}(h:co_ e=true):(e.kind==1)=false->(e.kind==2)=true:=by
 intro m;unfold co_ at h;rw [m] at h;cases k:(e.kind==2)
 . rw [k] at h;simp at h
 . rfl
section
variable {c:bf_} {e:ar_} (hc:aa_.size c.doc<=4000000000) (hcl:gk_ 6 c.doc) (he:aa_.size e.doc<=4000000000) (hel:pt_ e)
include hc hcl he hel
theorem j8_:Ev (fun n _=>dw_ n c e) (cJ_ c e):=by have m:Ev (fun n _=>et_ n c) c:=ak_ (by simp only [et_,aM_,ab_ (gR_ c.doc hc),ac_]);refine ak_ ?_;simp only [dw_,aM_,fD_,jy_,ab_ m,ag_,ac_,ab_ (iw_ hel),ab_ (gR_ e.doc he),ab_ (lQ_ hcl hel.2)];unfold cJ_ badC;cases c.bad<;>cases u:co_ e<;>cases p:(e.kind==1)<;>cases c.began<;>cases decide (e.version<=c.version)<;>cases k:(e.base==c.version)<;>cases (eQ_ c.doc e.ops).2<;>simp [bne,k]
theorem kp_:Ev (fun n _=>dz_ n c e) (cJ_ c e):=by
 have I:Ev (fun n _=>dy_ n c) c:=ak_ (by simp only [dy_,aM_,ab_ (f4_ c.doc hc),ac_]);have m:=fun h=>qW_ (e:=e) h;have u:decide (e.version > c.version) = !decide (e.version<=c.version):=by
  by_cases h:e.version<=c.version
  . rw [decide_eq_true h,decide_eq_false (by omega)];rfl
  . rw [decide_eq_false h,decide_eq_true (by omega)];rfl
 have k:(e.kind==1)=true->(e.kind==2)=false:=by intro h;rw [eq_of_beq h];rfl
 refine ak_ ?_;simp only [dz_,aM_,fD_,jy_,u,ab_ I,ag_,ac_,ab_ (iN_ hel),ab_ (f4_ e.doc he),ab_ (lY_ hcl hel.2)];unfold cJ_ badC;cases hb:c.bad<;>cases B:co_ e<;>cases p:(e.kind==1)<;>cases z:c.began<;>cases decide (e.version<=c.version)<;>cases J:(e.base==c.version)<;>cases (eQ_ c.doc e.ops).2<;>simp only [B,p,true_implies,reduceCtorEq,false_implies] at m k<;>simp [p,m,k,hb,z]
end
theorem ti_ {j:aa_}(h:bU_ j=true):aa_.size j<=20000000:=by have h:=of_decide_eq_true h;have:=md_ 6 _ h;omega
def nS_:bf_:=bf_.mk gi_ 0 false false
def cZ_ (c:bf_)(l:List ar_):bf_:=l.foldl cJ_ c
theorem lw_:bU_ gi_=true:=by decide
theorem n4_ {c:bf_}{e:ar_}(hc:bU_ c.doc=true):bU_ (cJ_ c e).doc=true:=by
 unfold cJ_ badC;cases c.bad
 . cases k:co_ e
   . exact hc
   . cases m:(e.kind==1)
     . cases h:(c.began&&(e.base==c.version)&&(eQ_ c.doc e.ops).2)
       . exact hc
       . rw [Bool.and_eq_true] at h
         exact nR_ h.2
     . cases (c.began&&decide (e.version<=c.version))
       . rcases gK_ k with ⟨_,hs⟩|⟨p,_⟩
         . exact decide_eq_true (lE_ hs.doc).1
         . rw [p] at m;cases m
       . exact hc
 . exact hc
section
variable {l:List ar_} (hn:l.length<=1000000000) (hl:∀ e ∈ l,aa_.size e.doc<=4000000000/\pt_ e)
include hn hl
theorem kR_:Ev (fun n _=>bb_ n l) (cZ_ nS_ l):=by
 refine ak_ ?_;simp only [bb_];have p:∀ (m i:Nat)(c:bf_),i+m=l.length->bU_ c.doc=true ->
   Ev (fun n N=>bb_.loop4 n (fun B2 B3 B4 B5 B6 B7 B8 B9 B10 B11 B12 B13 B14 B15=>(some (bf_.mk (aa_.mk B8 B9 B10 B15 B11) B12 B13 B14))) N l (i:Int) 0 0 [] 0 false false c.doc.kind c.doc.n_ c.doc.s c.doc.names c.version c.began c.bad c.doc.list) (cZ_ c (l.drop i)):=by
  intro m;induction m with
  |zero=>
   intro i c hi hc;have e:i=l.length:=by omega
   subst e;refine aY_ ?_;simp only [bb_.turn4,bb_.step4,cj_,cond_false,ac_,List.drop_length,cZ_,List.foldl_nil,dx_,fD_]
  |succ m ih=>
   intro i c hi hc;have k:i<l.length:=by omega
   have hx:=hl _ (bB_ ar_.dflt k);have z:=j8_ (c:=c) (e:=l.getD i ar_.dflt) (by have:=ti_ hc;omega) (pe_ hc) hx.1 hx.2;have u:=W_up k (show l.length<=b9_ by simp only [b9_];omega);have B:=ih (i+1) _ (by omega) (n4_ (e:=l.getD i ar_.dflt) hc);rw [dA_ ar_.dflt k];refine aY_ ?_;simp only [bb_.turn4,bb_.step4,aM_,dx_,fD_,jy_,cD_ k,cond_true,a2_,cb_ k,true_and,Int.toNat_natCast,u,ab_ z];exact B
 exact c3_ (p l.length 0 nS_ (by omega) lw_)
theorem k9_:Ev (fun n _=>bc_ n l) (cZ_ nS_ l):=by
 refine ak_ ?_;simp only [bc_];have p:∀ (m i:Nat)(c:bf_),i+m=l.length->bU_ c.doc=true ->
   Ev (fun n N=>bc_.loop4 n (fun B2 B3 B4 B5 B6 B7 B8 B9 B10 B11 B12 B13 B14 B15=>(some (bf_.mk (aa_.mk B8 B9 B10 B14 B15) B11 B12 B13))) N l (l.length:Int) (i:Int) 0 0 [] 0 false false c.doc.kind c.doc.n_ c.doc.s c.version c.began c.bad c.doc.list c.doc.names) (cZ_ c (l.drop i)):=by
  intro m;induction m with
  |zero=>
   intro i c hi hc;have e:i=l.length:=by omega
   subst e;refine aY_ ?_;simp only [bc_.turn4,bc_.step4,cj_,cond_false,ac_,List.drop_length,cZ_,List.foldl_nil,dx_,fD_]
  |succ m ih=>
   intro i c hi hc;have k:i<l.length:=by omega
   have hx:=hl _ (bB_ ar_.dflt k);have z:=kp_ (c:=c) (e:=l.getD i ar_.dflt) (by have:=ti_ hc;omega) (pe_ hc) hx.1 hx.2;have u:=W_up k (show l.length<=b9_ by simp only [b9_];omega);have B:=ih (i+1) _ (by omega) (n4_ (e:=l.getD i ar_.dflt) hc);rw [dA_ ar_.dflt k];refine aY_ ?_;simp only [bc_.turn4,bc_.step4,aM_,dx_,fD_,jy_,cD_ k,cond_true,a2_,cb_ k,true_and,Int.toNat_natCast,u,ab_ z];exact B
 exact c3_ (p l.length 0 nS_ (by omega) lw_)
end
theorem ct_good {c:bf_}{e:ar_} (h:(cJ_ c e).bad=false):(cJ_ c e).version=e.version/\(cJ_ c e).began=true/\c.bad=false:=by
 revert h
 unfold cJ_ badC;cases hb:c.bad<;>cases co_ e<;>cases (e.kind==1)<;>cases (c.began&&decide (e.version<=c.version))<;>cases (c.began&&(e.base==c.version)&&(eQ_ c.doc e.ops).2)<;>simp [hb]
def di_ (x:aW_×List ar_):bf_×aW_:=(bf_.mk (cZ_ nS_ x.2).doc (cZ_ nS_ x.2).version (cZ_ nS_ x.2).began ((cZ_ nS_ x.2).bad||x.1.bad),x.1)
theorem ev_docs {l:List ar_}(h:∀ e ∈ l,co_ e=true):∀ e ∈ l,aa_.size e.doc<=4000000000/\pt_ e:=fun e he=>by
 refine ⟨?_,ps_ (h e he)⟩;rcases gK_ (h e he) with ⟨_,hs⟩|⟨_,hs⟩
 . have:=md_ 6 _ (lE_ hs.doc).1
   have:=(lE_ hs.doc).1;omega
 . rw [hs.doc];decide
theorem good_sl {t:TC}{xs:List (El t)} (h:Good (.sl .v t xs)):xs.length<=b9_/\∀ x ∈ xs,∀ c ∈ aj_.enc .v t x,Good c:=by
 cases h with
 |sl t xs h1 h2=>exact ⟨h1,h2⟩
theorem good_IntS {a:List Int} (h:Good (.sl .v .u8 a)):(lenL lenI) a:=⟨(good_sl (t:=.u8) h).1,fun x0 k=>trivial⟩
theorem text_le (e:ar_):(a0_ e).length<=10000:=by
 cases h:co_ e with
 |true=>exact jg_ h
 |false=>unfold a0_;rw [h];exact Nat.zero_le _
structure E2 (s:Bs):Prop where
 two:2<=s.length
 idx:hK_ s=(s.length:Int) - 2
theorem hL_:∀ (a:Bs){s:Bs},E2 s->(∀ c ∈ a,c≠10)->E2 (a++s)
 |[],s,h,_=>h
 |x::a,s,h,hn=>by
  have ih:=hL_ a h fun c hc=>hn c (List.mem_cons_of_mem _ hc);have hx:=hn x (List.mem_cons_self ..);rw [List.cons_append];generalize a++s=t at ih;obtain ⟨k,m⟩:=ih;cases t with
  |nil=>simp at k
  |cons y l=>
   refine ⟨by simp only [List.length_cons] at k ⊢;omega,?_⟩;rw [gY_,if_neg (fun h=>hx h.1),if_neg (by omega),m];simp only [List.length_cons];omega
theorem e2_nl {c:UInt8}{t:Bs} (h:E2 (c::t)) (hc:c≠10):E2 (10::c::t):=by obtain ⟨m,k⟩:=h;refine ⟨by simp only [List.length_cons] at m ⊢;omega,?_⟩;rw [gY_,if_neg (fun h=>hc h.2),if_neg (by omega),k];simp only [List.length_cons];omega
theorem e2_end:E2 [10,10]:=⟨Nat.le_refl _,by rw [gY_,if_pos ⟨rfl,rfl⟩];rfl⟩
theorem oR_ {e:ar_}(h:co_ e=true):E2 (a0_ e):=by
 rcases gK_ h with ⟨k,hs⟩|⟨k,hs⟩
 . rw [gZ_ h k,j9_]
   have u:=hL_ (bC_ e.doc) e2_end (ld_ hs.doc);have p:=e2_nl (hL_ fJ_ u (by decide)) (by decide);have m:=e2_nl (hL_ tId (hL_ (Lib.itoa e.version) p (hu_ _)) (by decide)) (by decide);exact hL_ [101,118,101,110,116,58,32,115,110,97,112] m (by decide)
 . rw [go_ h k,i9_]
   have u:=hL_ (bC_ (eI_ e.ops)) e2_end (ld_ hs.enc);have p:=e2_nl (hL_ fJ_ u (by decide)) (by decide);have m:=e2_nl (hL_ kK_ (hL_ (Lib.itoa e.base) p (hu_ _)) (by decide)) (by decide);have z:=e2_nl (hL_ tId (hL_ (Lib.itoa e.version) m (hu_ _)) (by decide)) (by decide);exact hL_ [101,118,101,110,116,58,32,112,97,116,99,104] z (by decide)
theorem fr_event {e:ar_}(h:co_ e=true)(m:Nat)(w:Bs):FFr (m+1) (a0_ e++w)=((FFr m w).1,e::(FFr m w).2):=by
 have u:=oR_ h;have p:FEnd (a0_ e)=((a0_ e).length:Int):=by have B:=u.two;unfold FEnd;rw [if_neg (by rw [u.idx];omega),u.idx];omega
 have hn:¬ FEnd (a0_ e)<0:=by rw [p];omega
 have k:=pL_ w hn;have hr:=rd_text h;have z:(a0_ e++w).take (FEnd (a0_ e++w)).toNat=a0_ e:=by rw [k,p,Int.toNat_natCast,List.take_left]
 have hd:(a0_ e++w).drop (FEnd (a0_ e++w)).toNat=w:=by rw [k,p,Int.toNat_natCast,List.drop_left]
 rw [rR_ m (by rw [k];exact hn) (by rw [z,hr]),z,hd,hr]
def fB_ (l:List ar_):Bs:=l.flatMap a0_
theorem j1_:∀ l:List ar_,(fB_ l).length<=l.length*10000
 |[]=>Nat.zero_le _
 |e::l=>by have k:=j1_ l;have m:=text_le e;unfold fB_ at k ⊢;rw [List.flatMap_cons,List.length_append,List.length_cons,Nat.add_mul];omega
theorem kS_ {w:Bs}(z:w.length<=3):∀ (l:List ar_)(k m:Nat),((fB_ l++w).take k).length<m->(fB_ l++w).length<=100000->(FFr m ((fB_ l++w).take k)).1.wait.length<=14000
 |[],k,m,h,hl=>by have e:fB_ []=[]:=rfl;rw [e,List.nil_append] at h hl ⊢;have I:=(s9_ m (w.take k) h (by simp;omega)).1;simp only [List.length_take] at I;omega
 |e::l,k,m,h,hl=>by
  have hc:fB_ (e::l)=a0_ e++fB_ l:=rfl;rw [hc,List.append_assoc] at h hl ⊢;cases p:co_ e with
  |false=>
   have u:a0_ e=[]:=by unfold a0_;rw [p];rfl
   rw [u,List.nil_append] at h hl ⊢;exact kS_ z l k m h hl
  |true=>
   have B:=jg_ p;by_cases J:k<=(a0_ e).length
   . have I:=(s9_ m _ h (by simp only [List.length_take];simp only [List.length_append] at hl ⊢;omega)).1
     have:((a0_ e++(fB_ l++w)).take k).length<=k:=by simp only [List.length_take];omega
     omega
   . have u:(a0_ e++(fB_ l++w)).take k=a0_ e++(fB_ l++w).take (k - (a0_ e).length):=by
      rw [List.take_append,List.take_of_length_le (by omega)]
     rw [u] at h ⊢;rw [List.length_append] at h hl;obtain ⟨m',rfl⟩:∃ m',m=m'+1:=⟨m - 1,by omega⟩
     rw [fr_event p];have O:=(oR_ p).two;exact kS_ z l _ m' (by omega) (by omega)
theorem end_event {e:ar_}(h:co_ e=true):FEnd (a0_ e)=((a0_ e).length:Int):=by have k:=oR_ h;have m:=k.two;unfold FEnd;rw [if_neg (by rw [k.idx];omega),k.idx];omega
theorem rd_cut {w:Bs}(u:w=[]\/w=[120,10,10]):∀ (l:List ar_)(k m:Nat),RdOk m ((fB_ l++w).take k)
 |_,_,0=>trivial
 |[],k,m+1=>by
  have e:fB_ []=[]:=rfl;rw [e,List.nil_append];rcases u with rfl|rfl
  . rw [List.take_nil];intro h;exact absurd (by decide) h
  . intro h
    match k,h with
    |0,h=>exact absurd (by decide) h
    |1,h=>exact absurd (by decide) h
    |2,h=>exact absurd (by decide) h
    |k+3,_=>
     have e:([120,10,10]:Bs).take (k+3)=[120,10,10]:=List.take_of_length_le (by simp);rw [e];have e2:([120,10,10]:Bs).take (FEnd [120,10,10]).toNat=[120,10,10]:=rfl;rw [e2,rd_x];exact ⟨rdAt_x,fun h=>(by cases h)⟩
 |e::l,k,m+1=>by
  have hc:fB_ (e::l)=a0_ e++fB_ l:=rfl;rw [hc,List.append_assoc];cases p:co_ e with
  |false=>
   have z:a0_ e=[]:=by unfold a0_;rw [p];rfl
   rw [z,List.nil_append];exact rd_cut u l k (m+1)
  |true=>
   intro h;have B:=end_event p;have O:=(oR_ p).two;have I:=nk_ h;have e1:=pL_ ((a0_ e++(fB_ l++w)).drop k) h;rw [List.take_append_drop,pL_ _ (by rw [B];omega),B] at e1;have J:(a0_ e).length<=k:=by simp only [List.length_take] at I;omega
   have z:(a0_ e++(fB_ l++w)).take k=a0_ e++(fB_ l++w).take (k - (a0_ e).length):=by rw [List.take_append,List.take_of_length_le J]
   rw [<-e1,z,Int.toNat_natCast,List.take_left,List.drop_left];exact ⟨rdAt_text p,fun _=>rd_cut u l _ m⟩
theorem r6_:∀ (l:List ar_)(c:bf_),c.bad=true->(cZ_ c l).bad=true
 |[],c,h=>h
 |e::l,c,h=>by
  have:(cJ_ c e).bad=true:=by unfold cJ_;rw [h];exact h
  exact r6_ l _ this
theorem take_on {c:bf_}{e:ar_} (h:(cJ_ c e).bad=false) (hb:c.began=true):(cJ_ c e).began=true/\c.version<=(cJ_ c e).version:=by
 have z:=ct_good h;refine ⟨z.2.1,?_⟩;rw [z.1]
 revert h
 unfold cJ_ badC;rw [z.2.2,hb];cases p:co_ e with
 |false=>intro h;cases h
 |true=>
  rcases gK_ p with ⟨u,hs⟩|⟨u,hs⟩
  . rw [u]
    by_cases m:e.version<=c.version
    . rw [decide_eq_true m];intro h;cases h
    . intro _;omega
  . have B:e.base<=e.version - 1:=by
     unfold co_ at p;rw [Bool.and_eq_true] at p;have k:=p.2;rw [u] at k;have k:(oL_ e.ops&&(inn e.base 0 (W (e.version - 1))&&jR_ e.doc))=true:=k;rw [Bool.and_eq_true,Bool.and_eq_true] at k;have I:=gH_ k.2.1;have m:=hs.ver;rw [W_id (by omega) (by omega)] at I;exact I.2
    rw [u];by_cases m:e.base=c.version
    . intro _;omega
    . rw [beq_eq_false_iff_ne.2 m];intro h;cases h
theorem all_on:∀ (l:List ar_)(c:bf_),(cZ_ c l).bad=false->c.began=true->(cZ_ c l).began=true/\c.version<=(cZ_ c l).version
 |[],c,_,hb=>⟨hb,Int.le_refl _⟩
 |e::l,c,h,hb=>by
  have p:(cJ_ c e).bad=false:=by
   cases hx:(cJ_ c e).bad
   . rfl
   . have:=r6_ l _ hx
     have h:(cZ_ (cJ_ c e) l).bad=false:=h;rw [this] at h;cases h
  have m:=take_on p hb;have k:=all_on l (cJ_ c e) h m.1;exact ⟨k.1,Int.le_trans m.2 k.2⟩
theorem all_app (c:bf_)(a b:List ar_):cZ_ c (a++b)=cZ_ (cZ_ c a) b:=by unfold cZ_;rw [List.foldl_append]
theorem tc_ (p:Bs):f8_ lS_ p=(FTop (FFr (p.length+1) p).1,(FFr (p.length+1) p).2):=rfl
theorem heard {p q:Bs}(hl:p.length+q.length<=100000) (hr:(FFr (p.length+1) p).1.wait.length<=14000) :
  ((di_ (f8_ lS_ p)).1.bad=true->(di_ (f8_ lS_ (p++q))).1.bad=true) /\
  ((di_ (f8_ lS_ (p++q))).1.bad=false->(di_ (f8_ lS_ p)).1.began=true->(di_ (f8_ lS_ (p++q))).1.began=true/\(di_ (f8_ lS_ p)).1.version<=(di_ (f8_ lS_ (p++q))).1.version):=by
 have ha:=fr_app (p.length+1) p q (by omega) (by omega);rw [fr_fuel (p.length+1+q.length) ((p++q).length+1) (p++q) (by rw [List.length_append];omega) (by omega)] at ha;rw [tc_,tc_,ha];unfold di_;generalize FFr (p.length+1) p=x at hr ⊢;have m:(FTop x.1).bad=x.1.bad:=by
  unfold FTop;rw [decide_eq_false (by omega),Bool.or_false];cases h:x.1.bad
  . exact h
  . rfl
 simp only [m];cases hb:x.1.bad with
 |true=>
  simp only [cond_true,Bool.or_true];refine ⟨fun _ => ?_,fun h => ?_⟩
  . have:(FTop (aW_.mk [] true)).bad=true:=rfl
    rw [this,Bool.or_true]
  . have:(FTop (aW_.mk [] true)).bad=true:=rfl
    rw [this,Bool.or_true] at h;cases h
 |false=>
  simp only [cond_false,Bool.or_false,all_app];generalize FFr (p.length+1+q.length) (x.1.wait++q)=y;refine ⟨fun h => ?_,fun h k => ?_⟩
  . rw [r6_ _ _ h];rfl
  . rw [Bool.or_eq_false_iff] at h
    exact all_on _ _ h.1 k
theorem nE_ {s:Bs}(h:s.length<=1048576) (k:RdOk (s.length+1) s):Ev (fun n _=>d9_ n s) (di_ (f8_ lS_ s))/\Ev (fun n _=>dk_ n s) (di_ (f8_ lS_ s)):=by
 obtain ⟨u,m⟩:=Feed_ev (p:=s) (by omega) k;have hl:=feed_len (s:=lS_) (p:=s) (by simp;omega);generalize f8_ lS_ s=x at u m hl ⊢;have x1:x.1.wait.length+x.2.length<=s.length:=by simpa using hl.1
 have g3:=kR_ (l:=x.2) (by omega) (ev_docs hl.2);have g4:=k9_ (l:=x.2) (by omega) (ev_docs hl.2);refine ⟨ak_ ?_,ak_ ?_⟩
 . simp only [d9_,aM_,fD_,ab_ u,ab_ g3,ag_,ac_]
   unfold di_;cases (cZ_ nS_ x.2).bad<;>simp
 . simp only [dk_,aM_,fD_,ab_ m,ab_ g4,ag_,ac_]
   unfold di_;cases (cZ_ nS_ x.2).bad<;>simp
structure CoIn (s:Bs):Prop where
 len:s.length<=70000
 rd:∀ k m,RdOk m (s.take k)
 short:∀ k,(FFr ((s.take k).length+1) (s.take k)).1.wait.length<=14000
theorem co_of {w:Bs}(p:w=[]\/w=[120,10,10]){l:List ar_}(hl:l.length<=6)(k:Nat):CoIn ((fB_ l++w).take k):=by
 have u:w.length<=3:=by rcases p with rfl|rfl<;>decide
 have B:=j1_ l;have z:(fB_ l++w).length<=60003:=by rw [List.length_append];omega
 refine ⟨by simp only [List.length_take];omega,fun j m=>by rw [List.take_take];exact rd_cut p l _ m,fun j => ?_⟩;rw [List.take_take];exact kS_ u l _ _ (Nat.lt_succ_self _) (by omega)
theorem l2_ {e9_:List Int}(hc:e9_.length<=1048576):Ans (fun n _=>aL_ n e9_) CoIn:=by
 refine c5_ ?_;simp only [aL_];refine bJ_ (l1New_ans hc) fun c h => ?_;refine bJ_ (kZ_ h) fun r hr => ?_;obtain ⟨O,he,J⟩:=hr;generalize r.1=l at O he ⊢;generalize r.2=c at J ⊢;have I:Ans (fun n _=>((ap_ n c 6).bind fun A8=>(cond (A8.1==0) ((ap_ n A8.2 (W (((fB_ l).length:Int)+1))).bind fun A9=>(fF_ 0 A9.1 (fB_ l).length (some (((fB_ l).take A9.1.toNat).drop 0)))) (cond (A8.1==1) (cond (decide ((fB_ l).length+[120,10,10].length<=9223372036854775807)) (some ((fB_ l)++[120,10,10])) none) (some (fB_ l)))))) CoIn:=by
  have B:=j1_ l;refine bJ_ (cC_ J) fun x hx => ?_
  with_reducible refine cr_.2 ⟨fun _ => ?_,fun _ => ?_⟩
  . rw [Wn (by omega) (by omega)]
    refine bJ_ (cC_ hx.cur) fun k V => ?_;obtain ⟨k0,k1,k2⟩:=V
    with_reducible refine h4_.2 ⟨by omega,a8_.2 ?_⟩
    have:=co_of (w:=[]) (.inl rfl) O k.1.toNat
    rwa [List.append_nil] at this
  . with_reducible refine cr_.2 ⟨fun _ => ?_,fun _ => ?_⟩
    . rw [decide_eq_true (by simp only [List.length_cons,List.length_nil];omega)]
      simp only [cond_true];have:=co_of (w:=[120,10,10]) (.inr rfl) O (fB_ l++[120,10,10]).length;rw [List.take_length] at this;exact a8_.2 this
    . have:=co_of (w:=[]) (.inl rfl) O (fB_ l).length
      rw [List.append_nil,List.take_length] at this;exact a8_.2 this
 have z:∀ (m i:Nat)(t:Bs),i+m=l.length->t=fB_ (l.take i)->Ans (fun n N=>aL_.loop6 n (fun B4 B5 B6 B7=>((ap_ n (am_.mk B5 B6 B7) 6).bind fun A8=>(cond (A8.1==0) ((ap_ n A8.2 (W ((B4.length:Int)+1))).bind fun A9=>(fF_ 0 A9.1 B4.length (some ((B4.take A9.1.toNat).drop 0)))) (cond (A8.1==1) (cond (decide (B4.length+[120,10,10].length<=9223372036854775807)) (some (B4++[120,10,10])) none) (some B4))))) N t (i:Int) c.b c.i c.h l) CoIn:=by
  intro m;induction m with
  |zero=>
   intro i t hi B;have e:i=l.length:=by omega
   subst e;rw [List.take_length] at B;subst B;refine dn_ ?_;simp only [aL_.turn6,aL_.step6,cj_,cond_false,dM_];exact I
  |succ m ih=>
   intro i t hi B;have p:i<l.length:=by omega
   have Z:=up1 (show i<=1000000 by omega);have hE:=hD_ (he _ (bB_ ar_.dflt p)).len;have U:=text_le (l.getD i ar_.dflt);have S:=j1_ (l.take i);rw [<-B] at S;have Y:(l.take i).length<=6:=by simp;omega
   have u:t++a0_ (l.getD i ar_.dflt)=fB_ (l.take (i+1)):=by rw [B,List.take_succ_eq_append_getElem p];unfold fB_;rw [List.flatMap_append,List.getD_eq_getElem?_getD,List.getElem?_eq_getElem p];simp
   refine dn_ ?_;simp only [aL_.turn6,aL_.step6,cD_ p,cond_true,Z,Int.toNat_natCast,aM_,jy_];have T:0<=(i:Int)/\(i:Int)<(l.length:Int):=by omega
   with_reducible refine eo_.2 ⟨T,?_⟩
   rw [bZ_ hE,decide_eq_true (by omega)];simp only [cond_true];exact ih (i+1) _ (by omega) u
 exact ge_ (z l.length 0 [] (by omega) rfl)
theorem at_ans {e9_:List Int}(hc:e9_.length<=1048576)(hb:∀ c ∈ e9_,0<=c/\c<=255):Ans (fun n _=>hW_ n e9_ 1) fun x=>0<=x/\x<=255:=by
 refine c5_ ?_;simp only [hW_];refine cr_.2 ⟨fun h => ?_,fun _ => ?_⟩
 . have h:=of_decide_eq_true h
   refine eo_.2 ⟨⟨by decide,h⟩,a8_.2 ?_⟩;have:=hb _ (bB_ 0 (show (1:Int).toNat<e9_.length by omega));rw [Wn (by omega) (by omega)];exact this
 . refine a8_.2 ?_
   rw [Wn (x:=1*7) (by decide) (by decide),Wn (by omega) (by omega)];have m:=Int.tmod_nonneg (a:=1*7+(e9_.length:Int)) 256 (by omega);have k:=Int.tmod_lt_of_pos (1*7+(e9_.length:Int)) (show (0:Int)<256 by decide);omega
theorem big_ev {e9_:List Int}:Ev (fun n _=>gG_ n e9_) (decide ((e9_.length:Int) > 1048576)):=ak_ (by simp only [gG_,ac_])
theorem sf_ {e9_:List Int} (hg:(lenL lenI) e9_) (T:∀ c ∈ e9_,0<=c/\c<=255):∃ n,laws_FnHeard n e9_=some true:=by
 have J:Ans (fun n _=>laws_FnHeard n e9_) fun b=>b=true:=by
  refine c5_ ?_;simp only [laws_FnHeard,bZ_ big_ev];refine cr_.2 ⟨fun _=>a8_.2 rfl,fun hb => ?_⟩;have hb:=of_decide_eq_false hb;have hc:e9_.length<=1048576:=by omega
  refine bJ_ (l2_ hc) fun s hs => ?_;obtain ⟨h1,B,Y⟩:=hs;obtain ⟨k1,k2⟩:=nE_ (s:=s) (by omega) (by have:=B s.length (s.length+1);rwa [List.take_length] at this);rw [bZ_ k2,bZ_ k1];simp only [bne_self_eq_false,beq_self_eq_true,Bool.not_true,cond_true,cond_false];have u:∀ k:Nat,Ans (fun n _=>((dk_ n (s.take k)).bind fun A8=>(cond (!A8.1.bad) (cond (di_ (f8_ lS_ s)).1.bad (some true) (cond (!A8.1.began) (some true) (cond (di_ (f8_ lS_ s)).1.began (some (decide (A8.1.version<=(di_ (f8_ lS_ s)).1.version))) (some false)))) (cond (di_ (f8_ lS_ s)).1.bad (cond (di_ (f8_ lS_ s)).1.bad (some true) (cond (!A8.1.began) (some true) (cond (di_ (f8_ lS_ s)).1.began (some (decide (A8.1.version<=(di_ (f8_ lS_ s)).1.version))) (some false)))) (some false))))) fun b=>b=true:=by
   intro k;have Z:(s.take k).length<=s.length:=by simp only [List.length_take];omega
   rw [bZ_ (nE_ (s:=s.take k) (by omega) (B _ _)).2];have I:=heard (p:=s.take k) (q:=s.drop k) (by simp only [List.length_take,List.length_drop];omega) (Y k);rw [List.take_append_drop] at I;generalize (di_ (f8_ lS_ s)).1=c at I ⊢;generalize (di_ (f8_ lS_ (s.take k))).1=e at I ⊢;obtain ⟨g1,g2⟩:=I;cases z:c.bad with
   |true=>cases e.bad<;>exact a8_.2 rfl
   |false=>
    cases O:e.bad with
    |true=>rw [g1 O] at z;cases z
    |false=>
     cases S:e.began with
     |false=>exact a8_.2 rfl
     |true=>
      obtain ⟨q1,q2⟩:=g2 z S;rw [q1,decide_eq_true q2];exact a8_.2 rfl
  refine cr_.2 ⟨fun m => ?_,fun _ => ?_⟩
  . have m:=of_decide_eq_true m
    refine bJ_ (at_ans hc T) fun a ha => ?_;have V:0<=a*(s.length:Int)/\a*(s.length:Int)<=255*(s.length:Int):=⟨Int.mul_nonneg ha.1 (by omega),Int.mul_le_mul_of_nonneg_right ha.2 (by omega)⟩
    rw [Wn (x:=a*(s.length:Int)) (by omega) (by omega)];have hd:0<=Int.tdiv (a*(s.length:Int)) 256/\Int.tdiv (a*(s.length:Int)) 256<=(s.length:Int):=by rw [Int.tdiv_eq_ediv_of_nonneg V.1];omega
    rw [Wn (by omega) (by omega)];generalize Int.tdiv (a*(s.length:Int)) 256=k at hd ⊢;refine h4_.2 ⟨by omega,?_⟩;simp only [List.drop_zero];exact u k.toNat
  . refine h4_.2 ⟨by omega,?_⟩
    simp only [List.drop_zero];exact u 0
 obtain ⟨v,U,rfl⟩:=J;exact ev_ex U
theorem good_u8 {l:List Int} (h:Good (.sl .v .u8 l)):(lenL lenI) l/\∀ c ∈ l,0<=c/\c<=255:=⟨good_IntS h,fun c hc=>by
 have:=(good_sl (t:=.u8) h).2 c hc (.i .u8 c) (.head _);cases this with
 |i k n h=>
  have h:(decide (IntKind.u8.min<=c)&&decide (c<=IntKind.u8.max))=true:=h;rw [Bool.and_eq_true,decide_eq_true_eq,decide_eq_true_eq] at h;exact h⟩
section
open Go.Proofs Go.Proofs.YtmgcfhlcdhlafaaGreatDoor
namespace laws_FnHeard
theorem pure_law:Pure:=fun o k=>sf_ (good_u8 (k _ (by simp))).1 (good_u8 (k _ (by simp))).2
theorem proved:Rows.FnHeardCardSaid:=card pure_law
end laws_FnHeard
end
end Go.Pi
namespace Go.Proofs.YtmgcfhlcdhlafaaGreatDoor
theorem fnHeard_holds:Rows.FnHeardCardSaid:=Go.Pi.laws_FnHeard.proved
#print axioms fnHeard_holds
end Go.Proofs.YtmgcfhlcdhlafaaGreatDoor
