/- The program's ClientAll returns what the reference's returns, for all arguments, leaves its arguments unmodified and returns memory that it shares with nothing. Text 6 of 6. -/
import Derived.Test.YtccdklkcfjmchaaGreatDoorCaE
set_option linter.unusedVariables false
set_option maxRecDepth 100000
set_option linter.unusedSimpArgs false
section
namespace Go.Pi
theorem eK_:∀ (d:Nat) (j:aa_),b7_ d j≤400→Ev (fun n _=>ax_ n j) (FEnc d j)
 |0,j,h=>by simp only [b7_] at h;omega
 |d+1,j,h=>by
  have ho:=(c0_ h).1
  have hll:=d5_ h
  refine aZ_ ?_
  have hloop:(j.kind=4∨j.kind=5)→∀ (K:Nat→Bs→Int→Int→Bs→List aa_→List Bs→Option Bs) (v:Bs),Ev (fun n N=>K n (eG_ (FEnc d) j j.list.length) j.kind j.n_ j.s j.list j.names) v→Ev (fun n _=>ax_.loop17 n (ax_ n) (K n) n [] 0 j.kind j.n_ j.s j.list j.names) v:=by
   intro hk45 K v hK
   refine en_ (fun i=>eG_ (FEnc d) j i) j.list.length (fun n N i (o:Bs)=>ax_.loop17 n (ax_ n) (K n) N o (i:Int) j.kind j.n_ j.s j.list j.names) v (fun i hi F hF => ?_) ?_
   · have hp:=hs_ h hi
     have hx:=eK_ d (j.list.getD i aa_.dflt) hp.size
     have hjl:=ja_ h i (by omega)
     have he:=hp.enc
     have hW:=W_up hi (show j.list.length≤cq_ by simp only [cq_];omega)
     rcases hk45 with hk|hk
     · have h5:(j.kind == 5)=false:=by rw [hk];rfl
       by_cases h0:i=0
       · have hg:decide ((i:Int) > 0)=false:=decide_eq_false (by omega)
         have e0:eG_ (FEnc d) j i=[]:=by rw [h0];rfl
         have e1:eG_ (FEnc d) j (i+1)=eg_ (FEnc d) j i:=by rw [h0];exact gl_ _ _
         rw [e1] at hF
         unfold eg_ at hF
         rw [h5,cond_false] at hF
         simp only [e0,ax_.turn17,ax_.step17,bC_,Int.toNat_natCast,hW,h5,hg,reduceCtorEq,false_implies,true_implies,true_and,and_true,aw_,b9_,cz_,c2_ hi,cP_ hi,au_ hx,List.nil_append]
         generalize FEnc d (j.list.getD i aa_.dflt)=x at hF he ⊢
         repeat' (first|apply And.intro|intro _)
         all_goals (first|contradiction|exact hF|trivial|(rename_i hc;have hc:=of_decide_eq_false hc;simp only [List.length_append,List.length_cons,List.length_nil] at hc;omega))
       · rw [ft_ _ _ (by omega)] at hF
         unfold eg_ at hF
         rw [h5,cond_false] at hF
         have hg:decide ((i:Int) > 0)=true:=decide_eq_true (by omega)
         simp only [ax_.turn17,ax_.step17,bC_,Int.toNat_natCast,hW,h5,hg,aw_,b9_,cz_,c2_ hi,cP_ hi,au_ hx]
         generalize FEnc d (j.list.getD i aa_.dflt)=x at hF he ⊢
         generalize eG_ (FEnc d) j i=o at hF hjl ⊢
         repeat' (first|apply And.intro|intro _)
         all_goals (first|contradiction|exact hF|trivial|(rename_i hc;have hc:=of_decide_eq_false hc;simp only [List.length_append,List.length_cons,List.length_nil] at hc;omega))
     · have h5:(j.kind == 5)=true:=by rw [hk];rfl
       have hn:=hp.name hk
       have hq:=eX_ (s:=j.names.getD i []) (by omega)
       have hql:=ep_ (j.names.getD i [])
       by_cases h0:i=0
       · have hg:decide ((i:Int) > 0)=false:=decide_eq_false (by omega)
         have e0:eG_ (FEnc d) j i=[]:=by rw [h0];rfl
         have e1:eG_ (FEnc d) j (i+1)=eg_ (FEnc d) j i:=by rw [h0];exact gl_ _ _
         rw [e1] at hF
         unfold eg_ at hF
         rw [h5,cond_true] at hF
         simp only [e0,ax_.turn17,ax_.step17,bC_,Int.toNat_natCast,hW,h5,hg,reduceCtorEq,false_implies,true_implies,true_and,and_true,aw_,b9_,cz_,c2_ hi,cP_ hi,cP_ hn.1,au_ hx,au_ hq,List.nil_append]
         generalize FEnc d (j.list.getD i aa_.dflt)=x at hF he ⊢
         generalize fh_ (j.names.getD i [])=y at hF hql ⊢
         rw [←List.append_assoc] at hF
         repeat' (first|apply And.intro|intro _)
         all_goals (first|contradiction|exact hF|trivial|(rename_i hc;have hc:=of_decide_eq_false hc;simp only [List.length_append,List.length_cons,List.length_nil] at hc;omega))
       · rw [ft_ _ _ (by omega)] at hF
         unfold eg_ at hF
         rw [h5,cond_true] at hF
         have hg:decide ((i:Int) > 0)=true:=decide_eq_true (by omega)
         simp only [ax_.turn17,ax_.step17,bC_,Int.toNat_natCast,hW,h5,hg,aw_,b9_,cz_,c2_ hi,cP_ hi,cP_ hn.1,au_ hx,au_ hq]
         generalize FEnc d (j.list.getD i aa_.dflt)=x at hF he ⊢
         generalize fh_ (j.names.getD i [])=y at hF hql ⊢
         generalize eG_ (FEnc d) j i=o at hF hjl ⊢
         rw [←List.append_assoc,←List.append_assoc] at hF
         repeat' (first|apply And.intro|intro _)
         all_goals (first|contradiction|exact hF|trivial|(rename_i hc;have hc:=of_decide_eq_false hc;simp only [List.length_append,List.length_cons,List.length_nil] at hc;omega))
   · simp only [ax_.turn17,ax_.step17,cK_,cond_false]
     exact hK
  have hjl:=ja_ h j.list.length (Nat.le_refl _)
  simp only [ax_,bC_]
  rcases ho.kind with hk|hk|hk|hk|hk|hk
  · simp only [FEnc,hk,Int.reduceBEq,cond_true,as_]
  · simp only [FEnc,hk,Int.reduceBEq,cond_true,cond_false,aw_,as_]
    cases (j.n_ == 1)<;>simp
  · have hn:=ho.num hk
    simp only [FEnc,hk,Int.reduceBEq,cond_true,cond_false,au_ (eL_ (x:=j.n_) (by omega) (by omega)),as_]
  · have hs:=ho.text hk
    simp only [FEnc,hk,Int.reduceBEq,cond_true,cond_false,au_ (eX_ (s:=j.s) (by omega)),as_]
  all_goals (
   have e0:(j.kind == 0)=false:=by rw [hk];rfl
   have e1:(j.kind == 1)=false:=by rw [hk];rfl
   have e2:(j.kind == 2)=false:=by rw [hk];rfl
   have e3:(j.kind == 3)=false:=by rw [hk];rfl
   simp only [FEnc,e0,e1,e2,e3,cond_false]
   refine hloop (by omega) _ _ ?_
   generalize eG_ (FEnc d) j j.list.length=o at hjl ⊢
   simp only [hk,Int.reduceBEq,cond_true,cond_false,aw_,as_,cz_]
   refine ⟨fun _=>⟨fun _=>trivial,fun hc => ?_⟩,fun hc => ?_⟩
   · have hc:=of_decide_eq_false hc
     simp only [List.length_append,List.length_cons,List.length_nil] at hc;omega
   · have hc:=of_decide_eq_false hc
     simp only [List.length_append,List.length_cons,List.length_nil] at hc;omega)
theorem Join_ev {l:List Bs} {sep:Bs} (hl:l.length≤1000000) (hj:(Lib.join l sep).length≤1000000000):Ev (fun n _=>strings_Join n l sep) (Lib.join l sep):=by
 refine aZ_ ?_
 simp only [strings_Join,nJoin,aw_,as_,cz_]
 refine ⟨fun _=>trivial,fun h => ?_⟩
 rw [decide_eq_true (by omega),decide_eq_true (by omega)] at h;cases h
theorem e8_:∀ (d:Nat) (j:aa_),b7_ d j≤400→Ev (fun n _=>aM_ n j) (FEnc d j)
 |0,j,h=>by simp only [b7_] at h;omega
 |d+1,j,h=>by
  have ho:=(c0_ h).1
  have hll:=d5_ h
  refine aZ_ ?_
  have hloop:∀ (K:Nat→Int→Int→Bs→List aa_→List Bs→List Bs→Option Bs) (v:Bs),Ev (fun n N=>K n j.kind j.n_ j.s j.list j.names ((List.range j.list.length).map (eg_ (FEnc d) j))) v→Ev (fun n _=>aM_.loop4 n (aM_ n) (K n) n j.list (j.list.length:Int) 0 j.kind j.n_ j.s j.list j.names []) v:=by
   intro K v hK
   refine en_ (fun i=>(List.range i).map (eg_ (FEnc d) j)) j.list.length (fun n N i (o:List Bs)=>aM_.loop4 n (aM_ n) (K n) N j.list (j.list.length:Int) (i:Int) j.kind j.n_ j.s j.list j.names o) v (fun i hi F hF => ?_) ?_
   · have hp:=hs_ h hi
     have hx:=e8_ d (j.list.getD i aa_.dflt) hp.size
     have he:=hp.enc
     have hW:=W_up hi (show j.list.length≤cq_ by simp only [cq_];omega)
     have hol:((List.range i).map (eg_ (FEnc d) j)).length=i:=by simp
     rw [List.range_succ,List.map_append,List.map_cons,List.map_nil] at hF
     unfold eg_ at hF
     cases h5:(j.kind == 5) with
     |false=>
      simp only [h5,cond_false] at hF
      unfold eg_ at hol ⊢
      simp only [h5,cond_false] at hol ⊢
      simp only [aM_.turn4,aM_.step4,bC_,Int.toNat_natCast,hW,h5,cond_false,aw_,b9_,cz_,cF_,c2_ hi,cP_ hi,au_ hx]
      generalize FEnc d (j.list.getD i aa_.dflt)=x at hF he ⊢
      generalize (List.range i).map _=o at hF hol ⊢
      exact ⟨fun _=>⟨trivial,by simp;omega,hF⟩,fun h=>(by cases h)⟩
     |true=>
      have hn:=hp.name (by simpa using h5)
      have hq:=fA_ (s:=j.names.getD i []) (by omega)
      have hql:=ep_ (j.names.getD i [])
      simp only [h5,cond_true] at hF
      unfold eg_ at hol ⊢
      simp only [h5,cond_true] at hol ⊢
      simp only [aM_.turn4,aM_.step4,bC_,Int.toNat_natCast,hW,h5,cond_true,aw_,b9_,cz_,cF_,c2_ hi,cP_ hi,cP_ hn.1,au_ hx,au_ hq]
      generalize FEnc d (j.list.getD i aa_.dflt)=x at hF he ⊢
      generalize fh_ (j.names.getD i [])=y at hF hql ⊢
      generalize (List.range i).map _=o at hF hol ⊢
      rw [←List.append_assoc] at hF
      repeat' (first|apply And.intro|intro _)
      all_goals (first|contradiction|exact hF|trivial|(rename_i hc;have hc:=of_decide_eq_false hc;simp only [List.length_append,List.length_cons,List.length_nil] at hc;omega)|(simp;omega))
   · simp only [aM_.turn4,aM_.step4,cK_,cond_false]
     exact hK
  have hjl:=ja_ h j.list.length (Nat.le_refl _)
  have hJ:=Join_ev (l:=(List.range j.list.length).map (eg_ (FEnc d) j)) (sep:=[44]) (by simp;omega) (by unfold eG_ at hjl;omega)
  simp only [aM_,bC_]
  refine hloop _ _ ?_
  rcases ho.kind with hk|hk|hk|hk|hk|hk
  · simp only [FEnc,hk,Int.reduceBEq,cond_true,as_]
  · have hb:=ho.bool hk
    simp only [FEnc,hk,Int.reduceBEq,cond_true,cond_false,b9_,as_]
    have:j.n_=0∨j.n_=1:=by omega
    rcases this with e|e<;>rw [e]<;>exact ⟨⟨by decide,by decide⟩,rfl⟩
  · have hn:=ho.num hk
    simp only [FEnc,hk,Int.reduceBEq,cond_true,cond_false,au_ (la_ (x:=j.n_) (by omega) (by omega)),as_]
  · have hs:=ho.text hk
    simp only [FEnc,hk,Int.reduceBEq,cond_true,cond_false,au_ (fA_ (s:=j.s) (by omega)),as_]
  all_goals (
   simp only [FEnc,hk,Int.reduceBEq,cond_true,cond_false,au_ hJ]
   unfold eG_ at hjl ⊢
   generalize Lib.join ((List.range j.list.length).map (eg_ (FEnc d) j)) [44]=o at hjl ⊢
   simp only [aw_,as_,cz_]
   refine ⟨fun _=>⟨fun _=>trivial,fun hc => ?_⟩,fun hc => ?_⟩
   · have hc:=of_decide_eq_false hc
     simp only [List.length_append,List.length_cons,List.length_nil] at hc;omega
   · have hc:=of_decide_eq_false hc
     simp only [List.length_append,List.length_cons,List.length_nil] at hc;omega)
def cS_ (j:aa_):Bs:=cond (cd_ j) (cond (decide (((FEnc 6 j).length:Int) > 6000)) [] (FEnc 6 j)) []
theorem fx_ {j:aa_} (h:fy_ 6 j):Ev (fun n _=>b0_ n j) (cS_ j):=by
 refine aZ_ ?_
 simp only [b0_,bC_,au_ (c7_ h),aw_,as_,cS_]
 cases hj:cd_ j with
 |false=>simp
 |true=>
  simp only [au_ (eK_ 6 j (of_decide_eq_true hj)),aw_,as_]
  cases decide (((FEnc 6 j).length:Int) > 6000)<;>simp
theorem ec_ {j:aa_} (h:fy_ 6 j):Ev (fun n _=>b6_ n j) (cS_ j):=by
 refine aZ_ ?_
 simp only [b6_,bC_,au_ (c8_ h),aw_,as_,cS_]
 cases hj:cd_ j with
 |false=>simp
 |true=>
  simp only [au_ (e8_ 6 j (of_decide_eq_true hj)),aw_,as_]
  cases decide (((FEnc 6 j).length:Int) > 6000)<;>simp
end Go.Pi
end
section
namespace Go.Pi
def deepJ:Nat→aa_→Prop
 |0,_=>False
 |d+1,j=>∀ x ∈ j.list,deepJ d x
theorem eo_:∀ (d:Nat) (j:aa_),b7_ d j≤400→deepJ d j
 |0,j,h=>by simp only [b7_] at h;omega
 |d+1,j,h=>fun x hx=>by
  refine eo_ d x ?_
  simp only [b7_] at h
  have:=eV_ (b7_ d) hx
  cases ho:FOwn j with
  |false=>rw [ho] at h;simp only [cond_false] at h;omega
  |true=>rw [ho] at h;simp only [cond_true] at h;omega
def gH_ (a b:List Bs):Bool:=decide (a.length=b.length)&&k6_ (fun i=>a.getD i [] == b.getD i []) a.length
def ds_:Nat→aa_→aa_→Bool
 |0,_,_=>true
 |d+1,a,b=>(a.kind == b.kind)&&((a.n_ == b.n_)&&((a.s == b.s)&&(gH_ a.names b.names&&(decide (a.list.length=b.list.length)&&k6_ (fun i=>ds_ d (a.list.getD i aa_.dflt) (b.list.getD i aa_.dflt)) a.list.length))))
theorem ne_len {n m:Nat}:((n:Int) != (m:Int)) = !decide (n=m):=by
 by_cases h:n=m
 · rw [h,decide_eq_true rfl];simp
 · rw [decide_eq_false h];simp;omega
theorem dz_:∀ (d:Nat) (a b:aa_),deepJ d a→fy_ d a→Ev (fun n _=>ae_ n a b) (ds_ d a b)
 |0,a,b,h,_=>h.elim
 |d+1,a,b,h,hl=>by
  refine aZ_ ?_
  simp only [ae_,ne_len,aw_,as_,ds_,gH_]
  by_cases hq:a.list.length=b.list.length
  · by_cases hq2:a.names.length=b.names.length
    · have hN:Ev (fun n _=>ae_.loop14 n (ae_ n) (some true) n 0 a.kind a.n_ a.s a.list a.names b.kind b.n_ b.s b.list b.names) (k6_ (fun i=>a.names.getD i [] == b.names.getD i []) a.names.length):=by
       refine ha_ (fD_ (fun n N i=>ae_.loop14 n (ae_ n) (some true) N (i:Int) a.kind a.n_ a.s a.list a.names b.kind b.n_ b.s b.list b.names) (fun i=>a.names.getD i [] == b.names.getD i []) (len:=a.names.length) (v:=true) (fun i w hi ih => ?_) ?_) (by rw [Bool.and_true])
       · simp only [ae_.turn14,ae_.step14,Int.toNat_natCast,W_up hi hl.1.2.1,aw_,b9_,as_,dC_ ih,c2_ hi,cP_ hi,cP_ (hq2 ▸ hi)]
         cases (a.names.getD i [] == b.names.getD i [])<;>simp
       · simp only [ae_.turn14,ae_.step14,cK_,cond_false,as_]
      have hL:Ev (fun n _=>ae_.loop6 n (ae_ n) (fun xy2 xy3 xy4 xy5 xy6 xy7 xy8 xy9 xy10 xy11=>(ae_.loop14 n (ae_ n) (some true) n 0 xy2 xy3 xy4 xy5 xy6 xy7 xy8 xy9 xy10 xy11)) n 0 a.kind a.n_ a.s a.list a.names b.kind b.n_ b.s b.list b.names) (k6_ (fun i=>ds_ d (a.list.getD i aa_.dflt) (b.list.getD i aa_.dflt)) a.list.length&&k6_ (fun i=>a.names.getD i [] == b.names.getD i []) a.names.length):=by
       refine fD_ (fun n N i=>ae_.loop6 n (ae_ n) (fun xy2 xy3 xy4 xy5 xy6 xy7 xy8 xy9 xy10 xy11=>(ae_.loop14 n (ae_ n) (some true) n 0 xy2 xy3 xy4 xy5 xy6 xy7 xy8 xy9 xy10 xy11)) N (i:Int) a.kind a.n_ a.s a.list a.names b.kind b.n_ b.s b.list b.names) _ (fun i w hi ih => ?_) ?_
       · have hx:=dz_ d (a.list.getD i aa_.dflt) (b.list.getD i aa_.dflt) (h _ (b3_ _ hi)) (hl.2.2 _ (b3_ _ hi))
         simp only [ae_.turn6,ae_.step6,bC_,Int.toNat_natCast,W_up hi hl.2.1,aw_,b9_,au_ hx,as_,dC_ ih,c2_ hi,cP_ hi,cP_ (hq ▸ hi)]
         cases ds_ d (a.list.getD i aa_.dflt) (b.list.getD i aa_.dflt)<;>simp
       · simp only [ae_.turn6,ae_.step6,cK_,cond_false]
         exact hN
      rw [decide_eq_true hq,decide_eq_true hq2]
      simp only [dC_ hL,bne]
      generalize k6_ (fun i=>ds_ d (a.list.getD i aa_.dflt) (b.list.getD i aa_.dflt)) a.list.length=u
      generalize k6_ (fun i=>a.names.getD i [] == b.names.getD i []) a.names.length=w
      cases (a.kind == b.kind)<;>cases (a.n_ == b.n_)<;>cases (a.s == b.s)<;>cases u<;>cases w<;>simp
    · rw [decide_eq_false hq2]
      simp only [bne]
      cases (a.kind == b.kind)<;>cases (a.n_ == b.n_)<;>cases (a.s == b.s)<;>cases decide (a.list.length=b.list.length)<;>simp
  · rw [decide_eq_false hq]
    simp only [bne]
    cases (a.kind == b.kind)<;>cases (a.n_ == b.n_)<;>cases (a.s == b.s)<;>simp
end Go.Pi
end
section
namespace Go.Pi
def cZ_ (ns:List Bs) (x:Bs):Nat:=ns.findIdx (fun y => !Op.bytesLess y x)
def eu_ (ns:List Bs) (x:Bs):Nat:=if ns.getD (cZ_ ns x) []=x∧cZ_ ns x<ns.length then cZ_ ns x+1 else cZ_ ns x
def jO_ {α:Type} (ns:List Bs) (x:Bs) (l:List α) (y:α):List α:=l.take (cZ_ ns x)++[y]++l.drop (eu_ ns x)
theorem fk_ {α:Type} (d:α) {a m:List α} {i q:Nat} (p:Nat) (hi:i<a.length) (h:q≤i):a.take p++m++(a.take (i+1)).drop q=a.take p++m++(a.take i).drop q++[a.getD i d]:=by
 rw [de_ d hi,List.drop_append_of_le_length (by simp;omega)]
 simp
theorem put_idx {ns:List Bs} {x:Bs} {i:Nat} (hi:i<ns.length) (hle:i≤cZ_ ns x):(!Op.bytesLess (ns.getD i []) x)=decide (i=cZ_ ns x):=by
 rw [List.getD_eq_getElem?_getD,List.getElem?_eq_getElem hi,Option.getD_some]
 unfold cZ_ at hle ⊢
 by_cases h:i=ns.findIdx (fun y => !Op.bytesLess y x)
 · rw [decide_eq_true h]
   have:=List.findIdx_getElem (xs:=ns) (p:=fun y => !Op.bytesLess y x) (w:=by omega)
   simp only [←h] at this
   exact this
 · rw [decide_eq_false h]
   exact List.not_of_lt_findIdx (xs:=ns) (p:=fun y => !Op.bytesLess y x) (i:=i) (by omega)
theorem fV_ {o j:aa_} {x:Bs} (hk:o.names.length≤2000000) (he:o.list.length=o.names.length) (hlt:∀ y,Op.bytesLess y x=true→(y == x)=false) (hne:∀ i,eu_ o.names x≤i→i<o.names.length→(o.names.getD i [] == x)=false) :
  Ev (fun n _=>a8_ n o x j) (aa_.mk 5 0 [] (jO_ o.names x o.list j) (jO_ o.names x o.names x)):=by
 refine aZ_ ?_
 have ht:o.names.length≤cq_:=by simp only [cq_];omega
 obtain ⟨p,hp⟩:∃ p,p=cZ_ o.names x:=⟨_,rfl⟩
 have hpl:p≤o.names.length:=by rw [hp];exact List.findIdx_le_length
 obtain ⟨q,hq⟩:∃ q,q=eu_ o.names x:=⟨_,rfl⟩
 have hqp:p≤q∧q≤p+1:=by rw [hq,hp];unfold eu_;split<;>omega
 have hT:o.list.take o.names.length=o.list:=List.take_of_length_le (by omega)
 let S:Nat→Bool × List aa_ × List Bs:=fun i=>if i≤p then (false,o.list.take i,o.names.take i) else (true,o.list.take p++[j]++(o.list.take i).drop q,o.names.take p++[x]++(o.names.take i).drop q)
 have hS0:S 0=(false,[],[]):=by simp [S]
 simp only [a8_]
 have:=en_ S o.names.length (fun n N i (s:Bool × List aa_ × List Bs)=>a8_.loop5 n (fun xy1 xy2 xy3 xy4 xy5 xy6 xy7 xy8 xy9 xy10 xy11 xy12 xy13 xy14 xy15=>(cond (!xy2) (cx_ (xy15.length+([xy1]:List Bs).length) 16 (cx_ (xy14.length+([(aa_.mk xy3 xy4 xy5 xy6 xy7)]:List aa_).length) 80 (some (aa_.mk xy11 xy12 xy13 (xy14++([(aa_.mk xy3 xy4 xy5 xy6 xy7)]:List aa_)) (xy15++([xy1]:List Bs)))))) (some (aa_.mk xy11 xy12 xy13 xy14 xy15)))) N x s.1 (i:Int) o.kind o.n_ o.s o.list o.names j.kind j.n_ j.s j.list j.names 0 0 [] 5 0 [] s.2.1 s.2.2)
  (aa_.mk 5 0 [] (jO_ o.names x o.list j) (jO_ o.names x o.names x)) (fun i hi F hF => ?_) ?_
 · rw [hS0] at this;exact this
 · have hx:=put_idx (ns:=o.names) (x:=x) hi
   rw [←hp] at hx
   have hln:(S i).2.2.length≤o.names.length+1:=by simp only [S];split<;>simp<;>omega
   have hll:(S i).2.1.length≤o.names.length+1:=by simp only [S];split<;>simp<;>omega
   have hil:i<o.list.length:=by omega
   simp only [a8_.turn5,a8_.step5,cM_,bC_,Int.toNat_natCast,W_up hi ht,aw_,b9_,cF_,c2_ hi,cP_ hi,cP_ hil]
   by_cases hle:i≤p
   · have s1:S i=(false,o.list.take i,o.names.take i):=by simp only [S,if_pos hle]
     rw [s1] at hln hll ⊢
     by_cases e:i=p
     · have hb:(!Op.bytesLess (o.names.getD i []) x)=true:=by rw [hx hle];exact decide_eq_true e
       subst e
       by_cases hs:o.names.getD i []=x
       · have hqv:q=i+1:=by rw [hq];unfold eu_;rw [←hp,if_pos ⟨hs,hi⟩]
         have s2:S (i+1)=(true,o.list.take i++[j],o.names.take i++[x]):=by
          simp only [S,if_neg (show ¬ i+1≤i by omega)]
          rw [List.drop_eq_nil_of_le (by simp;omega),List.drop_eq_nil_of_le (by simp;omega),List.append_nil,List.append_nil]
         rw [s2] at hF
         have hs':(o.names.getD i [] == x)=true:=by simpa using hs
         simp only [hb,hs',cond_true,cond_false,Bool.not_true,Bool.not_false]
         repeat' (first|apply And.intro|intro _)
         all_goals (first|contradiction|exact hF|trivial|(simp;omega))
       · have hqv:q=i:=by rw [hq];unfold eu_;rw [←hp,if_neg (fun h=>hs h.1)]
         have s2:S (i+1)=(true,o.list.take i++[j]++[o.list.getD i aa_.dflt],o.names.take i++[x]++[o.names.getD i []]):=by
          simp only [S,if_neg (show ¬ i+1≤i by omega),hqv]
          rw [fk_ aa_.dflt i hil (Nat.le_refl _),fk_ [] i hi (Nat.le_refl _),List.drop_eq_nil_of_le (by simp;omega),List.drop_eq_nil_of_le (by simp;omega),List.append_nil,List.append_nil]
         rw [s2] at hF
         have hs':(o.names.getD i [] == x)=false:=by simpa using hs
         simp only [hb,hs',cond_true,cond_false,Bool.not_true,Bool.not_false]
         repeat' (first|apply And.intro|intro _)
         all_goals (first|contradiction|exact hF|trivial|(simp;omega))
     · have hb:(!Op.bytesLess (o.names.getD i []) x)=false:=by rw [hx hle];exact decide_eq_false e
       have hs':(o.names.getD i [] == x)=false:=hlt (o.names.getD i []) (by rw [Bool.not_eq_false'] at hb;exact hb)
       have s2:S (i+1)=(false,o.list.take i++[o.list.getD i aa_.dflt],o.names.take i++[o.names.getD i []]):=by
        simp only [S,if_pos (show i+1≤p by omega),de_ aa_.dflt hil,de_ [] hi]
       rw [s2] at hF
       simp only [hb,hs',cond_true,cond_false,Bool.not_true,Bool.not_false]
       repeat' (first|apply And.intro|intro _)
       all_goals (first|contradiction|exact hF|trivial|(simp;omega))
   · have s1:S i=(true,o.list.take p++[j]++(o.list.take i).drop q,o.names.take p++[x]++(o.names.take i).drop q):=by simp only [S,if_neg hle]
     have s2:S (i+1)=(true,o.list.take p++[j]++(o.list.take i).drop q++[o.list.getD i aa_.dflt],o.names.take p++[x]++(o.names.take i).drop q++[o.names.getD i []]):=by
      simp only [S,if_neg (show ¬ i+1≤p by omega)]
      rw [fk_ aa_.dflt p hil (by omega),fk_ [] p hi (by omega)]
     have hs':=hne i (by omega) hi
     rw [s1] at hln hll ⊢
     rw [s2] at hF
     simp only [hs',cond_true,cond_false,Bool.not_true,Bool.not_false]
     repeat' (first|apply And.intro|intro _)
     all_goals (first|contradiction|exact hF|trivial|(simp at hln hll ⊢;omega))
 · simp only [a8_.turn5,a8_.step5,cM_,cK_,cond_false,aw_,cF_,as_]
   unfold jO_
   rw [←hp,←hq]
   by_cases hle:o.names.length≤p
   · have e:p=o.names.length:=by omega
     have hqv:q=p:=by rw [hq];unfold eu_;rw [←hp,if_neg (fun h=>by omega)]
     have s1:S o.names.length=(false,o.list,o.names):=by simp only [S,if_pos hle,List.take_length];rw [List.take_of_length_le (by omega)]
     rw [s1,hqv,e,List.take_of_length_le (l:=o.list) (by omega),List.drop_eq_nil_of_le (show o.list.length≤o.names.length by omega),List.take_length,List.drop_length]
     refine ⟨fun _=>⟨by simp;omega,by simp;omega,by simp⟩,fun h=>(by cases h)⟩
   · have s1:S o.names.length=(true,o.list.take p++[j]++o.list.drop q,o.names.take p++[x]++o.names.drop q):=by simp only [S,if_neg hle,List.take_length];rw [hT]
     rw [s1]
     exact ⟨fun h=>(by cases h),fun _=>rfl⟩
end Go.Pi
end
section
namespace Go.Pi
theorem ee_:∀ (x y:Bs),Op.bytesLess x y=decide (x<y)
 |[],[]=>by simp [Op.bytesLess]
 |_::_,[]=>by simp [Op.bytesLess]
 |[],_::_=>by simp [Op.bytesLess]
 |a::x,b::y=>by
  rw [Op.bytesLess,ee_ x y]
  simp only [List.cons_lt_cons_iff]
  by_cases h1:a<b<;>by_cases h2:a=b<;>by_cases h3:x<y<;>simp [h1,h2,h3]
theorem less_ne {x y:Bs} (h:Op.bytesLess y x=true):(y == x)=false:=by
 rw [ee_] at h
 exact beq_eq_false_iff_ne.2 fun e=>by subst e;exact List.lt_irrefl y (of_decide_eq_true h)
end Go.Pi
end
section
namespace Go.Pi
def el_:aa_:=aa_.mk 0 0 [] [] []
def hV_ (j:aa_):aa_:=cond (cd_ j) j el_
theorem orNull_ev {j:aa_} (h:fy_ 6 j):Ev (fun n _=>b5_ n j) (hV_ j):=by
 refine aZ_ ?_
 simp only [b5_,bC_,au_ (c8_ h),aw_,as_,hV_,el_]
 cases cd_ j<;>simp
end Go.Pi
end
section
namespace Go.Pi
theorem f3_ {d:Nat} {j:aa_} (h:b7_ (d+1) j≤400):j.names.length≤400:=by
 have h1:=d5_ h
 have ho:=(c0_ h).1
 by_cases hk:j.kind=5
 · have:=(ho.obj hk).1;omega
 · have:FOwn j=true:=by
    simp only [b7_] at h
    cases hf:FOwn j with
    |true=>rfl
    |false=>rw [hf,cond_false] at h;omega
   unfold FOwn at this
   simp only [Bool.and_eq_true,Bool.or_eq_true] at this
   rcases this.2.1 with h2|h2
   · have:=of_decide_eq_true h2;omega
   · exact absurd (by simpa using h2) hk
theorem cV_:∀ (d:Nat) (j:aa_),b7_ d j≤400→Ev (fun n _=>am_ n j) j
 |0,j,h=>by simp only [b7_] at h;omega
 |d+1,j,h=>by
  have hll:=d5_ h
  have hnl:=f3_ h
  refine aZ_ ?_
  have hc:Ev (fun n _=>bv_ n j.names) j.names:=aZ_ (by simp only [bv_,cF_,as_,List.nil_append,List.length_nil,and_true];omega)
  simp only [am_,au_ hc]
  have:=en_ (fun i=>j.list.take i) j.list.length (fun n N i (o:List aa_)=>am_.loop4 n (am_ n) (fun xy3 xy4 xy5 xy6 xy7 xy8 xy9 xy10=>(some (aa_.mk xy6 xy7 xy8 xy9 xy10))) N j.list (j.list.length:Int) (i:Int) 0 0 [] j.kind j.n_ j.s o j.names) j (fun i hi F hF => ?_) ?_
  · exact this
  · have hp:=hs_ h hi
    have hx:=cV_ d (j.list.getD i aa_.dflt) hp.size
    rw [de_ aa_.dflt hi] at hF
    simp only [am_.turn4,am_.step4,bC_,Int.toNat_natCast,W_up hi (show j.list.length≤cq_ by simp only [cq_];omega),aw_,b9_,cF_,c2_ hi,cP_ hi,au_ hx]
    exact ⟨fun _=>⟨trivial,by simp;omega,hF⟩,fun h=>(by cases h)⟩
  · simp only [am_.turn4,am_.step4,cK_,cond_false,List.take_length,as_,cM_]
theorem cY_:∀ (d:Nat) (j:aa_),b7_ d j≤400→Ev (fun n _=>aD_ n j) j
 |0,j,h=>by simp only [b7_] at h;omega
 |d+1,j,h=>by
  have hll:=d5_ h
  have hnl:=f3_ h
  refine aZ_ ?_
  simp only [aD_,cF_,List.nil_append,List.length_nil]
  refine ⟨by omega,?_⟩
  have:=en_ (fun i=>j.list.take i) j.list.length (fun n N i (o:List aa_)=>aD_.loop4 n (aD_ n) (fun xy2 xy3 xy4 xy5 xy6 xy7 xy8 xy9=>(some (aa_.mk xy5 xy6 xy7 xy8 xy9))) N (i:Int) j.kind j.n_ j.s j.list j.names 0 0 [] j.kind j.n_ j.s o j.names) j (fun i hi F hF => ?_) ?_
  · exact this
  · have hp:=hs_ h hi
    have hx:=cY_ d (j.list.getD i aa_.dflt) hp.size
    rw [de_ aa_.dflt hi] at hF
    simp only [aD_.turn4,aD_.step4,bC_,Int.toNat_natCast,W_up hi (show j.list.length≤cq_ by simp only [cq_];omega),aw_,b9_,cF_,c2_ hi,cP_ hi,au_ hx]
    exact ⟨fun _=>⟨trivial,by simp;omega,hF⟩,fun h=>(by cases h)⟩
  · simp only [aD_.turn4,aD_.step4,cK_,cond_false,List.take_length,as_,cM_]
def gh_ (j:aa_):Bool:=(j.kind == 0)&&((j.n_ == 0)&&((j.s == [])&&(decide (j.list.length=0)&&decide (j.names.length=0))))
theorem i4_ {α:Type} (l:List α):((l.length:Int) == 0)=decide (l.length=0):=by
 by_cases h:l.length=0
 · rw [h];rfl
 · rw [decide_eq_false h];simp;intro e;exact h (by rw [e];rfl)
theorem fB_ {j:aa_}:Ev (fun n _=>b1_ n j) (gh_ j):=by
 refine aZ_ ?_
 simp only [b1_,aw_,as_,gh_,i4_]
 cases (j.kind == 0)<;>cases (j.n_ == 0)<;>cases (j.s == [])<;>cases decide (j.list.length=0)<;>simp
theorem mE_ (d:Nat) (j:aa_):ds_ (d+1) j el_=gh_ j:=by
 simp only [ds_,el_,gH_,gh_,List.length_nil]
 by_cases h1:j.names.length=0
 · by_cases h2:j.list.length=0
   · rw [h1,h2];simp [k6_,ff_]
   · have h2:j.list≠[]:=fun e=>h2 (by rw [e];rfl)
     simp [h2]
 · have h1:j.names≠[]:=fun e=>h1 (by rw [e];rfl)
   simp [h1]
def l2_ (w:List Bs):Bool:=k6_ (fun i=>gj_ (w.getD i [])) w.length
def eE_ (o:TOp):Bool:=inn o.kind 1 4&&(decide (o.way.length≤6)&&(cd_ o.value&&(l2_ o.way&&((o.kind != 2)||gh_ o.value))))
def i7_ (o:TOp):Prop:=mi_ cq_ o.way∧fy_ 6 o.value
theorem dJ_ (o:TOp):TOp.mk o.kind o.way o.value=o:=rfl
theorem gt_le {n:Nat}:decide ((n:Int) > 6) = !decide (n≤6):=by
 by_cases h:n≤6
 · rw [decide_eq_true h,decide_eq_false (by omega)];rfl
 · rw [decide_eq_false h,decide_eq_true (by omega)];rfl
theorem le_le {n:Nat}:decide ((n:Int)≤6)=decide (n≤6):=by
 by_cases h:n≤6
 · rw [decide_eq_true h,decide_eq_true (by omega)]
 · rw [decide_eq_false h,decide_eq_false (by omega)]
theorem gO_ {o:TOp} (h:i7_ o):Ev (fun n _=>bi_ n o) (eE_ o):=by
 refine aZ_ ?_
 simp only [bi_,bC_,l1In_b,au_ (c7_ h.2),aw_,as_,gt_le,eE_]
 cases hj:cd_ o.value with
 |false=>cases inn o.kind 1 4<;>cases decide (o.way.length≤6)<;>simp
 |true=>
  have hS:=dz_ 6 o.value el_ (eo_ 6 o.value (of_decide_eq_true hj)) h.2
  rw [mE_] at hS
  unfold el_ at hS
  have hl:Ev (fun n _=>bi_.loop6 n (fun xy4 xy5 xy6 xy7 xy8 xy9 xy10=>(cond (xy4 != 2) (some true) ((ae_ n (aa_.mk xy6 xy7 xy8 xy9 xy10) (aa_.mk 0 0 [] [] [])).bind fun xr11=>(some xr11)))) n 0 o.kind o.way o.value.kind o.value.n_ o.value.s o.value.list o.value.names) (l2_ o.way&&((o.kind != 2)||gh_ o.value)):=by
   refine fD_ (fun n N i=>bi_.loop6 n (fun xy4 xy5 xy6 xy7 xy8 xy9 xy10=>(cond (xy4 != 2) (some true) ((ae_ n (aa_.mk xy6 xy7 xy8 xy9 xy10) (aa_.mk 0 0 [] [] [])).bind fun xr11=>(some xr11)))) N (i:Int) o.kind o.way o.value.kind o.value.n_ o.value.s o.value.list o.value.names) _ (fun i w hi ih => ?_) ?_
   · simp only [bi_.turn6,bi_.step6,Int.toNat_natCast,W_up hi h.1.1,aw_,b9_,au_ (d8_ (ga_ h.1 i)),as_,dC_ ih,c2_ hi,cP_ hi]
     cases gj_ (o.way.getD i [])<;>simp
   · simp only [bi_.turn6,bi_.step6,cK_,cond_false,cM_,aw_,au_ hS,as_]
     cases (o.kind != 2)<;>simp
  simp only [dC_ hl]
  cases inn o.kind 1 4<;>cases decide (o.way.length≤6)<;>simp
theorem gR_ {o:TOp} (h:i7_ o):Ev (fun n _=>bj_ n o) (eE_ o):=by
 refine aZ_ ?_
 simp only [bj_]
 have e:eE_ o=(l2_ o.way&&(inn o.kind 1 4&&(decide (o.way.length≤6)&&(cd_ o.value&&((o.kind != 2)||gh_ o.value))))):=by
  unfold eE_
  cases inn o.kind 1 4<;>cases decide (o.way.length≤6)<;>cases cd_ o.value<;>cases l2_ o.way<;>simp
 rw [e]
 refine fD_ (fun n N i=>bj_.loop3 n (fun xy2 xy3 xy4 xy5 xy6 xy7 xy8=>((aJ_ n xy2 1 4).bind fun xr9=>(cond xr9 (cond (decide ((xy3.length:Int)≤6)) ((bG_ n (aa_.mk xy4 xy5 xy6 xy7 xy8)).bind fun xr10=>(cond xr10 (cond (xy2 != 2) (some true) ((b1_ n (aa_.mk xy4 xy5 xy6 xy7 xy8)).bind fun xr11=>(some xr11))) (some false))) (some false)) (some false)))) N o.way (o.way.length:Int) (i:Int) o.kind o.way o.value.kind o.value.n_ o.value.s o.value.list o.value.names) _ (fun i w hi ih => ?_) ?_
 · simp only [bj_.turn3,bj_.step3,Int.toNat_natCast,W_up hi h.1.1,aw_,b9_,au_ (eb_ (ga_ h.1 i)),as_,dC_ ih,c2_ hi,cP_ hi]
   cases gj_ (o.way.getD i [])<;>simp
 · simp only [bj_.turn3,bj_.step3,cK_,cond_false,cM_,aw_,fj_,le_le,au_ (c8_ h.2),au_ fB_,as_]
   cases inn o.kind 1 4<;>cases decide (o.way.length≤6)<;>cases cd_ o.value<;>cases (o.kind != 2)<;>simp
def eF_ (k:Int):Bs:=cond (k == 1) [97,100,100] (cond (k == 2) [114,101,109,111,118,101] (cond (k == 3) [114,101,112,108,97,99,101] [116,101,115,116]))
def txtJ (s:Bs):aa_:=aa_.mk 3 0 s [] []
abbrev nmOp:Bs:=[111,112]
abbrev hv_:Bs:=[112,97,116,104]
abbrev gt_:Bs:=[118,97,108,117,101]
def fi_ (o:TOp):aa_:=cond (o.kind == 2) (aa_.mk 5 0 [] [txtJ (eF_ o.kind),txtJ (FWay o.way)] [nmOp,hv_]) (aa_.mk 5 0 [] [txtJ (eF_ o.kind),txtJ (FWay o.way),o.value] [nmOp,hv_,gt_])
def cE_ (o:TOp):aa_:=cond (eE_ o) (hV_ (fi_ o)) el_
theorem i8_:∀ (d:Nat) (j:aa_),fy_ (d+1) j→fy_ d j
 |0,_,_=>trivial
 |d+1,j,h=>⟨h.1,h.2.1,fun x hx=>i8_ d x (h.2.2 x hx)⟩
theorem g8_ {s:Bs} (h:s.length≤cq_):∀ d,fy_ d (txtJ s)
 |0=>trivial
 |d+1=>⟨⟨h,Nat.zero_le _,fun x hx=>(by cases hx)⟩,Nat.zero_le _,fun x hx=>(by cases hx)⟩
theorem hy_:∀ d,fy_ d el_
 |0=>trivial
 |d+1=>⟨⟨Nat.zero_le _,Nat.zero_le _,fun x hx=>(by cases hx)⟩,Nat.zero_le _,fun x hx=>(by cases hx)⟩
structure OpIs (o:TOp):Prop where
 kind:o.kind=1∨o.kind=2∨o.kind=3∨o.kind=4
 way:o.way.length≤6
 text:∀ s ∈ o.way,s.length≤60
 val:b7_ 6 o.value≤400
theorem op_is {o:TOp} (h:eE_ o=true):OpIs o:=by
 unfold eE_ at h
 simp only [Bool.and_eq_true] at h
 obtain ⟨h1,h2,h3,h4,_⟩:=h
 have hk:=f6_ h1
 refine ⟨by omega,of_decide_eq_true h2,fun s hs => ?_,of_decide_eq_true h3⟩
 obtain ⟨i,hi,e⟩:=List.mem_iff_getElem.1 hs
 have:=hf_.1 h4 i hi
 rw [List.getD_eq_getElem?_getD,List.getElem?_eq_getElem hi,Option.getD_some,e] at this
 exact gi_ this
theorem name_len (k:Int):(eF_ k).length≤60:=by
 unfold eF_
 cases (k == 1)<;>cases (k == 2)<;>cases (k == 3)<;>simp
theorem gw_ {o:TOp} (h:i7_ o) (ho:OpIs o):fy_ 6 (fi_ o):=by
 have hw:=jq_ ho.text
 have hwl:=ho.way
 have hw2:(FWay o.way).length≤cq_:=by simp only [cq_];omega
 have hn:(eF_ o.kind).length≤cq_:=by have:=name_len o.kind;simp only [cq_];omega
 have hv:=i8_ 5 _ h.2
 unfold fi_
 cases (o.kind == 2) with
 |true=>
  refine ⟨⟨Nat.zero_le _,by show 2≤cq_;decide,fun x hx => ?_⟩,by show 2≤cq_;decide,fun x hx => ?_⟩
  · simp at hx;rcases hx with e|e<;>(rw [e];decide)
  · simp at hx;rcases hx with e|e
    · rw [e];exact g8_ hn 5
    · rw [e];exact g8_ hw2 5
 |false=>
  refine ⟨⟨Nat.zero_le _,by show 3≤cq_;decide,fun x hx => ?_⟩,by show 3≤cq_;decide,fun x hx => ?_⟩
  · simp at hx;rcases hx with e|e|e<;>(rw [e];decide)
  · simp at hx;rcases hx with e|e|e
    · rw [e];exact g8_ hn 5
    · rw [e];exact g8_ hw2 5
    · rw [e];exact hv
theorem kJ_ {o:TOp} (h:i7_ o):fy_ 6 (cE_ o):=by
 unfold cE_
 cases ho:eE_ o with
 |false=>exact hy_ 6
 |true=>
  unfold hV_
  cases cd_ (fi_ o) with
  |false=>exact hy_ 6
  |true=>exact gw_ h (op_is ho)
theorem put_value (a b v:aa_):Ev (fun n _=>a8_ n (aa_.mk 5 0 [] [a,b] [nmOp,hv_]) gt_ v) (aa_.mk 5 0 [] [a,b,v] [nmOp,hv_,gt_]) :=
 fV_ (o:=aa_.mk 5 0 [] [a,b] [nmOp,hv_]) (j:=v) (x:=gt_) (by show 2≤2000000;decide) rfl (fun _=>less_ne) (fun i h1 h2=>by
  have:eu_ [nmOp,hv_] gt_=2:=by decide
  have h2:i<2:=h2
  have h1:eu_ [nmOp,hv_] gt_≤i:=h1
  omega)
theorem fw_ {o:TOp} (h:i7_ o):Ev (fun n _=>cb_ n o) (cE_ o):=by
 refine aZ_ ?_
 have hN:Ev (fun n _=>bQ_ n ()) [[],[97,100,100],[114,101,109,111,118,101],[114,101,112,108,97,99,101],[116,101,115,116]]:=aZ_ (by simp only [bQ_,as_])
 simp only [cb_,bC_,dJ_,au_ (gO_ h),aw_,as_]
 unfold cE_
 cases ho:eE_ o with
 |false=>exact ⟨fun _=>rfl,fun h=>(by cases h)⟩
 |true=>
  refine ⟨fun h=>(by cases h),fun _ => ?_⟩
  have hi:=op_is ho
  have hV:=c7_ (gw_ h hi)
  have hCp:=cY_ 6 o.value hi.val
  simp only [au_ hN,b9_,au_ (hj_ hi.way hi.text)]
  unfold hV_ el_ fi_ txtJ eF_
  unfold fi_ txtJ eF_ at hV
  rcases hi.kind with hk|hk|hk|hk
  all_goals (
   simp only [hk,Int.reduceBEq,cond_true,cond_false] at hV
   simp only [hk,Int.reduceBEq,cond_true,cond_false,bne,Bool.not_false,Bool.not_true,Int.reduceToNat,List.getD_cons_succ,List.getD_cons_zero,aw_,au_ hCp,au_ (put_value _ _ _),au_ hV,as_]
   refine ⟨⟨by decide,by decide⟩,?_⟩
   generalize cd_ _=q
   cases q<;>simp)
theorem fC_ {o:TOp} (h:i7_ o):Ev (fun n _=>cc_ n o) (cE_ o):=by
 refine aZ_ ?_
 have hN:Ev (fun n _=>bW_ n ()) [[97,100,100],[114,101,109,111,118,101],[114,101,112,108,97,99,101],[116,101,115,116]]:=aZ_ (by simp only [bW_,as_])
 simp only [cc_,bC_,dJ_,au_ (gR_ h),aw_,as_]
 unfold cE_
 cases ho:eE_ o with
 |false=>exact ⟨fun _=>rfl,fun h=>(by cases h)⟩
 |true=>
  refine ⟨fun h=>(by cases h),fun _ => ?_⟩
  have hi:=op_is ho
  have hV:=orNull_ev (gw_ h hi)
  have hCp:=cV_ 6 o.value hi.val
  simp only [au_ hN,b9_,au_ (hE_ hi.way hi.text)]
  simp only [cond_true]
  unfold fi_ txtJ eF_
  unfold fi_ txtJ eF_ at hV
  have w1:W ((1:Int) - 1)=0:=by rw [W_id (by decide) (by decide)];rfl
  have w2:W ((2:Int) - 1)=1:=by rw [W_id (by decide) (by decide)];rfl
  have w3:W ((3:Int) - 1)=2:=by rw [W_id (by decide) (by decide)];rfl
  have w4:W ((4:Int) - 1)=3:=by rw [W_id (by decide) (by decide)];rfl
  rcases hi.kind with hk|hk|hk|hk
  all_goals (
   simp only [hk,Int.reduceBEq,cond_true,cond_false] at hV
   simp only [hk,w1,w2,w3,w4,Int.reduceBEq,cond_true,cond_false,bne,Bool.not_false,Bool.not_true,Int.reduceToNat,List.getD_cons_succ,List.getD_cons_zero,List.cons_append,List.nil_append,aw_,cF_,au_ hCp,au_ hV,as_,true_implies,false_implies,reduceCtorEq,and_true,true_and]
   simp only [List.length_cons,List.length_nil]
   decide)
end Go.Pi
end
section
namespace Go.Pi
section
variable {β:Type} {g:Nat→Nat→Bool→Option β} {v:β}
end
section
variable {β:Type} {Q:β→Prop} {v:β}
end
theorem Atoi_ev {s:Bs} (h:s.length≤281474976710656):Ev (fun n _=>cf_ n s) (endOf s (Lib.atoiAll s)) :=
 aZ_ (by simp only [cf_,nAtoi,decide_eq_true h,cond_true,as_])
end Go.Pi
end
section
namespace Go.Pi
def FPos (s:Bs):Int:=match (List.range 1000).find? (fun x:Nat=>Lib.itoa (x:Int) == s) with
 |some x=>(x:Int)
 |none => -1
theorem ml_ {x y:Nat} (hx:x≤999) (hy:y≤999) (h:Lib.itoa (x:Int)=Lib.itoa (y:Int)):x=y:=by
 have h1:=hN_ (n:=(x:Int)) (by omega) (by omega)
 have h2:=hN_ (n:=(y:Int)) (by omega) (by omega)
 rw [h,h2] at h1
 cases h1;rfl
theorem pos_itoa {x:Nat} (h:x≤999):FPos (Lib.itoa (x:Int))=x:=by
 unfold FPos
 cases e:(List.range 1000).find? (fun y:Nat=>Lib.itoa (y:Int) == Lib.itoa (x:Int)) with
 |none=>
  have:=List.find?_eq_none.1 e x (List.mem_range.2 (by omega))
  simp at this
 |some y=>
  have h1:=List.find?_some e
  have h3:=List.mem_range.1 (List.mem_of_find?_eq_some e)
  have h2:=ml_ (x:=y) (y:=x) (by omega) h (eq_of_beq h1)
  show ((y:Nat):Int)=(x:Int)
  rw [h2]
theorem pos_none {s:Bs} (h:∀ x:Nat,x≤999→Lib.itoa (x:Int)≠s):FPos s = -1:=by
 unfold FPos
 rw [List.find?_eq_none.2 fun x hx=>by have:=h x (by have:=List.mem_range.1 hx;omega);simp;exact this]
theorem e3_ (s:Bs):(∃ x:Nat,x≤999∧s=Lib.itoa (x:Int)∧FPos s=x)∨((∀ x:Nat,x≤999→Lib.itoa (x:Int)≠s)∧FPos s = -1):=by
 by_cases h:∃ x:Nat,x≤999∧s=Lib.itoa (x:Int)
 · obtain ⟨x,h1,rfl⟩:=h
   exact .inl ⟨x,h1,rfl,pos_itoa h1⟩
 · have h':∀ x:Nat,x≤999→Lib.itoa (x:Int)≠s:=fun x hx e=>h ⟨x,hx,e.symm⟩
   exact .inr ⟨h',pos_none h'⟩
theorem hr_ (s:Bs) : -1≤FPos s∧FPos s≤999:=by
 rcases e3_ s with ⟨x,h,_,e⟩|⟨_,e⟩<;>rw [e]<;>omega
theorem lF_ (x:Nat):Lib.itoa (x:Int)=Lib.decDigits x:=by
 unfold Lib.itoa
 rw [if_neg (by omega)]
 simp
theorem e9_ {s:Bs} (hs:s.length≤281474976710656):Ev (fun n _=>bM_ n s) (FPos s):=by
 refine aZ_ ?_
 simp only [bM_,au_ (Atoi_ev hs)]
 rcases e3_ s with ⟨x,h,rfl,e⟩|⟨h,e⟩
 · rw [hN_ (n:=(x:Int)) (by omega) (by omega),e]
   have e2:endOf (Lib.itoa (x:Int)) (.ok (x:Int))=((x:Int),true):=rfl
   have e3:inn (x:Int) 0 999=true:=by simp [inn];omega
   simp only [e2,e3,Bool.not_true,cond_false,au_ fR_,as_,au_ (la_ (x:=(x:Int)) (by omega) (by omega)),beq_self_eq_true]
 · rw [e]
   generalize endOf s (Lib.atoiAll s)=v
   obtain ⟨x,ok⟩:=v
   simp only [aw_,as_,au_ fR_]
   refine ⟨fun _=>trivial,fun _=>⟨fun _=>trivial,fun hw => ?_⟩⟩
   have hw:0≤x∧x≤999:=by simpa [inn] using hw
   have hne:=h x.toNat (by omega)
   rw [Int.toNat_of_nonneg hw.1] at hne
   simp only [au_ (la_ (x:=x) (by omega) (by omega)),aw_,as_]
   exact ⟨fun _=>trivial,fun hq=>by simp [hne] at hq⟩
def FVal (x:Nat):Bs→Option Nat
 |[]=>some x
 |c::l=>if 48≤c.toNat∧c.toNat≤57 then FVal (10*x+(c.toNat - 48)) l else none
theorem lL_:∀ (x:Nat) (l:Bs),(∀ c ∈ l,jY_ c)→FVal x l=some (gX_ x l)
 |_,[],_=>rfl
 |x,c::l,h=>by
  unfold FVal
  rw [if_pos (show 48≤c.toNat∧c.toNat≤57 from h c (List.mem_cons_self ..)),lL_ _ l fun y hy=>h y (List.mem_cons_of_mem _ hy),fS_]
theorem fval_lt:∀ (l:Bs) (x i y:Nat),x<10 ^ i→FVal x l=some y→y<10 ^ (i+l.length)
 |[],x,i,y,hx,h=>by
  simp only [FVal,Option.some.injEq] at h
  subst h;simpa using hx
 |c::l,x,i,y,hx,h=>by
  unfold FVal at h
  split at h
  · rename_i hc
    have:=fval_lt l _ (i+1) y (by rw [Nat.pow_succ];omega) h
    rw [List.length_cons,show i+(l.length+1)=i+1+l.length by omega]
    exact this
  · cases h
def FPos1 (s:Bs):Option Nat→Int
 |some y=>cond (!(Lib.itoa (y:Int) == s)) (-1) y
 |none => -1
theorem dT_ {s:Bs}:Ev (fun n _=>aT_ n s) (FPos s):=by
 refine aZ_ ?_
 simp only [aT_,aw_,as_]
 refine ⟨fun h => ?_,fun _=>⟨fun h => ?_,fun hl => ?_⟩⟩
 · have:s=[]:=by simpa using h
   subst this
   rcases e3_ [] with ⟨x,h1,h2,h3⟩|⟨_,e⟩
   · obtain ⟨c,t,e,_⟩:=itoa_head (x:Int)
     rw [e] at h2;cases h2
   · exact e.symm
 · rcases e3_ s with ⟨x,h1,h2,h3⟩|⟨_,e⟩
   · have h:=of_decide_eq_true h
     have:=dec_len 2 x (by omega)
     rw [h2,lF_] at h
     omega
   · exact e.symm
 · have hl:s.length≤3:=by have:=of_decide_eq_false hl;omega
   have key:∀ (m i x:Nat),i+m=s.length→x<10 ^ i →
     Ev (fun n N=>aT_.loop7 n (fun xy1 xy2=>((aH_ n xy2).bind fun xr3=>(cond (!(xr3 == xy1)) (some (-1)) (some xy2)))) N s (x:Int) (i:Int)) (FPos1 s (FVal x (s.drop i))):=by
    intro m
    induction m with
    |zero=>
     intro i x hi hx
     have:i=s.length:=by omega
     subst this
     have hx3:10 ^ s.length≤10 ^ 3:=Nat.pow_le_pow_right (by omega) hl
     refine bN_ ?_
     simp only [aT_.turn7,aT_.step7,cK_,cond_false,List.drop_length,FVal,FPos1,au_ (eL_ (x:=(x:Int)) (by omega) (by omega)),aw_,as_]
     cases (!(Lib.itoa (x:Int) == s))<;>simp
    |succ m ih=>
     intro i x hi hx
     have hlt:i<s.length:=by omega
     have hx3:10 ^ i≤10 ^ 3:=Nat.pow_le_pow_right (by omega) (by omega)
     have hW:=W_up hlt (show s.length≤cq_ by simp only [cq_];omega)
     have hd:=dW_ 0 hlt
     refine bN_ ?_
     simp only [aT_.turn7,aT_.step7,c2_ hlt,cond_true,b9_,cP_ hlt,true_and,Int.toNat_natCast,hW,aw_,as_]
     rw [hd,FVal]
     have hc:(s.getD i 0).toNat≤255:=by have:=(s.getD i 0).toNat_lt;omega
     refine ⟨fun h => ?_,fun h=>⟨fun h2 => ?_,fun h2 => ?_⟩⟩
     · have h:=of_decide_eq_true h
       rw [if_neg (by omega)];rfl
     · have h2:=of_decide_eq_true h2
       rw [if_neg (by omega)];rfl
     · have h:=of_decide_eq_false h
       have h2:=of_decide_eq_false h2
       rw [if_pos (by omega)]
       have e:W (W (W (10*(x:Int))+W ((s.getD i 0).toNat:Int)) - 48)=((10*x+((s.getD i 0).toNat - 48):Nat):Int):=by
        rw [W_id (n:=10*(x:Int)) (by omega) (by omega),W_id (n:=((s.getD i 0).toNat:Int)) (by omega) (by omega),W_id (n:=10*(x:Int)+((s.getD i 0).toNat:Int)) (by omega) (by omega),W_id (by omega) (by omega)]
        omega
       rw [e]
       exact ih (i+1) _ (by omega) (by rw [Nat.pow_succ];omega)
   have hk:=key s.length 0 0 (by omega) (by omega)
   have e:FPos1 s (FVal 0 (s.drop 0))=FPos s:=by
    rw [List.drop_zero]
    rcases e3_ s with ⟨x,h1,h2,h3⟩|⟨h,e⟩
    · rw [h3]
      have:FVal 0 s=some x:=by rw [h2,lF_,lL_ _ _ (jk_ x),ku_]
      rw [this,FPos1,←h2]
      simp
    · rw [e]
      cases hv:FVal 0 s with
      |none=>rfl
      |some y=>
       have:=fval_lt s 0 0 y (by omega) hv
       have hx3:10 ^ (0+s.length)≤10 ^ 3:=Nat.pow_le_pow_right (by omega) (by omega)
       have:=h y (by omega)
       have hb:(Lib.itoa (y:Int) == s)=false:=beq_eq_false_iff_ne.2 this
       simp only [FPos1,hb,Bool.not_false,cond_true]
   rw [e] at hk
   exact c1_ (f:=fun n N=>aT_.loop7 n (fun xy1 xy2=>((aH_ n xy2).bind fun xr3=>(cond (!(xr3 == xy1)) (some (-1)) (some xy2)))) N s 0 0) hk
end Go.Pi
end
section
namespace Go.Pi
end Go.Pi
end
section
namespace Go.Pi
end Go.Pi
end
section
namespace Go.Pi
end Go.Pi
end
section
namespace Go.Pi
end Go.Pi
end
section
namespace Go.Pi
theorem hW_ {a b:List Bs} (ha:a.length≤cq_):Ev (fun n _=>ai_ n a b) (gH_ a b):=by
 refine aZ_ ?_
 simp only [ai_,ne_len,aw_,as_]
 unfold gH_
 by_cases hl:a.length=b.length
 · rw [decide_eq_true hl]
   refine ⟨fun h=>(by cases h),fun _ => ?_⟩
   refine ha_ (fD_ (fun n N i=>ai_.loop6 n (some true) N a b (a.length:Int) (i:Int)) (fun i=>a.getD i [] == b.getD i []) (len:=a.length) (v:=true) (fun i w hi ih => ?_) ?_) (by rw [Bool.and_true,Bool.true_and])
   · simp only [ai_.turn6,ai_.step6,Int.toNat_natCast,W_up hi ha,aw_,b9_,as_,dC_ ih,c2_ hi,cP_ hi,cP_ (hl ▸ hi)]
     cases (a.getD i [] == b.getD i [])<;>simp
   · simp only [ai_.turn6,ai_.step6,cK_,cond_false,as_]
 · rw [decide_eq_false hl]
   exact ⟨fun _=>rfl,fun h=>(by cases h)⟩
theorem f7_:∀ (d:Nat) (a b:aa_),deepJ d a→fy_ d a→Ev (fun n _=>b2_ n a b) (ds_ d a b)
 |0,a,b,h,_=>h.elim
 |d+1,a,b,h,hl=>by
  refine aZ_ ?_
  have hE:Ev (fun n _=>ab_ n a.list b.list) (decide (a.list.length=b.list.length)&&k6_ (fun i=>ds_ d (a.list.getD i aa_.dflt) (b.list.getD i aa_.dflt)) a.list.length):=by
   refine aZ_ ?_
   simp only [ab_,ne_len,aw_,as_]
   by_cases hq:a.list.length=b.list.length
   · rw [decide_eq_true hq]
     refine ⟨fun h=>(by cases h),fun _ => ?_⟩
     refine ha_ (fD_ (fun n N i=>ab_.loop6 n (b2_ n) (some true) N b.list a.list (a.list.length:Int) (i:Int)) (fun i=>ds_ d (a.list.getD i aa_.dflt) (b.list.getD i aa_.dflt)) (len:=a.list.length) (v:=true) (fun i w hi ih => ?_) ?_) (by rw [Bool.and_true,Bool.true_and])
     · have hx:=f7_ d (a.list.getD i aa_.dflt) (b.list.getD i aa_.dflt) (h _ (b3_ _ hi)) (hl.2.2 _ (b3_ _ hi))
       simp only [ab_.turn6,ab_.step6,bC_,Int.toNat_natCast,W_up hi hl.2.1,aw_,b9_,au_ hx,as_,dC_ ih,c2_ hi,cP_ hi,cP_ (hq ▸ hi)]
       cases ds_ d (a.list.getD i aa_.dflt) (b.list.getD i aa_.dflt)<;>simp
     · simp only [ab_.turn6,ab_.step6,cK_,cond_false,as_]
   · rw [decide_eq_false hq]
     exact ⟨fun _=>rfl,fun h=>(by cases h)⟩
  simp only [b2_,aw_,au_ (hW_ (b:=b.names) hl.1.2.1),au_ hE,as_,ds_]
  cases (a.kind == b.kind)<;>cases (a.n_ == b.n_)<;>cases (a.s == b.s)<;>cases gH_ a.names b.names<;>simp
end Go.Pi
end
section
namespace Go.Pi
end Go.Pi
end
section
namespace Go.Pi
theorem ei_ {d:Nat} {j:aa_} (h:b7_ (d+1) j≤400) {x:aa_} (hx:x ∈ j.list):b7_ d x≤400:=by
 have:=(c0_ h).2
 have:=eV_ (b7_ d) hx
 omega
theorem cU_:∀ (d:Nat) (j:aa_),b7_ d j≤400→fy_ d j
 |0,_,_=>trivial
 |d+1,j,h=>by
  have ho:=(c0_ h).1
  have ho2:=kq_ (jM_ h)
  have hll:=d5_ h
  have hnl:=f3_ h
  refine ⟨⟨?_,by simp only [cq_];omega,fun x hx => ?_⟩,by simp only [cq_];omega,fun x hx=>cU_ d x (ei_ h hx)⟩
  · by_cases hk:j.kind=3
    · have:=gi_ (ho2.text hk);simp only [cq_];omega
    · rw [ho2.s0 hk];exact Nat.zero_le _
  · by_cases hk:j.kind=5
    · obtain ⟨i,hi,e⟩:=List.getElem_of_mem hx
      have:=fs_ (ho.obj hk).2 hi
      rw [List.getD_eq_getElem?_getD,List.getElem?_eq_getElem hi,Option.getD_some,e] at this
      simp only [cq_];omega
    · rw [ho2.ns0 hk] at hx;cases hx
theorem enc_ne {j:aa_} (h:cS_ j≠[]):b7_ 6 j≤400∧cS_ j=FEnc 6 j∧(FEnc 6 j).length≤6000:=by
 unfold cS_ at h ⊢
 cases hj:cd_ j with
 |false=>rw [hj] at h;exact absurd rfl h
 |true=>
  rw [hj] at h
  simp only [cond_true] at h ⊢
  cases hl:decide (((FEnc 6 j).length:Int) > 6000) with
  |true=>rw [hl] at h;exact absurd rfl h
  |false=>have:=of_decide_eq_false hl;exact ⟨of_decide_eq_true hj,rfl,by omega⟩
def FIdx (l:List Bs) (x:Bs):Int:=if l.findIdx (fun y=>y == x)<l.length then ((l.findIdx (fun y=>y == x):Nat):Int) else -1
theorem jE_ {j:aa_} {x:Bs} (h:j.names.length≤cq_):Ev (fun n _=>bk_ n j x) (FIdx j.names x):=by
 refine aZ_ ?_
 unfold FIdx
 rw [←gS_ ([]:Bs) (fun y=>y == x) j.names]
 simp only [bk_]
 refine ev_fold (fun n N i=>bk_.loop3 n (some (-1)) N x (i:Int) j.kind j.n_ j.s j.list j.names) _ (fun i u hi ih => ?_) ?_
 · simp only [bk_.turn3,bk_.step3,Int.toNat_natCast,W_up hi h,aw_,b9_,as_,dC_ ih,c2_ hi,cP_ hi]
   cases (j.names.getD i [] == x)<;>simp
 · simp only [bk_.turn3,bk_.step3,cK_,cond_false,as_]
theorem hU_ {l:List Bs} {x:Bs} (h:l.length≤cq_):Ev (fun n _=>ah_ n l x) (FIdx l x):=by
 refine aZ_ ?_
 unfold FIdx
 rw [←gS_ ([]:Bs) (fun y=>y == x) l]
 simp only [ah_]
 refine ev_fold (fun n N i=>ah_.loop3 n (some (-1)) N l x (l.length:Int) (i:Int)) _ (fun i u hi ih => ?_) ?_
 · simp only [ah_.turn3,ah_.step3,Int.toNat_natCast,W_up hi h,aw_,b9_,as_,dC_ ih,c2_ hi,cP_ hi]
   rw [show (x == l.getD i [])=(l.getD i [] == x) from BEq.comm]
   cases (l.getD i [] == x)<;>simp
 · simp only [ah_.turn3,ah_.step3,cK_,cond_false,as_]
end Go.Pi
end
section
namespace Go.Pi
def FAt (j:aa_) (s:Bs):Int:=cond (j.kind == 5) (FIdx j.names s) (cond (j.kind == 4) (cond (decide (FPos s<(j.list.length:Int))) (FPos s) (-1)) (-1))
theorem idx_low (l:List Bs) (x:Bs) : -1≤FIdx l x∧FIdx l x<(l.length:Int):=by
 unfold FIdx
 split<;>omega
theorem gN_ {j:aa_} {s:Bs} (hn:j.names.length≤cq_):Ev (fun n _=>cs_ n j s) (FAt j s):=by
 refine aZ_ ?_
 simp only [cs_,bC_,aw_,au_ (jE_ (x:=s) hn),au_ dT_,as_,FAt]
 cases (j.kind == 5)<;>cases (j.kind == 4)<;>cases (decide (FPos s<(j.list.length:Int)))<;>simp
theorem hB_ {j:aa_} {s:Bs} (hn:j.names.length≤cq_) (he:j.kind=5→j.list.length=j.names.length) (hs:s.length≤281474976710656):Ev (fun n _=>bL_ n j s) (FAt j s):=by
 refine aZ_ ?_
 simp only [bL_,bC_,aw_,au_ (hU_ (x:=s) hn),au_ (e9_ hs),as_,FAt]
 have h1:=idx_low j.names s
 refine ⟨fun h5 => ?_,fun h5=>⟨fun h4 => ?_,fun h4 => ?_⟩⟩
 · have hk:j.kind=5:=by simpa using h5
   have:=he hk
   rw [h5]
   exact ⟨fun h=>by have:=of_decide_eq_true h;omega,fun _=>rfl⟩
 · rw [h5,h4]
   refine ⟨fun h => ?_,fun h => ?_⟩
   · have:=of_decide_eq_true h
     rw [decide_eq_false (by omega)];rfl
   · have:=of_decide_eq_false h
     rw [decide_eq_true (by omega)];rfl
 · rw [h5,h4]
   exact ⟨fun _=>rfl,fun _=>rfl⟩
theorem hd_ (j:aa_) (s:Bs) (he:j.kind=5→j.list.length=j.names.length) : -1≤FAt j s∧FAt j s<(j.list.length:Int):=by
 have h1:=idx_low j.names s
 have h2:=hr_ s
 unfold FAt
 cases h5:(j.kind == 5)
 · cases h4:(j.kind == 4)
   · simp;omega
   · simp only [cond_false,cond_true]
     cases hd:decide (FPos s<(j.list.length:Int))
     · simp;omega
     · have:=of_decide_eq_true hd
       simp only [cond_true];omega
 · have hk:j.kind=5:=by simpa using h5
   have:=he hk
   simp only [cond_true];omega
end Go.Pi
end
section
namespace Go.Pi
theorem isNaN_ev {x:Bs}:Ev (fun n _=>a3_ n x) false:=aZ_ (by simp [a3_,as_])
theorem isNaN2_ev {x:Bs}:Ev (fun n _=>be_ n x) false:=aZ_ (by simp [be_,as_])
theorem mA_ {x y:Bs}:Ev (fun n _=>bm_ n x y) (Op.bytesLess x y):=by
 refine aZ_ ?_
 simp only [bm_,au_ isNaN2_ev,aw_,as_]
 cases Op.bytesLess x y<;>simp
theorem half {i j:Nat} (h:i+j≤4000000):W (Int.fdiv (IntKind.u64.wrap (W ((i:Int)+(j:Int)))) (2 ^ min (1:Int).toNat (IntKind.bits .u64)))=(((i+j) / 2:Nat):Int):=by
 have e1:W ((i:Int)+(j:Int))=((i+j:Nat):Int):=by rw [W_id (by omega) (by omega)];omega
 have e2:IntKind.u64.wrap ((i+j:Nat):Int)=((i+j:Nat):Int):=by
  show (((i+j:Nat):Int)) % _=_
  exact Int.emod_eq_of_lt (by omega) (by have:((i+j:Nat):Int)≤4000000:=by omega
                                         exact Int.lt_of_le_of_lt this (by decide))
 have e3:(2:Int) ^ min (1:Int).toNat (IntKind.bits .u64)=2:=by decide
 rw [e1,e2,e3,Int.fdiv_eq_ediv_of_nonneg _ (by decide)]
 rw [W_id (by omega) (by omega)];omega
theorem hX_ {ns:List Bs} {x:Bs} (hl:ns.length≤2000000) (hM:∀ h,h<ns.length→Op.bytesLess (ns.getD h []) x=decide (h<cZ_ ns x)) :
  Ev (fun n _=>ac_ n ns x) ((cZ_ ns x:Int),decide (cZ_ ns x<ns.length)&&(ns.getD (cZ_ ns x) [] == x)):=by
 refine aZ_ ?_
 have hpl:cZ_ ns x≤ns.length:=List.findIdx_le_length
 obtain ⟨p,hp⟩:∃ p,p=cZ_ ns x:=⟨_,rfl⟩
 rw [←hp] at hpl hM ⊢
 simp only [ac_]
 have key:∀ (d i j:Nat),j - i≤d→i≤p→p≤j→j≤ns.length→Ev (fun n N=>ac_.loop4 n (fun xy3 xy4 xy5 xy6=>(cond (decide (xy6<xy5)) (inB xy6 xy3.length (cond ((xy3.getD xy6.toNat []) == xy4) (some (xy6,true)) (inB xy6 xy3.length ((a3_ n (xy3.getD xy6.toNat [])).bind fun xr7=>(cond xr7 ((a3_ n xy4).bind fun xr8=>(some (xy6,xr8))) (some (xy6,false))))))) (some (xy6,false)))) N ns x (ns.length:Int) (i:Int) (j:Int)) ((p:Int),decide (p<ns.length)&&(ns.getD p [] == x)):=by
  intro d
  induction d with
  |zero=>
   intro i j hd h1 h2 h3
   have e:i=p:=by omega
   have e':j=p:=by omega
   subst e;subst e'
   refine bN_ ?_
   simp only [ac_.turn4,ac_.step4,Int.lt_irrefl,decide_false,cond_false,aw_,b9_,as_,Int.toNat_natCast,au_ isNaN_ev]
   by_cases hc:j<ns.length
   · rw [decide_eq_true hc,decide_eq_true (show (j:Int)<(ns.length:Int) by omega)]
     cases hs:(ns.getD j [] == x)<;>simp<;>omega
   · rw [decide_eq_false hc,decide_eq_false (show ¬ (j:Int)<(ns.length:Int) by omega)]
     exact ⟨fun h=>(by cases h),fun _=>rfl⟩
  |succ d ih=>
   intro i j hd h1 h2 h3
   by_cases hij:i<j
   · have hh:=half (i:=i) (j:=j) (by omega)
     have hm:(i+j) / 2<ns.length:=by omega
     refine bN_ ?_
     simp only [ac_.turn4,ac_.step4,hh,decide_eq_true (show (i:Int)<(j:Int) by omega),cond_true,aw_,b9_,Int.toNat_natCast,au_ mA_,cP_ hm,hM _ hm,W_up hm (show ns.length≤cq_ by simp only [cq_];omega)]
     refine ⟨trivial,fun hc => ?_,fun hc => ?_⟩
     · have hc:=of_decide_eq_true hc
       exact ih ((i+j) / 2+1) j (by omega) (by omega) h2 h3
     · have hc:=of_decide_eq_false hc
       exact ih i ((i+j) / 2) (by omega) h1 (by omega) (by omega)
   · exact ih i j (by omega) h1 h2 h3
 exact c1_ (f:=fun n N=>ac_.loop4 n _ N ns x (ns.length:Int) 0 (ns.length:Int)) (key ns.length 0 ns.length (by omega) (Nat.zero_le _) hpl (Nat.le_refl _))
end Go.Pi
end
section
namespace Go.Pi
def kL_:List (Bs × Int)→Prop
 |[]=>True
 |(k,_)::l=>(∀ p ∈ l,k<p.1)∧kL_ l
end Go.Pi
end
section
namespace Go.Pi
end Go.Pi
end
section
namespace Go.Pi
end Go.Pi
end
section
namespace Go.Pi
theorem md_ {k x:Bs} {ns:List Bs}:eu_ (k::ns) x=if k<x then eu_ ns x+1 else if k=x then 1 else 0:=by
 by_cases h:k<x
 · have hb:Op.bytesLess k x=true:=by rw [ee_];exact decide_eq_true h
   have e1:cZ_ (k::ns) x=cZ_ ns x+1:=by unfold cZ_;rw [List.findIdx_cons];simp [hb]
   unfold eu_
   rw [e1,if_pos h]
   simp only [List.getD_cons_succ,List.length_cons,Nat.add_lt_add_iff_right]
   split<;>rfl
 · have hb:Op.bytesLess k x=false:=by rw [ee_];exact decide_eq_false h
   have e1:cZ_ (k::ns) x=0:=by unfold cZ_;rw [List.findIdx_cons];simp [hb]
   rw [if_neg h]
   unfold eu_
   rw [e1]
   by_cases h2:k=x
   · simp [h2]
   · simp [h2]
theorem asc_ne {x:Bs}:∀ {l:List (Bs × Int)},kL_ l→∀ i,eu_ (l.map (·.1)) x≤i→i<(l.map (·.1)).length→((l.map (·.1)).getD i [] == x)=false
 |[],_,i,_,hi=>by simp at hi
 |(k,v)::l,h,i,hp,hi=>by
  simp only [List.map_cons,md_] at hp
  have later:∀ i',i'<(l.map (·.1)).length→k<(l.map (·.1)).getD i' []:=fun i' hi'=>by
   have hm:=b3_ (d:=([]:Bs)) (a:=l.map (·.1)) (i:=i') hi'
   obtain ⟨p,hp,e⟩:=List.mem_map.1 hm
   rw [←e];exact h.1 p hp
  cases i with
  |zero=>
   simp only [List.map_cons,List.getD_cons_zero]
   by_cases h1:k<x
   · rw [if_pos h1] at hp;omega
   · rw [if_neg h1] at hp
     by_cases h2:k=x
     · rw [if_pos h2] at hp;omega
     · exact beq_eq_false_iff_ne.2 h2
  |succ i=>
   have hi':i<(l.map (·.1)).length:=by simpa using hi
   simp only [List.map_cons,List.getD_cons_succ]
   by_cases h1:k<x
   · rw [if_pos h1] at hp
     exact asc_ne h.2 i (by omega) hi'
   · refine beq_eq_false_iff_ne.2 fun e=>h1 ?_
     rw [←e];exact later i hi'
end Go.Pi
end
section
namespace Go.Pi
def ascB:List Bs→Prop
 |[]=>True
 |k::l=>(∀ y ∈ l,k<y)∧ascB l
theorem l0_:∀ {l:List Bs},ascB l→kL_ (l.map fun y=>(y,(0:Int)))
 |[],_=>trivial
 |k::l,h=>⟨fun p hp=>by
   obtain ⟨y,hy,rfl⟩:=List.mem_map.1 hp
   exact h.1 y hy,l0_ h.2⟩
theorem keys_map (l:List Bs):(l.map fun y=>(y,(0:Int))).map (·.1)=l:=by
 rw [List.map_map];exact List.map_id'' (fun _=>rfl) l
theorem ascB_ne {l:List Bs} {x:Bs} (h:ascB l):∀ i,eu_ l x≤i→i<l.length→(l.getD i [] == x)=false:=by
 have:=asc_ne (x:=x) (l0_ h)
 rw [keys_map] at this
 exact this
theorem kF_ {k x:Bs} {ns:List Bs}:cZ_ (k::ns) x=if k<x then cZ_ ns x+1 else 0:=by
 by_cases h:k<x
 · have hb:Op.bytesLess k x=true:=by rw [ee_];exact decide_eq_true h
   rw [if_pos h];unfold cZ_;rw [List.findIdx_cons];simp [hb]
 · have hb:Op.bytesLess k x=false:=by rw [ee_];exact decide_eq_false h
   rw [if_neg h];unfold cZ_;rw [List.findIdx_cons];simp [hb]
theorem kj_ {x:Bs}:∀ {l:List Bs},ascB l→∀ h,h<l.length→Op.bytesLess (l.getD h []) x=decide (h<cZ_ l x)
 |[],_,h,hh=>by simp at hh
 |k::l,ha,h,hh=>by
  rw [ee_]
  simp only [kF_]
  cases h with
  |zero=>
   simp only [List.getD_cons_zero]
   by_cases hk:k<x
   · rw [if_pos hk,decide_eq_true hk];simp
   · rw [if_neg hk,decide_eq_false hk];simp
  |succ h=>
   have hh':h<l.length:=by simpa using hh
   simp only [List.getD_cons_succ]
   by_cases hk:k<x
   · have:=kj_ (x:=x) ha.2 h hh'
     rw [ee_] at this
     rw [if_pos hk,this]
     simp
   · rw [if_neg hk]
     have hm:=ha.1 _ (b3_ (d:=([]:Bs)) (a:=l) hh')
     rw [decide_eq_false fun h2=>hk (List.lt_trans hm h2)]
     simp
theorem in_:∀ {l:List Bs},(∀ i,i+1<l.length→l.getD i []<l.getD (i+1) [])→ascB l
 |[],_=>trivial
 |[k],_=>⟨fun y hy=>(by cases hy),trivial⟩
 |k::k2::l,h=>by
  have h2:ascB (k2::l):=in_ fun i hi=>h (i+1) (by simpa using hi)
  have h0:k<k2:=h 0 (by simp)
  refine ⟨fun y hy => ?_,h2⟩
  rcases List.mem_cons.1 hy with rfl|hy
  · exact h0
  · exact List.lt_trans h0 (h2.1 y hy)
theorem iJ_ {l:List Bs} (h:gk_ l=true):ascB l:=by
 refine in_ fun i hi => ?_
 have:=hf_.1 h (i+1) hi
 simp only [Bool.and_eq_true,Bool.or_eq_true,decide_eq_true_eq,Nat.add_sub_cancel] at this
 rcases this.2 with h|h
 · omega
 · rw [ee_] at h;exact of_decide_eq_true h
end Go.Pi
end
section
namespace Go.Pi
def Ok2 (x:Option aa_) (r:aa_ × Bool):Prop:=r.2=x.isSome∧∀ y,x=some y→r.1=y
theorem d4_ {j:aa_}:Ok2 none (j,false):=⟨rfl,fun y h=>(by cases h)⟩
theorem c9_ {j:aa_}:Ok2 (some j) (j,true):=⟨rfl,fun y h=>(by cases h;rfl)⟩
def g0_ {α:Type} (l:List α) (k:Nat) (v:α):List α:=l.take k++[v]++l.drop k
def addAt (j:aa_) (name:Bs):Int:=cond (name == [45]) (j.list.length:Int) (FPos name)
def FAdd (j:aa_) (name:Bs) (v:aa_):Option aa_ :=
 cond (j.kind == 5) (some (aa_.mk 5 0 [] (jO_ j.names name j.list v) (jO_ j.names name j.names name)))
  (cond (j.kind == 4) (cond (inn (addAt j name) 0 (j.list.length:Int)) (some (aa_.mk j.kind j.n_ j.s (g0_ j.list (addAt j name).toNat v) j.names)) none) none)
theorem size_pos:∀ (d:Nat) (x:aa_),1≤b7_ d x
 |0,_=>by simp [b7_]
 |d+1,x=>by
  simp only [b7_]
  cases FOwn x<;>simp only [cond_true,cond_false]<;>omega
theorem sum_len (d:Nat):∀ l:List aa_,l.length≤dR_ (b7_ d) l
 |[]=>Nat.zero_le _
 |x::l=>by
  have h1:=sum_len d l
  have h2:=size_pos d x
  show l.length+1≤b7_ d x+dR_ (b7_ d) l
  omega
theorem ej_ {d:Nat} {j:aa_} (h:b7_ (d+1) j≤400):j.list.length≤399:=by
 have h1:=(c0_ h).2
 have h2:=sum_len d j.list
 omega
theorem g6_ {l:List Bs} {k:Nat} {x:Bs} (h:k≤l.length) (hl:l.length≤10000):Ev (fun n _=>bc_ n l (k:Int) [x]) (g0_ l k x):=by
 refine aZ_ ?_
 simp only [bc_,gu_,aw_,as_,cz_,Int.toNat_natCast,g0_]
 simp;omega
theorem ef_ {l:List aa_} {k:Nat} {x:aa_} (h:k≤l.length) (hl:l.length≤10000):Ev (fun n _=>bf_ n l (k:Int) [x]) (g0_ l k x):=by
 refine aZ_ ?_
 simp only [bf_,gu_,aw_,as_,cz_,Int.toNat_natCast,g0_]
 simp;omega
theorem putL_new {α:Type} {ns:List Bs} {x:Bs} (h:(decide (cZ_ ns x<ns.length)&&(ns.getD (cZ_ ns x) [] == x))=false) (l:List α) (y:α):jO_ ns x l y=g0_ l (cZ_ ns x) y:=by
 unfold jO_ g0_ eu_
 rw [if_neg]
 rintro ⟨h1,h2⟩
 rw [decide_eq_true h2,h1] at h
 simp at h
theorem lu_ {α:Type} {ns:List Bs} {x:Bs} (h:(decide (cZ_ ns x<ns.length)&&(ns.getD (cZ_ ns x) [] == x))=true) (l:List α) (y:α) (hl:cZ_ ns x<l.length):jO_ ns x l y=l.set (cZ_ ns x) y:=by
 simp only [Bool.and_eq_true,decide_eq_true_eq] at h
 unfold jO_ eu_
 rw [if_pos ⟨eq_of_beq h.2,h.1⟩,List.set_eq_take_append_cons_drop,if_pos hl]
 simp
theorem set_same {l:List Bs} {p:Nat} {x:Bs} (h:p<l.length) (e:l.getD p []=x):l.set p x=l:=by
 rw [List.getD_eq_getElem?_getD,List.getElem?_eq_getElem h,Option.getD_some] at e
 subst e
 exact List.set_getElem_self h
theorem g2_ {d:Nat} {j:aa_} (h:b7_ (d+1) j≤400) {name:Bs} {v:aa_} (hn:name.length≤281474976710656):Ans (fun n _=>bX_ n j name v) (Ok2 (FAdd j name v)):=by
 have ho:=(c0_ h).1
 have o2:=kq_ (jM_ h)
 have hl:=ej_ h
 refine dk_ ?_
 simp only [bX_,bC_]
 unfold FAdd
 cases h5:(j.kind == 5)
 · cases h4:(j.kind == 4)
   · simp only [cond_false,b4_];exact d4_
   · simp only [cond_false,cond_true,ca_ (e9_ hn),c5_,ca_ fR_,b4_]
     have hr:=hr_ name
     unfold addAt
     refine ⟨fun hq => ?_,fun hq => ?_⟩
     · rw [hq,cond_true]
       have e:inn (j.list.length:Int) 0 (j.list.length:Int)=true:=by simp [inn]
       rw [e]
       simp only [Bool.not_true,cond_true,ca_ (ef_ (l:=j.list) (k:=j.list.length) (x:=v) (Nat.le_refl _) (by omega)),b4_,Int.toNat_natCast]
       exact ⟨fun h=>(by cases h),fun _=>c9_⟩
     · rw [hq,cond_false]
       cases e:inn (FPos name) 0 (j.list.length:Int)
       · simp only [Bool.not_false,cond_false]
         exact ⟨fun _=>d4_,fun h=>(by cases h)⟩
       · have hi:=jb_.1 e
         have hi2:((FPos name).toNat:Int)=FPos name:=Int.toNat_of_nonneg hi.1
         have hI:=ef_ (l:=j.list) (k:=(FPos name).toNat) (x:=v) (by omega) (by omega)
         rw [hi2] at hI
         simp only [Bool.not_true,cond_true,ca_ hI,b4_]
         exact ⟨fun h=>(by cases h),fun _=>c9_⟩
 · have hk:j.kind=5:=by simpa using h5
   obtain ⟨he,hN⟩:=ho.obj hk
   have hA:=iJ_ hN
   have hB:=hX_ (ns:=j.names) (x:=name) (by omega) (kj_ hA)
   have hp:cZ_ j.names name≤j.names.length:=List.findIdx_le_length
   simp only [cond_true,ca_ hB]
   have n0:=o2.n0 (by omega) (by omega)
   have s0:=o2.s0 (by omega)
   cases hf:(decide (cZ_ j.names name<j.names.length)&&(j.names.getD (cZ_ j.names name) [] == name))
   · simp only [cond_false,ca_ (g6_ (l:=j.names) (k:=cZ_ j.names name) (x:=name) hp (by omega)),ca_ (ef_ (l:=j.list) (k:=cZ_ j.names name) (x:=v) (by omega) (by omega)),b4_,putL_new hf,hk,n0,s0]
     exact c9_
   · have hlt:cZ_ j.names name<j.names.length:=by simp only [Bool.and_eq_true,decide_eq_true_eq] at hf;exact hf.1
     have e2:j.names.set (cZ_ j.names name) name=j.names:=by
      have h7:j.names.getD (cZ_ j.names name) []=name:=by simp only [Bool.and_eq_true] at hf;exact eq_of_beq hf.2
      exact set_same hlt h7
     simp only [cond_true,dx_,cP_ (show cZ_ j.names name<j.list.length by omega),true_and,Int.toNat_natCast,b4_,lu_ hf j.list v (by omega),lu_ hf j.names name hlt,hk,n0,s0]
     rw [e2]
     exact c9_
end Go.Pi
end
section
namespace Go.Pi
theorem h0_ {d:Nat} {j:aa_} (h:b7_ (d+1) j≤400) {name:Bs} {o:TOp} (hv:b7_ 6 o.value≤400):Ans (fun n _=>ck_ n j name o) (Ok2 (FAdd j name o.value)):=by
 have ho:=(c0_ h).1
 have hl:=ej_ h
 have hC:=cY_ 6 o.value hv
 refine dk_ ?_
 simp only [ck_,bC_]
 unfold FAdd
 cases h5:(j.kind == 5)
 · cases h4:(j.kind == 4)
   · have h4':(j.kind != 4)=true:=by rw [bne,h4];rfl
     simp only [h4',cond_false,cond_true,ca_ dT_,c5_,b4_]
     exact ⟨fun _=>d4_,fun _=>d4_⟩
   · have h4':(j.kind != 4)=false:=by rw [bne,h4];rfl
     have hr:=hr_ name
     simp only [h4',cond_false,cond_true,ca_ dT_,c5_,ca_ l1In_ev,b4_,ca_ hC,he_,kl_,List.nil_append,List.length_nil,List.drop_zero,List.take_length,Int.toNat_natCast]
     unfold addAt
     refine ⟨fun hq => ?_,fun hq => ?_⟩
     · rw [hq,cond_true]
       have e:inn (j.list.length:Int) 0 (j.list.length:Int)=true:=by simp [inn]
       have e9:g0_ j.list j.list.length o.value=j.list++[o.value]++j.list.drop j.list.length:=by unfold g0_;rw [List.take_length]
       rw [e]
       simp only [Bool.not_true,cond_true,Int.toNat_natCast,e9]
       refine ⟨fun h=>(by cases h),fun _ => ?_⟩
       repeat' (first|exact c9_|apply And.intro)
       all_goals (first|omega|(simp;done)|(simp;omega)|trace_state)
     · rw [hq,cond_false]
       cases e:inn (FPos name) 0 (j.list.length:Int)
       · simp only [Bool.not_false,cond_false]
         exact ⟨fun _=>d4_,fun h=>(by cases h)⟩
       · have hi:=jb_.1 e
         simp only [Bool.not_true,cond_true]
         refine ⟨fun h=>(by cases h),fun _ => ?_⟩
         repeat' (first|exact c9_|apply And.intro)
         all_goals (first|omega|(simp;done)|(simp;omega)|trace_state)
 · have hk:j.kind=5:=by simpa using h5
   obtain ⟨he,hN⟩:=ho.obj hk
   have hA:=iJ_ hN
   have hP:=fV_ (o:=j) (j:=o.value) (x:=name) (by omega) he.symm (fun z hz=>by
    rw [ee_] at hz
    exact beq_eq_false_iff_ne.2 fun e=>by subst e;exact List.lt_irrefl z (of_decide_eq_true hz)) (ascB_ne hA)
   simp only [cond_true,ca_ hC,ca_ hP,b4_]
   exact c9_
end Go.Pi
end
section
namespace Go.Pi
def gW_ (d:Nat) (j:aa_) (o:TOp):Option aa_:=cond (o.kind == 4) (cond (ds_ d j o.value) (some j) none) (cond (o.kind == 2) none (some o.value))
def iP_ (j:aa_) (i:Nat) (y:aa_):aa_:=aa_.mk j.kind j.n_ j.s (j.list.set i y) j.names
def iF_ (j:aa_) (i:Nat):aa_:=aa_.mk j.kind j.n_ j.s (j.list.take i++j.list.drop (i+1)) (cond (j.kind == 5) (j.names.take i++j.names.drop (i+1)) j.names)
def FPat:Nat→aa_→List Bs→TOp→Option aa_
 |d,j,[],o=>gW_ d j o
 |0,_,_::_,_=>none
 |d+1,j,x::w,o=>cond (w.isEmpty&&(o.kind == 1)) (FAdd j x o.value) (cond (decide (FAt j x<0)) none (cond (w.isEmpty&&(o.kind == 2)) (some (iF_ j (FAt j x).toNat))
   ((FPat d (j.list.getD (FAt j x).toNat aa_.dflt) w o).map (iP_ j (FAt j x).toNat))))
structure k9_ (o:TOp):Prop where
 kind:o.kind=1∨o.kind=2∨o.kind=3∨o.kind=4
 value:b7_ 6 o.value≤400
theorem h6_ {d:Nat} {j:aa_} {o:TOp} (h:b7_ d j≤400) (ho:k9_ o):Ans (fun n _=>cm_ n j o) (Ok2 (gW_ d j o)):=by
 have hC:=cV_ 6 o.value ho.value
 have hA:=f7_ d j o.value (eo_ d j h) (cU_ d j h)
 refine dk_ ?_
 simp only [cm_,bC_]
 unfold gW_
 rcases ho.kind with hk|hk|hk|hk<;>rw [hk]
 · simp only [show ((1:Int) == 1)=true from rfl,show ((1:Int) == 4)=false from rfl,show ((1:Int) == 2)=false from rfl,cond_true,cond_false,ca_ hC,b4_];exact c9_
 · simp only [show ((2:Int) == 1)=false from rfl,show ((2:Int) == 3)=false from rfl,show ((2:Int) == 4)=false from rfl,show ((2:Int) == 2)=true from rfl,cond_true,cond_false,b4_];exact d4_
 · simp only [show ((3:Int) == 1)=false from rfl,show ((3:Int) == 3)=true from rfl,show ((3:Int) == 4)=false from rfl,show ((3:Int) == 2)=false from rfl,cond_true,cond_false,ca_ hC,b4_];exact c9_
 · simp only [show ((4:Int) == 1)=false from rfl,show ((4:Int) == 3)=false from rfl,show ((4:Int) == 4)=true from rfl,cond_true,cond_false,ca_ hA,b4_]
   cases ds_ d j o.value
   · exact d4_
   · exact c9_
theorem hZ_ {d:Nat} {j:aa_} {o:TOp} (h:b7_ d j≤400) (ho:k9_ o):Ans (fun n _=>bP_ n j o) (Ok2 (gW_ d j o)):=by
 have hC:=cY_ 6 o.value ho.value
 have hA:=dz_ d j o.value (eo_ d j h) (cU_ d j h)
 refine dk_ ?_
 simp only [bP_,bC_]
 unfold gW_
 rcases ho.kind with hk|hk|hk|hk<;>rw [hk]
 · simp only [show ((1:Int) == 4)=false from rfl,show ((1:Int) == 2)=false from rfl,cond_true,cond_false,ca_ hC,b4_];exact c9_
 · simp only [show ((2:Int) == 4)=false from rfl,show ((2:Int) == 2)=true from rfl,cond_true,cond_false,b4_];exact d4_
 · simp only [show ((3:Int) == 4)=false from rfl,show ((3:Int) == 2)=false from rfl,cond_true,cond_false,ca_ hC,b4_];exact c9_
 · simp only [show ((4:Int) == 4)=true from rfl,show ((4:Int) == 2)=false from rfl,cond_true,cond_false,ca_ hA,b4_]
   cases ds_ d j o.value
   · exact d4_
   · exact c9_
theorem g1_ {j:aa_} {i:Nat} (hi:i<j.list.length) (hl:j.list.length≤10000) (he:j.kind=5→j.names.length=j.list.length):Ev (fun n _=>bD_ n j (i:Int)) (iF_ j i):=by
 have hW:=W_up hi (show j.list.length≤cq_ by simp only [cq_];omega)
 have e1:((i+1:Nat):Int).toNat=i+1:=Int.toNat_natCast _
 have hD:Ev (fun n _=>bl_ n j.list (i:Int) ((i+1:Nat):Int)) (j.list.take i++j.list.drop (i+1)):=by
  refine aZ_ ?_
  simp only [bl_,gv_,aw_,as_,cz_,Int.toNat_natCast,e1]
  simp;omega
 refine aZ_ ?_
 simp only [bD_,hW,au_ hD,aw_,as_]
 unfold iF_
 refine ⟨fun h5 => ?_,fun h5 => ?_⟩
 · have hk:=he (by simpa using h5)
   have hS:Ev (fun n _=>bd_ n j.names (i:Int) ((i+1:Nat):Int)) (j.names.take i++j.names.drop (i+1)):=by
    refine aZ_ ?_
    simp only [bd_,gv_,aw_,as_,cz_,Int.toNat_natCast,e1]
    simp;omega
   rw [h5]
   simp only [au_ hS,as_,cond_true]
 · rw [h5];rfl
end Go.Pi
end
section
namespace Go.Pi
theorem kG_ {x:Option aa_} {r:aa_ × Bool} (h:Ok2 x r) {f:aa_→aa_} {z:aa_} (hz:r.2=true→z=f r.1):Ok2 (x.map f) (z,r.2):=by
 obtain ⟨h1,h2⟩:=h
 refine ⟨by rw [h1];cases x<;>rfl,fun y hy => ?_⟩
 cases x with
 |none=>cases hy
 |some x0=>
  simp only [Option.map_some,Option.some.injEq] at hy
  rw [←hy,←h2 x0 rfl]
  exact hz (by rw [h1];rfl)
theorem beq_nat (n:Nat):Nat.beq n n=true:=Nat.beq_refl n
theorem eM_:∀ (d:Nat) (j:aa_) (way:List Bs) (o:TOp),b7_ d j≤400→(∀ x ∈ way,x.length≤281474976710656)→way.length≤1000→k9_ o→Ans (fun n _=>bz_ n j way o) (Ok2 (FPat d j way o))
 |0,j,way,o,h,hw,hl,ho=>by simp only [b7_] at h;omega
 |d+1,j,[],o,h,hw,hl,ho=>by
  have hW:=h6_ h ho
  refine dk_ ?_
  simp only [bz_,bC_,dJ_,List.length_nil,show (((0:Nat):Int) == 0)=true from rfl,cond_true]
  exact dQ_ hW fun r hr=>b4_.2 hr
 |d+1,j,x::w,o,h,hw,hl,ho=>by
  have hown:=(c0_ h).1
  have hjl:=ej_ h
  have he:j.kind=5→j.list.length=j.names.length:=fun hk=>(hown.obj hk).1.symm
  have hnl:j.names.length≤cq_:=by
   have:=(cU_ (d+1) j h).1.2
   exact this.1
  have hx:=hw x (List.mem_cons_self ..)
  have hC:=cV_ 6 o.value ho.value
  have hP:=hB_ (s:=x) hnl he hx
  have hAdd:=g2_ h (name:=x) (v:=o.value) hx
  have hr:=hd_ j x he
  have hcut:(0:Int)≤1∧(1:Int)≤((x::w).length:Int)∧((x::w).length:Int)≤((x::w).length:Int):=⟨by omega,by simp;omega,by omega⟩
  have hin0:(0:Int)≤0∧(0:Int)<((x::w).length:Int):=⟨by omega,by simp<;>omega⟩
  have e0:(((x::w).length:Int) == 0)=false:=by simp;omega
  have ew:(((x::w).take (((x::w).length:Nat):Int).toNat).drop 1)=w:=by rw [Int.toNat_natCast,List.take_length];rfl
  have eT_:¬ FAt j x<0→Ans (fun n N=>inB (FAt j x) j.list.length (gE_ 1 ((x::w).length:Int) (x::w).length (cond (Nat.beq (FAt j x).toNat (FAt j x).toNat) (cond (Nat.beq (FAt j x).toNat (FAt j x).toNat) ((bz_ n (j.list.getD (FAt j x).toNat aa_.dflt) w o).bind fun xr6=>(cond (!xr6.2) (some ((aa_.mk 0 0 [] ([]:List aa_) ([]:List Bs)),false)) (inB (FAt j x) j.list.length (cond (Nat.beq (FAt j x).toNat (FAt j x).toNat) (let xa7:List aa_:=j.list.set (FAt j x).toNat xr6.1;(some ((aa_.mk j.kind j.n_ j.s xa7 j.names),true))) none)))) none) none)))
    (Ok2 ((FPat d (j.list.getD (FAt j x).toNat aa_.dflt) w o).map (iP_ j (FAt j x).toNat))):=fun hn=>by
   have hlt:(FAt j x).toNat<j.list.length:=by omega
   have ih:=eM_ d (j.list.getD (FAt j x).toNat aa_.dflt) w o (ei_ h (b3_ _ hlt)) (fun y hy=>hw y (List.mem_cons_of_mem _ hy)) (by simp at hl;omega) ho
   simp only [beq_nat,cond_true,dx_,he_]
   refine ⟨⟨by omega,by omega⟩,hcut,?_⟩
   refine dQ_ ih fun r hr => ?_
   simp only [c5_,b4_,dx_]
   refine ⟨fun hf => ?_,fun hf=>⟨⟨by omega,by omega⟩,?_⟩⟩
   · have hf:r.2=false:=by simpa using hf
     have:=kG_ hr (f:=iP_ j (FAt j x).toNat) (z:=aa_.mk 0 0 [] ([]:List aa_) ([]:List Bs)) (fun e=>by rw [hf] at e;cases e)
     rwa [hf] at this
   · have hf:r.2=true:=by simpa using hf
     have:=kG_ hr (f:=iP_ j (FAt j x).toNat) (z:=iP_ j (FAt j x).toNat r.1) (fun _=>rfl)
     rwa [hf] at this
  refine dk_ ?_
  simp only [bz_,bC_,dJ_,e0,cond_false,ew,List.getD_cons_zero]
  cases w with
  |nil=>
   have e1:(([x]:List Bs).length:Int) == 1:=rfl
   have e1:((([x]:List Bs).length:Int) == 1)=true:=rfl
   simp only [e1,cond_true,FPat,List.isEmpty_nil,Bool.true_and]
   cases hk:(o.kind == 1)
   · simp only [cond_false,dx_,ca_ hP,c5_,b4_]
     refine ⟨hin0,fun hn => ?_,fun hn => ?_⟩
     · rw [hn];exact d4_
     · have hn':=of_decide_eq_false hn
       rw [hn]
       refine ⟨fun h2 => ?_,fun h2 => ?_⟩
       · have hi:((FAt j x).toNat:Int)=FAt j x:=Int.toNat_of_nonneg (by omega)
         have hD:=g1_ (j:=j) (i:=(FAt j x).toNat) (by omega) (by omega) (fun hk=>(hown.obj hk).1)
         rw [hi] at hD
         simp only [ca_ hD,b4_,h2,cond_true,cond_false]
         exact c9_
       · rw [h2]
         have hq:=dx_.1 (eT_ hn')
         simp only [FPat] at hq
         exact hq
   · simp only [cond_true,dx_,ca_ hC]
     refine ⟨hin0,?_⟩
     exact dQ_ hAdd fun r hr=>b4_.2 hr
  |cons x2 w=>
   have e1:(((x::x2::w).length:Int) == 1)=false:=by simp<;>omega
   simp only [e1,cond_false,FPat,List.isEmpty_cons,Bool.false_and]
   simp only [dx_,ca_ hP,c5_,b4_]
   refine ⟨hin0,fun hn => ?_,fun hn => ?_⟩
   · rw [hn];exact d4_
   · have hn':=of_decide_eq_false hn
     rw [hn]
     exact dx_.1 (eT_ hn')
end Go.Pi
end
section
namespace Go.Pi
theorem l8_ {j:aa_} {i:Nat} (h:i<j.list.length):iP_ j i (j.list.getD i aa_.dflt)=j:=by
 unfold iP_
 rw [List.getD_eq_getElem?_getD,List.getElem?_eq_getElem h,Option.getD_some,List.set_getElem_self]
 exact cM_ j
theorem tail_drop {j:aa_} {i:Nat} (hi:i<j.list.length) (hl:j.list.length≤10000) (he:j.kind=5→j.names.length=j.list.length):Ans (fun n (_:Nat)=>bh_.tail8 n (i:Int) j.names j.kind j.n_ j.s j.list 0 0 []) (Ok2 (some (iF_ j i))):=by
 have hW:=W_up hi (show j.list.length≤cq_ by simp only [cq_];omega)
 have e1:((i+1:Nat):Int).toNat=i+1:=Int.toNat_natCast _
 simp only [bh_.tail8,bh_.tail17,hW,he_,kl_,c5_,b4_,Int.toNat_natCast,e1,List.take_length,List.drop_zero,List.nil_append,List.length_nil]
 unfold iF_
 refine ⟨by omega,by simp;omega,by omega,by simp;omega,fun h5 => ?_,fun h5 => ?_⟩
 · have hk:=he (by simpa using h5)
   rw [h5]
   refine ⟨by omega,by simp;omega,by omega,by simp;omega,c9_⟩
 · rw [h5];exact c9_
theorem iN_ {d:Nat} {j:aa_} {x:Bs} {o:TOp} (h:b7_ (d+1) j≤400) (ho:k9_ o):Ans (fun n _=>bh_ n j x o) (Ok2 (FPat (d+1) j [x] o)):=by
 have hown:=(c0_ h).1
 have hjl:=ej_ h
 have he:j.kind=5→j.list.length=j.names.length:=fun hk=>(hown.obj hk).1.symm
 have hnl:j.names.length≤cq_:=(cU_ (d+1) j h).1.2.1
 have hP:=gN_ (j:=j) (s:=x) hnl
 have hr:=hd_ j x he
 have hC:=cY_ 6 o.value ho.value
 refine dk_ ?_
 simp only [bh_,bC_,dJ_,ca_ hP,c5_,b4_,dx_,FPat,List.isEmpty_nil,Bool.true_and]
 have hAdd:=h0_ h (name:=x) ho.value
 refine ⟨fun hk => ?_,fun hk=>⟨fun hn => ?_,fun hn=>⟨fun h4 => ?_,fun h4=>⟨fun h3 => ?_,fun h3 => ?_⟩⟩⟩⟩
 · rw [hk];exact dQ_ hAdd fun r hr=>b4_.2 hr
 · rw [hk,hn];exact d4_
 · have hn':=of_decide_eq_false hn
   have hlt:(FAt j x).toNat<j.list.length:=by omega
   have hc:=ei_ h (b3_ aa_.dflt hlt)
   have hA:=dz_ d (j.list.getD (FAt j x).toNat aa_.dflt) o.value (eo_ d _ hc) (cU_ d _ hc)
   have h2:(o.kind == 2)=false:=by have:o.kind=4:=by simpa using h4
                                   rw [this];rfl
   rw [hk,hn,h2]
   unfold gW_
   rw [h4]
   refine ⟨⟨by omega,by omega⟩,?_⟩
   simp only [ca_ hA,b4_,cond_true,cond_false]
   cases ds_ d (j.list.getD (FAt j x).toNat aa_.dflt) o.value
   · exact d4_
   · simp only [cond_true,Option.map_some,l8_ hlt];exact c9_
 · have hn':=of_decide_eq_false hn
   have h2:(o.kind == 2)=false:=by have:o.kind=3:=by simpa using h3
                                   rw [this];rfl
   rw [hk,hn,h2]
   unfold gW_
   rw [h4,h2]
   simp only [ca_ hC,dx_,b4_,cond_false,Option.map_some]
   exact ⟨⟨by omega,by omega⟩,c9_⟩
 · have hn':=of_decide_eq_false hn
   have h2:(o.kind == 2)=true:=by
    rcases ho.kind with e|e|e|e<;>rw [e] at hk h3 h4 ⊢ <;> first|rfl|(cases hk;done)|(cases h3;done)|(cases h4;done)
   have hi:((FAt j x).toNat:Int)=FAt j x:=Int.toNat_of_nonneg (by omega)
   have hD:=tail_drop (j:=j) (i:=(FAt j x).toNat) (by omega) (by omega) (fun hk=>(hown.obj hk).1)
   rw [hi] at hD
   rw [hk,hn,h2]
   exact hD
end Go.Pi
end
section
namespace Go.Pi
theorem eJ_:∀ (d:Nat) (j:aa_) (way:List Bs) (o:TOp),b7_ d j≤400→way.length≤1000→k9_ o→Ans (fun n _=>bE_ n j way o) (Ok2 (FPat d j way o))
 |0,j,way,o,h,hl,ho=>by simp only [b7_] at h;omega
 |d+1,j,[],o,h,hl,ho=>by
  have hW:=hZ_ h ho
  refine dk_ ?_
  simp only [bE_,bC_,dJ_,List.length_nil,show (((0:Nat):Int) == 0)=true from rfl,cond_true]
  exact dQ_ hW fun r hr=>b4_.2 hr
 |d+1,j,[x],o,h,hl,ho=>by
  have hI:=iN_ h (x:=x) ho
  have e0:((([x]:List Bs).length:Int) == 0)=false:=rfl
  have e1:((([x]:List Bs).length:Int) == 1)=true:=rfl
  refine dk_ ?_
  simp only [bE_,bC_,dJ_,e0,e1,cond_false,cond_true,dx_,List.getD_cons_zero]
  exact ⟨⟨by omega,by simp⟩,dQ_ hI fun r hr=>b4_.2 hr⟩
 |d+1,j,x::x2::w,o,h,hl,ho=>by
  have hown:=(c0_ h).1
  have hjl:=ej_ h
  have he:j.kind=5→j.list.length=j.names.length:=fun hk=>(hown.obj hk).1.symm
  have hnl:j.names.length≤cq_:=(cU_ (d+1) j h).1.2.1
  have hP:=gN_ (j:=j) (s:=x) hnl
  have hr:=hd_ j x he
  have e0:(((x::x2::w).length:Int) == 0)=false:=by simp<;>omega
  have e1:(((x::x2::w).length:Int) == 1)=false:=by simp<;>omega
  have ew:(((x::x2::w).take (((x::x2::w).length:Nat):Int).toNat).drop 1)=x2::w:=by rw [Int.toNat_natCast,List.take_length];rfl
  have hcut:(0:Int)≤1∧(1:Int)≤((x::x2::w).length:Int)∧((x::x2::w).length:Int)≤((x::x2::w).length:Int):=⟨by omega,by simp<;>omega,by omega⟩
  refine dk_ ?_
  simp only [bE_,bC_,dJ_,e0,e1,ew,cond_false,cond_true,dx_,List.getD_cons_zero,ca_ hP,c5_,b4_,FPat,List.isEmpty_cons,Bool.false_and,beq_nat,he_]
  refine ⟨⟨by omega,by simp<;>omega⟩,fun hn => ?_,fun hn => ?_⟩
  · rw [hn];exact d4_
  · have hn':=of_decide_eq_false hn
    have hlt:(FAt j x).toNat<j.list.length:=by omega
    have ih:=eJ_ d (j.list.getD (FAt j x).toNat aa_.dflt) (x2::w) o (ei_ h (b3_ _ hlt)) (by simp at hl ⊢;omega) ho
    rw [hn]
    refine ⟨⟨by omega,by omega⟩,hcut,?_⟩
    refine dQ_ ih fun r hr => ?_
    simp only [b4_,dx_,cond_false]
    exact ⟨⟨by omega,by omega⟩,kG_ hr (f:=iP_ j (FAt j x).toNat) (fun _=>rfl)⟩
end Go.Pi
end
section
namespace Go.Pi
theorem kK_ {e:Nat} {v:aa_} (h:fy_ e v):∀ {k d:Nat},d+k=e→fy_ d v
 |0,d,hd=>by
  have:d=e:=by omega
  rw [this];exact h
 |k+1,d,hd=>i8_ d v (kK_ h (k:=k) (by omega))
theorem lv_ {α:Type} {ns:List Bs} {x:Bs} {l:List α} {y z:α} (h:z ∈ jO_ ns x l y):z=y∨z ∈ l:=by
 unfold jO_ at h
 rcases List.mem_append.1 h with h|h
 · rcases List.mem_append.1 h with h|h
   · exact .inr (List.mem_of_mem_take h)
   · exact .inl (List.mem_singleton.1 h)
 · exact .inr (List.mem_of_mem_drop h)
theorem lw_ {α:Type} {ns:List Bs} {x:Bs} {l:List α} {y:α}:(jO_ ns x l y).length≤l.length+1:=by
 have:cZ_ ns x≤eu_ ns x:=by unfold eu_;split<;>omega
 unfold jO_
 simp;omega
theorem putIn_mem {α:Type} {k:Nat} {l:List α} {y z:α} (h:z ∈ g0_ l k y):z=y∨z ∈ l:=by
 unfold g0_ at h
 rcases List.mem_append.1 h with h|h
 · rcases List.mem_append.1 h with h|h
   · exact .inr (List.mem_of_mem_take h)
   · exact .inl (List.mem_singleton.1 h)
 · exact .inr (List.mem_of_mem_drop h)
theorem cut_mem {α:Type} {k m:Nat} {l:List α} {z:α} (h:z ∈ l.take k++l.drop m):z ∈ l:=by
 rcases List.mem_append.1 h with h|h
 · exact List.mem_of_mem_take h
 · exact List.mem_of_mem_drop h
theorem jr_:∀ (d:Nat) (j:aa_) (way:List Bs) (o:TOp) (y:aa_),d≤6→b7_ d j≤400→(∀ x ∈ way,x.length≤1000)→k9_ o→FPat d j way o=some y→fy_ d y
 |0,j,way,o,y,hd,h,hw,ho,e=>by simp only [b7_] at h;omega
 |d+1,j,[],o,y,hd,h,hw,ho,e=>by
  have hj:=cU_ (d+1) j h
  have hv:=kK_ (cU_ 6 _ ho.value) (d:=d+1) (k:=5 - d) (by omega)
  simp only [FPat,gW_] at e
  cases h4:(o.kind == 4)<;>rw [h4] at e
  · cases h2:(o.kind == 2)<;>rw [h2] at e
    · cases e;exact hv
    · cases e
  · cases ha:ds_ (d+1) j o.value<;>rw [ha] at e
    · cases e
    · cases e;exact hj
 |d+1,j,x::w,o,y,hd,h,hw,ho,e=>by
  have hj:=cU_ (d+1) j h
  obtain ⟨⟨hs,hn,hns⟩,hl,hk⟩:=hj
  have hjl:=ej_ h
  have hv:=kK_ (cU_ 6 _ ho.value) (d:=d) (k:=6 - d) (by omega)
  have hx:=hw x (List.mem_cons_self ..)
  have hown:=(c0_ h).1
  have ht:(1000000:Nat)≤cq_:=by simp only [cq_];omega
  have hnl:j.kind=5→j.names.length≤400:=fun h5=>by have:=(hown.obj h5).1;omega
  simp only [FPat] at e
  cases c1:(w.isEmpty&&(o.kind == 1))<;>rw [c1] at e
  · cases c2:decide (FAt j x<0)<;>rw [c2] at e
    · cases c3:(w.isEmpty&&(o.kind == 2))<;>rw [c3] at e
      · simp only [cond_false] at e
        cases hf:FPat d (j.list.getD (FAt j x).toNat aa_.dflt) w o with
        |none=>rw [hf] at e;cases e
        |some z=>
         rw [hf] at e
         simp only [Option.map_some,Option.some.injEq] at e
         subst e
         have hr:=hd_ j x fun h5=>(hown.obj h5).1.symm
         have c2':=of_decide_eq_false c2
         have hlt:(FAt j x).toNat<j.list.length:=by omega
         have ih:=jr_ d _ w o z (by omega) (ei_ h (b3_ _ hlt)) (fun y hy=>hw y (List.mem_cons_of_mem _ hy)) ho hf
         refine ⟨⟨hs,hn,hns⟩,by simp only [iP_,List.length_set];exact hl,fun q hq => ?_⟩
         rcases List.mem_or_eq_of_mem_set hq with hq|rfl
         · exact hk q hq
         · exact ih
      · simp only [cond_true,cond_false,Option.some.injEq] at e
        subst e
        refine ⟨⟨hs,?_⟩,?_,fun q hq=>hk q (cut_mem hq)⟩
        · show mi_ cq_ (cond (j.kind == 5) _ _)
          cases h5:(j.kind == 5)
          · exact ⟨hn,hns⟩
          · have:=hnl (by simpa using h5)
            exact ⟨by simp;omega,fun q hq=>hns q (cut_mem hq)⟩
        · simp only [iF_];simp;omega
    · cases e
  · simp only [cond_true,FAdd] at e
    cases h5:(j.kind == 5)<;>rw [h5] at e
    · cases h4:(j.kind == 4)<;>rw [h4] at e
      · cases e
      · simp only [cond_true,cond_false] at e
        cases hi:inn (addAt j x) 0 (j.list.length:Int)<;>rw [hi] at e
        · cases e
        · cases e
          refine ⟨⟨hs,hn,hns⟩,?_,fun q hq => ?_⟩
          · simp only [g0_];simp;omega
          · rcases putIn_mem hq with rfl|hq
            · exact hv
            · exact hk q hq
    · cases e
      have:=hnl (by simpa using h5)
      have p1:=lw_ (ns:=j.names) (x:=x) (l:=j.names) (y:=x)
      have p2:=lw_ (ns:=j.names) (x:=x) (l:=j.list) (y:=o.value)
      refine ⟨⟨Nat.zero_le _,(by show (jO_ j.names x j.names x).length≤cq_;omega),fun q hq => ?_⟩,by show (jO_ j.names x j.list o.value).length≤cq_;omega,fun q hq => ?_⟩
      · rcases lv_ hq with rfl|hq
        · omega
        · exact hns q hq
      · rcases lv_ hq with rfl|hq
        · exact hv
        · exact hk q hq
end Go.Pi
end
section
namespace Go.Pi
def eQ_ (j:aa_) (o:TOp):aa_ × Bool:=cond (cd_ j&&eE_ o) (match FPat 6 j o.way o with
 |some y=>cond (cd_ y) (y,true) (el_,false)
 |none=>(el_,false)) (el_,false)
theorem op_fit {o:TOp} (h:eE_ o=true):k9_ o∧o.way.length≤6∧∀ x ∈ o.way,x.length≤60:=by
 unfold eE_ at h
 simp only [Bool.and_eq_true] at h
 obtain ⟨h1,h2,h3,h4,h5⟩:=h
 have h1:=jb_.1 h1
 refine ⟨⟨by omega,of_decide_eq_true h3⟩,of_decide_eq_true h2,fun x hx => ?_⟩
 obtain ⟨i,hi,rfl⟩:=List.mem_iff_getElem.1 hx
 have:=hf_.1 h4 i hi
 rw [List.getD_eq_getElem?_getD,List.getElem?_eq_getElem hi,Option.getD_some] at this
 simp only [gj_,Bool.and_eq_true,decide_eq_true_eq] at this
 omega
theorem jd_ {j:aa_} {o:TOp} (hj:fy_ 6 j) (ho:i7_ o):Ev (fun n _=>co_ n j o) (eQ_ j o):=by
 refine ev_ans (dk_ ?_)
 simp only [co_,bC_,dJ_,ca_ (c8_ hj),c5_,b4_,ca_ (gR_ ho)]
 unfold eQ_
 cases h1:cd_ j
 · exact ⟨fun _=>rfl,fun h=>(by cases h)⟩
 · cases h2:eE_ o
   · exact ⟨fun h=>(by cases h),fun _=>⟨fun _=>rfl,fun h=>(by cases h)⟩⟩
   · refine ⟨fun h=>(by cases h),fun _=>⟨fun h=>(by cases h),fun _ => ?_⟩⟩
     obtain ⟨f1,f2,f3⟩:=op_fit h2
     have hs:b7_ 6 j≤400:=of_decide_eq_true h1
     have hC:=cV_ 6 j hs
     have hP:=eM_ 6 j o.way o hs (fun x hx=>by have:=f3 x hx;omega) (by omega) f1
     rw [ca_ hC]
     refine dQ_ hP fun r hr => ?_
     obtain ⟨r1,r2⟩:=hr
     simp only [c5_,b4_,Bool.and_self,cond_true]
     cases hf:FPat 6 j o.way o with
     |none=>
      rw [hf] at r1
      rw [r1]
      exact ⟨fun _=>rfl,fun h=>(by cases h)⟩
     |some y=>
      rw [hf] at r1
      rw [r1,r2 y hf]
      refine ⟨fun h=>(by cases h),fun _ => ?_⟩
      have hl:=jr_ 6 j o.way o y (Nat.le_refl _) hs (fun x hx=>by have:=f3 x hx;omega) f1 hf
      rw [ca_ (c8_ hl)]
      simp only [c5_,b4_]
      cases cd_ y
      · exact ⟨fun _=>rfl,fun h=>(by cases h)⟩
      · exact ⟨fun h=>(by cases h),fun _=>rfl⟩
theorem iO_ {j:aa_} {o:TOp} (hj:fy_ 6 j) (ho:i7_ o):Ev (fun n _=>cl_ n j o) (eQ_ j o):=by
 refine ev_ans (dk_ ?_)
 simp only [cl_,bC_,dJ_,ca_ (c7_ hj),c5_,b4_,ca_ (gO_ ho)]
 unfold eQ_
 cases h1:cd_ j
 · exact ⟨fun _=>rfl,fun h=>(by cases h)⟩
 · cases h2:eE_ o
   · exact ⟨fun h=>(by cases h),fun _=>⟨fun _=>rfl,fun h=>(by cases h)⟩⟩
   · refine ⟨fun h=>(by cases h),fun _=>⟨fun h=>(by cases h),fun _ => ?_⟩⟩
     obtain ⟨f1,f2,f3⟩:=op_fit h2
     have hs:b7_ 6 j≤400:=of_decide_eq_true h1
     have hC:=cY_ 6 j hs
     have hP:=eJ_ 6 j o.way o hs (by omega) f1
     rw [ca_ hC]
     refine dQ_ hP fun r hr => ?_
     obtain ⟨r1,r2⟩:=hr
     simp only [c5_,b4_,Bool.and_self,cond_true]
     cases hf:FPat 6 j o.way o with
     |none=>
      rw [hf] at r1
      rw [r1]
      exact ⟨fun _=>rfl,fun h=>(by cases h)⟩
     |some y=>
      rw [hf] at r1
      rw [r1,r2 y hf]
      refine ⟨fun h=>(by cases h),fun _ => ?_⟩
      have hl:=jr_ 6 j o.way o y (Nat.le_refl _) hs (fun x hx=>by have:=f3 x hx;omega) f1 hf
      rw [ca_ (c7_ hl)]
      simp only [c5_,b4_]
      cases cd_ y
      · exact ⟨fun _=>rfl,fun h=>(by cases h)⟩
      · exact ⟨fun h=>(by cases h),fun _=>rfl⟩
end Go.Pi
end
section
namespace Go.Pi
mutual
def aa_.size:aa_→Nat
 |⟨_,_,s,l,ns⟩=>s.length+((l.length+aa_.sizes l)+cD_ szB ns)
def aa_.sizes:List aa_→Nat
 |[]=>0
 |x::l=>aa_.size x+aa_.sizes l
end
mutual
def aa_.len:aa_→Prop
 |⟨_,_,s,l,ns⟩=>s.length≤cq_∧(l.length≤cq_∧aa_.lens l)∧mj_ lenB ns
def aa_.lens:List aa_→Prop
 |[]=>True
 |x::l=>aa_.len x∧aa_.lens l
end
theorem aa_.sizes_eq:∀ l:List aa_,aa_.sizes l=dR_ aa_.size l
 |[]=>by simp only [aa_.sizes,dR_]
 |x::l=>by simp only [aa_.sizes,dR_,aa_.sizes_eq l]
theorem aa_.lens_iff:∀ l:List aa_,aa_.lens l↔∀ x ∈ l,aa_.len x
 |[]=>by simp [aa_.lens]
 |x::l=>by simp [aa_.lens,aa_.lens_iff l]
theorem aa_.size_eq (j:aa_):aa_.size j=j.s.length+(cD_ aa_.size j.list+cD_ szB j.names):=by
 cases j;simp only [aa_.size,aa_.sizes_eq,cD_]
theorem aa_.len_iff (j:aa_):aa_.len j↔j.s.length≤cq_∧mj_ aa_.len j.list∧mj_ lenB j.names:=by
 cases j;simp only [aa_.len,aa_.lens_iff,mj_]
theorem aa_.re_eq (j:aa_):aa_.re j=j:=by cases j;rfl
theorem aa_.dec {x:aa_} {a:List aa_} (h:x ∈ a):SizeOf.sizeOf x.list<SizeOf.sizeOf a:=by
 have h1:=List.sizeOf_lt_of_mem h
 have h2:SizeOf.sizeOf x.list<SizeOf.sizeOf x:=by cases x;simp;omega
 omega
def TOp.size (s:TOp):Nat:=(cD_ szB) s.way+aa_.size s.value
def TOp.len (s:TOp):Prop:=(mj_ lenB) s.way∧aa_.len s.value
theorem TOp.eta (x:TOp):TOp.mk x.kind x.way x.value=x:=rfl
def af_.size (s:af_):Nat:=aa_.size s.doc+(cD_ TOp.size) s.ops
def af_.len (s:af_):Prop:=aa_.len s.doc∧(mj_ TOp.len) s.ops
theorem af_.eta (x:af_):af_.mk x.kind x.version x.base x.doc x.ops=x:=rfl
def aL_.size (s:aL_):Nat:=aa_.size s.doc
def aL_.len (s:aL_):Prop:=aa_.len s.doc
theorem aL_.eta (x:aL_):aL_.mk x.doc x.version x.began x.bad=x:=rfl
theorem ie_ {a:List aa_} {l:Int} (ha:mj_ aa_.len a) (ih:∀ x ∈ a,∀ l,0≤l→l≤1048576→Ev (fun n _=>bq_ n x l) (eS_ l (aa_.size x))) (h0:0≤l) (h1:l≤1048576):Ev (fun n _=>aQ_ n a l) (eS_ l (cD_ aa_.size a)):=by
 refine aZ_ ?_
 refine iB_ (g:=fun n N x=>aQ_.loop7 n (bq_ n) (fun xy2=>(some xy2)) n a x 0) h0 h1 ha.1 fun l h0 h1=>iL_ aa_.dflt aa_.size (fun n N l i=>aQ_.loop7 n (bq_ n) (fun xy2=>(some xy2)) N a l (i:Int)) a (fun i l hi h0 h1 t kk => ?_) (fun l => ?_) l h0 h1
 · show Ev (fun n N=>aQ_.step7 n (bq_ n) (fun xy2=>(some xy2)) (aQ_.loop7 n (bq_ n) (fun xy2=>(some xy2)) N) a l (i:Int)) _
   simp only [aQ_.step7,aa_.re_eq,aw_,b9_,Int.toNat_natCast,W_up hi ha.1]
   refine ⟨fun _ => ?_,fun h=>absurd hi (by simpa using h)⟩
   refine ⟨⟨by omega,by omega⟩,?_⟩
   have:=ji_ (t:=t) (g:=fun n N x=>aQ_.loop7 n (bq_ n) (fun xy2=>(some xy2)) N a x ((i+1:Nat):Int)) h0 h1 (ih _ (b3_ aa_.dflt hi) _ h0 h1) kk
   simpa only [aw_,as_] using this
 · show Ev (fun n N=>aQ_.step7 n (bq_ n) (fun xy2=>(some xy2)) (aQ_.loop7 n (bq_ n) (fun xy2=>(some xy2)) N) a l (a.length:Int)) _
   simp only [aQ_.step7,aw_,as_]
   exact ⟨fun h=>absurd (of_decide_eq_true h) (by omega),fun _=>trivial⟩
theorem gM_ {a:List Bs} {l:Int} (ha:(mj_ lenB) a) (h0:0≤l) (h1:l≤1048576):Ev (fun n _=>az_ n a l) (eS_ l ((cD_ szB) a)):=by
 refine aZ_ ?_
 refine iB_ (g:=fun n N x=>az_.loop7 n (fun xy1=>(some xy1)) (n) a x 0) h0 h1 ha.1 fun l h0 h1=>iL_ [] szB (fun n N l i=>az_.loop7 n (fun xy1=>(some xy1)) (N) a l (i:Int)) a (fun i l hi h0 h1 t kk => ?_) (fun l => ?_) l h0 h1
 · show Ev (fun n N=>az_.step7 n (fun xy1=>(some xy1)) (az_.loop7 n (fun xy1=>(some xy1)) N) a l (i:Int)) _
   simp only [az_.step7,aw_,b9_,Int.toNat_natCast,W_up hi ha.1]
   refine ⟨fun _ => ?_,fun h=>absurd hi (by simpa using h)⟩
   refine ⟨⟨by omega,by omega⟩,?_⟩
   simpa only [aw_,as_,szB] using iB_ (t:=t) (g:=fun n N x=>az_.loop7 n (fun xy1=>(some xy1)) (N) a x ((i+1:Nat):Int)) h0 h1 (ha.2 _ (b3_ [] hi)) kk
 · show Ev (fun n N=>az_.step7 n (fun xy1=>(some xy1)) (az_.loop7 n (fun xy1=>(some xy1)) N) a l (a.length:Int)) _
   simp only [az_.step7,aw_,as_]
   exact ⟨fun h=>absurd (of_decide_eq_true h) (by omega),fun _=>trivial⟩
theorem gp_ (a:aa_) (l:Int) (ha:aa_.len a) (h0:0≤l) (h1:l≤1048576):Ev (fun n _=>bq_ n a l) (eS_ l (aa_.size a)):=by
 have hq:=(aa_.len_iff a).1 ha
 refine aZ_ ?_
 rw [aa_.size_eq]
 exact iB_ h0 h1 hq.1 fun r1 a1 b1=>ji_ a1 b1 (ie_ hq.2.1 (fun x hx l h0 h1=>gp_ x l (hq.2.1.2 x hx) h0 h1) a1 b1) fun r2 a2 b2=>(by simpa only [aw_,as_,Nat.add_zero] using ji_ (t:=0) a2 b2 (gM_ hq.2.2 a2 b2) fun r3 a3 b3=>ev_szE a3)
termination_by SizeOf.sizeOf a
decreasing_by
 have:=List.sizeOf_lt_of_mem hx
 cases a
 simp at this ⊢
 omega
theorem jA_ {a:aa_} {l:Int} (ha:aa_.len a) (h0:0≤l) (h1:l≤1048576):Ev (fun n _=>bq_ n a l) (eS_ l (aa_.size a)):=gp_ a l ha h0 h1
theorem szJsonS_ev {a:List aa_} {l:Int} (ha:mj_ aa_.len a) (h0:0≤l) (h1:l≤1048576):Ev (fun n _=>aQ_ n a l) (eS_ l (cD_ aa_.size a)):=ie_ ha (fun x hx l h0 h1=>gp_ x l (ha.2 x hx) h0 h1) h0 h1
theorem szOp_ev {a:TOp} {l:Int} (ha:TOp.len a) (h0:0≤l) (h1:l≤1048576):Ev (fun n _=>cv_ n a l) (eS_ l (TOp.size a)):=by
 refine aZ_ ?_
 simp only [cv_,aa_.re_eq,TOp.eta]
 have e:TOp.size a=(cD_ szB) a.way+(aa_.size a.value+(0)):=by simp only [TOp.size];omega
 rw [e];clear e
 have h0_0:=h0;have h0_1:=h1
 exact ji_ h0_0 h0_1 (gM_ (ha.1) h0_0 h0_1) fun r1 h1_0 h1_1=>ji_ h1_0 h1_1 (jA_ (ha.2) h1_0 h1_1) fun r2 h2_0 h2_1=>ev_szE h2_0
theorem szOpS_ev {a:List TOp} {l:Int} (ha:(mj_ TOp.len) a) (h0:0≤l) (h1:l≤1048576):Ev (fun n _=>a7_ n a l) (eS_ l ((cD_ TOp.size) a)):=by
 refine aZ_ ?_
 refine iB_ (g:=fun n N x=>a7_.loop7 n (fun xy2=>(some xy2)) (n) a x 0) h0 h1 ha.1 fun l h0 h1=>iL_ TOp.dflt TOp.size (fun n N l i=>a7_.loop7 n (fun xy2=>(some xy2)) (N) a l (i:Int)) a (fun i l hi h0 h1 t kk => ?_) (fun l => ?_) l h0 h1
 · show Ev (fun n N=>a7_.step7 n (fun xy2=>(some xy2)) (a7_.loop7 n (fun xy2=>(some xy2)) N) a l (i:Int)) _
   simp only [a7_.step7,aa_.re_eq,TOp.eta,aw_,b9_,Int.toNat_natCast,W_up hi ha.1]
   refine ⟨fun _ => ?_,fun h=>absurd hi (by simpa using h)⟩
   refine ⟨⟨by omega,by omega⟩,?_⟩
   have:=ji_ (t:=t) (g:=fun n N x=>a7_.loop7 n (fun xy2=>(some xy2)) (N) a x ((i+1:Nat):Int)) h0 h1 (szOp_ev (ha.2 _ (b3_ TOp.dflt hi)) h0 h1) kk
   simpa only [aw_,as_] using this
 · show Ev (fun n N=>a7_.step7 n (fun xy2=>(some xy2)) (a7_.loop7 n (fun xy2=>(some xy2)) N) a l (a.length:Int)) _
   simp only [a7_.step7,aw_,as_]
   exact ⟨fun h=>absurd (of_decide_eq_true h) (by omega),fun _=>trivial⟩
theorem l5_ {a:af_} {l:Int} (ha:af_.len a) (h0:0≤l) (h1:l≤1048576):Ev (fun n _=>bU_ n a l) (eS_ l (af_.size a)):=by
 refine aZ_ ?_
 simp only [bU_,aa_.re_eq,af_.eta]
 have e:af_.size a=aa_.size a.doc+((cD_ TOp.size) a.ops+(0)):=by simp only [af_.size];omega
 rw [e];clear e
 have h0_0:=h0;have h0_1:=h1
 exact ji_ h0_0 h0_1 (jA_ (ha.1) h0_0 h0_1) fun r1 h1_0 h1_1=>ji_ h1_0 h1_1 (szOpS_ev (ha.2) h1_0 h1_1) fun r2 h2_0 h2_1=>ev_szE h2_0
theorem kx_ {a:List af_} {l:Int} (ha:(mj_ af_.len) a) (h0:0≤l) (h1:l≤1048576):Ev (fun n _=>aK_ n a l) (eS_ l ((cD_ af_.size) a)):=by
 refine aZ_ ?_
 refine iB_ (g:=fun n N x=>aK_.loop7 n (fun xy2=>(some xy2)) (n) a x 0) h0 h1 ha.1 fun l h0 h1=>iL_ af_.dflt af_.size (fun n N l i=>aK_.loop7 n (fun xy2=>(some xy2)) (N) a l (i:Int)) a (fun i l hi h0 h1 t kk => ?_) (fun l => ?_) l h0 h1
 · show Ev (fun n N=>aK_.step7 n (fun xy2=>(some xy2)) (aK_.loop7 n (fun xy2=>(some xy2)) N) a l (i:Int)) _
   simp only [aK_.step7,aa_.re_eq,af_.eta,aw_,b9_,Int.toNat_natCast,W_up hi ha.1]
   refine ⟨fun _ => ?_,fun h=>absurd hi (by simpa using h)⟩
   refine ⟨⟨by omega,by omega⟩,?_⟩
   have:=ji_ (t:=t) (g:=fun n N x=>aK_.loop7 n (fun xy2=>(some xy2)) (N) a x ((i+1:Nat):Int)) h0 h1 (l5_ (ha.2 _ (b3_ af_.dflt hi)) h0 h1) kk
   simpa only [aw_,as_] using this
 · show Ev (fun n N=>aK_.step7 n (fun xy2=>(some xy2)) (aK_.loop7 n (fun xy2=>(some xy2)) N) a l (a.length:Int)) _
   simp only [aK_.step7,aw_,as_]
   exact ⟨fun h=>absurd (of_decide_eq_true h) (by omega),fun _=>trivial⟩
theorem ic_ {a:List aa_} (ha:cD_ aa_.size a≤cap) (ih:∀ x ∈ a,Ev (fun n _=>bw_ n x) x):Ev (fun n _=>aR_ n a) a:=by
 refine aZ_ ?_
 have hl:=cy_ aa_.size a
 simp only [cap] at ha
 simp only [aR_,aw_,cz_,decide_eq_true_eq,decide_eq_false_iff_not,not_true_eq_false]
 refine ⟨fun _=>⟨fun _=>⟨fun _ => ?_,fun h=>absurd h (by omega)⟩,fun h=>absurd h (by omega)⟩,fun h=>h⟩
 refine jj_ aa_.dflt a (fun n N i s=>aR_.loop4 n (bw_ n) (fun xy3=>(some xy3)) N a (i:Int) s) (fun i s hi hs k => ?_) ?_ _ (by simp)
 · show Ev (fun n N=>aR_.step4 n (bw_ n) (fun xy3=>(some xy3)) (aR_.loop4 n (bw_ n) (fun xy3=>(some xy3)) N) a (i:Int) s) a
   simp only [aR_.step4,aa_.re_eq,Int.toNat_natCast,aw_,b9_,au_ (ih _ (b3_ aa_.dflt hi)),W_up hi (show a.length≤cq_ by simp only [cq_];omega)]
   exact ⟨fun _=>⟨⟨by omega,by omega⟩,⟨by omega,by omega⟩,k⟩,fun h=>absurd hi (by simpa using h)⟩
 · show Ev (fun n N=>aR_.step4 n (bw_ n) (fun xy3=>(some xy3)) (aR_.loop4 n (bw_ n) (fun xy3=>(some xy3)) N) a (a.length:Int) a) a
   simp only [aR_.step4,aw_,as_]
   exact ⟨fun h=>absurd (of_decide_eq_true h) (by omega),fun _=>trivial⟩
theorem gK_ {a:List Bs} (ha:(cD_ szB) a≤cap):Ev (fun n _=>aC_ n a) a:=by
 refine aZ_ ?_
 have hl:=cy_ szB a
 simp only [cap] at ha
 simp only [aC_,aw_,cz_,decide_eq_true_eq,decide_eq_false_iff_not,not_true_eq_false]
 refine ⟨fun _=>⟨fun _=>⟨fun _ => ?_,fun h=>absurd h (by omega)⟩,fun h=>absurd h (by omega)⟩,fun h=>h⟩
 refine jj_ [] a (fun n N i s=>aC_.loop4 n (fun xy2=>(some xy2)) N a (i:Int) s) (fun i s hi hs k => ?_) ?_ _ (by simp)
 · show Ev (fun n N=>aC_.step4 n (fun xy2=>(some xy2)) (aC_.loop4 n (fun xy2=>(some xy2)) N) a (i:Int) s) a
   simp only [aC_.step4,Int.toNat_natCast,aw_,b9_,W_up hi (show a.length≤cq_ by simp only [cq_];omega)]
   exact ⟨fun _=>⟨⟨by omega,by omega⟩,⟨by omega,by omega⟩,k⟩,fun h=>absurd hi (by simpa using h)⟩
 · show Ev (fun n N=>aC_.step4 n (fun xy2=>(some xy2)) (aC_.loop4 n (fun xy2=>(some xy2)) N) a (a.length:Int) a) a
   simp only [aC_.step4,aw_,as_]
   exact ⟨fun h=>absurd (of_decide_eq_true h) (by omega),fun _=>trivial⟩
theorem gn_ (a:aa_) (ha:aa_.size a≤cap):Ev (fun n _=>bw_ n a) a:=by
 have hq:=aa_.size_eq a
 refine aZ_ ?_
 have h1:=ic_ (a:=a.list) (by omega) fun x hx=>gn_ x (by have:=dK_ aa_.size hx;omega)
 have h2:=gK_ (a:=a.names) (by omega)
 simp only [bw_,au_ h1,au_ h2,as_]
 cases a;rfl
termination_by SizeOf.sizeOf a
decreasing_by
 have:=List.sizeOf_lt_of_mem hx
 cases a
 simp at this ⊢
 omega
theorem jx_ {a:aa_} (ha:aa_.size a≤cap):Ev (fun n _=>bw_ n a) a:=gn_ a ha
theorem toJsonS_ev {a:List aa_} (ha:cD_ aa_.size a≤cap):Ev (fun n _=>aR_ n a) a:=ic_ ha fun x hx=>gn_ x (by have:=dK_ aa_.size hx;omega)
theorem toOp_ev {a:TOp} (ha:TOp.size a≤cap):Ev (fun n _=>cu_ n a) a:=by
 refine aZ_ ?_
 simp only [TOp.size] at ha
 have h0:=gK_ (a:=a.way) (by omega)
 have h1:=jx_ (a:=a.value) (by omega)
 simp only [cu_,aa_.re_eq,TOp.eta,au_ h0,au_ h1,as_]
theorem toOpS_ev {a:List TOp} (ha:(cD_ TOp.size) a≤cap):Ev (fun n _=>a9_ n a) a:=by
 refine aZ_ ?_
 have hl:=cy_ TOp.size a
 simp only [cap] at ha
 simp only [a9_,aw_,cz_,decide_eq_true_eq,decide_eq_false_iff_not,not_true_eq_false]
 refine ⟨fun _=>⟨fun _=>⟨fun _ => ?_,fun h=>absurd h (by omega)⟩,fun h=>absurd h (by omega)⟩,fun h=>h⟩
 refine jj_ TOp.dflt a (fun n N i s=>a9_.loop4 n (fun xy3=>(some xy3)) N a (i:Int) s) (fun i s hi hs k => ?_) ?_ _ (by simp)
 · show Ev (fun n N=>a9_.step4 n (fun xy3=>(some xy3)) (a9_.loop4 n (fun xy3=>(some xy3)) N) a (i:Int) s) a
   simp only [a9_.step4,Int.toNat_natCast,aw_,b9_,aa_.re_eq,TOp.eta,au_ (toOp_ev (a:=a.getD i TOp.dflt) (by have:=dK_ TOp.size (b3_ TOp.dflt hi);simp only [cap];omega)),W_up hi (show a.length≤cq_ by simp only [cq_];omega)]
   exact ⟨fun _=>⟨⟨by omega,by omega⟩,⟨by omega,by omega⟩,k⟩,fun h=>absurd hi (by simpa using h)⟩
 · show Ev (fun n N=>a9_.step4 n (fun xy3=>(some xy3)) (a9_.loop4 n (fun xy3=>(some xy3)) N) a (a.length:Int) a) a
   simp only [a9_.step4,aw_,as_]
   exact ⟨fun h=>absurd (of_decide_eq_true h) (by omega),fun _=>trivial⟩
theorem l4_ {a:af_} (ha:af_.size a≤cap):Ev (fun n _=>bT_ n a) a:=by
 refine aZ_ ?_
 simp only [af_.size] at ha
 have h0:=jx_ (a:=a.doc) (by omega)
 have h1:=toOpS_ev (a:=a.ops) (by omega)
 simp only [bT_,aa_.re_eq,af_.eta,au_ h0,au_ h1,as_]
theorem kw_ {a:List af_} (ha:(cD_ af_.size) a≤cap):Ev (fun n _=>aI_ n a) a:=by
 refine aZ_ ?_
 have hl:=cy_ af_.size a
 simp only [cap] at ha
 simp only [aI_,aw_,cz_,decide_eq_true_eq,decide_eq_false_iff_not,not_true_eq_false]
 refine ⟨fun _=>⟨fun _=>⟨fun _ => ?_,fun h=>absurd h (by omega)⟩,fun h=>absurd h (by omega)⟩,fun h=>h⟩
 refine jj_ af_.dflt a (fun n N i s=>aI_.loop4 n (fun xy3=>(some xy3)) N a (i:Int) s) (fun i s hi hs k => ?_) ?_ _ (by simp)
 · show Ev (fun n N=>aI_.step4 n (fun xy3=>(some xy3)) (aI_.loop4 n (fun xy3=>(some xy3)) N) a (i:Int) s) a
   simp only [aI_.step4,Int.toNat_natCast,aw_,b9_,aa_.re_eq,af_.eta,au_ (l4_ (a:=a.getD i af_.dflt) (by have:=dK_ af_.size (b3_ af_.dflt hi);simp only [cap];omega)),W_up hi (show a.length≤cq_ by simp only [cq_];omega)]
   exact ⟨fun _=>⟨⟨by omega,by omega⟩,⟨by omega,by omega⟩,k⟩,fun h=>absurd hi (by simpa using h)⟩
 · show Ev (fun n N=>aI_.step4 n (fun xy3=>(some xy3)) (aI_.loop4 n (fun xy3=>(some xy3)) N) a (a.length:Int) a) a
   simp only [aI_.step4,aw_,as_]
   exact ⟨fun h=>absurd (of_decide_eq_true h) (by omega),fun _=>trivial⟩
theorem iD_ {a:List aa_} (ha:cD_ aa_.size a≤cq_) (ih:∀ x ∈ a,Ev (fun n _=>bx_ n x x) true):Ev (fun n _=>aX_ n a a) true:=by
 refine aZ_ ?_
 have hl:=cy_ aa_.size a
 simp only [aX_,aw_,bne_self_eq_false]
 refine ⟨fun h=>(by cases h),fun _ => ?_⟩
 refine lP_ (fun n N i=>aX_.loop6 n (bx_ n) (some true) N a a (i:Int)) (fun _=>true) a.length fun i hi k => ?_
 show Ev (fun n N=>aX_.step6 n (bx_ n) (some true) (aX_.loop6 n (bx_ n) (some true) N) a a (i:Int)) true
 by_cases h:i<a.length
 · simp only [aX_.step6,aa_.re_eq,Int.toNat_natCast,aw_,b9_,au_ (ih _ (b3_ aa_.dflt h)),bne_self_eq_false,beq_self_eq_true,Bool.not_true,W_up h (show a.length≤cq_ by omega)]
   exact ⟨fun _=>⟨⟨by omega,by omega⟩,⟨by omega,by omega⟩,fun h=>(by cases h),fun _=>k h⟩,fun h'=>absurd h (by simpa using h')⟩
 · simp only [aX_.step6,aw_,as_]
   exact ⟨fun h'=>absurd (of_decide_eq_true h') (by omega),fun _=>trivial⟩
theorem gT_ {a:List Bs} (ha:(cD_ szB) a≤cq_):Ev (fun n _=>aE_ n a a) true:=by
 refine aZ_ ?_
 have hl:=cy_ szB a
 simp only [aE_,aw_,bne_self_eq_false]
 refine ⟨fun h=>(by cases h),fun _ => ?_⟩
 refine lP_ (fun n N i=>aE_.loop6 n (some true) N a a (i:Int)) (fun _=>true) a.length fun i hi k => ?_
 show Ev (fun n N=>aE_.step6 n (some true) (aE_.loop6 n (some true) N) a a (i:Int)) true
 by_cases h:i<a.length
 · simp only [aE_.step6,Int.toNat_natCast,aw_,b9_,bne_self_eq_false,beq_self_eq_true,Bool.not_true,W_up h (show a.length≤cq_ by omega)]
   exact ⟨fun _=>⟨⟨by omega,by omega⟩,⟨by omega,by omega⟩,fun h=>(by cases h),fun _=>k h⟩,fun h'=>absurd h (by simpa using h')⟩
 · simp only [aE_.step6,aw_,as_]
   exact ⟨fun h'=>absurd (of_decide_eq_true h') (by omega),fun _=>trivial⟩
theorem gD_ (a:aa_) (ha:aa_.size a≤cq_):Ev (fun n _=>bx_ n a a) true:=by
 have hq:=aa_.size_eq a
 refine aZ_ ?_
 have h1:=iD_ (a:=a.list) (by omega) fun x hx=>gD_ x (by have:=dK_ aa_.size hx;omega)
 have h2:=gT_ (a:=a.names) (by omega)
 simp only [bx_,au_ h1,au_ h2,bne_self_eq_false,beq_self_eq_true,Bool.not_true,cond_false,as_]
termination_by SizeOf.sizeOf a
decreasing_by
 have:=List.sizeOf_lt_of_mem hx
 cases a
 simp at this ⊢
 omega
theorem hI_ {a:aa_} (ha:aa_.size a≤cq_):Ev (fun n _=>bx_ n a a) true:=gD_ a ha
theorem eqJsonS_ev {a:List aa_} (ha:cD_ aa_.size a≤cq_):Ev (fun n _=>aX_ n a a) true:=iD_ ha fun x hx=>gD_ x (by have:=dK_ aa_.size hx;omega)
theorem kV_ {a:aL_} (ha:aL_.size a≤cq_):Ev (fun n _=>bB_ n a a) true:=by
 refine aZ_ ?_
 simp only [aL_.size] at ha
 have h0:=hI_ (a:=a.doc) (by omega)
 simp only [bB_,aa_.re_eq,aL_.eta,au_ h0,bne_self_eq_false,beq_self_eq_true,Bool.not_true,cond_false,as_]
theorem eqOp_ev {a:TOp} (ha:TOp.size a≤cq_):Ev (fun n _=>cw_ n a a) true:=by
 refine aZ_ ?_
 simp only [TOp.size] at ha
 have h0:=gT_ (a:=a.way) (by omega)
 have h1:=hI_ (a:=a.value) (by omega)
 simp only [cw_,aa_.re_eq,TOp.eta,au_ h0,au_ h1,bne_self_eq_false,beq_self_eq_true,Bool.not_true,cond_false,as_]
theorem eqOpS_ev {a:List TOp} (ha:(cD_ TOp.size) a≤cq_):Ev (fun n _=>ba_ n a a) true:=by
 refine aZ_ ?_
 have hl:=cy_ TOp.size a
 simp only [ba_,aw_,bne_self_eq_false]
 refine ⟨fun h=>(by cases h),fun _ => ?_⟩
 refine lP_ (fun n N i=>ba_.loop6 n (some true) N a a (i:Int)) (fun _=>true) a.length fun i hi k => ?_
 show Ev (fun n N=>ba_.step6 n (some true) (ba_.loop6 n (some true) N) a a (i:Int)) true
 by_cases h:i<a.length
 · simp only [ba_.step6,Int.toNat_natCast,aw_,b9_,aa_.re_eq,TOp.eta,au_ (eqOp_ev (a:=a.getD i TOp.dflt) (by have:=dK_ TOp.size (b3_ TOp.dflt h);omega)),bne_self_eq_false,beq_self_eq_true,Bool.not_true,W_up h (show a.length≤cq_ by omega)]
   exact ⟨fun _=>⟨⟨by omega,by omega⟩,⟨by omega,by omega⟩,fun h=>(by cases h),fun _=>k h⟩,fun h'=>absurd h (by simpa using h')⟩
 · simp only [ba_.step6,aw_,as_]
   exact ⟨fun h'=>absurd (of_decide_eq_true h') (by omega),fun _=>trivial⟩
theorem my_ {a:af_} (ha:af_.size a≤cq_):Ev (fun n _=>bV_ n a a) true:=by
 refine aZ_ ?_
 simp only [af_.size] at ha
 have h0:=hI_ (a:=a.doc) (by omega)
 have h1:=eqOpS_ev (a:=a.ops) (by omega)
 simp only [bV_,aa_.re_eq,af_.eta,au_ h0,au_ h1,bne_self_eq_false,beq_self_eq_true,Bool.not_true,cond_false,as_]
theorem kU_ {a:List af_} (ha:(cD_ af_.size) a≤cq_):Ev (fun n _=>aP_ n a a) true:=by
 refine aZ_ ?_
 have hl:=cy_ af_.size a
 simp only [aP_,aw_,bne_self_eq_false]
 refine ⟨fun h=>(by cases h),fun _ => ?_⟩
 refine lP_ (fun n N i=>aP_.loop6 n (some true) N a a (i:Int)) (fun _=>true) a.length fun i hi k => ?_
 show Ev (fun n N=>aP_.step6 n (some true) (aP_.loop6 n (some true) N) a a (i:Int)) true
 by_cases h:i<a.length
 · simp only [aP_.step6,Int.toNat_natCast,aw_,b9_,aa_.re_eq,af_.eta,au_ (my_ (a:=a.getD i af_.dflt) (by have:=dK_ af_.size (b3_ af_.dflt h);omega)),bne_self_eq_false,beq_self_eq_true,Bool.not_true,W_up h (show a.length≤cq_ by omega)]
   exact ⟨fun _=>⟨⟨by omega,by omega⟩,⟨by omega,by omega⟩,fun h=>(by cases h),fun _=>k h⟩,fun h'=>absurd h (by simpa using h')⟩
 · simp only [aP_.step6,aw_,as_]
   exact ⟨fun h'=>absurd (of_decide_eq_true h') (by omega),fun _=>trivial⟩
theorem ew_ (n:Nat) (k0:Bs→Option Bs) (N:Nat) (k:Int) (out:Bs):aB_.loop6 n k0 (N+1) k out=aB_.step6 n k0 (aB_.loop6 n k0 N) k out:=rfl
theorem ex_ (k:Int) (hk:k≤cq_):∃ t,Ev (fun n _=>aB_ n k) t:=by
 by_cases h0:k≤0
 · exact ⟨[109,48],aZ_ (by simp only [aB_,aw_,as_];exact ⟨fun _=>trivial,fun h=>absurd h0 (of_decide_eq_false h)⟩)⟩
 have key:∀ (j:Nat) (k:Int) (out:Bs),k<10 ^ j→k≤cq_→out.length+j≤100→∃ t,Ev (fun n N=>aB_.loop6 n (fun xy2=>(cond (decide ([109].length+xy2.length≤9223372036854775807)) (some (([109]:Bs)++xy2)) none)) N k out) t:=by
  intro j
  induction j with
  |zero=>
   intro k out hj hk ho
   refine ⟨[109]++out,bN_ ?_⟩
   simp only [ew_,aB_.step6,aw_,as_,cz_]
   exact ⟨fun h=>absurd (of_decide_eq_true h) (by simp at hj;omega),fun _=>⟨fun _=>trivial,fun h=>absurd (of_decide_eq_false h) (by simp;omega)⟩⟩
  |succ j ih=>
   intro k out hj hk ho
   by_cases hp:k > 0
   · have e1:Int.tdiv k 10=k / 10:=Int.tdiv_eq_ediv_of_nonneg (by omega)
     have e2:W (Int.tdiv k 10)=k / 10:=by rw [e1];exact W_id (by omega) (by simp only [cq_] at hk;omega)
     obtain ⟨t,ht⟩:=ih (k / 10) ((jt_ ([(IntKind.u8.wrap ((W (48+(Int.tmod k 10)))))]:List Int))++out) (by rw [Int.pow_succ] at hj;omega) (by simp only [cq_] at hk ⊢;omega) (by simp [jt_];omega)
     refine ⟨t,bN_ ?_⟩
     simp only [ew_,aB_.step6,aw_,cz_,e2]
     exact ⟨fun _=>⟨fun _=>ht,fun h=>absurd (of_decide_eq_false h) (by simp [jt_];omega)⟩,fun h=>absurd hp (of_decide_eq_false h)⟩
   · refine ⟨[109]++out,bN_ ?_⟩
     simp only [ew_,aB_.step6,aw_,as_,cz_]
     exact ⟨fun h=>absurd (of_decide_eq_true h) hp,fun _=>⟨fun _=>trivial,fun h=>absurd (of_decide_eq_false h) (by simp;omega)⟩⟩
 obtain ⟨t,ht⟩:=key 19 k [] (by simp only [cq_] at hk;omega) hk (by simp)
 refine ⟨t,aZ_ ?_⟩
 simp only [aB_,aw_]
 exact ⟨fun h=>absurd (of_decide_eq_true h) h0,fun _=>c1_ (f:=fun n N=>aB_.loop6 n _ N k []) ht⟩
theorem di_ {a:List Bs} {k:Int} (ha:a.length≤cq_) (hk:0≤k) (hb:k+32*((cD_ szB) a:Nat)≤cq_) :
  ∃ k' a',k≤k'∧k'≤k+32*((cD_ szB) a:Nat)∧a'.length=a.length∧Ev (fun n _=>al_ n a k) (k',a')∧Ev (fun n _=>aq_ n a' k) k':=by
 refine (mark_list [] szB (fun n N k i a=>al_.loop3 n (fun xy3 xy4=>(some (xy3,xy4))) N k (i:Int) a) (fun n N a k i=>aq_.loop3 n (fun xy2=>(some xy2)) N a k (i:Int)) (fun i a k hi ha hk hb => ?_) (fun a k => ?_) (fun a k => ?_) a k ha hk hb).elim fun k' ⟨a',h1,h2,h3,h4,h5⟩=>⟨k',a',h1,h2,h3,aZ_ h4,aZ_ h5⟩
 · generalize hx:a.getD i []=x at *
   simp only [szB] at hb ⊢
   obtain ⟨t0,ht0⟩:=ex_ (k) (by omega)
   refine ⟨k+1,t0,by omega,by omega,fun F hF => ?_,fun b F hi' hb' hxb hF => ?_⟩
   · show Ev (fun n N=>al_.step3 n (fun xy3 xy4=>(some (xy3,xy4))) (al_.loop3 n (fun xy3 xy4=>(some (xy3,xy4))) N) k (i:Int) a) F
     simp only [al_.step3,Int.toNat_natCast,aw_,b9_,List.length_set,List.set_set,g9_ [] hi,hx,au_ ht0,dr_ (k:=k) (by omega) (by omega),W_up hi ha,decide_eq_true_eq,decide_eq_false_iff_not,Nat.beq_refl]
     refine ⟨fun _ => ?_,fun h=>absurd hi (by simpa using h)⟩
     repeat' (first|exact hF|apply And.intro|intro _|omega)
     all_goals (first|exact hF|(simp_all;done)|omega)
   · show Ev (fun n N=>aq_.step3 n (fun xy2=>(some xy2)) (aq_.loop3 n (fun xy2=>(some xy2)) N) b k (i:Int)) F
     simp only [aq_.step3,Int.toNat_natCast,aw_,b9_,hxb,bne_self_eq_false,beq_self_eq_true,Bool.not_true,cond_false,au_ ht0,dr_ (k:=k) (by omega) (by omega),W_up hi' hb',decide_eq_true_eq,decide_eq_false_iff_not]
     refine ⟨fun _ => ?_,fun h=>absurd hi' (by simpa using h)⟩
     repeat' (first|exact hF|apply And.intro|intro _|omega)
     all_goals (first|exact hF|(simp_all;done)|omega)
 · show Ev (fun n N=>al_.step3 n (fun xy3 xy4=>(some (xy3,xy4))) (al_.loop3 n (fun xy3 xy4=>(some (xy3,xy4))) N) k (a.length:Int) a) _
   simp only [al_.step3,aw_,as_]
   exact ⟨fun h=>absurd (of_decide_eq_true h) (by omega),fun _=>trivial⟩
 · show Ev (fun n N=>aq_.step3 n (fun xy2=>(some xy2)) (aq_.loop3 n (fun xy2=>(some xy2)) N) a k (a.length:Int)) _
   simp only [aq_.step3,aw_,as_]
   exact ⟨fun h=>absurd (of_decide_eq_true h) (by omega),fun _=>trivial⟩
theorem f4_ (a:List aa_) (k:Int) (ha:a.length≤cq_) (hk:0≤k) (hb:k+32*((cD_ aa_.size) a:Nat)≤cq_) :
  ∃ k' a',k≤k'∧k'≤k+32*((cD_ aa_.size) a:Nat)∧a'.length=a.length∧Ev (fun n _=>ap_ n a k) (k',a')∧Ev (fun n _=>ar_ n a' k) k':=by
 have hq:∀ i,i<a.length→a.getD i aa_.dflt ∈ a:=fun i hi=>b3_ aa_.dflt hi
 obtain ⟨a0,ha0⟩:∃ a0,a0=a:=⟨_,rfl⟩
 refine (io_ (fun x=>x ∈ a0) aa_.dflt aa_.size (fun n N k i a=>ap_.loop3 n (ap_ n) (fun xy9 xy10=>(some (xy9,xy10))) N k (i:Int) a) (fun n N a k i=>ar_.loop3 n (ar_ n) (fun xy4=>(some xy4)) N a k (i:Int)) (fun i a k hi hxm ha hk hb => ?_) (fun a k => ?_) (fun a k => ?_) a k (by rw [ha0];exact hq) ha hk hb).elim fun k' ⟨a',h1,h2,h3,h4,h5⟩=>⟨k',a',h1,h2,h3,aZ_ h4,aZ_ h5⟩
 · clear hq
   generalize hx:a.getD i aa_.dflt=x at *
   rw [ha0] at hxm
   have hdec:=aa_.dec hxm
   simp only [aa_.size_eq] at hb ⊢
   obtain ⟨t2,ht2⟩:=ex_ ((k+1)+1) (by omega)
   obtain ⟨k3,y3,u3,v3,l3,e3,g3⟩:=f4_ x.list (((k+1)+1)+1) (by have:=cy_ aa_.size (x.list);omega) (by omega) (by omega)
   obtain ⟨k4,y4,u4,v4,l4,e4,g4⟩:=di_ (a:=x.names) (k:=k3) (by have:=cy_ szB (x.names);omega) (by omega) (by omega)
   refine ⟨k4,(aa_.mk k (k+1) t2 y3 y4),by omega,by omega,fun F hF => ?_,fun b F hi' hb' hxb hF => ?_⟩
   · show Ev (fun n N=>ap_.step3 n (ap_ n) (fun xy9 xy10=>(some (xy9,xy10))) (ap_.loop3 n (ap_ n) (fun xy9 xy10=>(some (xy9,xy10))) N) k (i:Int) a) F
     simp only [ap_.step3,Int.toNat_natCast,aw_,b9_,List.length_set,List.set_set,g9_ aa_.dflt hi,hx,au_ ht2,au_ e3,au_ e4,aa_.re_eq,dr_ (k:=k) (by omega) (by omega),dr_ (k:=k+1) (by omega) (by omega),dr_ (k:=(k+1)+1) (by omega) (by omega),l3,l4,W_up hi ha,decide_eq_true_eq,decide_eq_false_iff_not,Nat.beq_refl]
     refine ⟨fun _ => ?_,fun h=>absurd hi (by simpa using h)⟩
     repeat' (first|exact hF|apply And.intro|intro _|omega)
     all_goals (first|exact hF|(simp_all;done)|omega)
   · show Ev (fun n N=>ar_.step3 n (ar_ n) (fun xy4=>(some xy4)) (ar_.loop3 n (ar_ n) (fun xy4=>(some xy4)) N) b k (i:Int)) F
     simp only [ar_.step3,Int.toNat_natCast,aw_,b9_,hxb,bne_self_eq_false,beq_self_eq_true,Bool.not_true,cond_false,au_ g3,au_ g4,au_ ht2,aa_.re_eq,dr_ (k:=k) (by omega) (by omega),dr_ (k:=k+1) (by omega) (by omega),dr_ (k:=(k+1)+1) (by omega) (by omega),l3,l4,W_up hi' hb',decide_eq_true_eq,decide_eq_false_iff_not]
     refine ⟨fun _ => ?_,fun h=>absurd hi' (by simpa using h)⟩
     repeat' (first|exact hF|apply And.intro|intro _|omega)
     all_goals (first|exact hF|(simp_all;done)|omega)
 · show Ev (fun n N=>ap_.step3 n (ap_ n) (fun xy9 xy10=>(some (xy9,xy10))) (ap_.loop3 n (ap_ n) (fun xy9 xy10=>(some (xy9,xy10))) N) k (a.length:Int) a) _
   simp only [ap_.step3,aw_,as_]
   exact ⟨fun h=>absurd (of_decide_eq_true h) (by omega),fun _=>trivial⟩
 · show Ev (fun n N=>ar_.step3 n (ar_ n) (fun xy4=>(some xy4)) (ar_.loop3 n (ar_ n) (fun xy4=>(some xy4)) N) a k (a.length:Int)) _
   simp only [ar_.step3,aw_,as_]
   exact ⟨fun h=>absurd (of_decide_eq_true h) (by omega),fun _=>trivial⟩
termination_by SizeOf.sizeOf a
decreasing_by assumption
theorem e6_ {a:List aa_} {k:Int} (ha:a.length≤cq_) (hk:0≤k) (hb:k+32*(cD_ aa_.size a:Nat)≤cq_) :
  ∃ k' a',k≤k'∧k'≤k+32*(cD_ aa_.size a:Nat)∧a'.length=a.length∧Ev (fun n _=>ap_ n a k) (k',a')∧Ev (fun n _=>ar_ n a' k) k':=f4_ a k ha hk hb
theorem mg_ {a:List TOp} {k:Int} (ha:a.length≤cq_) (hk:0≤k) (hb:k+32*((cD_ TOp.size) a:Nat)≤cq_) :
  ∃ k' a',k≤k'∧k'≤k+32*((cD_ TOp.size) a:Nat)∧a'.length=a.length∧Ev (fun n _=>aW_ n a k) (k',a')∧True:=by
 refine (ip_ TOp.dflt TOp.size (fun n N k i a=>aW_.loop3 n (fun xy12 xy13=>(some (xy12,xy13))) N k (i:Int) a) (fun i a k hi ha hk hb => ?_) (fun a k => ?_) a k ha hk hb).elim fun k' ⟨a',h1,h2,h3,h4,h5⟩=>⟨k',a',h1,h2,h3,aZ_ h4,h5⟩
 · generalize hx:a.getD i TOp.dflt=x at *
   simp only [TOp.size,aa_.size_eq] at hb ⊢
   obtain ⟨k1,y1,u1,v1,l1,e1,g1⟩:=di_ (a:=x.way) (k:=k+1) (by have:=cy_ szB (x.way);omega) (by omega) (by omega)
   obtain ⟨t4,ht4⟩:=ex_ ((k1+1)+1) (by omega)
   obtain ⟨k5,y5,u5,v5,l5,e5,g5⟩:=e6_ (a:=x.value.list) (k:=((k1+1)+1)+1) (by have:=cy_ aa_.size (x.value.list);omega) (by omega) (by omega)
   obtain ⟨k6,y6,u6,v6,l6,e6,g6⟩:=di_ (a:=x.value.names) (k:=k5) (by have:=cy_ szB (x.value.names);omega) (by omega) (by omega)
   refine ⟨k6,(TOp.mk k y1 (aa_.mk k1 (k1+1) t4 y5 y6)),by omega,by omega,fun F hF => ?_⟩
   · show Ev (fun n N=>aW_.step3 n (fun xy12 xy13=>(some (xy12,xy13))) (aW_.loop3 n (fun xy12 xy13=>(some (xy12,xy13))) N) k (i:Int) a) F
     simp only [aW_.step3,Int.toNat_natCast,aw_,b9_,List.length_set,List.set_set,g9_ TOp.dflt hi,hx,au_ e1,au_ ht4,au_ e5,au_ e6,aa_.re_eq,TOp.eta,dr_ (k:=k) (by omega) (by omega),l1,dr_ (k:=k1) (by omega) (by omega),dr_ (k:=k1+1) (by omega) (by omega),dr_ (k:=(k1+1)+1) (by omega) (by omega),l5,l6,W_up hi ha,decide_eq_true_eq,decide_eq_false_iff_not,Nat.beq_refl]
     refine ⟨fun _ => ?_,fun h=>absurd hi (by simpa using h)⟩
     repeat' (first|exact hF|apply And.intro|intro _|omega)
     all_goals (first|exact hF|(simp_all;done)|omega)
 · show Ev (fun n N=>aW_.step3 n (fun xy12 xy13=>(some (xy12,xy13))) (aW_.loop3 n (fun xy12 xy13=>(some (xy12,xy13))) N) k (a.length:Int) a) _
   simp only [aW_.step3,aw_,as_]
   exact ⟨fun h=>absurd (of_decide_eq_true h) (by omega),fun _=>trivial⟩
theorem i2_ {a:List af_} {k:Int} (ha:a.length≤cq_) (hk:0≤k) (hb:k+32*((cD_ af_.size) a:Nat)≤cq_) :
  ∃ k' a',k≤k'∧k'≤k+32*((cD_ af_.size) a:Nat)∧a'.length=a.length∧Ev (fun n _=>ay_ n a k) (k',a')∧True:=by
 refine (ip_ af_.dflt af_.size (fun n N k i a=>ay_.loop3 n (fun xy14 xy15=>(some (xy14,xy15))) N k (i:Int) a) (fun i a k hi ha hk hb => ?_) (fun a k => ?_) a k ha hk hb).elim fun k' ⟨a',h1,h2,h3,h4,h5⟩=>⟨k',a',h1,h2,h3,aZ_ h4,h5⟩
 · generalize hx:a.getD i af_.dflt=x at *
   simp only [af_.size,aa_.size_eq] at hb ⊢
   obtain ⟨t5,ht5⟩:=ex_ (((((k+1)+1)+1)+1)+1) (by omega)
   obtain ⟨k6,y6,u6,v6,l6,e6,g6⟩:=e6_ (a:=x.doc.list) (k:=(((((k+1)+1)+1)+1)+1)+1) (by have:=cy_ aa_.size (x.doc.list);omega) (by omega) (by omega)
   obtain ⟨k7,y7,u7,v7,l7,e7,g7⟩:=di_ (a:=x.doc.names) (k:=k6) (by have:=cy_ szB (x.doc.names);omega) (by omega) (by omega)
   obtain ⟨k8,y8,u8,v8,l8,e8,g8⟩:=mg_ (a:=x.ops) (k:=k7) (by have:=cy_ TOp.size (x.ops);omega) (by omega) (by omega)
   refine ⟨k8,(af_.mk k (k+1) ((k+1)+1) (aa_.mk (((k+1)+1)+1) ((((k+1)+1)+1)+1) t5 y6 y7) y8),by omega,by omega,fun F hF => ?_⟩
   · show Ev (fun n N=>ay_.step3 n (fun xy14 xy15=>(some (xy14,xy15))) (ay_.loop3 n (fun xy14 xy15=>(some (xy14,xy15))) N) k (i:Int) a) F
     simp only [ay_.step3,Int.toNat_natCast,aw_,b9_,List.length_set,List.set_set,g9_ af_.dflt hi,hx,au_ ht5,au_ e6,au_ e7,au_ e8,aa_.re_eq,af_.eta,dr_ (k:=k) (by omega) (by omega),dr_ (k:=k+1) (by omega) (by omega),dr_ (k:=(k+1)+1) (by omega) (by omega),dr_ (k:=((k+1)+1)+1) (by omega) (by omega),dr_ (k:=(((k+1)+1)+1)+1) (by omega) (by omega),dr_ (k:=((((k+1)+1)+1)+1)+1) (by omega) (by omega),l6,l7,l8,W_up hi ha,decide_eq_true_eq,decide_eq_false_iff_not,Nat.beq_refl]
     refine ⟨fun _ => ?_,fun h=>absurd hi (by simpa using h)⟩
     repeat' (first|exact hF|apply And.intro|intro _|omega)
     all_goals (first|exact hF|(simp_all;done)|omega)
 · show Ev (fun n N=>ay_.step3 n (fun xy14 xy15=>(some (xy14,xy15))) (ay_.loop3 n (fun xy14 xy15=>(some (xy14,xy15))) N) k (a.length:Int) a) _
   simp only [ay_.step3,aw_,as_]
   exact ⟨fun h=>absurd (of_decide_eq_true h) (by omega),fun _=>trivial⟩
theorem kH_ {a:aa_} {k:Int} (hk:0≤k) (hb:k+32*(aa_.size a:Nat)≤cq_) :
  ∃ k' y0 y1,k≤k'∧k'≤k+32*(aa_.size a:Nat)∧y0.length=a.list.length∧y1.length=a.names.length∧Ev (fun n _=>bH_ n a k) (k',y0,y1)∧Ev (fun n _=>bI_ n (aa_.mk a.kind a.n_ a.s y0 y1) k) k':=by
 simp only [aa_.size_eq] at hb ⊢
 obtain ⟨k3,y0,u3,v3,ly0,e3,g3⟩:=e6_ (a:=a.list) (k:=k) (by have:=cy_ aa_.size (a.list);omega) (by omega) (by omega)
 obtain ⟨k4,y1,u4,v4,ly1,e4,g4⟩:=di_ (a:=a.names) (k:=k3) (by have:=cy_ szB (a.names);omega) (by omega) (by omega)
 refine ⟨k4,y0,y1,by omega,by omega,ly0,ly1,aZ_ ?_,aZ_ ?_⟩
 · simp only [bH_,aa_.re_eq,au_ e3,au_ e4,ly0,ly1,Nat.beq_refl,List.length_nil,cond_true,as_]
 · simp only [bI_,aa_.re_eq,au_ g3,au_ g4,aw_,as_,decide_eq_true_eq,decide_eq_false_iff_not]
   repeat' (first|apply And.intro|intro _)
   all_goals (first|trivial|rfl|(exfalso;omega)|omega)
theorem i3_ {a:aL_} {k:Int} (hk:0≤k) (hb:k+32*(aL_.size a:Nat)≤cq_) :
  ∃ k' y0 y1,k≤k'∧k'≤k+32*(aL_.size a:Nat)∧y0.length=a.doc.list.length∧y1.length=a.doc.names.length∧Ev (fun n _=>bs_ n a k) (k',y0,y1)∧Ev (fun n _=>bo_ n { a with doc:=(aa_.mk a.doc.kind a.doc.n_ a.doc.s y0 y1) } k) k':=by
 simp only [aL_.size] at hb ⊢
 obtain ⟨k0,y0,y1,u0,v0,ly0,ly1,e0,g0⟩:=kH_ (a:=a.doc) (k:=k) (by omega) (by omega)
 refine ⟨k0,y0,y1,by omega,by omega,ly0,ly1,aZ_ ?_,aZ_ ?_⟩
 · simp only [bs_,aa_.re_eq,aL_.eta,au_ e0,ly0,ly1,Nat.beq_refl,List.length_nil,cond_true,as_]
 · simp only [bo_,aa_.re_eq,aL_.eta,au_ g0,aw_,as_,decide_eq_true_eq,decide_eq_false_iff_not]
   repeat' (first|apply And.intro|intro _)
   all_goals (first|trivial|rfl|(exfalso;omega)|omega)
end Go.Pi
end
section
namespace Go.Pi
def dE_ (l:List TOp):Nat:=l.findIdx fun o=>(cE_ o).kind == 0
def eh_ (l:List TOp):aa_:=aa_.mk 4 0 [] (l.map cE_) []
def fr_ (l:List TOp):Int:=cond (decide (dE_ l<l.length)) (-1) (cond (cS_ (eh_ l) == []) (-1) ((cS_ (eh_ l)).length:Int))
theorem iH_ {l:List TOp} {i:Nat} (hi:i<dE_ l):((cE_ (l.getD i TOp.dflt)).kind == 0)=false:=by
 have hl:dE_ l≤l.length:=List.findIdx_le_length
 rw [List.getD_eq_getElem?_getD,List.getElem?_eq_getElem (by omega),Option.getD_some]
 have:=List.not_of_lt_findIdx (xs:=l) (p:=fun o=>(cE_ o).kind == 0) (i:=i) hi
 simpa using this
theorem bad_at {l:List TOp} (h:dE_ l<l.length):((cE_ (l.getD (dE_ l) TOp.dflt)).kind == 0)=true:=by
 rw [List.getD_eq_getElem?_getD,List.getElem?_eq_getElem h,Option.getD_some]
 exact List.findIdx_getElem (xs:=l) (p:=fun o=>(cE_ o).kind == 0) (w:=h)
theorem ly_ {α β:Type} (f:α→β) (d:α) {a:List α} {i:Nat} (h:i<a.length):(a.take (i+1)).map f=(a.take i).map f++[f (a.getD i d)]:=by
 rw [de_ d h,List.map_append];rfl
def hx_ (l:List TOp):Prop:=l.length≤4000000∧∀ o ∈ l,i7_ o
theorem lD_ {l:List TOp} (h:hx_ l):fy_ 6 (eh_ l):=by
 refine ⟨⟨Nat.zero_le _,Nat.zero_le _,fun x hx=>(by cases hx)⟩,by have:=h.1;simp [eh_,cq_];omega,fun x hx => ?_⟩
 obtain ⟨o,ho,e⟩:=List.mem_map.1 hx
 rw [←e];exact i8_ 5 _ (kJ_ (h.2 o ho))
theorem hC_ {l:List TOp} (h:hx_ l):Ev (fun n _=>aU_ n l) (cond (decide (dE_ l<l.length)) (el_,false) (eh_ l,true)):=by
 refine aZ_ ?_
 have hl:=h.1
 have ht:l.length≤cq_:=by simp only [cq_];omega
 have hb:dE_ l≤l.length:=List.findIdx_le_length
 simp only [aU_]
 have:=en_ (fun i=>(l.take i).map cE_) (dE_ l) (fun n N i (o:List aa_)=>aU_.loop4 n (fun xy2 xy3 xy4 xy5 xy6 xy7 xy8=>(some ((aa_.mk xy5 xy6 xy7 xy8 ([]:List Bs)),true))) N l (l.length:Int) (i:Int) 0 0 [] 4 0 [] o) (cond (decide (dE_ l<l.length)) (el_,false) (eh_ l,true)) (fun i hi F hF => ?_) ?_
 · exact this
 · have hi2:i<l.length:=by omega
   have hx:=fC_ (h.2 _ (b3_ TOp.dflt hi2))
   rw [ly_ cE_ TOp.dflt hi2] at hF
   have hol:((l.take i).map cE_).length≤i:=by simp;omega
   generalize (l.take i).map cE_=o at hF hol ⊢
   simp only [aU_.turn4,aU_.step4,bC_,dJ_,Int.toNat_natCast,W_up hi2 ht,c2_ hi2,cP_ hi2,iH_ hi,cond_true,cond_false,b9_,cF_,au_ hx]
   exact ⟨trivial,by simp;omega,hF⟩
 · by_cases hp:dE_ l<l.length
   · have hx:=fC_ (h.2 _ (b3_ TOp.dflt hp))
     simp only [aU_.turn4,aU_.step4,bC_,dJ_,Int.toNat_natCast,c2_ hp,cP_ hp,bad_at hp,cond_true,b9_,au_ hx,as_]
     rw [decide_eq_true hp]
     exact ⟨trivial,rfl⟩
   · have e:dE_ l=l.length:=by omega
     rw [decide_eq_false hp,cond_false]
     unfold eh_
     rw [e,List.take_length]
     simp only [aU_.turn4,aU_.step4,cK_,cond_false,as_]
theorem gA_ {l:List TOp} (h:hx_ l):Ev (fun n _=>bA_ n l) (fr_ l):=by
 refine aZ_ ?_
 simp only [bA_,bC_,au_ (hC_ h)]
 unfold fr_
 cases hp:decide (dE_ l<l.length) with
 |true=>
  simp only [cond_true,au_ (ec_ (hy_ 6)),aw_,as_]
  simp
 |false=>
  simp only [cond_false,au_ (ec_ (lD_ h)),aw_,as_]
  generalize cS_ (eh_ l)=s
  cases (s == [])<;>simp
theorem i6_:∀ (d:Nat) (j:aa_),aa_.len j→fy_ d j
 |0,_,_=>trivial
 |d+1,j,h=>by
  have hq:=(aa_.len_iff j).1 h
  exact ⟨⟨hq.1,hq.2.2.1,hq.2.2.2⟩,hq.2.1.1,fun x hx=>i6_ d x (hq.2.1.2 x hx)⟩
end Go.Pi
end
section
namespace Go.Pi
def dp_:aa_→List TOp→aa_ × Bool
 |j,[]=>(j,true)
 |j,o::l=>cond (eQ_ j o).2 (dp_ (eQ_ j o).1 l) (el_,false)
def c6_ (j:aa_) (l:List TOp):aa_ × Bool:=cond (cd_ j&&decide (l.length≤40)) (dp_ j l) (el_,false)
theorem fK_ {j:aa_} {o:TOp} (h:(eQ_ j o).2=true):cd_ (eQ_ j o).1=true:=by
 unfold eQ_ at h ⊢
 cases h1:(cd_ j&&eE_ o)<;>rw [h1] at h
 · cases h
 · simp only [cond_true] at h ⊢
   cases hf:FPat 6 j o.way o with
   |none=>rw [hf] at h;cases h
   |some y=>
    rw [hf] at h
    simp only at h ⊢
    cases hy:cd_ y<;>rw [hy] at h
    · cases h
    · exact hy
theorem f0_:∀ {l:List TOp} {j:aa_},cd_ j=true→(dp_ j l).2=true→cd_ (dp_ j l).1=true
 |[],j,hj,_=>hj
 |o::l,j,hj,h=>by
  unfold dp_ at h ⊢
  cases hp:(eQ_ j o).2<;>rw [hp] at h
  · cases h
  · exact f0_ (fK_ hp) h
theorem h5_ {l:List TOp} {j:aa_} (h:(c6_ j l).2=true):cd_ (c6_ j l).1=true:=by
 unfold c6_ at h ⊢
 cases h1:(cd_ j&&decide (l.length≤40))<;>rw [h1] at h
 · cases h
 · rw [Bool.and_eq_true] at h1
   exact f0_ h1.1 h
theorem gt40 (n:Nat):decide ((n:Int) > 40) = !decide (n≤40):=by
 by_cases h:n≤40
 · rw [decide_eq_true h,decide_eq_false (by omega)];rfl
 · rw [decide_eq_false h,decide_eq_true (by omega)];rfl
theorem iX_ {j:aa_} (h:cd_ j=true):fy_ 6 j:=cU_ 6 j (of_decide_eq_true h)
theorem g3_ {j:aa_} {l:List TOp} (hj:fy_ 6 j) (hl:hx_ l):Ev (fun n _=>aN_ n j l) (c6_ j l):=by
 refine aZ_ ?_
 simp only [aN_,bC_,gt40,au_ (c8_ hj),aw_,as_]
 unfold c6_
 cases h1:cd_ j
 · exact ⟨fun _=>rfl,fun h=>(by cases h)⟩
 · refine ⟨fun h=>(by cases h),fun _ => ?_⟩
   cases h2:decide (l.length≤40)
   · exact ⟨fun _=>rfl,fun h=>(by cases h)⟩
   · refine ⟨fun h=>(by cases h),fun _ => ?_⟩
     have hC:=cV_ 6 j (of_decide_eq_true h1)
     simp only [au_ hC,Bool.and_true,cond_true]
     have key:∀ (m i:Nat) (v:aa_),i+m=l.length→cd_ v=true →
       Ev (fun n N=>aN_.loop7 n (fun xy4 xy5 xy6 xy7 xy8 xy9 xy10 xy11=>(some ((aa_.mk xy7 xy8 xy9 xy10 xy11),true))) N l (l.length:Int) (i:Int) 0 0 [] v.kind v.n_ v.s v.list v.names) (dp_ v (l.drop i)):=by
      intro m
      induction m with
      |zero=>
       intro i v hi hv
       have e:i=l.length:=by omega
       subst e
       refine bN_ ?_
       simp only [aN_.turn7,aN_.step7,cK_,cond_false,as_,List.drop_length,dp_,cM_]
      |succ m ih=>
       intro i v hi hv
       have hlt:i<l.length:=by omega
       have hP:=jd_ (j:=v) (o:=l.getD i TOp.dflt) (iX_ hv) (hl.2 _ (b3_ _ hlt))
       have hW:=W_up hlt (show l.length≤cq_ by have:=hl.1;simp only [cq_];omega)
       rw [dW_ TOp.dflt hlt]
       refine bN_ ?_
       simp only [aN_.turn7,aN_.step7,bC_,cM_,dJ_,c2_ hlt,cond_true,b9_,cP_ hlt,true_and,Int.toNat_natCast,hW,au_ hP,aw_,as_,dp_]
       cases hp:(eQ_ v (l.getD i TOp.dflt)).2
       · exact ⟨fun _=>rfl,fun h=>(by cases h)⟩
       · exact ⟨fun h=>(by cases h),fun _=>ih (i+1) _ (by omega) (fK_ hp)⟩
     exact c1_ (key l.length 0 j (by omega) h1)
theorem gZ_ {j:aa_} {l:List TOp} (hj:fy_ 6 j) (hl:hx_ l):Ev (fun n _=>aO_ n j l) (c6_ j l):=by
 refine aZ_ ?_
 simp only [aO_,bC_,gt40,au_ (c7_ hj),aw_,as_]
 unfold c6_
 cases h1:cd_ j
 · exact ⟨fun _=>rfl,fun h=>(by cases h)⟩
 · refine ⟨fun h=>(by cases h),fun _ => ?_⟩
   cases h2:decide (l.length≤40)
   · exact ⟨fun _=>rfl,fun h=>(by cases h)⟩
   · refine ⟨fun h=>(by cases h),fun _ => ?_⟩
     have hC:=cY_ 6 j (of_decide_eq_true h1)
     simp only [au_ hC,Bool.and_true,cond_true]
     have key:∀ (m i:Nat) (v:aa_),i+m=l.length→cd_ v=true →
       Ev (fun n N=>aO_.loop7 n (fun xy4 xy5 xy6 xy7 xy8 xy9 xy10 xy11=>(some ((aa_.mk xy7 xy8 xy9 xy11 xy10),true))) N l (i:Int) 0 0 [] v.kind v.n_ v.s v.names v.list) (dp_ v (l.drop i)):=by
      intro m
      induction m with
      |zero=>
       intro i v hi hv
       have e:i=l.length:=by omega
       subst e
       refine bN_ ?_
       simp only [aO_.turn7,aO_.step7,cK_,cond_false,as_,List.drop_length,dp_,cM_]
      |succ m ih=>
       intro i v hi hv
       have hlt:i<l.length:=by omega
       have hP:=iO_ (j:=v) (o:=l.getD i TOp.dflt) (iX_ hv) (hl.2 _ (b3_ _ hlt))
       have hW:=W_up hlt (show l.length≤cq_ by have:=hl.1;simp only [cq_];omega)
       rw [dW_ TOp.dflt hlt]
       refine bN_ ?_
       simp only [aO_.turn7,aO_.step7,bC_,cM_,dJ_,c2_ hlt,cond_true,b9_,cP_ hlt,true_and,Int.toNat_natCast,hW,au_ hP,aw_,as_,dp_]
       cases hp:(eQ_ v (l.getD i TOp.dflt)).2
       · exact ⟨fun _=>rfl,fun h=>(by cases h)⟩
       · exact ⟨fun h=>(by cases h),fun _=>ih (i+1) _ (by omega) (fK_ hp)⟩
     exact c1_ (key l.length 0 j (by omega) h1)
end Go.Pi
end
section
namespace Go.Pi
theorem du_ (j:aa_) (h:aa_.size j≤4000000000):Ev (fun n _=>am_ n j) j:=by
 have e:=aa_.size_eq j
 have e1:cD_ aa_.size j.list=j.list.length+dR_ aa_.size j.list:=rfl
 have e2:cD_ szB j.names=j.names.length+dR_ szB j.names:=rfl
 have hx:∀ x ∈ j.list,Ev (fun n _=>am_ n x) x:=fun x hx=>du_ x (by have:=eV_ aa_.size hx;omega)
 refine aZ_ ?_
 have hc:Ev (fun n _=>bv_ n j.names) j.names:=aZ_ (by simp only [bv_,cF_,as_,List.nil_append,List.length_nil,and_true];omega)
 simp only [am_,au_ hc]
 have:=en_ (fun i=>j.list.take i) j.list.length (fun n N i (o:List aa_)=>am_.loop4 n (am_ n) (fun xy3 xy4 xy5 xy6 xy7 xy8 xy9 xy10=>(some (aa_.mk xy6 xy7 xy8 xy9 xy10))) N j.list (j.list.length:Int) (i:Int) 0 0 [] j.kind j.n_ j.s o j.names) j (fun i hi F hF => ?_) ?_
 · exact this
 · have hx:=hx _ (b3_ aa_.dflt hi)
   rw [de_ aa_.dflt hi] at hF
   simp only [am_.turn4,am_.step4,bC_,Int.toNat_natCast,W_up hi (show j.list.length≤cq_ by simp only [cq_];omega),aw_,b9_,cF_,c2_ hi,cP_ hi,au_ hx]
   exact ⟨fun _=>⟨trivial,by simp;omega,hF⟩,fun h=>(by cases h)⟩
 · simp only [am_.turn4,am_.step4,cK_,cond_false,List.take_length,as_,cM_]
termination_by SizeOf.sizeOf j.list
decreasing_by exact aa_.dec hx
theorem dS_ (j:aa_) (h:aa_.size j≤4000000000):Ev (fun n _=>aD_ n j) j:=by
 have e:=aa_.size_eq j
 have e1:cD_ aa_.size j.list=j.list.length+dR_ aa_.size j.list:=rfl
 have e2:cD_ szB j.names=j.names.length+dR_ szB j.names:=rfl
 have hx:∀ x ∈ j.list,Ev (fun n _=>aD_ n x) x:=fun x hx=>dS_ x (by have:=eV_ aa_.size hx;omega)
 refine aZ_ ?_
 simp only [aD_,cF_,List.nil_append,List.length_nil]
 refine ⟨by omega,?_⟩
 have:=en_ (fun i=>j.list.take i) j.list.length (fun n N i (o:List aa_)=>aD_.loop4 n (aD_ n) (fun xy2 xy3 xy4 xy5 xy6 xy7 xy8 xy9=>(some (aa_.mk xy5 xy6 xy7 xy8 xy9))) N (i:Int) j.kind j.n_ j.s j.list j.names 0 0 [] j.kind j.n_ j.s o j.names) j (fun i hi F hF => ?_) ?_
 · exact this
 · have hx:=hx _ (b3_ aa_.dflt hi)
   rw [de_ aa_.dflt hi] at hF
   simp only [aD_.turn4,aD_.step4,bC_,Int.toNat_natCast,W_up hi (show j.list.length≤cq_ by simp only [cq_];omega),aw_,b9_,cF_,c2_ hi,cP_ hi,au_ hx]
   exact ⟨fun _=>⟨trivial,by simp;omega,hF⟩,fun h=>(by cases h)⟩
 · simp only [aD_.turn4,aD_.step4,cK_,cond_false,List.take_length,as_,cM_]
termination_by SizeOf.sizeOf j.list
decreasing_by exact aa_.dec hx
end Go.Pi
end
section
namespace Go.Pi
theorem gY_ {j:aa_}:Ev (fun n _=>ae_ n j (aa_.mk 0 0 [] [] [])) (gh_ j):=by
 refine aZ_ ?_
 simp only [ae_,aw_,as_,gh_]
 by_cases h1:j.list=[]
 · by_cases h2:j.names=[]
   · have hL:Ev (fun n _=>ae_.loop6 n (ae_ n) (fun xy2 xy3 xy4 xy5 xy6 xy7 xy8 xy9 xy10 xy11=>(ae_.loop14 n (ae_ n) (some true) n 0 xy2 xy3 xy4 xy5 xy6 xy7 xy8 xy9 xy10 xy11)) n 0 j.kind j.n_ j.s [] [] 0 0 [] [] []) true :=
      c1_ (f:=fun n N=>ae_.loop6 n (ae_ n) (fun xy2 xy3 xy4 xy5 xy6 xy7 xy8 xy9 xy10 xy11=>(ae_.loop14 n (ae_ n) (some true) n 0 xy2 xy3 xy4 xy5 xy6 xy7 xy8 xy9 xy10 xy11)) N 0 j.kind j.n_ j.s [] [] 0 0 [] [] []) (bN_ (c1_ (f:=fun n N=>ae_.loop14 n (ae_ n) (some true) N 0 j.kind j.n_ j.s [] [] 0 0 [] [] []) (bN_ ⟨0,fun _ _ _ _=>rfl⟩)))
     rw [h1,h2]
     simp only [dC_ hL,bne]
     cases (j.kind == 0)<;>cases (j.n_ == 0)<;>cases (j.s == [])<;>simp
   · simp only [bne]
     rw [h1]
     have e:((j.names.length:Int) == (([]:List Bs).length:Int))=false:=by
      simp only [List.length_nil]
      rw [beq_eq_false_iff_ne];intro e;exact h2 (List.eq_nil_of_length_eq_zero (by omega))
     have e2:decide (j.names.length=0)=false:=decide_eq_false fun e=>h2 (List.eq_nil_of_length_eq_zero e)
     rw [e,e2]
     cases (j.kind == 0)<;>cases (j.n_ == 0)<;>cases (j.s == [])<;>simp
 · simp only [bne]
   have e:((j.list.length:Int) == (([]:List aa_).length:Int))=false:=by
    simp only [List.length_nil]
    rw [beq_eq_false_iff_ne];intro e;exact h1 (List.eq_nil_of_length_eq_zero (by omega))
   have e2:decide (j.list.length=0)=false:=decide_eq_false fun e=>h1 (List.eq_nil_of_length_eq_zero e)
   rw [e,e2]
   cases (j.kind == 0)<;>cases (j.n_ == 0)<;>cases (j.s == [])<;>simp
theorem h1_ {l:List TOp} (h:hx_ l):Ev (fun n _=>a1_ n l) (cond (decide (dE_ l<l.length)) (aa_.mk 4 0 [] ((l.take (dE_ l)).map cE_) [],false) (eh_ l,decide ((l.length:Int)≤40) && !(cS_ (eh_ l) == []))):=by
 refine aZ_ ?_
 have hl:=h.1
 have ht:l.length≤cq_:=by simp only [cq_];omega
 have hb:dE_ l≤l.length:=List.findIdx_le_length
 simp only [a1_]
 have:=en_ (fun i=>(l.take i).map cE_) (dE_ l) (fun n N i (o:List aa_)=>a1_.loop4 n (fun xy2 xy3 xy4 xy5 xy6 xy7 xy8 xy9=>(cond (decide ((xy2.length:Int)≤40)) ((b0_ n (aa_.mk xy6 xy7 xy8 xy9 [])).bind fun xr10=>(some ((aa_.mk xy6 xy7 xy8 xy9 ([]:List Bs)),(!(xr10 == []))))) (some ((aa_.mk xy6 xy7 xy8 xy9 ([]:List Bs)),false)))) N l (i:Int) 0 0 [] 4 0 [] o) (cond (decide (dE_ l<l.length)) (aa_.mk 4 0 [] ((l.take (dE_ l)).map cE_) [],false) (eh_ l,decide ((l.length:Int)≤40) && !(cS_ (eh_ l) == []))) (fun i hi F hF => ?_) ?_
 · exact this
 · have hi2:i<l.length:=by omega
   have hx:=fw_ (h.2 _ (b3_ TOp.dflt hi2))
   rw [ly_ cE_ TOp.dflt hi2] at hF
   have hol:((l.take i).map cE_).length≤i:=by simp;omega
   generalize (l.take i).map cE_=o at hF hol ⊢
   simp only [a1_.turn4,a1_.step4,bC_,dJ_,Int.toNat_natCast,W_up hi2 ht,c2_ hi2,cP_ hi2,iH_ hi,cond_true,cond_false,b9_,cF_,au_ hx]
   exact ⟨trivial,by simp;omega,hF⟩
 · by_cases hp:dE_ l<l.length
   · have hx:=fw_ (h.2 _ (b3_ TOp.dflt hp))
     simp only [a1_.turn4,a1_.step4,bC_,dJ_,Int.toNat_natCast,c2_ hp,cP_ hp,bad_at hp,cond_true,b9_,au_ hx,as_]
     rw [decide_eq_true hp]
     exact ⟨trivial,rfl⟩
   · have e:dE_ l=l.length:=by omega
     have hE:=fx_ (lD_ h)
     rw [decide_eq_false hp,cond_false]
     unfold eh_ at hE ⊢
     rw [e,List.take_length]
     simp only [a1_.turn4,a1_.step4,cK_,cond_false,aw_,au_ hE,as_]
     cases decide ((l.length:Int)≤40)<;>simp
def kr_ (l:List TOp):Bool:=(!decide (dE_ l<l.length))&&(decide ((l.length:Int)≤40) && !(cS_ (eh_ l) == []))
def da_ (e:af_):Bool:=inn e.version 0 100000&&cond (e.kind == 1) ((e.base == 0)&&(decide (e.ops.length=0) && !(cS_ e.doc == []))) (cond (e.kind == 2) (kr_ e.ops&&(inn e.base 0 (W (e.version - 1))&&gh_ e.doc)) false)
def mk_ (e:af_):Prop:=fy_ 6 e.doc∧hx_ e.ops
theorem iC_ (e:af_):af_.mk e.kind e.version e.base e.doc e.ops=e:=rfl
theorem size_ok (l:List TOp):decide (fr_ l≥0)=((!decide (dE_ l<l.length)) && !(cS_ (eh_ l) == [])):=by
 unfold fr_
 cases decide (dE_ l<l.length) with
 |true=>rfl
 |false=>
  cases hs:(cS_ (eh_ l) == []) with
  |true=>rfl
  |false=>simp only [cond_false,Bool.not_false,Bool.and_true];exact decide_eq_true (by omega)
theorem hk_ {e:af_} (h:mk_ e):Ev (fun n _=>bS_ n e) (da_ e):=by
 refine aZ_ ?_
 simp only [bS_,bC_,l1In_b,aw_,au_ (fx_ h.1),au_ (h1_ h.2),au_ gY_,as_,i4_,da_,kr_]
 generalize inn e.version 0 100000=a1
 generalize (e.kind == 1)=a2
 generalize (e.kind == 2)=a3
 generalize (e.base == 0)=a4
 generalize decide (e.ops.length=0)=a5
 generalize decide (dE_ e.ops<e.ops.length)=a6
 generalize decide ((e.ops.length:Int)≤40)=a7
 generalize (cS_ (eh_ e.ops) == [])=a8
 generalize (cS_ e.doc == [])=a9
 generalize inn e.base 0 (W (e.version - 1))=b1
 generalize gh_ e.doc=b2
 cases a1<;>cases a2<;>cases a3<;>cases a4<;>simp only [cond_true,cond_false,Bool.not_true,Bool.not_false,Bool.false_and,Bool.true_and,reduceCtorEq,false_implies,true_implies,true_and,and_true,implies_true]
 all_goals (cases a5<;>cases a6<;>cases a7<;>cases a8<;>cases a9<;>cases b1<;>cases b2<;>simp)
theorem gz_ {n:Int}:Ev (fun m _=>by_ m n) (inn n 0 100000):=aZ_ (by simp only [by_,fj_,as_])
theorem hF_ {e:af_} (h:mk_ e):Ev (fun n _=>bY_ n e) (da_ e):=by
 refine aZ_ ?_
 simp only [bY_,bC_,fj_,aw_,au_ gz_,au_ (ec_ h.1),au_ fB_,au_ (gA_ h.2),as_,i4_,size_ok,da_,kr_]
 generalize inn e.version 0 100000=a1
 generalize (e.kind == 1)=a2
 generalize (e.kind == 2)=a3
 generalize (e.base == 0)=a4
 generalize decide (e.ops.length=0)=a5
 generalize decide (dE_ e.ops<e.ops.length)=a6
 generalize decide ((e.ops.length:Int)≤40)=a7
 generalize (cS_ (eh_ e.ops) == [])=a8
 generalize (cS_ e.doc == [])=a9
 generalize inn e.base 0 (W (e.version - 1))=b1
 generalize gh_ e.doc=b2
 cases a1<;>cases a2<;>cases a3<;>cases a4<;>simp only [cond_true,cond_false,Bool.not_true,Bool.not_false,Bool.false_and,Bool.true_and,reduceCtorEq,false_implies,true_implies,true_and,and_true,implies_true]
 all_goals (cases a5<;>cases a6<;>cases a7<;>cases a8<;>cases a9<;>cases b1<;>cases b2<;>simp)
end Go.Pi
end
section
namespace Go.Pi
theorem jy_:∀ {l:List Bs} {c:Nat},(∀ x ∈ l,x.length≤c)→dR_ szB l≤l.length*c
 |[],_,_=>Nat.zero_le _
 |x::l,c,h=>by
  have:=jy_ (l:=l) fun y hy=>h y (List.mem_cons_of_mem _ hy)
  have:=h x (List.mem_cons_self ..)
  simp only [dR_,szB,List.length_cons,Nat.add_mul] at *;omega
theorem lE_:∀ (d:Nat) (j:aa_),b7_ d j≤400→aa_.size j≤50000*b7_ d j
 |0,j,h=>by simp only [b7_] at h;omega
 |d+1,j,h=>by
  obtain ⟨ho,hs⟩:=c0_ h
  have hl:=d5_ h
  have hn:=f3_ h
  have hsum:∀ l:List aa_,(∀ x ∈ l,b7_ d x≤400)→dR_ aa_.size l≤50000*dR_ (b7_ d) l:=by
   intro l
   induction l with
   |nil=>intro _;exact Nat.zero_le _
   |cons x l ih=>
    intro hx
    have h1:=lE_ d x (hx x (List.mem_cons_self ..))
    have h2:=ih fun y hy=>hx y (List.mem_cons_of_mem _ hy)
    simp only [dR_];omega
  have h1:=hsum j.list fun x hx=>by have:=eV_ (b7_ d) hx;omega
  have hF:FOwn j=true:=by
   simp only [b7_] at h
   cases hf:FOwn j with
   |true=>rfl
   |false=>rw [hf,cond_false] at h;omega
  have hsl:j.s.length≤60:=by
   unfold FOwn at hF
   simp only [Bool.and_eq_true,Bool.or_eq_true] at hF
   rcases hF.2.2.2.1 with e|e
   · have:j.s=[]:=by simpa using e
     rw [this];exact Nat.zero_le _
   · exact ho.text (by simpa using e)
  have hnt:dR_ szB j.names≤j.names.length*60:=jy_ fun x hx=>by
   by_cases hk:j.kind=5
   · obtain ⟨i,hi,e⟩:=List.mem_iff_getElem.1 hx
     have:=fs_ (ho.obj hk).2 hi
     rw [List.getD_eq_getElem?_getD,List.getElem?_eq_getElem hi,Option.getD_some,e] at this
     exact this
   · have:j.names.length=0:=by
      unfold FOwn at hF
      simp only [Bool.and_eq_true,Bool.or_eq_true] at hF
      rcases hF.2.1 with e|e
      · exact of_decide_eq_true e
      · exact absurd (by simpa using e) hk
     rw [List.eq_nil_of_length_eq_zero this] at hx;cases hx
  have e:=aa_.size_eq j
  unfold cD_ at e
  rw [hs]
  omega
end Go.Pi
end
section
namespace Go.Pi
def badC (c:aL_):aL_:=aL_.mk c.doc c.version c.began true
def dl_ (c:aL_) (e:af_):aL_:=cond c.bad c (cond (da_ e) (cond (e.kind == 1) (cond (c.began&&decide (e.version≤c.version)) (badC c) (aL_.mk e.doc e.version true false))
 (cond (c.began&&(e.base == c.version)&&(c6_ c.doc e.ops).2) (aL_.mk (c6_ c.doc e.ops).1 e.version true false) (badC c))) (badC c))
theorem dm_ (c:aL_):aL_.mk c.doc c.version c.began c.bad=c:=rfl
theorem kb_ {e:af_} (h:da_ e=true):(e.kind == 1)=false→(e.kind == 2)=true:=by
 intro h1
 unfold da_ at h
 rw [h1] at h
 cases h2:(e.kind == 2)
 · rw [h2] at h;simp at h
 · rfl
section
variable {c:aL_} {e:af_} (hc:aa_.size c.doc≤4000000000) (hcl:fy_ 6 c.doc) (he:aa_.size e.doc≤4000000000) (hel:mk_ e)
include hc hcl he hel
theorem fW_:Ev (fun n _=>br_ n c e) (dl_ c e):=by
 have h0:Ev (fun n _=>bR_ n c) c:=aZ_ (by simp only [bR_,bC_,au_ (dS_ c.doc hc),as_])
 refine aZ_ ?_
 simp only [br_,bC_,dm_,iC_,au_ h0,aw_,as_,au_ (hk_ hel),au_ (dS_ e.doc he),au_ (gZ_ hcl hel.2)]
 unfold dl_ badC
 cases c.bad<;>cases h2:da_ e<;>cases h3:(e.kind == 1)<;>cases c.began<;>cases decide (e.version≤c.version)<;>cases h4:(e.base == c.version)<;>cases (c6_ c.doc e.ops).2<;>simp [bne,h4]
theorem f8_:Ev (fun n _=>bu_ n c e) (dl_ c e):=by
 have h0:Ev (fun n _=>bt_ n c) c:=aZ_ (by simp only [bt_,bC_,au_ (du_ c.doc hc),as_])
 have hk:=fun h=>kb_ (e:=e) h
 have hv:decide (e.version > c.version) = !decide (e.version≤c.version):=by
  by_cases h:e.version≤c.version
  · rw [decide_eq_true h,decide_eq_false (by omega)];rfl
  · rw [decide_eq_false h,decide_eq_true (by omega)];rfl
 have hkk:(e.kind == 1)=true→(e.kind == 2)=false:=by
  intro h;rw [eq_of_beq h];rfl
 refine aZ_ ?_
 simp only [bu_,bC_,dm_,iC_,hv,au_ h0,aw_,as_,au_ (hF_ hel),au_ (du_ e.doc he),au_ (g3_ hcl hel.2)]
 unfold dl_ badC
 cases hb:c.bad<;>cases h2:da_ e<;>cases h3:(e.kind == 1)<;>cases hg:c.began<;>cases decide (e.version≤c.version)<;>cases h4:(e.base == c.version)<;>cases (c6_ c.doc e.ops).2<;>simp only [h2,h3,true_implies,reduceCtorEq,false_implies] at hk hkk<;>simp [h3,hk,hkk,hb,hg]
end
end Go.Pi
end
section
namespace Go.Pi
theorem lenEv_of {e:af_} (h:af_.len e) (hs:af_.size e≤1048576):mk_ e:=by
 simp only [af_.size] at hs
 have hn:=cy_ TOp.size e.ops
 exact ⟨i6_ 6 _ h.1,by omega,fun o ho=>⟨⟨(h.2.2 o ho).1.1,(h.2.2 o ho).1.2⟩,i6_ 6 _ (h.2.2 o ho).2⟩⟩
end Go.Pi
end
section
namespace Go.Pi
theorem gr_ {j:aa_} (h:cd_ j=true):aa_.size j≤20000000:=by
 have h:=of_decide_eq_true h
 have:=lE_ 6 _ h
 omega
end Go.Pi
end
section
namespace Go.Pi
end Go.Pi
end
section
namespace Go.Pi
structure OpIn (o:TOp):Prop where
 ok:eE_ o=true
 val:cE_ o=fi_ o
 size:b7_ 6 (fi_ o)≤400
theorem op_in {o:TOp} (h:(cE_ o).kind≠0):OpIn o:=by
 unfold cE_ at h
 cases ho:eE_ o with
 |false=>rw [ho] at h;exact absurd rfl h
 |true=>
  rw [ho,cond_true] at h
  unfold hV_ at h
  cases hj:cd_ (fi_ o) with
  |false=>rw [hj] at h;exact absurd rfl h
  |true=>
   refine ⟨ho,?_,of_decide_eq_true hj⟩
   unfold cE_ hV_
   rw [ho,hj];rfl
theorem zero_null {j:aa_} (h:gh_ j=true):j=el_:=by
 unfold gh_ at h
 simp only [Bool.and_eq_true,beq_iff_eq,decide_eq_true_eq] at h
 obtain ⟨h1,h2,h3,h4,h5⟩:=h
 obtain ⟨k,n,s,l,ns⟩:=j
 simp only at h1 h2 h3 h4 h5
 rw [h1,h2,h3,List.eq_nil_of_length_eq_zero h4,List.eq_nil_of_length_eq_zero h5];rfl
end Go.Pi
end
section
namespace Go.Pi
end Go.Pi
end
section
namespace Go.Pi
structure EvIs (e:af_):Prop where
 ver:0≤e.version∧e.version≤100000
 base:(e.kind == 1)=false→0≤e.base∧e.base≤100000
 ops:(e.kind == 1)=false→decide (dE_ e.ops<e.ops.length)=false
theorem ev_is {e:af_} (h:da_ e=true):EvIs e:=by
 unfold da_ at h
 rw [Bool.and_eq_true] at h
 have hv:=f6_ h.1
 refine ⟨by omega,fun hk => ?_,fun hk => ?_⟩
 all_goals (
  have h2:=h.2
  rw [hk,cond_false] at h2
  cases hk2:(e.kind == 2) with
  |false=>rw [hk2] at h2;cases h2
  |true=>
   rw [hk2,cond_true,Bool.and_eq_true,Bool.and_eq_true] at h2
   have hb:=f6_ h2.2.1
   rw [W_id (by omega) (by omega)] at hb
   unfold kr_ at h2
   rw [Bool.and_eq_true] at h2
   first|(have:=h2.1.1;simpa using this)|omega)
end Go.Pi
end
section
namespace Go.Pi
theorem ops_right {l:List TOp} (h:b7_ 6 (eh_ l)≤400):l.length≤400:=by
 have:=d5_ h
 simpa [eh_] using this
structure SnapIs (e:af_):Prop where
 ver:0≤e.version∧e.version≤100000
 base:e.base=0
 ops:e.ops=[]
 doc:cS_ e.doc≠[]
structure PatchIs (e:af_):Prop where
 ver:0≤e.version∧e.version≤100000
 base:0≤e.base∧e.base≤100000
 doc:e.doc=el_
 ops:∀ o ∈ e.ops,OpIn o
 enc:cS_ (eh_ e.ops)≠[]
 len:e.ops.length≤400
theorem ev_cases {e:af_} (h:da_ e=true):(e.kind=1∧SnapIs e)∨(e.kind=2∧PatchIs e):=by
 have hi:=ev_is h
 unfold da_ at h
 rw [Bool.and_eq_true] at h
 have h2:=h.2
 cases hk:(e.kind == 1) with
 |true=>
  rw [hk,cond_true] at h2
  simp only [Bool.and_eq_true,Bool.not_eq_true',beq_iff_eq,decide_eq_true_eq,beq_eq_false_iff_ne] at h2
  exact .inl ⟨by simpa using hk,hi.ver,h2.1,List.eq_nil_of_length_eq_zero h2.2.1,h2.2.2⟩
 |false=>
  rw [hk,cond_false] at h2
  cases hk2:(e.kind == 2) with
  |false=>rw [hk2] at h2;cases h2
  |true=>
   rw [hk2,cond_true] at h2
   unfold kr_ at h2
   simp only [Bool.and_eq_true,Bool.not_eq_true',decide_eq_true_eq,decide_eq_false_iff_not,beq_eq_false_iff_ne] at h2
   obtain ⟨⟨b1,b2,b3⟩,b4,b5⟩:=h2
   have henc:=enc_ne b3
   refine .inr ⟨by simpa using hk2,hi.ver,hi.base hk,zero_null b5,fun o ho=>op_in ?_,b3,ops_right henc.1⟩
   intro hz
   have:e.ops.findIdx (fun o=>(cE_ o).kind == 0)<e.ops.length:=List.findIdx_lt_length_of_exists ⟨o,ho,by rw [hz];rfl⟩
   exact b1 this
end Go.Pi
end
section
namespace Go.Pi
def hu_:aL_:=aL_.mk el_ 0 false false
def cO_ (c:aL_) (l:List af_):aL_:=l.foldl dl_ c
theorem e5_:cd_ el_=true:=by decide
theorem go_ {c:aL_} {e:af_} (hc:cd_ c.doc=true):cd_ (dl_ c e).doc=true:=by
 unfold dl_ badC
 cases c.bad
 · cases hev:da_ e
   · exact hc
   · cases hk:(e.kind == 1)
     · cases h:(c.began&&(e.base == c.version)&&(c6_ c.doc e.ops).2)
       · exact hc
       · rw [Bool.and_eq_true] at h
         exact h5_ h.2
     · cases (c.began&&decide (e.version≤c.version))
       · rcases ev_cases hev with ⟨_,hs⟩|⟨h2,_⟩
         · exact decide_eq_true (enc_ne hs.doc).1
         · rw [h2] at hk;cases hk
       · exact hc
 · exact hc
theorem km_:∀ {l:List af_} {c:aL_},cd_ c.doc=true→cd_ (cO_ c l).doc=true
 |[],_,h=>h
 |_::l,_,h=>km_ (l:=l) (go_ h)
section
variable {l:List af_} (hn:l.length≤1000000000) (hl:∀ e ∈ l,aa_.size e.doc≤4000000000∧mk_ e)
include hn hl
theorem gq_:Ev (fun n _=>aG_ n l) (cO_ hu_ l):=by
 refine aZ_ ?_
 simp only [aG_]
 have key:∀ (m i:Nat) (c:aL_),i+m=l.length→cd_ c.doc=true →
   Ev (fun n N=>aG_.loop4 n (fun xy2 xy3 xy4 xy5 xy6 xy7 xy8 xy9 xy10 xy11 xy12 xy13 xy14 xy15=>(some (aL_.mk (aa_.mk xy8 xy9 xy10 xy15 xy11) xy12 xy13 xy14))) N l (i:Int) 0 0 [] 0 false false c.doc.kind c.doc.n_ c.doc.s c.doc.names c.version c.began c.bad c.doc.list) (cO_ c (l.drop i)):=by
  intro m
  induction m with
  |zero=>
   intro i c hi hc
   have e:i=l.length:=by omega
   subst e
   refine bN_ ?_
   simp only [aG_.turn4,aG_.step4,cK_,cond_false,as_,List.drop_length,cO_,List.foldl_nil,cM_,dm_]
  |succ m ih=>
   intro i c hi hc
   have hlt:i<l.length:=by omega
   have hx:=hl _ (b3_ af_.dflt hlt)
   have hT:=fW_ (c:=c) (e:=l.getD i af_.dflt) (by have:=gr_ hc;omega) (iX_ hc) hx.1 hx.2
   have hW:=W_up hlt (show l.length≤cq_ by simp only [cq_];omega)
   have hI:=ih (i+1) _ (by omega) (go_ (e:=l.getD i af_.dflt) hc)
   rw [dW_ af_.dflt hlt]
   refine bN_ ?_
   simp only [aG_.turn4,aG_.step4,bC_,cM_,dm_,iC_,c2_ hlt,cond_true,b9_,cP_ hlt,true_and,Int.toNat_natCast,hW,au_ hT]
   exact hI
 exact c1_ (key l.length 0 hu_ (by omega) e5_)
theorem gB_:Ev (fun n _=>aF_ n l) (cO_ hu_ l):=by
 refine aZ_ ?_
 simp only [aF_]
 have key:∀ (m i:Nat) (c:aL_),i+m=l.length→cd_ c.doc=true →
   Ev (fun n N=>aF_.loop4 n (fun xy2 xy3 xy4 xy5 xy6 xy7 xy8 xy9 xy10 xy11 xy12 xy13 xy14 xy15=>(some (aL_.mk (aa_.mk xy8 xy9 xy10 xy14 xy15) xy11 xy12 xy13))) N l (l.length:Int) (i:Int) 0 0 [] 0 false false c.doc.kind c.doc.n_ c.doc.s c.version c.began c.bad c.doc.list c.doc.names) (cO_ c (l.drop i)):=by
  intro m
  induction m with
  |zero=>
   intro i c hi hc
   have e:i=l.length:=by omega
   subst e
   refine bN_ ?_
   simp only [aF_.turn4,aF_.step4,cK_,cond_false,as_,List.drop_length,cO_,List.foldl_nil,cM_,dm_]
  |succ m ih=>
   intro i c hi hc
   have hlt:i<l.length:=by omega
   have hx:=hl _ (b3_ af_.dflt hlt)
   have hT:=f8_ (c:=c) (e:=l.getD i af_.dflt) (by have:=gr_ hc;omega) (iX_ hc) hx.1 hx.2
   have hW:=W_up hlt (show l.length≤cq_ by simp only [cq_];omega)
   have hI:=ih (i+1) _ (by omega) (go_ (e:=l.getD i af_.dflt) hc)
   rw [dW_ af_.dflt hlt]
   refine bN_ ?_
   simp only [aF_.turn4,aF_.step4,bC_,cM_,dm_,iC_,c2_ hlt,cond_true,b9_,cP_ hlt,true_and,Int.toNat_natCast,hW,au_ hT]
   exact hI
 exact c1_ (key l.length 0 hu_ (by omega) e5_)
end
theorem js_ {l:List af_} (hl:mj_ af_.len l):∃ n,laws_FnExactClientAll n l=some true:=by
 refine ev_ex (aZ_ ?_)
 simp only [laws_FnExactClientAll,bC_,dm_,iC_,au_ (kx_ (a:=l) (l:=1048576) hl (by omega) (by omega)),aw_,as_]
 refine ⟨fun _=>trivial,fun h => ?_⟩
 have hz:=subS_ok (of_decide_eq_false h)
 have k1:cD_ af_.size l≤cap:=by simp only [cap];omega
 have t1:cD_ af_.size l≤cq_:=by simp only [cq_];omega
 have hn:=cy_ af_.size l
 have hall:∀ e ∈ l,aa_.size e.doc≤4000000000∧mk_ e:=fun e he=>by
  have h1:=dK_ af_.size he
  have e2:af_.size e=aa_.size e.doc+cD_ TOp.size e.ops:=rfl
  exact ⟨by omega,lenEv_of (hl.2 e he) (by omega)⟩
 have h3:=gq_ (by omega) hall
 have h4:=gB_ (by omega) hall
 have hr:=gr_ (km_ (l:=l) (c:=hu_) e5_)
 have e3:aL_.size (cO_ hu_ l)=aa_.size (cO_ hu_ l).doc:=rfl
 have hr:aa_.size (cO_ hu_ l).doc≤20000000:=hr
 have t3:aL_.size (cO_ hu_ l)≤cq_:=by simp only [cq_];omega
 obtain ⟨m2,w,c1,c2,d0,c3,c4⟩:=i2_ (a:=l) (k:=1) (by omega) (by omega) (by simp only [cq_];omega)
 obtain ⟨m3,z0,z1,f1,f2,g0,g1,f3,f4⟩:=i3_ (a:=cO_ hu_ l) (k:=1) (by omega) (by simp only [cq_];omega)
 generalize cO_ hu_ l=r at *
 simp only [bC_,dm_,iC_,au_ (kw_ k1),au_ h3,au_ h4,au_ (kV_ t3),au_ (kU_ t1),au_ c3,au_ f3,au_ f4,d0,g0,g1,Nat.beq_refl,beq_self_eq_true,bne_self_eq_false,Bool.not_true,cond_true,cond_false,aw_,as_,decide_eq_true_eq,decide_eq_false_iff_not]
 repeat' (first|apply And.intro|intro _)
 all_goals (first|trivial|rfl|(exfalso;omega)|omega)
end Go.Pi
end
section
namespace Go.Pi
theorem ed_ {t:TC} {xs:List (El t)} (h:Good (.sl .v t xs)):xs.length≤cq_∧∀ x ∈ xs,∀ c ∈ ag_.enc .v t x,Good c:=by
 cases h with
 |sl t xs h1 h2=>exact ⟨h1,h2⟩
end Go.Pi
end
section
namespace Go.Pi
theorem je_ {l:Bs} (h:Good (.s l)):lenB l:=by
 cases h with
 |s l h=>exact h
theorem aa_.good (x:aa_) (h:∀ c ∈ ([.i .i64 x.kind,.i .i64 x.n_,.s x.s,.sl .v .lJson x.list,.sl .v .str x.names]:List AV),Good c):aa_.len x :=
 (aa_.len_iff x).2 ⟨je_ (h _ (.tail _ (.tail _ (.head _)))),⟨(ed_ (t:=.lJson) (h _ (.tail _ (.tail _ (.tail _ (.head _)))))).1,fun y hy=>aa_.good y ((ed_ (t:=.lJson) (h _ (.tail _ (.tail _ (.tail _ (.head _)))))).2 y hy)⟩,
  (ed_ (t:=.str) (h _ (.tail _ (.tail _ (.tail _ (.tail _ (.head _))))))).1,fun y hy=>je_ ((ed_ (t:=.str) (h _ (.tail _ (.tail _ (.tail _ (.tail _ (.head _))))))).2 y hy _ (.head _))⟩
termination_by SizeOf.sizeOf x
decreasing_by
 have:=List.sizeOf_lt_of_mem hy
 cases x
 simp at this ⊢
 omega
theorem TOp.good {x:TOp} (h:∀ c ∈ ([.i .i64 x.kind,.sl .v .str x.way,.i .i64 x.value.kind,.i .i64 x.value.n_,.s x.value.s,.sl .v .lJson x.value.list,.sl .v .str x.value.names]:List AV),Good c):TOp.len x:=⟨⟨(ed_ (t:=.str) (h _ (.tail _ (.head _)))).1,fun x0 hx0=>(je_ ((ed_ (t:=.str) (h _ (.tail _ (.head _)))).2 x0 hx0 _ (.head _)))⟩,(aa_.good x.value fun c hc=>h c (List.mem_of_mem_drop (i:=2) (List.mem_of_mem_take (i:=5) hc)))⟩
theorem af_.good {x:af_} (h:∀ c ∈ ([.i .i64 x.kind,.i .i64 x.version,.i .i64 x.base,.i .i64 x.doc.kind,.i .i64 x.doc.n_,.s x.doc.s,.sl .v .lJson x.doc.list,.sl .v .str x.doc.names,.sl .v .lOp x.ops]:List AV),Good c):af_.len x:=⟨(aa_.good x.doc fun c hc=>h c (List.mem_of_mem_drop (i:=3) (List.mem_of_mem_take (i:=5) hc))),⟨(ed_ (t:=.lOp) (h _ (.tail _ (.tail _ (.tail _ (.tail _ (.tail _ (.tail _ (.tail _ (.tail _ (.head _))))))))))).1,fun x0 hx0=>TOp.good ((ed_ (t:=.lOp) (h _ (.tail _ (.tail _ (.tail _ (.tail _ (.tail _ (.tail _ (.tail _ (.tail _ (.head _))))))))))).2 x0 hx0)⟩⟩
theorem kO_ {a:List af_} (h:Good (.sl .v .lEvent a)):(mj_ af_.len) a:=⟨(ed_ (t:=.lEvent) h).1,fun x0 hx0=>af_.good ((ed_ (t:=.lEvent) h).2 x0 hx0)⟩
end Go.Pi
end
section
namespace Go.Pi
open Go.Proofs Go.Proofs.YtccdklkcfjmchaaGreatDoor
namespace laws_FnExactClientAll
theorem pure_law:Pure:=fun o h0=>js_ (kO_ (h0 _ (by simp)))
theorem proved:Rows.FnExactClientAllCardSaid:=card pure_law
end laws_FnExactClientAll
end Go.Pi
end
namespace Go.Proofs.YtccdklkcfjmchaaGreatDoor
theorem fnExactClientAll_holds:Rows.FnExactClientAllCardSaid:=Go.Pi.laws_FnExactClientAll.proved
#print axioms fnExactClientAll_holds
end Go.Proofs.YtccdklkcfjmchaaGreatDoor
