/- FnPieces: in whatever drawn pieces a line comes, and nothing behind them, the same events are told, and the same waits. No condition. Text 6 of 7. -/
import Derived.Test.YtmgcfhlcdhlafaaGreatDoorPcE
set_option linter.unusedVariables false
set_option maxRecDepth 100000
set_option linter.unusedSimpArgs false
section
namespace Go.Pi
def eK_ (b:UInt8):Bs→List Bs
 |[]=>[[]]
 |c::l=>if c=b then []::eK_ b l else match eK_ b l with
  |[]=>[[c]]
  |p::ps=>(c::p)::ps
theorem kd_ (b:UInt8):∀ l,∃ p ps,eK_ b l=p::ps
 |[]=>⟨[],[],rfl⟩
 |c::l=>by
  obtain ⟨p,ps,e⟩:=kd_ b l
  unfold eK_
  by_cases h:c=b
  · rw [if_pos h];exact ⟨_,_,rfl⟩
  · rw [if_neg h,e];exact ⟨_,_,rfl⟩
theorem kc_ (b:UInt8):∀ (s:Bs) (k:Nat),s.count b≤k→Lib.splitK [b] 0 k s=eK_ b s
 |[],0,_=>rfl
 |[],k+1,_=>by
  rw [Lib.splitK]
  have:Lib.index [] [b] = -1:=rfl
  rw [this,if_pos (by decide)];rfl
 |c::l,k,h=>by
  unfold eK_
  by_cases e:c=b
  · subst e
    rw [List.count_cons_self] at h
    obtain ⟨k,rfl⟩:∃ m,k=m+1:=⟨k - 1,by omega⟩
    rw [Lib.splitK,gj_,if_pos rfl,if_neg (by decide),if_pos rfl]
    show []::Lib.splitK [c] 0 k l=_
    rw [kc_ c l k (by omega)]
  · rw [List.count_cons_of_ne e] at h
    have ih:=kc_ b l k h
    rw [if_neg e,←ih]
    cases k with
    |zero=>rfl
    |succ k=>
     have hx:Lib.index (c::l) [b]=if Lib.index l [b] = -1 then -1 else Lib.index l [b]+1:=by rw [gj_,if_neg (show ¬ b=c from fun h=>e h.symm)]
     rw [Lib.splitK,Lib.splitK,hx]
     by_cases h2:Lib.index l [b] = -1
     · rw [if_pos h2,if_pos (by decide),h2,if_pos (by decide)]
     · have:=Lib.index_ge l [b]
       obtain ⟨i,hi⟩:∃ i:Nat,Lib.index l [b]=i:=⟨(Lib.index l [b]).toNat,by omega⟩
       rw [if_neg h2,if_neg (by rw [hi];simp<;>omega),if_neg (by rw [hi];simp<;>omega),hi,show ((i:Int)+1).toNat=i+1 by omega,show ((i:Int)).toNat=i by omega]
       rfl
theorem split_one (b:UInt8) (s:Bs):Lib.split s [b]=eK_ b s:=by
 unfold Lib.split
 rw [mH_]
 exact kc_ b s _ (Nat.le_refl _)
theorem ke_ (b:UInt8):∀ (s:Bs),(eK_ b s).length≤s.length+1∧∀ p ∈ eK_ b s,p.length≤s.length
 |[]=>⟨Nat.le_refl _,fun p hp=>by obtain rfl:=List.mem_singleton.1 hp;exact Nat.le_refl _⟩
 |c::l=>by
  obtain ⟨h1,h2⟩:=ke_ b l
  obtain ⟨p,ps,e⟩:=kd_ b l
  unfold eK_
  by_cases h:c=b
  · rw [if_pos h]
    refine ⟨by simp;omega,fun q hq => ?_⟩
    rcases List.mem_cons.1 hq with rfl|hq
    · simp
    · have:=h2 q hq;simp;omega
  · rw [if_neg h,e]
    rw [e] at h1 h2
    refine ⟨by simp at h1 ⊢;omega,fun q hq => ?_⟩
    rcases List.mem_cons.1 hq with rfl|hq
    · have:=h2 p (List.mem_cons_self ..);simp;omega
    · have:=h2 q (List.mem_cons_of_mem _ hq);simp;omega
theorem kf_ (b:UInt8) (r:Bs):∀ (a:Bs),(∀ c ∈ a,c≠b)→eK_ b (a++b::r)=a::eK_ b r
 |[],_=>by rw [List.nil_append,eK_,if_pos rfl]
 |c::a,h=>by
  rw [List.cons_append,eK_,if_neg (h c (List.mem_cons_self ..)),kf_ b r a fun x hx=>h x (List.mem_cons_of_mem _ hx)]
theorem nr_ (b:UInt8):∀ (a:Bs),(∀ c ∈ a,c≠b)→eK_ b a=[a]
 |[],_=>rfl
 |c::a,h=>by rw [eK_,if_neg (h c (List.mem_cons_self ..)),nr_ b a fun x hx=>h x (List.mem_cons_of_mem _ hx)]
theorem wesc_sl (s:Bs):∀ c ∈ s.flatMap gC_,c≠47:=by
 intro c hc
 obtain ⟨b,_,hc⟩:=List.mem_flatMap.1 hc
 unfold gC_ at hc
 split at hc
 · intro e;subst e;revert hc;decide
 · split at hc
   · intro e;subst e;revert hc;decide
   · obtain rfl:=List.mem_singleton.1 hc;assumption
theorem pt_:∀ (w:List Bs),eK_ 47 (FWay w)=[]::w.map fun s=>s.flatMap gC_
 |[]=>rfl
 |s::w=>by
  have e:FWay (s::w)=[]++47::(s.flatMap gC_++FWay w):=rfl
  rw [e,kf_ 47 _ [] (fun c h=>by cases h)]
  congr 1
  cases w with
  |nil=>
   have:FWay ([]:List Bs)=[]:=rfl
   rw [this,List.append_nil,nr_ 47 _ (wesc_sl s)];rfl
  |cons t w=>
   have ih:=pt_ (t::w)
   have e2:FWay (t::w)=47::(t.flatMap gC_++FWay w):=rfl
   rw [e2,eK_,if_pos rfl] at ih
   rw [e2,kf_ 47 _ _ (wesc_sl s),List.map_cons,List.cons.inj ih |>.2]
def gW_ (a b:UInt8) (new:Bs):Bs→Bs
 |[]=>[]
 |[x]=>[x]
 |x::y::l=>if x=a∧y=b then new++gW_ a b new l else x::gW_ a b new (y::l)
theorem kV_ (a b x:UInt8) (l:Bs):Lib.index (x::l) [a,b]=if x=a∧l.head?=some b then 0 else if Lib.index l [a,b] = -1 then -1 else Lib.index l [a,b]+1:=by
 rw [Lib.index]
 have:List.isPrefixOf [a,b] (x::l)=decide (x=a∧l.head?=some b):=by
  refine Bool.eq_iff_iff.2 ?_
  cases l with
  |nil=>simp [List.isPrefixOf]
  |cons y l=>
   simp only [List.isPrefixOf,List.head?_cons,Option.some.injEq,decide_eq_true_eq,Bool.and_true,Bool.and_eq_true,beq_iff_eq]
   exact ⟨fun ⟨h1,h2⟩=>⟨h1.symm,h2.symm⟩,fun ⟨h1,h2⟩=>⟨h1.symm,h2.symm⟩⟩
 rw [this]
 by_cases h:x=a∧l.head?=some b
 · rw [decide_eq_true h,if_pos rfl,if_pos h]
 · rw [decide_eq_false h,if_neg (by simp),if_neg h]
   by_cases h2:Lib.index l [a,b] = -1
   · rw [h2,if_pos rfl,if_pos (by decide)]
   · rw [if_neg h2,if_neg (by simpa using h2)]
def cnt2 (a b:UInt8):Bs→Nat
 |[]=>0
 |[_]=>0
 |x::y::l=>if x=a∧y=b then 1+cnt2 a b l else cnt2 a b (y::l)
theorem rn_ (a b:UInt8):∀ l:Bs,cnt2 a b l≤l.length
 |[]=>Nat.le_refl _
 |[_]=>by simp [cnt2]
 |x::y::l=>by
  unfold cnt2
  have h1:=rn_ a b l
  have h2:=rn_ a b (y::l)
  split
  · simp;omega
  · simp at h2 ⊢;omega
theorem kB_ (a b:UInt8):∀ (s:Bs) (f:Nat),s.length<f→Lib.countFrom [a,b] f s=cnt2 a b s
 |[],f+1,_=>by
  rw [Lib.countFrom]
  have:Lib.index [] [a,b] = -1:=rfl
  rw [this,if_pos (by decide)];rfl
 |[x],f+1,_=>by
  rw [Lib.countFrom]
  have:Lib.index [x] [a,b] = -1:=by
   rw [kV_,if_neg (by simp)];rfl
  rw [this,if_pos (by decide)];rfl
 |x::y::l,f+1,h=>by
  have hl:l.length+1<f:=by simpa using h
  unfold cnt2
  by_cases e:x=a∧y=b
  · have hx:Lib.index (x::y::l) [a,b]=0:=by rw [kV_,if_pos (show x=a∧(y::l).head?=some b by simpa using e)]
    rw [if_pos e,Lib.countFrom,hx,if_neg (by decide)]
    show 1+Lib.countFrom [a,b] f l=_
    rw [kB_ a b l f (by omega)]
  · have hx:Lib.index (x::y::l) [a,b]=if Lib.index (y::l) [a,b] = -1 then -1 else Lib.index (y::l) [a,b]+1:=by rw [kV_,if_neg (show ¬ (x=a∧(y::l).head?=some b) by simpa using e)]
    rw [if_neg e,←kB_ a b (y::l) (f+1) (by simp;omega),Lib.countFrom,Lib.countFrom,hx]
    by_cases h2:Lib.index (y::l) [a,b] = -1
    · rw [if_pos h2,if_pos (by decide),h2,if_pos (by decide)]
    · have:=Lib.index_ge (y::l) [a,b]
      obtain ⟨i,hi⟩:∃ i:Nat,Lib.index (y::l) [a,b]=i:=⟨(Lib.index (y::l) [a,b]).toNat,by omega⟩
      rw [if_neg h2,if_neg (by rw [hi];simp<;>omega),if_neg (by rw [hi];simp<;>omega),hi,show ((i:Int)+1).toNat=i+1 by omega,show ((i:Int)).toNat=i by omega]
      rfl
theorem count2 (a b:UInt8) (s:Bs):Lib.count s [a,b]=cnt2 a b s:=kB_ a b s _ (Nat.lt_succ_self _)
theorem l2_ (a b:UInt8) (new:Bs):∀ (s:Bs) (k:Nat),cnt2 a b s≤k→Lib.replaceK [a,b] new k s=gW_ a b new s
 |[],0,_=>rfl
 |[],k+1,_=>by
  rw [Lib.replaceK]
  have:Lib.index [] [a,b] = -1:=rfl
  rw [this,if_pos (by decide)];rfl
 |[x],0,_=>rfl
 |[x],k+1,_=>by
  rw [Lib.replaceK]
  have:Lib.index [x] [a,b] = -1:=by rw [kV_,if_neg (by simp)];rfl
  rw [this,if_pos (by decide)];rfl
 |x::y::l,k,h=>by
  unfold cnt2 at h
  unfold gW_
  by_cases e:x=a∧y=b
  · rw [if_pos e] at h ⊢
    obtain ⟨k,rfl⟩:∃ m,k=m+1:=⟨k - 1,by omega⟩
    have hx:Lib.index (x::y::l) [a,b]=0:=by rw [kV_,if_pos (show x=a∧(y::l).head?=some b by simpa using e)]
    rw [Lib.replaceK,hx,if_neg (by decide)]
    show []++new++Lib.replaceK [a,b] new k l=_
    rw [l2_ a b new l k (by omega)];rfl
  · rw [if_neg e] at h ⊢
    have ih:=l2_ a b new (y::l) k h
    rw [←ih]
    cases k with
    |zero=>rfl
    |succ k=>
     have hx:Lib.index (x::y::l) [a,b]=if Lib.index (y::l) [a,b] = -1 then -1 else Lib.index (y::l) [a,b]+1:=by rw [kV_,if_neg (show ¬ (x=a∧(y::l).head?=some b) by simpa using e)]
     rw [Lib.replaceK,Lib.replaceK,hx]
     by_cases h2:Lib.index (y::l) [a,b] = -1
     · rw [if_pos h2,if_pos (by decide),h2,if_pos (by decide)]
     · have:=Lib.index_ge (y::l) [a,b]
       obtain ⟨i,hi⟩:∃ i:Nat,Lib.index (y::l) [a,b]=i:=⟨(Lib.index (y::l) [a,b]).toNat,by omega⟩
       rw [if_neg h2,if_neg (by rw [hi];simp<;>omega),if_neg (by rw [hi];simp<;>omega),hi,show ((i:Int)+1).toNat=i+1 by omega,show ((i:Int)).toNat=i by omega]
       rfl
theorem qV_ (a b:UInt8) (new s:Bs) (hne:([a,b] == new)=false):Lib.replaceAll s [a,b] new=gW_ a b new s:=by
 unfold Lib.replaceAll Lib.replace Lib.replaceNum
 rw [hne,if_neg (by simp),if_pos (.inl (by decide)),count2]
 exact l2_ a b new s _ (Nat.le_refl _)
theorem hk_ (a b c:UInt8):∀ l:Bs,(gW_ a b [c] l).length≤l.length
 |[]=>Nat.le_refl _
 |[_]=>Nat.le_refl _
 |x::y::l=>by
  unfold gW_
  have h1:=hk_ a b c l
  have h2:=hk_ a b c (y::l)
  split
  · simp;omega
  · simp at h2 ⊢;omega
theorem rW_ (a b:UInt8) (new l:Bs):gW_ a b new (a::b::l)=new++gW_ a b new l:=by rw [gW_,if_pos ⟨rfl,rfl⟩]
theorem l3_ {a b x:UInt8} (h:x≠a) (new l:Bs):gW_ a b new (x::l)=x::gW_ a b new l:=by
 cases l with
 |nil=>rfl
 |cons y l=>rw [gW_,if_neg fun e=>h e.1]
theorem sU_ {a b y:UInt8} (h:y≠b) (new l:Bs) (h2:y≠a):gW_ a b new (a::y::l)=a::y::gW_ a b new l:=by
 rw [gW_,if_neg fun e=>h e.2,l3_ h2]
def pj_ (c:UInt8):Bs:=if c=126 then [126,48] else [c]
theorem unesc1:∀ (s:Bs),gW_ 126 49 [47] (s.flatMap gC_)=s.flatMap pj_
 |[]=>rfl
 |c::s=>by
  have ih:=unesc1 s
  rw [List.flatMap_cons,List.flatMap_cons]
  generalize s.flatMap gC_=x at ih ⊢
  generalize s.flatMap pj_=y at ih ⊢
  by_cases h1:c=126
  · have e1:gC_ c=[126,48]:=if_pos h1
    have e2:pj_ c=[126,48]:=if_pos h1
    rw [e1,e2]
    show gW_ 126 49 [47] (126::48::x)=126::48::y
    rw [sU_ (by decide) _ _ (by decide),ih]
  · have e2:pj_ c=[c]:=if_neg h1
    by_cases h2:c=47
    · have e1:gC_ c=[126,49]:=by unfold gC_;rw [if_neg h1,if_pos h2]
      rw [e1,e2]
      show gW_ 126 49 [47] (126::49::x)=c::y
      rw [rW_,ih,h2];rfl
    · have e1:gC_ c=[c]:=by unfold gC_;rw [if_neg h1,if_neg h2]
      rw [e1,e2]
      show gW_ 126 49 [47] (c::x)=c::y
      rw [l3_ h1,ih]
theorem unesc2:∀ (s:Bs),gW_ 126 48 [126] (s.flatMap pj_)=s
 |[]=>rfl
 |c::s=>by
  have ih:=unesc2 s
  rw [List.flatMap_cons]
  generalize s.flatMap pj_=y at ih ⊢
  by_cases h1:c=126
  · have e2:pj_ c=[126,48]:=if_pos h1
    rw [e2]
    show gW_ 126 48 [126] (126::48::y)=_
    rw [rW_,ih,h1];rfl
  · have e2:pj_ c=[c]:=if_neg h1
    rw [e2]
    show gW_ 126 48 [126] (c::y)=_
    rw [l3_ h1,ih]
end Go.Pi
end
section
namespace Go.Pi
theorem hB_:∀ (d:Nat) (j:aa_),bG_ d j≤400→Ev (fun n _=>aO_ n j) (FEnc d j)
 |0,j,h=>by simp only [bG_] at h;omega
 |d+1,j,h=>by
  have ho:=(d2_ h).1
  have hll:=eT_ h
  refine ao_ ?_
  have hloop:(j.kind=4∨j.kind=5)→∀ (K:Nat→Bs→Int→Int→Bs→List aa_→List Bs→Option Bs) (v:Bs),Ev (fun n N=>K n (ej_ (FEnc d) j j.list.length) j.kind j.n_ j.s j.list j.names) v→Ev (fun n _=>aO_.loop17 n (aO_ n) (K n) n [] 0 j.kind j.n_ j.s j.list j.names) v:=by
   intro hk45 K v hK
   refine eI_ (fun i=>ej_ (FEnc d) j i) j.list.length (fun n N i (o:Bs)=>aO_.loop17 n (aO_ n) (K n) N o (i:Int) j.kind j.n_ j.s j.list j.names) v (fun i hi F hF => ?_) ?_
   · have hp:=fB_ h hi
     have hx:=hB_ d (j.list.getD i aa_.dflt) hp.size
     have hjl:=oL_ h i (by omega)
     have he:=hp.enc
     have hW:=W_up hi (show j.list.length≤cb_ by simp only [cb_];omega)
     rcases hk45 with hk|hk
     · have h5:(j.kind == 5)=false:=by rw [hk];rfl
       by_cases h0:i=0
       · have hg:decide ((i:Int) > 0)=false:=decide_eq_false (by omega)
         have e0:ej_ (FEnc d) j i=[]:=by rw [h0];rfl
         have e1:ej_ (FEnc d) j (i+1)=dD_ (FEnc d) j i:=by rw [h0];exact ip_ _ _
         rw [e1] at hF
         unfold dD_ at hF
         rw [h5,cond_false] at hF
         simp only [e0,aO_.turn17,aO_.step17,aW_,Int.toNat_natCast,hW,h5,hg,reduceCtorEq,false_implies,true_implies,true_and,and_true,al_,bb_,dC_,cC_ hi,ch_ hi,ab_ hx,List.nil_append]
         generalize FEnc d (j.list.getD i aa_.dflt)=x at hF he ⊢
         repeat' (first|apply And.intro|intro _)
         all_goals (first|contradiction|exact hF|trivial|(rename_i hc;have hc:=of_decide_eq_false hc;simp only [List.length_append,List.length_cons,List.length_nil] at hc;omega))
       · rw [hb_ _ _ (by omega)] at hF
         unfold dD_ at hF
         rw [h5,cond_false] at hF
         have hg:decide ((i:Int) > 0)=true:=decide_eq_true (by omega)
         simp only [aO_.turn17,aO_.step17,aW_,Int.toNat_natCast,hW,h5,hg,al_,bb_,dC_,cC_ hi,ch_ hi,ab_ hx]
         generalize FEnc d (j.list.getD i aa_.dflt)=x at hF he ⊢
         generalize ej_ (FEnc d) j i=o at hF hjl ⊢
         repeat' (first|apply And.intro|intro _)
         all_goals (first|contradiction|exact hF|trivial|(rename_i hc;have hc:=of_decide_eq_false hc;simp only [List.length_append,List.length_cons,List.length_nil] at hc;omega))
     · have h5:(j.kind == 5)=true:=by rw [hk];rfl
       have hn:=hp.name hk
       have hq:=hP_ (s:=j.names.getD i []) (by omega)
       have hql:=gl_ (j.names.getD i [])
       by_cases h0:i=0
       · have hg:decide ((i:Int) > 0)=false:=decide_eq_false (by omega)
         have e0:ej_ (FEnc d) j i=[]:=by rw [h0];rfl
         have e1:ej_ (FEnc d) j (i+1)=dD_ (FEnc d) j i:=by rw [h0];exact ip_ _ _
         rw [e1] at hF
         unfold dD_ at hF
         rw [h5,cond_true] at hF
         simp only [e0,aO_.turn17,aO_.step17,aW_,Int.toNat_natCast,hW,h5,hg,reduceCtorEq,false_implies,true_implies,true_and,and_true,al_,bb_,dC_,cC_ hi,ch_ hi,ch_ hn.1,ab_ hx,ab_ hq,List.nil_append]
         generalize FEnc d (j.list.getD i aa_.dflt)=x at hF he ⊢
         generalize dn_ (j.names.getD i [])=y at hF hql ⊢
         rw [←List.append_assoc] at hF
         repeat' (first|apply And.intro|intro _)
         all_goals (first|contradiction|exact hF|trivial|(rename_i hc;have hc:=of_decide_eq_false hc;simp only [List.length_append,List.length_cons,List.length_nil] at hc;omega))
       · rw [hb_ _ _ (by omega)] at hF
         unfold dD_ at hF
         rw [h5,cond_true] at hF
         have hg:decide ((i:Int) > 0)=true:=decide_eq_true (by omega)
         simp only [aO_.turn17,aO_.step17,aW_,Int.toNat_natCast,hW,h5,hg,al_,bb_,dC_,cC_ hi,ch_ hi,ch_ hn.1,ab_ hx,ab_ hq]
         generalize FEnc d (j.list.getD i aa_.dflt)=x at hF he ⊢
         generalize dn_ (j.names.getD i [])=y at hF hql ⊢
         generalize ej_ (FEnc d) j i=o at hF hjl ⊢
         rw [←List.append_assoc,←List.append_assoc] at hF
         repeat' (first|apply And.intro|intro _)
         all_goals (first|contradiction|exact hF|trivial|(rename_i hc;have hc:=of_decide_eq_false hc;simp only [List.length_append,List.length_cons,List.length_nil] at hc;omega))
   · simp only [aO_.turn17,aO_.step17,cr_,cond_false]
     exact hK
  have hjl:=oL_ h j.list.length (Nat.le_refl _)
  simp only [aO_,aW_]
  rcases ho.kind with hk|hk|hk|hk|hk|hk
  · simp only [FEnc,hk,Int.reduceBEq,cond_true,ae_]
  · simp only [FEnc,hk,Int.reduceBEq,cond_true,cond_false,al_,ae_]
    cases (j.n_ == 1)<;>simp
  · have hn:=ho.num hk
    simp only [FEnc,hk,Int.reduceBEq,cond_true,cond_false,ab_ (c0_ (x:=j.n_) (by omega) (by omega)),ae_]
  · have hs:=ho.text hk
    simp only [FEnc,hk,Int.reduceBEq,cond_true,cond_false,ab_ (hP_ (s:=j.s) (by omega)),ae_]
  all_goals (
   have e0:(j.kind == 0)=false:=by rw [hk];rfl
   have e1:(j.kind == 1)=false:=by rw [hk];rfl
   have e2:(j.kind == 2)=false:=by rw [hk];rfl
   have e3:(j.kind == 3)=false:=by rw [hk];rfl
   simp only [FEnc,e0,e1,e2,e3,cond_false]
   refine hloop (by omega) _ _ ?_
   generalize ej_ (FEnc d) j j.list.length=o at hjl ⊢
   simp only [hk,Int.reduceBEq,cond_true,cond_false,al_,ae_,dC_]
   refine ⟨fun _=>⟨fun _=>trivial,fun hc => ?_⟩,fun hc => ?_⟩
   · have hc:=of_decide_eq_false hc
     simp only [List.length_append,List.length_cons,List.length_nil] at hc;omega
   · have hc:=of_decide_eq_false hc
     simp only [List.length_append,List.length_cons,List.length_nil] at hc;omega)
theorem Join_ev {l:List Bs} {sep:Bs} (hl:l.length≤1000000) (hj:(Lib.join l sep).length≤1000000000):Ev (fun n _=>strings_Join n l sep) (Lib.join l sep):=by
 refine ao_ ?_
 simp only [strings_Join,nJoin,al_,ae_,dC_]
 refine ⟨fun _=>trivial,fun h => ?_⟩
 rw [decide_eq_true (by omega),decide_eq_true (by omega)] at h;cases h
theorem h5_:∀ (d:Nat) (j:aa_),bG_ d j≤400→Ev (fun n _=>bc_ n j) (FEnc d j)
 |0,j,h=>by simp only [bG_] at h;omega
 |d+1,j,h=>by
  have ho:=(d2_ h).1
  have hll:=eT_ h
  refine ao_ ?_
  have hloop:∀ (K:Nat→Int→Int→Bs→List aa_→List Bs→List Bs→Option Bs) (v:Bs),Ev (fun n N=>K n j.kind j.n_ j.s j.list j.names ((List.range j.list.length).map (dD_ (FEnc d) j))) v→Ev (fun n _=>bc_.loop4 n (bc_ n) (K n) n j.list (j.list.length:Int) 0 j.kind j.n_ j.s j.list j.names []) v:=by
   intro K v hK
   refine eI_ (fun i=>(List.range i).map (dD_ (FEnc d) j)) j.list.length (fun n N i (o:List Bs)=>bc_.loop4 n (bc_ n) (K n) N j.list (j.list.length:Int) (i:Int) j.kind j.n_ j.s j.list j.names o) v (fun i hi F hF => ?_) ?_
   · have hp:=fB_ h hi
     have hx:=h5_ d (j.list.getD i aa_.dflt) hp.size
     have he:=hp.enc
     have hW:=W_up hi (show j.list.length≤cb_ by simp only [cb_];omega)
     have hol:((List.range i).map (dD_ (FEnc d) j)).length=i:=by simp
     rw [List.range_succ,List.map_append,List.map_cons,List.map_nil] at hF
     unfold dD_ at hF
     cases h5:(j.kind == 5) with
     |false=>
      simp only [h5,cond_false] at hF
      unfold dD_ at hol ⊢
      simp only [h5,cond_false] at hol ⊢
      simp only [bc_.turn4,bc_.step4,aW_,Int.toNat_natCast,hW,h5,cond_false,al_,bb_,dC_,ba_,cC_ hi,ch_ hi,ab_ hx]
      generalize FEnc d (j.list.getD i aa_.dflt)=x at hF he ⊢
      generalize (List.range i).map _=o at hF hol ⊢
      exact ⟨fun _=>⟨trivial,by simp;omega,hF⟩,fun h=>(by cases h)⟩
     |true=>
      have hn:=hp.name (by simpa using h5)
      have hq:=iP_ (s:=j.names.getD i []) (by omega)
      have hql:=gl_ (j.names.getD i [])
      simp only [h5,cond_true] at hF
      unfold dD_ at hol ⊢
      simp only [h5,cond_true] at hol ⊢
      simp only [bc_.turn4,bc_.step4,aW_,Int.toNat_natCast,hW,h5,cond_true,al_,bb_,dC_,ba_,cC_ hi,ch_ hi,ch_ hn.1,ab_ hx,ab_ hq]
      generalize FEnc d (j.list.getD i aa_.dflt)=x at hF he ⊢
      generalize dn_ (j.names.getD i [])=y at hF hql ⊢
      generalize (List.range i).map _=o at hF hol ⊢
      rw [←List.append_assoc] at hF
      repeat' (first|apply And.intro|intro _)
      all_goals (first|contradiction|exact hF|trivial|(rename_i hc;have hc:=of_decide_eq_false hc;simp only [List.length_append,List.length_cons,List.length_nil] at hc;omega)|(simp;omega))
   · simp only [bc_.turn4,bc_.step4,cr_,cond_false]
     exact hK
  have hjl:=oL_ h j.list.length (Nat.le_refl _)
  have hJ:=Join_ev (l:=(List.range j.list.length).map (dD_ (FEnc d) j)) (sep:=[44]) (by simp;omega) (by unfold ej_ at hjl;omega)
  simp only [bc_,aW_]
  refine hloop _ _ ?_
  rcases ho.kind with hk|hk|hk|hk|hk|hk
  · simp only [FEnc,hk,Int.reduceBEq,cond_true,ae_]
  · have hb:=ho.bool hk
    simp only [FEnc,hk,Int.reduceBEq,cond_true,cond_false,bb_,ae_]
    have:j.n_=0∨j.n_=1:=by omega
    rcases this with e|e<;>rw [e]<;>exact ⟨⟨by decide,by decide⟩,rfl⟩
  · have hn:=ho.num hk
    simp only [FEnc,hk,Int.reduceBEq,cond_true,cond_false,ab_ (Itoa_ev (x:=j.n_) (by omega) (by omega)),ae_]
  · have hs:=ho.text hk
    simp only [FEnc,hk,Int.reduceBEq,cond_true,cond_false,ab_ (iP_ (s:=j.s) (by omega)),ae_]
  all_goals (
   simp only [FEnc,hk,Int.reduceBEq,cond_true,cond_false,ab_ hJ]
   unfold ej_ at hjl ⊢
   generalize Lib.join ((List.range j.list.length).map (dD_ (FEnc d) j)) [44]=o at hjl ⊢
   simp only [al_,ae_,dC_]
   refine ⟨fun _=>⟨fun _=>trivial,fun hc => ?_⟩,fun hc => ?_⟩
   · have hc:=of_decide_eq_false hc
     simp only [List.length_append,List.length_cons,List.length_nil] at hc;omega
   · have hc:=of_decide_eq_false hc
     simp only [List.length_append,List.length_cons,List.length_nil] at hc;omega)
def bB_ (j:aa_):Bs:=cond (cI_ j) (cond (decide (((FEnc 6 j).length:Int) > 6000)) [] (FEnc 6 j)) []
theorem dS_ {j:aa_} (h:ft_ 6 j):Ev (fun n _=>cY_ n j) (bB_ j):=by
 refine ao_ ?_
 simp only [cY_,aW_,ab_ (dz_ h),al_,ae_,bB_]
 cases hj:cI_ j with
 |false=>simp
 |true=>
  simp only [ab_ (hB_ 6 j (of_decide_eq_true hj)),al_,ae_]
  cases decide (((FEnc 6 j).length:Int) > 6000)<;>simp
theorem ei_ {j:aa_} (h:ft_ 6 j):Ev (fun n _=>dr_ n j) (bB_ j):=by
 refine ao_ ?_
 simp only [dr_,aW_,ab_ (eD_ h),al_,ae_,bB_]
 cases hj:cI_ j with
 |false=>simp
 |true=>
  simp only [ab_ (h5_ 6 j (of_decide_eq_true hj)),al_,ae_]
  cases decide (((FEnc 6 j).length:Int) > 6000)<;>simp
end Go.Pi
end
section
namespace Go.Pi
def tp_:Nat→aa_→Prop
 |0,_=>False
 |d+1,j=>∀ x ∈ j.list,tp_ d x
theorem ha_:∀ (d:Nat) (j:aa_),bG_ d j≤400→tp_ d j
 |0,j,h=>by simp only [bG_] at h;omega
 |d+1,j,h=>fun x hx=>by
  refine ha_ d x ?_
  simp only [bG_] at h
  have:=iW_ (bG_ d) hx
  cases ho:FOwn j with
  |false=>rw [ho] at h;simp only [cond_false] at h;omega
  |true=>rw [ho] at h;simp only [cond_true] at h;omega
def je_ (a b:List Bs):Bool:=decide (a.length=b.length)&&iG_ (fun i=>a.getD i [] == b.getD i []) a.length
def e5_:Nat→aa_→aa_→Bool
 |0,_,_=>true
 |d+1,a,b=>(a.kind == b.kind)&&((a.n_ == b.n_)&&((a.s == b.s)&&(je_ a.names b.names&&(decide (a.list.length=b.list.length)&&iG_ (fun i=>e5_ d (a.list.getD i aa_.dflt) (b.list.getD i aa_.dflt)) a.list.length))))
theorem r1_ {n m:Nat}:((n:Int) != (m:Int)) = !decide (n=m):=by
 by_cases h:n=m
 · rw [h,decide_eq_true rfl];simp
 · rw [decide_eq_false h];simp;omega
theorem fJ_:∀ (d:Nat) (a b:aa_),tp_ d a→ft_ d a→Ev (fun n _=>aq_ n a b) (e5_ d a b)
 |0,a,b,h,_=>h.elim
 |d+1,a,b,h,hl=>by
  refine ao_ ?_
  simp only [aq_,r1_,al_,ae_,e5_,je_]
  by_cases hq:a.list.length=b.list.length
  · by_cases hq2:a.names.length=b.names.length
    · have hN:Ev (fun n _=>aq_.loop14 n (aq_ n) (some true) n 0 a.kind a.n_ a.s a.list a.names b.kind b.n_ b.s b.list b.names) (iG_ (fun i=>a.names.getD i [] == b.names.getD i []) a.names.length):=by
       refine ge_ (e3_ (fun n N i=>aq_.loop14 n (aq_ n) (some true) N (i:Int) a.kind a.n_ a.s a.list a.names b.kind b.n_ b.s b.list b.names) (fun i=>a.names.getD i [] == b.names.getD i []) (len:=a.names.length) (v:=true) (fun i w hi ih => ?_) ?_) (by rw [Bool.and_true])
       · simp only [aq_.turn14,aq_.step14,Int.toNat_natCast,W_up hi hl.1.2.1,al_,bb_,ae_,dE_ ih,cC_ hi,ch_ hi,ch_ (hq2 ▸ hi)]
         cases (a.names.getD i [] == b.names.getD i [])<;>simp
       · simp only [aq_.turn14,aq_.step14,cr_,cond_false,ae_]
      have hL:Ev (fun n _=>aq_.loop6 n (aq_ n) (fun xy2 xy3 xy4 xy5 xy6 xy7 xy8 xy9 xy10 xy11=>(aq_.loop14 n (aq_ n) (some true) n 0 xy2 xy3 xy4 xy5 xy6 xy7 xy8 xy9 xy10 xy11)) n 0 a.kind a.n_ a.s a.list a.names b.kind b.n_ b.s b.list b.names) (iG_ (fun i=>e5_ d (a.list.getD i aa_.dflt) (b.list.getD i aa_.dflt)) a.list.length&&iG_ (fun i=>a.names.getD i [] == b.names.getD i []) a.names.length):=by
       refine e3_ (fun n N i=>aq_.loop6 n (aq_ n) (fun xy2 xy3 xy4 xy5 xy6 xy7 xy8 xy9 xy10 xy11=>(aq_.loop14 n (aq_ n) (some true) n 0 xy2 xy3 xy4 xy5 xy6 xy7 xy8 xy9 xy10 xy11)) N (i:Int) a.kind a.n_ a.s a.list a.names b.kind b.n_ b.s b.list b.names) _ (fun i w hi ih => ?_) ?_
       · have hx:=fJ_ d (a.list.getD i aa_.dflt) (b.list.getD i aa_.dflt) (h _ (bY_ _ hi)) (hl.2.2 _ (bY_ _ hi))
         simp only [aq_.turn6,aq_.step6,aW_,Int.toNat_natCast,W_up hi hl.2.1,al_,bb_,ab_ hx,ae_,dE_ ih,cC_ hi,ch_ hi,ch_ (hq ▸ hi)]
         cases e5_ d (a.list.getD i aa_.dflt) (b.list.getD i aa_.dflt)<;>simp
       · simp only [aq_.turn6,aq_.step6,cr_,cond_false]
         exact hN
      rw [decide_eq_true hq,decide_eq_true hq2]
      simp only [dE_ hL,bne]
      generalize iG_ (fun i=>e5_ d (a.list.getD i aa_.dflt) (b.list.getD i aa_.dflt)) a.list.length=u
      generalize iG_ (fun i=>a.names.getD i [] == b.names.getD i []) a.names.length=w
      cases (a.kind == b.kind)<;>cases (a.n_ == b.n_)<;>cases (a.s == b.s)<;>cases u<;>cases w<;>simp
    · rw [decide_eq_false hq2]
      simp only [bne]
      cases (a.kind == b.kind)<;>cases (a.n_ == b.n_)<;>cases (a.s == b.s)<;>cases decide (a.list.length=b.list.length)<;>simp
  · rw [decide_eq_false hq]
    simp only [bne]
    cases (a.kind == b.kind)<;>cases (a.n_ == b.n_)<;>cases (a.s == b.s)<;>simp
end Go.Pi
end
section
namespace Go.Pi
def gY_ (ns:List Bs) (x:Bs):Nat:=ns.findIdx (fun y => !Op.bytesLess y x)
def gX_ (ns:List Bs) (x:Bs):Nat:=if ns.getD (gY_ ns x) []=x∧gY_ ns x<ns.length then gY_ ns x+1 else gY_ ns x
def l4_ {α:Type} (ns:List Bs) (x:Bs) (l:List α) (y:α):List α:=l.take (gY_ ns x)++[y]++l.drop (gX_ ns x)
theorem ir_ {α:Type} (d:α) {a m:List α} {i q:Nat} (p:Nat) (hi:i<a.length) (h:q≤i):a.take p++m++(a.take (i+1)).drop q=a.take p++m++(a.take i).drop q++[a.getD i d]:=by
 rw [cE_ d hi,List.drop_append_of_le_length (by simp;omega)]
 simp
theorem put_idx {ns:List Bs} {x:Bs} {i:Nat} (hi:i<ns.length) (hle:i≤gY_ ns x):(!Op.bytesLess (ns.getD i []) x)=decide (i=gY_ ns x):=by
 rw [List.getD_eq_getElem?_getD,List.getElem?_eq_getElem hi,Option.getD_some]
 unfold gY_ at hle ⊢
 by_cases h:i=ns.findIdx (fun y => !Op.bytesLess y x)
 · rw [decide_eq_true h]
   have:=List.findIdx_getElem (xs:=ns) (p:=fun y => !Op.bytesLess y x) (w:=by omega)
   simp only [←h] at this
   exact this
 · rw [decide_eq_false h]
   exact List.not_of_lt_findIdx (xs:=ns) (p:=fun y => !Op.bytesLess y x) (i:=i) (by omega)
theorem hg_ {o j:aa_} {x:Bs} (hk:o.names.length≤2000000) (he:o.list.length=o.names.length) (hlt:∀ y,Op.bytesLess y x=true→(y == x)=false) (hne:∀ i,gX_ o.names x≤i→i<o.names.length→(o.names.getD i [] == x)=false) :
  Ev (fun n _=>bO_ n o x j) (aa_.mk 5 0 [] (l4_ o.names x o.list j) (l4_ o.names x o.names x)):=by
 refine ao_ ?_
 have ht:o.names.length≤cb_:=by simp only [cb_];omega
 obtain ⟨p,hp⟩:∃ p,p=gY_ o.names x:=⟨_,rfl⟩
 have hpl:p≤o.names.length:=by rw [hp];exact List.findIdx_le_length
 obtain ⟨q,hq⟩:∃ q,q=gX_ o.names x:=⟨_,rfl⟩
 have hqp:p≤q∧q≤p+1:=by rw [hq,hp];unfold gX_;split<;>omega
 have hT:o.list.take o.names.length=o.list:=List.take_of_length_le (by omega)
 let S:Nat→Bool × List aa_ × List Bs:=fun i=>if i≤p then (false,o.list.take i,o.names.take i) else (true,o.list.take p++[j]++(o.list.take i).drop q,o.names.take p++[x]++(o.names.take i).drop q)
 have hS0:S 0=(false,[],[]):=by simp [S]
 simp only [bO_]
 have:=eI_ S o.names.length (fun n N i (s:Bool × List aa_ × List Bs)=>bO_.loop5 n (fun xy1 xy2 xy3 xy4 xy5 xy6 xy7 xy8 xy9 xy10 xy11 xy12 xy13 xy14 xy15=>(cond (!xy2) (bm_ (xy15.length+([xy1]:List Bs).length) 16 (bm_ (xy14.length+([(aa_.mk xy3 xy4 xy5 xy6 xy7)]:List aa_).length) 80 (some (aa_.mk xy11 xy12 xy13 (xy14++([(aa_.mk xy3 xy4 xy5 xy6 xy7)]:List aa_)) (xy15++([xy1]:List Bs)))))) (some (aa_.mk xy11 xy12 xy13 xy14 xy15)))) N x s.1 (i:Int) o.kind o.n_ o.s o.list o.names j.kind j.n_ j.s j.list j.names 0 0 [] 5 0 [] s.2.1 s.2.2)
  (aa_.mk 5 0 [] (l4_ o.names x o.list j) (l4_ o.names x o.names x)) (fun i hi F hF => ?_) ?_
 · rw [hS0] at this;exact this
 · have hx:=put_idx (ns:=o.names) (x:=x) hi
   rw [←hp] at hx
   have hln:(S i).2.2.length≤o.names.length+1:=by simp only [S];split<;>simp<;>omega
   have hll:(S i).2.1.length≤o.names.length+1:=by simp only [S];split<;>simp<;>omega
   have hil:i<o.list.length:=by omega
   simp only [bO_.turn5,bO_.step5,ec_,aW_,Int.toNat_natCast,W_up hi ht,al_,bb_,ba_,cC_ hi,ch_ hi,ch_ hil]
   by_cases hle:i≤p
   · have s1:S i=(false,o.list.take i,o.names.take i):=by simp only [S,if_pos hle]
     rw [s1] at hln hll ⊢
     by_cases e:i=p
     · have hb:(!Op.bytesLess (o.names.getD i []) x)=true:=by rw [hx hle];exact decide_eq_true e
       subst e
       by_cases hs:o.names.getD i []=x
       · have hqv:q=i+1:=by rw [hq];unfold gX_;rw [←hp,if_pos ⟨hs,hi⟩]
         have s2:S (i+1)=(true,o.list.take i++[j],o.names.take i++[x]):=by
          simp only [S,if_neg (show ¬ i+1≤i by omega)]
          rw [List.drop_eq_nil_of_le (by simp;omega),List.drop_eq_nil_of_le (by simp;omega),List.append_nil,List.append_nil]
         rw [s2] at hF
         have hs':(o.names.getD i [] == x)=true:=by simpa using hs
         simp only [hb,hs',cond_true,cond_false,Bool.not_true,Bool.not_false]
         repeat' (first|apply And.intro|intro _)
         all_goals (first|contradiction|exact hF|trivial|(simp;omega))
       · have hqv:q=i:=by rw [hq];unfold gX_;rw [←hp,if_neg (fun h=>hs h.1)]
         have s2:S (i+1)=(true,o.list.take i++[j]++[o.list.getD i aa_.dflt],o.names.take i++[x]++[o.names.getD i []]):=by
          simp only [S,if_neg (show ¬ i+1≤i by omega),hqv]
          rw [ir_ aa_.dflt i hil (Nat.le_refl _),ir_ [] i hi (Nat.le_refl _),List.drop_eq_nil_of_le (by simp;omega),List.drop_eq_nil_of_le (by simp;omega),List.append_nil,List.append_nil]
         rw [s2] at hF
         have hs':(o.names.getD i [] == x)=false:=by simpa using hs
         simp only [hb,hs',cond_true,cond_false,Bool.not_true,Bool.not_false]
         repeat' (first|apply And.intro|intro _)
         all_goals (first|contradiction|exact hF|trivial|(simp;omega))
     · have hb:(!Op.bytesLess (o.names.getD i []) x)=false:=by rw [hx hle];exact decide_eq_false e
       have hs':(o.names.getD i [] == x)=false:=hlt (o.names.getD i []) (by rw [Bool.not_eq_false'] at hb;exact hb)
       have s2:S (i+1)=(false,o.list.take i++[o.list.getD i aa_.dflt],o.names.take i++[o.names.getD i []]):=by
        simp only [S,if_pos (show i+1≤p by omega),cE_ aa_.dflt hil,cE_ [] hi]
       rw [s2] at hF
       simp only [hb,hs',cond_true,cond_false,Bool.not_true,Bool.not_false]
       repeat' (first|apply And.intro|intro _)
       all_goals (first|contradiction|exact hF|trivial|(simp;omega))
   · have s1:S i=(true,o.list.take p++[j]++(o.list.take i).drop q,o.names.take p++[x]++(o.names.take i).drop q):=by simp only [S,if_neg hle]
     have s2:S (i+1)=(true,o.list.take p++[j]++(o.list.take i).drop q++[o.list.getD i aa_.dflt],o.names.take p++[x]++(o.names.take i).drop q++[o.names.getD i []]):=by
      simp only [S,if_neg (show ¬ i+1≤p by omega)]
      rw [ir_ aa_.dflt p hil (by omega),ir_ [] p hi (by omega)]
     have hs':=hne i (by omega) hi
     rw [s1] at hln hll ⊢
     rw [s2] at hF
     simp only [hs',cond_true,cond_false,Bool.not_true,Bool.not_false]
     repeat' (first|apply And.intro|intro _)
     all_goals (first|contradiction|exact hF|trivial|(simp at hln hll ⊢;omega))
 · simp only [bO_.turn5,bO_.step5,ec_,cr_,cond_false,al_,ba_,ae_]
   unfold l4_
   rw [←hp,←hq]
   by_cases hle:o.names.length≤p
   · have e:p=o.names.length:=by omega
     have hqv:q=p:=by rw [hq];unfold gX_;rw [←hp,if_neg (fun h=>by omega)]
     have s1:S o.names.length=(false,o.list,o.names):=by simp only [S,if_pos hle,List.take_length];rw [List.take_of_length_le (by omega)]
     rw [s1,hqv,e,List.take_of_length_le (l:=o.list) (by omega),List.drop_eq_nil_of_le (show o.list.length≤o.names.length by omega),List.take_length,List.drop_length]
     refine ⟨fun _=>⟨by simp;omega,by simp;omega,by simp⟩,fun h=>(by cases h)⟩
   · have s1:S o.names.length=(true,o.list.take p++[j]++o.list.drop q,o.names.take p++[x]++o.names.drop q):=by simp only [S,if_neg hle,List.take_length];rw [hT]
     rw [s1]
     exact ⟨fun h=>(by cases h),fun _=>rfl⟩
end Go.Pi
end
section
namespace Go.Pi
theorem jb_:∀ (x y:Bs),Op.bytesLess x y=decide (x<y)
 |[],[]=>by simp [Op.bytesLess]
 |_::_,[]=>by simp [Op.bytesLess]
 |[],_::_=>by simp [Op.bytesLess]
 |a::x,b::y=>by
  rw [Op.bytesLess,jb_ x y]
  simp only [List.cons_lt_cons_iff]
  by_cases h1:a<b<;>by_cases h2:a=b<;>by_cases h3:x<y<;>simp [h1,h2,h3]
theorem less_ne {x y:Bs} (h:Op.bytesLess y x=true):(y == x)=false:=by
 rw [jb_] at h
 exact beq_eq_false_iff_ne.2 fun e=>by subst e;exact List.lt_irrefl y (of_decide_eq_true h)
end Go.Pi
end
section
namespace Go.Pi
def g5_:aa_:=aa_.mk 0 0 [] [] []
def eO_ (j:aa_):aa_:=cond (cI_ j) j g5_
theorem orNull_ev {j:aa_} (h:ft_ 6 j):Ev (fun n _=>ef_ n j) (eO_ j):=by
 refine ao_ ?_
 simp only [ef_,aW_,ab_ (eD_ h),al_,ae_,eO_,g5_]
 cases cI_ j<;>simp
end Go.Pi
end
section
namespace Go.Pi
theorem fR_ {d:Nat} {j:aa_} (h:bG_ (d+1) j≤400):j.names.length≤400:=by
 have h1:=eT_ h
 have ho:=(d2_ h).1
 by_cases hk:j.kind=5
 · have:=(ho.obj hk).1;omega
 · have:FOwn j=true:=by
    simp only [bG_] at h
    cases hf:FOwn j with
    |true=>rfl
    |false=>rw [hf,cond_false] at h;omega
   unfold FOwn at this
   simp only [Bool.and_eq_true,Bool.or_eq_true] at this
   rcases this.2.1 with h2|h2
   · have:=of_decide_eq_true h2;omega
   · exact absurd (by simpa using h2) hk
theorem f0_:∀ (d:Nat) (j:aa_),bG_ d j≤400→Ev (fun n _=>a7_ n j) j
 |0,j,h=>by simp only [bG_] at h;omega
 |d+1,j,h=>by
  have hll:=eT_ h
  have hnl:=fR_ h
  refine ao_ ?_
  have hc:Ev (fun n _=>dA_ n j.names) j.names:=ao_ (by simp only [dA_,ba_,ae_,List.nil_append,List.length_nil,and_true];omega)
  simp only [a7_,ab_ hc]
  have:=eI_ (fun i=>j.list.take i) j.list.length (fun n N i (o:List aa_)=>a7_.loop4 n (a7_ n) (fun xy3 xy4 xy5 xy6 xy7 xy8 xy9 xy10=>(some (aa_.mk xy6 xy7 xy8 xy9 xy10))) N j.list (j.list.length:Int) (i:Int) 0 0 [] j.kind j.n_ j.s o j.names) j (fun i hi F hF => ?_) ?_
  · exact this
  · have hp:=fB_ h hi
    have hx:=f0_ d (j.list.getD i aa_.dflt) hp.size
    rw [cE_ aa_.dflt hi] at hF
    simp only [a7_.turn4,a7_.step4,aW_,Int.toNat_natCast,W_up hi (show j.list.length≤cb_ by simp only [cb_];omega),al_,bb_,ba_,cC_ hi,ch_ hi,ab_ hx]
    exact ⟨fun _=>⟨trivial,by simp;omega,hF⟩,fun h=>(by cases h)⟩
  · simp only [a7_.turn4,a7_.step4,cr_,cond_false,List.take_length,ae_,ec_]
theorem eZ_:∀ (d:Nat) (j:aa_),bG_ d j≤400→Ev (fun n _=>bq_ n j) j
 |0,j,h=>by simp only [bG_] at h;omega
 |d+1,j,h=>by
  have hll:=eT_ h
  have hnl:=fR_ h
  refine ao_ ?_
  simp only [bq_,ba_,List.nil_append,List.length_nil]
  refine ⟨by omega,?_⟩
  have:=eI_ (fun i=>j.list.take i) j.list.length (fun n N i (o:List aa_)=>bq_.loop4 n (bq_ n) (fun xy2 xy3 xy4 xy5 xy6 xy7 xy8 xy9=>(some (aa_.mk xy5 xy6 xy7 xy8 xy9))) N (i:Int) j.kind j.n_ j.s j.list j.names 0 0 [] j.kind j.n_ j.s o j.names) j (fun i hi F hF => ?_) ?_
  · exact this
  · have hp:=fB_ h hi
    have hx:=eZ_ d (j.list.getD i aa_.dflt) hp.size
    rw [cE_ aa_.dflt hi] at hF
    simp only [bq_.turn4,bq_.step4,aW_,Int.toNat_natCast,W_up hi (show j.list.length≤cb_ by simp only [cb_];omega),al_,bb_,ba_,cC_ hi,ch_ hi,ab_ hx]
    exact ⟨fun _=>⟨trivial,by simp;omega,hF⟩,fun h=>(by cases h)⟩
  · simp only [bq_.turn4,bq_.step4,cr_,cond_false,List.take_length,ae_,ec_]
def j0_ (j:aa_):Bool:=(j.kind == 0)&&((j.n_ == 0)&&((j.s == [])&&(decide (j.list.length=0)&&decide (j.names.length=0))))
theorem oC_ {α:Type} (l:List α):((l.length:Int) == 0)=decide (l.length=0):=by
 by_cases h:l.length=0
 · rw [h];rfl
 · rw [decide_eq_false h];simp;intro e;exact h (by rw [e];rfl)
theorem iQ_ {j:aa_}:Ev (fun n _=>dZ_ n j) (j0_ j):=by
 refine ao_ ?_
 simp only [dZ_,al_,ae_,j0_,oC_]
 cases (j.kind == 0)<;>cases (j.n_ == 0)<;>cases (j.s == [])<;>cases decide (j.list.length=0)<;>simp
theorem ts_ (d:Nat) (j:aa_):e5_ (d+1) j g5_=j0_ j:=by
 simp only [e5_,g5_,je_,j0_,List.length_nil]
 by_cases h1:j.names.length=0
 · by_cases h2:j.list.length=0
   · rw [h1,h2];simp [iG_,ii_]
   · have h2:j.list≠[]:=fun e=>h2 (by rw [e];rfl)
     simp [h2]
 · have h1:j.names≠[]:=fun e=>h1 (by rw [e];rfl)
   simp [h1]
def sK_ (w:List Bs):Bool:=iG_ (fun i=>jf_ (w.getD i [])) w.length
def iI_ (o:TOp):Bool:=inn o.kind 1 4&&(decide (o.way.length≤6)&&(cI_ o.value&&(sK_ o.way&&((o.kind != 2)||j0_ o.value))))
def fS_ (o:TOp):Prop:=lenNs cb_ o.way∧ft_ 6 o.value
theorem hE_ (o:TOp):TOp.mk o.kind o.way o.value=o:=rfl
theorem gt_le {n:Nat}:decide ((n:Int) > 6) = !decide (n≤6):=by
 by_cases h:n≤6
 · rw [decide_eq_true h,decide_eq_false (by omega)];rfl
 · rw [decide_eq_false h,decide_eq_true (by omega)];rfl
theorem le_le {n:Nat}:decide ((n:Int)≤6)=decide (n≤6):=by
 by_cases h:n≤6
 · rw [decide_eq_true h,decide_eq_true (by omega)]
 · rw [decide_eq_false h,decide_eq_false (by omega)]
theorem pw_ {o:TOp} (h:fS_ o):Ev (fun n _=>cv_ n o) (iI_ o):=by
 refine ao_ ?_
 simp only [cv_,aW_,fT_,ab_ (dz_ h.2),al_,ae_,gt_le,iI_]
 cases hj:cI_ o.value with
 |false=>cases inn o.kind 1 4<;>cases decide (o.way.length≤6)<;>simp
 |true=>
  have hS:=fJ_ 6 o.value g5_ (ha_ 6 o.value (of_decide_eq_true hj)) h.2
  rw [ts_] at hS
  unfold g5_ at hS
  have hl:Ev (fun n _=>cv_.loop6 n (fun xy4 xy5 xy6 xy7 xy8 xy9 xy10=>(cond (xy4 != 2) (some true) ((aq_ n (aa_.mk xy6 xy7 xy8 xy9 xy10) (aa_.mk 0 0 [] [] [])).bind fun xr11=>(some xr11)))) n 0 o.kind o.way o.value.kind o.value.n_ o.value.s o.value.list o.value.names) (sK_ o.way&&((o.kind != 2)||j0_ o.value)):=by
   refine e3_ (fun n N i=>cv_.loop6 n (fun xy4 xy5 xy6 xy7 xy8 xy9 xy10=>(cond (xy4 != 2) (some true) ((aq_ n (aa_.mk xy6 xy7 xy8 xy9 xy10) (aa_.mk 0 0 [] [] [])).bind fun xr11=>(some xr11)))) N (i:Int) o.kind o.way o.value.kind o.value.n_ o.value.s o.value.list o.value.names) _ (fun i w hi ih => ?_) ?_
   · simp only [cv_.turn6,cv_.step6,Int.toNat_natCast,W_up hi h.1.1,al_,bb_,ab_ (gT_ (jP_ h.1 i)),ae_,dE_ ih,cC_ hi,ch_ hi]
     cases jf_ (o.way.getD i [])<;>simp
   · simp only [cv_.turn6,cv_.step6,cr_,cond_false,ec_,al_,ab_ hS,ae_]
     cases (o.kind != 2)<;>simp
  simp only [dE_ hl]
  cases inn o.kind 1 4<;>cases decide (o.way.length≤6)<;>simp
theorem h9_ {o:TOp} (h:fS_ o):Ev (fun n _=>cw_ n o) (iI_ o):=by
 refine ao_ ?_
 simp only [cw_]
 have e:iI_ o=(sK_ o.way&&(inn o.kind 1 4&&(decide (o.way.length≤6)&&(cI_ o.value&&((o.kind != 2)||j0_ o.value))))):=by
  unfold iI_
  cases inn o.kind 1 4<;>cases decide (o.way.length≤6)<;>cases cI_ o.value<;>cases sK_ o.way<;>simp
 rw [e]
 refine e3_ (fun n N i=>cw_.loop3 n (fun xy2 xy3 xy4 xy5 xy6 xy7 xy8=>((aN_ n xy2 1 4).bind fun xr9=>(cond xr9 (cond (decide ((xy3.length:Int)≤6)) ((c7_ n (aa_.mk xy4 xy5 xy6 xy7 xy8)).bind fun xr10=>(cond xr10 (cond (xy2 != 2) (some true) ((dZ_ n (aa_.mk xy4 xy5 xy6 xy7 xy8)).bind fun xr11=>(some xr11))) (some false))) (some false)) (some false)))) N o.way (o.way.length:Int) (i:Int) o.kind o.way o.value.kind o.value.n_ o.value.s o.value.list o.value.names) _ (fun i w hi ih => ?_) ?_
 · simp only [cw_.turn3,cw_.step3,Int.toNat_natCast,W_up hi h.1.1,al_,bb_,ab_ (g0_ (jP_ h.1 i)),ae_,dE_ ih,cC_ hi,ch_ hi]
   cases jf_ (o.way.getD i [])<;>simp
 · simp only [cw_.turn3,cw_.step3,cr_,cond_false,ec_,al_,gE_,le_le,ab_ (eD_ h.2),ab_ iQ_,ae_]
   cases inn o.kind 1 4<;>cases decide (o.way.length≤6)<;>cases cI_ o.value<;>cases (o.kind != 2)<;>simp
def f3_ (k:Int):Bs:=cond (k == 1) [97,100,100] (cond (k == 2) [114,101,109,111,118,101] (cond (k == 3) [114,101,112,108,97,99,101] [116,101,115,116]))
def sM_ (s:Bs):aa_:=aa_.mk 3 0 s [] []
abbrev tz_:Bs:=[111,112]
abbrev fQ_:Bs:=[112,97,116,104]
abbrev hm_:Bs:=[118,97,108,117,101]
def ey_ (o:TOp):aa_:=cond (o.kind == 2) (aa_.mk 5 0 [] [sM_ (f3_ o.kind),sM_ (FWay o.way)] [tz_,fQ_]) (aa_.mk 5 0 [] [sM_ (f3_ o.kind),sM_ (FWay o.way),o.value] [tz_,fQ_,hm_])
def cH_ (o:TOp):aa_:=cond (iI_ o) (eO_ (ey_ o)) g5_
theorem q1_:∀ (d:Nat) (j:aa_),ft_ (d+1) j→ft_ d j
 |0,_,_=>trivial
 |d+1,j,h=>⟨h.1,h.2.1,fun x hx=>q1_ d x (h.2.2 x hx)⟩
theorem lq_ {s:Bs} (h:s.length≤cb_):∀ d,ft_ d (sM_ s)
 |0=>trivial
 |d+1=>⟨⟨h,Nat.zero_le _,fun x hx=>(by cases hx)⟩,Nat.zero_le _,fun x hx=>(by cases hx)⟩
theorem eq_:∀ d,ft_ d g5_
 |0=>trivial
 |d+1=>⟨⟨Nat.zero_le _,Nat.zero_le _,fun x hx=>(by cases hx)⟩,Nat.zero_le _,fun x hx=>(by cases hx)⟩
structure OpIs (o:TOp):Prop where
 kind:o.kind=1∨o.kind=2∨o.kind=3∨o.kind=4
 way:o.way.length≤6
 text:∀ s ∈ o.way,s.length≤60
 val:bG_ 6 o.value≤400
theorem sY_ {o:TOp} (h:iI_ o=true):OpIs o:=by
 unfold iI_ at h
 simp only [Bool.and_eq_true] at h
 obtain ⟨h1,h2,h3,h4,_⟩:=h
 have hk:=gM_ h1
 refine ⟨by omega,of_decide_eq_true h2,fun s hs => ?_,of_decide_eq_true h3⟩
 obtain ⟨i,hi,e⟩:=List.mem_iff_getElem.1 hs
 have:=e8_.1 h4 i hi
 rw [List.getD_eq_getElem?_getD,List.getElem?_eq_getElem hi,Option.getD_some,e] at this
 exact il_ this
theorem name_len (k:Int):(f3_ k).length≤60:=by
 unfold f3_
 cases (k == 1)<;>cases (k == 2)<;>cases (k == 3)<;>simp
theorem ko_ {o:TOp} (h:fS_ o) (ho:OpIs o):ft_ 6 (ey_ o):=by
 have hw:=o9_ ho.text
 have hwl:=ho.way
 have hw2:(FWay o.way).length≤cb_:=by simp only [cb_];omega
 have hn:(f3_ o.kind).length≤cb_:=by have:=name_len o.kind;simp only [cb_];omega
 have hv:=q1_ 5 _ h.2
 unfold ey_
 cases (o.kind == 2) with
 |true=>
  refine ⟨⟨Nat.zero_le _,by show 2≤cb_;decide,fun x hx => ?_⟩,by show 2≤cb_;decide,fun x hx => ?_⟩
  · simp at hx;rcases hx with e|e<;>(rw [e];decide)
  · simp at hx;rcases hx with e|e
    · rw [e];exact lq_ hn 5
    · rw [e];exact lq_ hw2 5
 |false=>
  refine ⟨⟨Nat.zero_le _,by show 3≤cb_;decide,fun x hx => ?_⟩,by show 3≤cb_;decide,fun x hx => ?_⟩
  · simp at hx;rcases hx with e|e|e<;>(rw [e];decide)
  · simp at hx;rcases hx with e|e|e
    · rw [e];exact lq_ hn 5
    · rw [e];exact lq_ hw2 5
    · rw [e];exact hv
theorem i6_ {o:TOp} (h:fS_ o):ft_ 6 (cH_ o):=by
 unfold cH_
 cases ho:iI_ o with
 |false=>exact eq_ 6
 |true=>
  unfold eO_
  cases cI_ (ey_ o) with
  |false=>exact eq_ 6
  |true=>exact ko_ h (sY_ ho)
theorem put_value (a b v:aa_):Ev (fun n _=>bO_ n (aa_.mk 5 0 [] [a,b] [tz_,fQ_]) hm_ v) (aa_.mk 5 0 [] [a,b,v] [tz_,fQ_,hm_]) :=
 hg_ (o:=aa_.mk 5 0 [] [a,b] [tz_,fQ_]) (j:=v) (x:=hm_) (by show 2≤2000000;decide) rfl (fun _=>less_ne) (fun i h1 h2=>by
  have:gX_ [tz_,fQ_] hm_=2:=by decide
  have h2:i<2:=h2
  have h1:gX_ [tz_,fQ_] hm_≤i:=h1
  omega)
theorem ez_ {o:TOp} (h:fS_ o):Ev (fun n _=>dX_ n o) (cH_ o):=by
 refine ao_ ?_
 have hN:Ev (fun n _=>dj_ n ()) [[],[97,100,100],[114,101,109,111,118,101],[114,101,112,108,97,99,101],[116,101,115,116]]:=ao_ (by simp only [dj_,ae_])
 simp only [dX_,aW_,hE_,ab_ (pw_ h),al_,ae_]
 unfold cH_
 cases ho:iI_ o with
 |false=>exact ⟨fun _=>rfl,fun h=>(by cases h)⟩
 |true=>
  refine ⟨fun h=>(by cases h),fun _ => ?_⟩
  have hi:=sY_ ho
  have hV:=dz_ (ko_ h hi)
  have hCp:=eZ_ 6 o.value hi.val
  simp only [ab_ hN,bb_,ab_ (lK_ hi.way hi.text)]
  unfold eO_ g5_ ey_ sM_ f3_
  unfold ey_ sM_ f3_ at hV
  rcases hi.kind with hk|hk|hk|hk
  all_goals (
   simp only [hk,Int.reduceBEq,cond_true,cond_false] at hV
   simp only [hk,Int.reduceBEq,cond_true,cond_false,bne,Bool.not_false,Bool.not_true,Int.reduceToNat,List.getD_cons_succ,List.getD_cons_zero,al_,ab_ hCp,ab_ (put_value _ _ _),ab_ hV,ae_]
   refine ⟨⟨by decide,by decide⟩,?_⟩
   generalize cI_ _=q
   cases q<;>simp)
theorem fM_ {o:TOp} (h:fS_ o):Ev (fun n _=>eh_ n o) (cH_ o):=by
 refine ao_ ?_
 have hN:Ev (fun n _=>dl_ n ()) [[97,100,100],[114,101,109,111,118,101],[114,101,112,108,97,99,101],[116,101,115,116]]:=ao_ (by simp only [dl_,ae_])
 simp only [eh_,aW_,hE_,ab_ (h9_ h),al_,ae_]
 unfold cH_
 cases ho:iI_ o with
 |false=>exact ⟨fun _=>rfl,fun h=>(by cases h)⟩
 |true=>
  refine ⟨fun h=>(by cases h),fun _ => ?_⟩
  have hi:=sY_ ho
  have hV:=orNull_ev (ko_ h hi)
  have hCp:=f0_ 6 o.value hi.val
  simp only [ab_ hN,bb_,ab_ (h7_ hi.way hi.text)]
  simp only [cond_true]
  unfold ey_ sM_ f3_
  unfold ey_ sM_ f3_ at hV
  have w1:W ((1:Int) - 1)=0:=by rw [W_id (by decide) (by decide)];rfl
  have w2:W ((2:Int) - 1)=1:=by rw [W_id (by decide) (by decide)];rfl
  have w3:W ((3:Int) - 1)=2:=by rw [W_id (by decide) (by decide)];rfl
  have w4:W ((4:Int) - 1)=3:=by rw [W_id (by decide) (by decide)];rfl
  rcases hi.kind with hk|hk|hk|hk
  all_goals (
   simp only [hk,Int.reduceBEq,cond_true,cond_false] at hV
   simp only [hk,w1,w2,w3,w4,Int.reduceBEq,cond_true,cond_false,bne,Bool.not_false,Bool.not_true,Int.reduceToNat,List.getD_cons_succ,List.getD_cons_zero,List.cons_append,List.nil_append,al_,ba_,ab_ hCp,ab_ hV,ae_,true_implies,false_implies,reduceCtorEq,and_true,true_and]
   simp only [List.length_cons,List.length_nil]
   decide)
end Go.Pi
end
section
namespace Go.Pi
def pfx (p s:Bs):Bool:=p.isPrefixOf s
theorem pG_ {a c:UInt8} (h:c≠a) (p t:Bs):pfx (a::p) (c::t)=false:=by
 have e:(a == c)=false:=beq_eq_false_iff_ne.2 fun e=>h e.symm
 show (a == c&&List.isPrefixOf p t)=false
 rw [e];rfl
theorem pfx_nil (a:UInt8) (p:Bs):pfx (a::p) []=false:=rfl
theorem i4_ (p t:Bs):pfx p (p++t)=true:=List.isPrefixOf_iff_prefix.2 (List.prefix_append p t)
theorem i3_ {p t:Bs} (h:pfx p t=true):p.length≤t.length:=(List.isPrefixOf_iff_prefix.1 h).length_le
theorem lo_ (p s:Bs):pfx p s=((s.take p.length).drop 0 == p):=by
 rw [List.drop_zero]
 refine Bool.eq_iff_iff.2 ?_
 rw [beq_iff_eq]
 exact ⟨fun h=>(List.prefix_iff_eq_take.1 (List.isPrefixOf_iff_prefix.1 h)).symm,fun h=>List.isPrefixOf_iff_prefix.2 (List.prefix_iff_eq_take.2 h.symm)⟩
section
variable {β:Type} {g:Nat→Nat→Bool→Option β} {v:β}
theorem ik_ {s p:Bs}:Ev (fun n _=>bn_ n s p) (pfx p s):=by
 refine ao_ ?_
 simp only [bn_,al_,d1_,ae_,Int.toNat_natCast]
 refine ⟨fun h => ?_,fun h => ?_⟩
 · have h:=of_decide_eq_true h
   exact ⟨⟨by omega,by omega,by omega⟩,(lo_ p s).symm⟩
 · have h:=of_decide_eq_false h
   cases e:pfx p s with
   |false=>rfl
   |true=>have:=i3_ e;omega
theorem gS_ {s p:Bs}:Ev (fun n _=>cP_ n s p) (cond (pfx p s) (s.drop p.length,true) (s,false)):=by
 have:Ev (fun n _=>bU_ n s p) (cond (pfx p s) (s.drop p.length,true) (s,false)):=by
  refine ao_ ?_
  simp only [bU_,ab_ ik_,al_,d1_,ae_,Int.toNat_natCast,List.take_length]
  cases e:pfx p s with
  |false=>exact ⟨fun _=>rfl,fun h=>(by cases h)⟩
  |true=>exact ⟨fun h=>(by cases h),fun _=>⟨⟨by omega,by have:=i3_ e;omega,by omega⟩,rfl⟩⟩
 exact ao_ (by simp only [cP_,ab_ this,ae_])
theorem hx_ {s p:Bs}:Ev (fun n _=>cJ_ n s p) (cond (pfx p s) (s.drop p.length) s):=by
 have:Ev (fun n _=>bJ_ n s p) (cond (pfx p s) (s.drop p.length) s):=by
  refine ao_ ?_
  simp only [bJ_,ab_ ik_,al_,d1_,ae_,Int.toNat_natCast,List.take_length]
  cases e:pfx p s with
  |false=>exact ⟨fun h=>(by cases h),fun _=>rfl⟩
  |true=>exact ⟨fun _=>⟨⟨by omega,by have:=i3_ e;omega,by omega⟩,rfl⟩,fun h=>(by cases h)⟩
 exact ao_ (by simp only [cJ_,ab_ this,ae_])
end
def eN_ (r:aX_) (p:Bs):Bool × aX_:=cond (pfx p r.text) (!r.bad,⟨r.text.drop p.length,r.bad⟩) (false,⟨r.text,r.bad⟩)
def mQ_ (r:aX_) (p:Bs):aX_:=cond (pfx p r.text) ⟨r.text.drop p.length,r.bad⟩ ⟨r.text,true⟩
theorem qK_ {r:aX_} {p:Bs}:Ev (fun n _=>bw_ n r p) (eN_ r p):=by
 refine ao_ ?_
 simp only [bw_,ab_ gS_,al_,ae_,eN_]
 cases pfx p r.text<;>simp
theorem want_ev {r:aX_} {p:Bs}:Ev (fun n _=>cq_ n r p) (mQ_ r p):=by
 refine ao_ ?_
 simp only [cq_,ab_ qK_,al_,ae_,eN_,mQ_]
 cases pfx p r.text<;>cases r.bad<;>simp
theorem hf_ (r:aX_) (p:Bs):(eN_ r p).2.text.length≤r.text.length:=by
 unfold eN_
 cases pfx p r.text<;>simp
theorem sN_ {r:aX_} {p:Bs} (h:(eN_ r p).1=true):(eN_ r p).2.text.length+p.length≤r.text.length:=by
 unfold eN_ at h ⊢
 cases e:pfx p r.text with
 |false=>rw [e] at h;cases h
 |true=>have:=i3_ e;simp;omega
theorem qI_ (r:aX_) (p:Bs):(mQ_ r p).text.length≤r.text.length:=by
 unfold mQ_
 cases pfx p r.text<;>simp
section
variable {β:Type} {Q:β→Prop} {v:β}
theorem rP_ {r:aX_} {p:Bs} {g:Nat→Nat→Bool × aX_→Option β}:Ans (fun n N=>(bw_ n r p).bind (g n N)) Q↔Ans (fun n N=>g n N (eN_ r p)) Q:=bf_ qK_
theorem want_a {r:aX_} {p:Bs} {g:Nat→Nat→aX_→Option β}:Ans (fun n N=>(cq_ n r p).bind (g n N)) Q↔Ans (fun n N=>g n N (mQ_ r p)) Q:=bf_ want_ev
theorem fu_ {r:aX_} {p:Bs} {g:Nat→Nat→Bool × aX_→Option β}:Ev (fun n N=>(bw_ n r p).bind (g n N)) v↔Ev (fun n N=>g n N (eN_ r p)) v:=ab_ qK_
theorem rK_ {r:aX_} {p:Bs} {g:Nat→Nat→aX_→Option β}:Ev (fun n N=>(cq_ n r p).bind (g n N)) v↔Ev (fun n N=>g n N (mQ_ r p)) v:=ab_ want_ev
end
theorem hp_ {s p:Bs}:Ev (fun n _=>c1_ n s p) (pfx p s):=ao_ (by simp only [c1_,ab_ ik_,ae_])
theorem f7_ (p t:Bs):eN_ ⟨p++t,false⟩ p=(true,⟨t,false⟩):=by
 unfold eN_;rw [i4_,List.drop_left];rfl
theorem cV_ {a c:UInt8} (h:c≠a) (p t:Bs) (b:Bool):eN_ ⟨c::t,b⟩ (a::p)=(false,⟨c::t,b⟩):=by
 unfold eN_;rw [pG_ h];rfl
theorem take_nil (a:UInt8) (p:Bs) (b:Bool):eN_ ⟨[],b⟩ (a::p)=(false,⟨[],b⟩):=rfl
theorem lj_ (p t:Bs):mQ_ ⟨p++t,false⟩ p=⟨t,false⟩:=by
 unfold mQ_;rw [i4_,List.drop_left];rfl
theorem nx_ {r:aX_} (hr:r.text.length≤4194304):Ans (fun n _=>av_ n r) fun x=>x.2.text.length≤r.text.length∧x.1.length≤r.text.length:=by
 refine ci_ ?_
 simp only [av_,want_a]
 have hw:=qI_ r [34]
 generalize mQ_ r [34]=q at hw ⊢
 refine gg_ (σ:=Bs × Bool × List Int) (fun n N s=>av_.loop4 n (fun xy4 xy5=>(some ([],(aX_.mk xy4 xy5)))) N s.1 s.2.1 s.2.2) (fun s=>s.1.length) (fun s=>s.1.length+s.2.2.length≤r.text.length) _ (fun s hI ih => ?_) (q.text,q.bad,[]) (by simp;omega)
 obtain ⟨t,b,o⟩:=s
 simp only at hI ih ⊢
 simp only [av_.turn4,av_.step4,rP_,be_,aS_,eX_,dN_,lu_,Int.toNat_natCast,List.take_length]
 have h1:=hf_ ⟨t,b⟩ [34]
 have h2:=hf_ (eN_ ⟨t,b⟩ [34]).2 [92]
 simp only at h1
 generalize eN_ ⟨t,b⟩ [34]=x at h1 h2 ⊢
 generalize eN_ x.2 [92]=y at h2 ⊢
 refine ⟨fun _=>⟨fun _=>⟨by omega,by simp;omega⟩,fun _=>⟨fun _=>⟨by omega,by simp⟩,fun hc => ?_⟩⟩,fun _=>⟨by omega,by simp⟩⟩
 have hne:1≤y.2.text.length:=by
  cases he:y.2.text with
  |nil=>rw [he] at hc;cases hc
  |cons _ _=>simp
 refine ⟨by omega,by simp;omega,⟨by omega,by omega,by omega⟩,?_⟩
 exact ih (y.2.text.drop 1,y.2.bad,o++[((y.2.text.getD 0 0).toNat:Int)]) (by simp;omega) (by simp;omega)
theorem o6_ (o:Bs) (c:UInt8):bi o++[((c.toNat:Nat):Int)]=bi (o++[c]):=by simp [bi]
theorem kk_ {s r:Bs} (hl:(dn_ s++r).length≤1000000000000):Ev (fun n _=>av_ n ⟨dn_ s++r,false⟩) (s,⟨r,false⟩):=by
 have hq:=gl_ s
 have hsl:s.length≤(dn_ s).length:=by
  have:∀ s:Bs,s.length≤(s.flatMap fP_).length:=by
   intro s
   induction s with
   |nil=>exact Nat.le_refl _
   |cons c s ih=>rw [List.flatMap_cons,List.length_append,List.length_cons];have:1≤(fP_ c).length:=by unfold fP_;split<;>simp
                 omega
  have:=this s
  simp only [dn_,List.cons_append,List.length_cons,List.length_append];omega
 simp only [List.length_append] at hl
 have e:dn_ s++r=[34]++(s.flatMap fP_++34::r):=by simp [dn_]
 refine ao_ ?_
 simp only [av_,rK_,e,lj_]
 have:=eI_ (fun i=>((s.drop i).flatMap fP_++34::r,bi (s.take i))) s.length (fun n N i (q:Bs × List Int)=>av_.loop4 n (fun xy4 xy5=>(some ([],(aX_.mk xy4 xy5)))) N q.1 false q.2) (s,⟨r,false⟩) (fun i hi F hF => ?_) ?_
 · exact this
 · have hd:=dM_ 0 hi
   have ht:=cE_ 0 hi
   rw [ht] at hF
   simp only [hd,List.flatMap_cons,List.append_assoc]
   have hbl:=k2_ (s.take i)
   rw [List.length_take] at hbl
   generalize (s.drop (i+1)).flatMap fP_++34::r=T at hF ⊢
   generalize s.getD i 0=c at hF ⊢
   rw [←o6_] at hF
   generalize bi (s.take i)=o at hF hbl ⊢
   simp only [av_.turn4,av_.step4,Bool.not_false,cond_true,fu_]
   by_cases hc:c=34∨c=92
   · have e1:fP_ c=[92,c]:=if_pos hc
     have e2:fP_ c++T=92::c::T:=by rw [e1];rfl
     have e3:eN_ ⟨92::c::T,false⟩ [92]=(true,⟨c::T,false⟩):=f7_ [92] (c::T)
     simp only [e2,fu_,cV_ (show (92:UInt8)≠34 by decide),e3,cond_false,al_,bb_,ba_,d1_,Int.toNat_natCast,List.take_length,List.getD_cons_zero,List.drop_succ_cons,List.drop_zero]
     repeat' (first|exact hF|apply And.intro|intro _)
     all_goals (first|contradiction|omega|(simp;done)|(simp;omega)|trace_state)
   · have e1:fP_ c=[c]:=if_neg hc
     have e2:fP_ c++T=c::T:=by rw [e1];rfl
     simp only [e2,fu_,cV_ (show c≠34 from fun e=>hc (.inl e)),cV_ (show c≠92 from fun e=>hc (.inr e)),cond_false,al_,bb_,ba_,d1_,Int.toNat_natCast,List.take_length,List.getD_cons_zero,List.drop_succ_cons,List.drop_zero]
     repeat' (first|exact hF|apply And.intro|intro _)
     all_goals (first|contradiction|omega|(simp;done)|(simp;omega)|trace_state)
 · have e3:eN_ ⟨34::r,false⟩ [34]=(true,⟨r,false⟩):=f7_ [34] r
   simp only [List.drop_length,List.take_length,List.flatMap_nil,List.nil_append,av_.turn4,av_.step4,Bool.not_false,cond_true,fu_,e3,ka_,ae_]
theorem m0_ {s:Bs} (h:s.length≤281474976710656):Ev (fun n _=>cR_ n s) (endOf s (Lib.atoiAll s)) :=
 ao_ (by simp only [cR_,nAtoi,decide_eq_true h,cond_true,ae_])
theorem s0_ {r:aX_} (hr:r.text.length≤4194304):Ans (fun n _=>ap_ n r) fun x=>x.2.text.length≤r.text.length∧x.1.s=[]∧x.1.list=[]∧x.1.names=[]:=by
 refine ci_ ?_
 simp only [ap_]
 obtain ⟨t,b⟩:=r
 simp only at hr ⊢
 have key:∀ (K:Nat→ap_.K3) (Q:aa_ × aX_→Prop),(∀ i,i≤t.length→Ans (fun n _=>K n ((i:Nat):Int) t b 0 0 []) Q)→Ans (fun n _=>ap_.loop3 n (K n) n 0 t b 0 0 []) Q:=by
  intro K Q hK
  refine gg_ (σ:=Nat) (fun n N i=>ap_.loop3 n (K n) N (i:Int) t b 0 0 []) (fun i=>t.length - i) (fun i=>i≤t.length) _ (fun i hI ih => ?_) 0 (Nat.zero_le _)
  have hend:=hK i hI
  simp only [ap_.turn3,ap_.step3,Int.toNat_natCast]
  by_cases hi:i<t.length
  · have ihn:=ih (i+1) hi (by omega)
    have hW:=W_up hi (show t.length≤cb_ by simp only [cb_];omega)
    simp only [hW,cC_ hi,cond_true,eX_,ch_ hi,true_and,bf_ pi_,be_]
    exact ⟨fun _=>ihn,fun _=>⟨fun _=>⟨by omega,fun _=>ihn,fun _=>hend⟩,fun _=>hend⟩⟩
  · have e:i=t.length:=by omega
    subst e
    simp only [cr_,cond_false]
    exact hend
 refine key _ _ fun i hi => ?_
 have hA:=m0_ (s:=(t.take i).drop 0) (by simp;omega)
 simp only [Int.toNat_natCast,List.take_length,lu_,bf_ hA,be_,aS_]
 exact ⟨by omega,fun _=>⟨by omega,by simp⟩,fun _=>⟨by omega,by simp⟩⟩
theorem itoa_at (n:Int) {i:Nat} (hi:i<(Lib.itoa n).length):fF_ ((Lib.itoa n).getD i 0)∨(i=0∧(Lib.itoa n).getD i 0=45):=by
 unfold Lib.itoa at hi ⊢
 by_cases h:n<0
 · rw [if_pos h] at hi ⊢
   cases i with
   |zero=>exact .inr ⟨rfl,rfl⟩
   |succ i=>
    left
    rw [List.getD_cons_succ]
    exact ig_ n.natAbs _ (bY_ 0 (by simpa using hi))
 · rw [if_neg h] at hi ⊢
   exact .inl (ig_ n.toNat _ (bY_ 0 hi))
theorem qb_ {a b:Bs} {i:Nat} (h:i<a.length):(a++b).getD i 0=a.getD i 0:=by
 rw [List.getD_eq_getElem?_getD,List.getElem?_append_left h,←List.getD_eq_getElem?_getD]
theorem ti_ {a b:Bs} {c:UInt8}:(a++c::b).getD a.length 0=c:=by
 rw [List.getD_eq_getElem?_getD,List.getElem?_append_right (Nat.le_refl _)];simp
theorem inn_dig {c:UInt8} (h:fF_ c):inn (c.toNat:Int) 48 57=true:=by
 unfold fF_ at h
 exact i8_.2 (by omega)
theorem inn_not {c:UInt8} (h:¬ fF_ c):inn (c.toNat:Int) 48 57=false:=by
 cases e:inn (c.toNat:Int) 48 57 with
 |false=>rfl
 |true=>exact absurd (by unfold fF_;have:=gM_ e;omega) h
theorem sZ_ {n:Int} {r:Bs} (h0 : -1000000000≤n) (h1:n≤1000000000) (hs:Stop r) (hl:(Lib.itoa n++r).length≤1000000000000):Ev (fun m _=>ap_ m ⟨Lib.itoa n++r,false⟩) (aa_.mk 2 n [] [] [],⟨r,false⟩):=by
 have hA:=m0_ (s:=Lib.itoa n) (by simp only [List.length_append] at hl;omega)
 rw [qr_ h0 h1] at hA
 obtain ⟨c0,t0,e0,_⟩:=h2_ n
 have hp:1≤(Lib.itoa n).length:=by rw [e0];simp
 have hat:=fun i=>itoa_at n (i:=i)
 generalize Lib.itoa n=t at hl hA hp hat ⊢
 simp only [List.length_append] at hl
 refine ao_ ?_
 simp only [ap_]
 have key:∀ (K:Nat→ap_.K3) (F:aa_ × aX_),Ev (fun n _=>K n (t.length:Int) (t++r) false 0 0 []) F→Ev (fun n _=>ap_.loop3 n (K n) n 0 (t++r) false 0 0 []) F:=by
  intro K F hK
  refine eI_ (fun _=>()) t.length (fun n N i (_:Unit)=>ap_.loop3 n (K n) N (i:Int) (t++r) false 0 0 []) F (fun i hi F hF => ?_) ?_
  · have hi2:i<(t++r).length:=by simp;omega
    have hW:=W_up hi2 (by simp only [cb_,List.length_append];omega)
    simp only [ap_.turn3,ap_.step3,Int.toNat_natCast,hW,cC_ hi2,cond_true,bb_,ch_ hi2,true_and,gE_,sC_,qb_ hi,al_]
    rcases hat i hi with hd|⟨rfl,hd⟩
    · rw [inn_dig hd]
      exact ⟨fun _=>hF,fun h=>(by cases h)⟩
    · simp only [qb_ hi,hd]
      exact ⟨fun _=>hF,fun _=>⟨fun _=>⟨by omega,fun _=>hF,fun h=>absurd h (by decide)⟩,fun h=>(by cases h)⟩⟩
  · simp only [ap_.turn3,ap_.step3,Int.toNat_natCast]
    cases r with
    |nil=>
     rw [List.append_nil] at hK ⊢
     simp only [cr_,cond_false]
     exact hK
    |cons c r=>
     have hi2:t.length<(t++c::r).length:=by simp
     have hz:(((t.length:Nat):Int) == 0)=false:=beq_eq_false_iff_ne.2 (by omega)
     simp only [cC_ hi2,cond_true,bb_,ch_ hi2,true_and,gE_,sC_,ti_,inn_not (hs c r rfl),hz,cond_false]
     exact hK
 refine key _ _ ?_
 have e1:((t++r).take t.length).drop 0=t:=by simp
 simp only [Int.toNat_natCast,e1,List.take_length,List.drop_left,d1_,ab_ hA,endOf,Bool.not_true,cond_false,ae_]
 exact ⟨by simp;omega,by simp;omega,trivial⟩
end Go.Pi
end
section
namespace Go.Pi
def tw_ (L d:Nat) (x:aa_ × aX_):Prop:=x.2.text.length≤L∧ft_ d x.1
theorem e2_ {d:Nat} {k n:Int}:ft_ d (aa_.mk k n [] [] []):=by
 cases d with
 |zero=>trivial
 |succ d=>exact ⟨⟨Nat.zero_le _,Nat.zero_le _,fun x h=>(by cases h)⟩,Nat.zero_le _,fun x h=>(by cases h)⟩
theorem pP_ {d:Nat} {k n:Int} {s:Bs} (h:s.length≤cb_):ft_ d (aa_.mk k n s [] []):=by
 cases d with
 |zero=>trivial
 |succ d=>exact ⟨⟨h,Nat.zero_le _,fun x h=>(by cases h)⟩,Nat.zero_le _,fun x h=>(by cases h)⟩
theorem tw_.mono {L M d:Nat} {x:aa_ × aX_} (h:tw_ L d x) (hl:L≤M):tw_ M d x:=⟨Nat.le_trans h.1 hl,h.2⟩
theorem parts_any {d:Nat} (hd:d≤1000) (ih:∀ r:aX_,r.text.length≤4194304→Ans (fun n _=>aZ_ n r (d:Int)) (tw_ r.text.length d))
  {r:aX_} (hr:r.text.length≤4194304) (kind:Int) (end_:Bs):Ans (fun n _=>am_ n r kind end_ ((d+1:Nat):Int)) (tw_ r.text.length (d+1)):=by
 refine ci_ ?_
 have hW:W (((d+1:Nat):Int) - 1)=(d:Int):=by rw [W_id (by omega) (by omega)];omega
 simp only [am_,rP_,be_,aS_]
 have ht:=hf_ r end_
 generalize eN_ r end_=x at ht ⊢
 refine ⟨fun _=>⟨ht,e2_⟩,fun _ => ?_⟩
 obtain ⟨x1,t0,b0⟩:=x
 simp only at ht ⊢
 have key:∀ (K:Nat→am_.K7_1) (Q:aa_ × aX_→Prop),(∀ t b l ns,t.length≤t0.length→l.length≤4194305→(∀ y ∈ l,ft_ d y)→ns.length≤l.length→(∀ y ∈ ns,y.length≤4194304)→Ans (fun n _=>K n end_ t b 0 0 [] kind 0 [] l ns) Q) →
   Ans (fun n _=>am_.loop7 n (aZ_ n) (K n) n kind end_ ((d+1:Nat):Int) true t0 b0 0 0 [] kind 0 [] [] []) Q:=by
  intro K Q hK
  refine gg_ (σ:=Bool × Bs × Bool × List aa_ × List Bs) (fun n N s=>am_.loop7 n (aZ_ n) (K n) N kind end_ ((d+1:Nat):Int) s.1 s.2.1 s.2.2.1 0 0 [] kind 0 [] s.2.2.2.1 s.2.2.2.2)
   (fun s=>s.2.1.length+cond s.1 1 0) (fun s=>s.2.1.length≤t0.length∧s.2.2.2.1.length+s.2.1.length≤t0.length+cond s.1 0 1∧(∀ y ∈ s.2.2.2.1,ft_ d y)∧s.2.2.2.2.length≤s.2.2.2.1.length∧(∀ y ∈ s.2.2.2.2,y.length≤4194304)) _ (fun s hI ihl => ?_) (true,t0,b0,[],[]) (by simp)
  obtain ⟨more,t,b,l,ns⟩:=s
  simp only at hI ihl ⊢
  obtain ⟨h1,h2,h3,h4,h5⟩:=hI
  have hll:l.length≤4194305:=by cases more<;>simp at h2<;>omega
  have hend:=hK t b l ns h1 hll h3 h4 h5
  simp only [am_.turn7,am_.step7,hW,aW_,be_]
  refine ⟨fun hm=>⟨fun _ => ?_,fun _=>hend⟩,fun _=>hend⟩
  subst hm
  simp only [cond_true,Nat.add_zero] at h2 ihl
  have step:∀ (q:aX_) (ns':List Bs),q.text.length≤t.length→ns'.length≤l.length+1→(∀ y ∈ ns',y.length≤4194304) →
    Ans (fun n N=>(aZ_ n q (d:Int)).bind fun xr4=>bm_ (l.length+[xr4.1].length) 80 ((bw_ n xr4.2 [44]).bind fun xr5=>am_.loop7 n (aZ_ n) (K n) N kind end_ ((d+1:Nat):Int) xr5.1 xr5.2.text xr5.2.bad 0 0 [] kind 0 [] (l++[xr4.1]) ns')) Q:=by
   intro q ns' hq hn hb
   refine az_ (ih q (by omega)) fun v hv => ?_
   simp only [dN_,rP_]
   have g1:=hf_ v.2 [44]
   have g2:=sN_ (r:=v.2) (p:=[44])
   generalize eN_ v.2 [44]=x at g1 g2 ⊢
   obtain ⟨m',t',b'⟩:=x
   simp only [List.length_cons,List.length_nil] at g1 g2 ⊢
   have hv1:=hv.1
   refine ⟨by omega,ihl (m',t',b',l++[v.1],ns') ⟨by simp only;omega,?_,?_,by simpa using hn,hb⟩ ?_⟩
   · cases m' with
     |true=>have:=g2 rfl;simp;omega
     |false=>simp;omega
   · intro y hy
     rcases List.mem_append.1 hy with hy|hy
     · exact h3 y hy
     · obtain rfl:=List.mem_singleton.1 hy;exact hv.2
   · cases m' with
     |true=>have:=g2 rfl;simp;omega
     |false=>simp;omega
  refine ⟨fun _ => ?_,fun _=>step ⟨t,b⟩ ns (Nat.le_refl _) (by omega) h5⟩
  refine az_ (nx_ (r:=⟨t,b⟩) (by simp only;omega)) fun v hv => ?_
  simp only at hv
  simp only [want_a,dN_]
  have hw:=qI_ v.2 [58]
  refine ⟨by simp;omega,step (mQ_ v.2 [58]) (ns++[v.1]) (by omega) (by simp;omega) fun y hy => ?_⟩
  rcases List.mem_append.1 hy with hy|hy
  · exact h5 y hy
  · obtain rfl:=List.mem_singleton.1 hy;omega
 refine key _ _ fun t b l ns h1 h2 h3 h4 h5 => ?_
 simp only [want_a,aS_]
 have hw:=qI_ ⟨t,b⟩ end_
 simp only at hw
 exact ⟨by simp only;omega,⟨Nat.zero_le _,by show ns.length≤cb_;simp only [cb_];omega,fun y hy=>by have:=h5 y hy;simp only [cb_];omega⟩,by show l.length≤cb_;simp only [cb_];omega,h3⟩
theorem pm_:∀ (d:Nat),d≤1000→∀ r:aX_,r.text.length≤4194304→Ans (fun n _=>aZ_ n r (d:Int)) (tw_ r.text.length d)
 |0,_,r,hr=>by
  refine ci_ ?_
  simp only [aZ_,be_,aS_]
  exact ⟨fun _=>⟨Nat.le_refl _,trivial⟩,fun h=>by simp at h⟩
 |d+1,hd,r,hr=>by
  have ih:=fun (r:aX_) hr=>parts_any (d:=d) (by omega) (pm_ d (by omega)) (r:=r) hr
  refine ci_ ?_
  simp only [aZ_,aW_,be_,aS_,rP_,bf_ hp_]
  refine ⟨fun h=>by have:=of_decide_eq_true h;omega,fun _=>⟨fun _=>⟨Nat.le_refl _,e2_⟩,fun _ => ?_⟩⟩
  have h1:=hf_ r [110,117,108,108]
  generalize eN_ r [110,117,108,108]=x1 at h1 ⊢
  have h2:=hf_ x1.2 [102,97,108,115,101]
  generalize eN_ x1.2 [102,97,108,115,101]=x2 at h2 ⊢
  have h3:=hf_ x2.2 [116,114,117,101]
  generalize eN_ x2.2 [116,114,117,101]=x3 at h3 ⊢
  have h4:=hf_ x3.2 [91]
  generalize eN_ x3.2 [91]=x4 at h4 ⊢
  have h5:=hf_ x4.2 [123]
  generalize eN_ x4.2 [123]=x5 at h5 ⊢
  refine ⟨fun _=>⟨h1,e2_⟩,fun _=>⟨fun _=>⟨by simp only;omega,e2_⟩,fun _=>⟨fun _=>⟨by simp only;omega,e2_⟩,fun _=>⟨fun _ => ?_,fun _=>⟨fun _ => ?_,fun _=>⟨fun _ => ?_,fun _ => ?_⟩⟩⟩⟩⟩⟩
  · refine az_ (nx_ (r:=x3.2) (by omega)) fun v hv => ?_
    simp only [aS_]
    exact ⟨by simp only;omega,pP_ (by simp only [cb_];omega)⟩
  · refine az_ (ih x4.2 (by omega) 4 [93]) fun v hv => ?_
    simp only [aS_]
    exact hv.mono (by omega)
  · refine az_ (ih x5.2 (by omega) 5 [125]) fun v hv => ?_
    simp only [aS_]
    exact hv.mono (by omega)
  · refine az_ (s0_ (r:=x5.2) (by omega)) fun v hv => ?_
    simp only [aS_]
    obtain ⟨⟨k,nn,s,l,ns⟩,q⟩:=v
    obtain ⟨e1,e2,e3,e4⟩:=hv
    simp only at e1 e2 e3 e4
    subst e2 e3 e4
    exact ⟨by simp only;omega,e2_⟩
theorem qj_ (enc:aa_→Bs) (j:aa_) (k i:Nat):dK_ enc j (k+1) (i+1)=44::(dD_ enc j (i+1)++dK_ enc j k (i+2)):=by
 rw [dK_,if_neg (by omega)];rfl
theorem ps_ (enc:aa_→Bs) (j:aa_) (k i:Nat) {c:UInt8} (h:¬ fF_ c) (r:Bs):Stop (dK_ enc j k (i+1)++c::r):=by
 cases k with
 |zero=>exact lE_ h
 |succ k=>rw [qj_];exact lE_ (by unfold fF_;decide)
theorem rf_ {kind:Int} {c:UInt8} (h:c.toNat=93∨c.toNat=125):¬ fF_ c:=by unfold fF_;omega
theorem pH_ {d:Nat} (hd:d≤1000) {j:aa_} (h:bG_ (d+1) j≤400) (hk:j.kind=4∨j.kind=5)
  (ih:∀ x,bG_ d x≤400→∀ r,Stop r→(FEnc d x++r).length≤1000000000000→Ev (fun n _=>aZ_ n ⟨FEnc d x++r,false⟩ (d:Int)) (x,⟨r,false⟩))
  (c:UInt8) (hc:c.toNat=93∨c.toNat=125) (r:Bs) (hl:(ej_ (FEnc d) j j.list.length++c::r).length≤1000000000000) :
  Ev (fun n _=>am_ n ⟨ej_ (FEnc d) j j.list.length++c::r,false⟩ j.kind [c] ((d+1:Nat):Int)) (aa_.mk j.kind 0 [] j.list j.names,⟨r,false⟩):=by
 have hW:W (((d+1:Nat):Int) - 1)=(d:Int):=by rw [W_id (by omega) (by omega)];omega
 have hll:=eT_ h
 have hnl:=fR_ h
 have hT:eN_ ⟨c::r,false⟩ [c]=(true,⟨r,false⟩):=f7_ [c] r
 have hWa:mQ_ ⟨c::r,false⟩ [c]=⟨r,false⟩:=lj_ [c] r
 have ho:=(d2_ h).1
 have ho2:=fp_ (e1_ h)
 rw [mU_] at hl ⊢
 refine ao_ ?_
 cases hm:j.list.length with
 |zero=>
  have e1:j.list=[]:=List.eq_nil_of_length_eq_zero hm
  have e2:j.names=[]:=by
   rcases hk with hk|hk
   · exact ho2.ns0 (by omega)
   · exact List.eq_nil_of_length_eq_zero (by rw [(ho.obj hk).1,hm])
  simp only [am_,fu_,dK_,List.nil_append,hT,cond_true,ae_,e1,e2]
 |succ m=>
  obtain ⟨a,p0,ep,hp1,hp2,hp3⟩:=n5_ h (i:=0) (by omega)
  have e0:dK_ (FEnc d) j (m+1) 0=dD_ (FEnc d) j 0++dK_ (FEnc d) j m 1:=by rw [dK_,if_pos rfl];rfl
  have hac:a≠c:=fun e=>by subst e;omega
  have e3:dD_ (FEnc d) j 0++dK_ (FEnc d) j m 1++c::r=a::(p0++dK_ (FEnc d) j m 1++c::r):=by rw [ep];rfl
  have e4:eN_ ⟨dD_ (FEnc d) j 0++dK_ (FEnc d) j m 1++c::r,false⟩ [c]=(false,⟨dD_ (FEnc d) j 0++dK_ (FEnc d) j m 1++c::r,false⟩):=by rw [e3];exact cV_ hac [] _ false
  simp only [am_,fu_,e0,e4,cond_false]
  rw [hm,e0] at hl
  have key:∀ (K:Nat→am_.K7_1) (F:aa_ × aX_),Ev (fun n _=>K n [c] (c::r) false 0 0 [] j.kind 0 [] j.list j.names) F →
    ∀ k i,i+1+k=j.list.length→(dD_ (FEnc d) j i++dK_ (FEnc d) j k (i+1)++c::r).length≤1000000000000 →
    Ev (fun n N=>am_.loop7 n (aZ_ n) (K n) N j.kind [c] ((d+1:Nat):Int) true (dD_ (FEnc d) j i++dK_ (FEnc d) j k (i+1)++c::r) false 0 0 [] j.kind 0 [] (j.list.take i) (j.names.take i)) F:=by
   intro K F hK k
   induction k with
   |zero=>
    intro i hi hlen
    have hp:=fB_ h (i:=i) (by omega)
    have hx:=ih _ hp.size (c::r) (lE_ (rf_ (kind:=0) hc))
    have hcm:eN_ ⟨c::r,false⟩ [44]=(false,⟨c::r,false⟩):=cV_ (by intro e;subst e;revert hc;decide) [] _ false
    have hlast:∀ F,Ev (fun n _=>K n [c] (c::r) false 0 0 [] j.kind 0 [] j.list j.names) F→Ev (fun n N=>am_.loop7 n (aZ_ n) (K n) N j.kind [c] ((d+1:Nat):Int) false (c::r) false 0 0 [] j.kind 0 [] j.list j.names) F:=fun F hF=>a9_ (by
     simp only [am_.turn7,am_.step7,cond_false];exact hF)
    have el:j.list.take i++[j.list.getD i aa_.dflt]=j.list:=by rw [←cE_ aa_.dflt (by omega)];exact List.take_of_length_le (by omega)
    refine a9_ ?_
    simp only [dK_,List.append_nil]
    simp only [dK_,List.append_nil] at hlen
    rcases hk with hk|hk
    · have h5:(j.kind == 5)=false:=by rw [hk];rfl
      have en:j.names=[]:=ho2.ns0 (by omega)
      unfold dD_ at hlen ⊢
      rw [h5,cond_false] at hlen ⊢
      simp only [am_.turn7,am_.step7,aW_,hW,h5,Bool.not_false,cond_true,cond_false,ab_ (hx hlen),ba_,fu_,hcm,el,en,List.take_nil]
      refine ⟨by simp;omega,?_⟩
      have:=hlast F hK
      rw [en] at this
      exact this
    · have h5:(j.kind == 5)=true:=by rw [hk];rfl
      obtain ⟨o1,o2⟩:=ho.obj hk
      have en:j.names.take i++[j.names.getD i []]=j.names:=by rw [←cE_ [] (by omega)];exact List.take_of_length_le (by omega)
      unfold dD_ at hlen ⊢
      rw [h5,cond_true] at hlen ⊢
      simp only [List.append_assoc] at hlen ⊢
      have hq:=kk_ hlen
      simp only [List.length_append] at hlen
      have hx:=hx (by simp only [List.length_append];simp at hlen ⊢;omega)
      simp only [am_.turn7,am_.step7,aW_,hW,h5,Bool.not_false,cond_true,cond_false,ab_ hq,rK_,lj_,ab_ hx,ba_,fu_,hcm,el,en]
      exact ⟨by simp;omega,by simp;omega,hlast F hK⟩
   |succ k ihk=>
    intro i hi hlen
    have hp:=fB_ h (i:=i) (by omega)
    have hx:=ih _ hp.size (dK_ (FEnc d) j (k+1) (i+1)++c::r) (ps_ _ _ _ _ (rf_ (kind:=0) hc) r)
    have e5:dK_ (FEnc d) j (k+1) (i+1)++c::r=[44]++(dD_ (FEnc d) j (i+1)++dK_ (FEnc d) j k (i+2)++c::r):=by rw [qj_];simp
    have hcm:eN_ ⟨dK_ (FEnc d) j (k+1) (i+1)++c::r,false⟩ [44]=(true,⟨dD_ (FEnc d) j (i+1)++dK_ (FEnc d) j k (i+2)++c::r,false⟩):=by rw [e5];exact f7_ _ _
    have hlen2:(dD_ (FEnc d) j (i+1)++dK_ (FEnc d) j k (i+2)++c::r).length≤1000000000000:=by
     have:=congrArg List.length e5
     simp only [List.length_append,List.length_cons,List.length_nil] at this hlen ⊢
     omega
    have hnext:=ihk (i+1) (by omega) hlen2
    rw [cE_ aa_.dflt (show i<j.list.length by omega)] at hnext
    refine a9_ ?_
    rw [List.append_assoc] at hlen ⊢
    generalize dK_ (FEnc d) j (k+1) (i+1)++c::r=T at hx hcm hlen ⊢
    rcases hk with hk|hk
    · have h5:(j.kind == 5)=false:=by rw [hk];rfl
      have en:j.names=[]:=ho2.ns0 (by omega)
      have ef:dD_ (FEnc d) j i=FEnc d (j.list.getD i aa_.dflt):=by unfold dD_;rw [h5];rfl
      rw [ef] at hlen ⊢
      rw [en,List.take_nil] at hnext
      simp only [am_.turn7,am_.step7,aW_,hW,h5,Bool.not_false,cond_true,cond_false,ab_ (hx hlen),ba_,fu_,hcm,en,List.take_nil]
      exact ⟨by simp;omega,hnext⟩
    · have h5:(j.kind == 5)=true:=by rw [hk];rfl
      obtain ⟨o1,o2⟩:=ho.obj hk
      rw [cE_ [] (show i<j.names.length by omega)] at hnext
      have ef:dD_ (FEnc d) j i=dn_ (j.names.getD i [])++([58]++FEnc d (j.list.getD i aa_.dflt)):=by unfold dD_;rw [h5];rfl
      rw [ef] at hlen ⊢
      simp only [List.append_assoc] at hlen ⊢
      have hq:=kk_ hlen
      have hx:=hx (by simp only [List.length_append] at hlen ⊢;simp at hlen ⊢;omega)
      simp only [am_.turn7,am_.step7,aW_,hW,h5,Bool.not_false,cond_true,cond_false,ab_ hq,rK_,lj_,ab_ hx,ba_,fu_,hcm]
      exact ⟨by simp;omega,by simp;omega,hnext⟩
  have:=key (fun n=>fun xy8 xy9 xy10 xy11 xy12 xy13 xy14 xy15 xy16 xy17 xy18=>((cq_ n (aX_.mk xy9 xy10) xy8).bind fun xr19=>(some ((aa_.mk xy14 xy15 xy16 xy17 xy18),xr19)))) (aa_.mk j.kind 0 [] j.list j.names,⟨r,false⟩) (by simp only [rK_,hWa,ae_]) m 0 (by omega) hl
  exact cZ_ (f:=fun n N=>am_.loop7 n (aZ_ n) (fun xy8 xy9 xy10 xy11 xy12 xy13 xy14 xy15 xy16 xy17 xy18=>((cq_ n (aX_.mk xy9 xy10) xy8).bind fun xr19=>(some ((aa_.mk xy14 xy15 xy16 xy17 xy18),xr19)))) N j.kind [c] ((d+1:Nat):Int) true (dD_ (FEnc d) j 0++dK_ (FEnc d) j m 1++c::r) false 0 0 [] j.kind 0 [] [] []) this
theorem oK_ {d:Nat} {j:aa_} (h:bG_ (d+1) j≤400) (hk:j.kind=4∨j.kind=5):aa_.mk j.kind 0 [] j.list j.names=j:=by
 have ho2:=fp_ (e1_ h)
 have e1:=ho2.n0 (by omega) (by omega)
 have e2:=ho2.s0 (by omega)
 obtain ⟨k,n,s,l,ns⟩:=j
 simp only at e1 e2 ⊢
 subst e1 e2;rfl
theorem pl_:∀ (d:Nat),d≤1000→∀ j,bG_ d j≤400→∀ r,Stop r→(FEnc d j++r).length≤1000000000000→Ev (fun n _=>aZ_ n ⟨FEnc d j++r,false⟩ (d:Int)) (j,⟨r,false⟩)
 |0,_,j,h,r,_,_=>by simp only [bG_] at h;omega
 |d+1,hd,j,h,r,hs,hl=>by
  have ih:=pl_ d (by omega)
  have ho:=(d2_ h).1
  have ho2:=fp_ (e1_ h)
  have hd1:decide (((d+1:Nat):Int)<1)=false:=decide_eq_false (by omega)
  refine ao_ ?_
  simp only [aZ_,aW_,hd1,cond_false,fu_,ab_ hp_]
  rcases ho.kind with hk|hk|hk|hk|hk|hk
  · have e:FEnc (d+1) j=[110,117,108,108]:=by simp only [FEnc,hk,Int.reduceBEq,cond_true]
    have ej:j=aa_.mk 0 0 [] [] []:=by
     have e1:=ho2.n0 (by omega) (by omega)
     have e2:=ho2.s0 (by omega)
     have e3:=ho.list (by omega) (by omega)
     have e4:=ho2.ns0 (by omega)
     obtain ⟨k,n,s,l,ns⟩:=j
     simp only at e1 e2 e3 e4 hk
     subst e1 e2 e3 e4 hk;rfl
    rw [e]
    simp only [f7_,cond_true,ae_]
    rw [ej]
  · have hb:=ho.bool hk
    have e2:=ho2.s0 (by omega)
    have e3:=ho.list (by omega) (by omega)
    have e4:=ho2.ns0 (by omega)
    obtain ⟨k,n,s,l,ns⟩:=j
    simp only at e2 e3 e4 hk hb
    subst e2 e3 e4 hk
    have:n=0∨n=1:=by omega
    rcases this with rfl|rfl
    · have e:FEnc (d+1) (aa_.mk 1 0 [] [] [])++r=102::([97,108,115,101]++r):=rfl
      have e5:eN_ ⟨102::([97,108,115,101]++r),false⟩ [102,97,108,115,101]=(true,⟨r,false⟩):=f7_ [102,97,108,115,101] r
      rw [e]
      simp only [fu_,ab_ hp_,cV_ (show (102:UInt8)≠110 by decide),e5,cond_false,cond_true,ae_]
    · have e:FEnc (d+1) (aa_.mk 1 1 [] [] [])++r=116::([114,117,101]++r):=rfl
      have e5:eN_ ⟨116::([114,117,101]++r),false⟩ [116,114,117,101]=(true,⟨r,false⟩):=f7_ [116,114,117,101] r
      rw [e]
      simp only [fu_,ab_ hp_,cV_ (show (116:UInt8)≠110 by decide),cV_ (show (116:UInt8)≠102 by decide),e5,cond_false,cond_true,ae_]
  · have hn:=ho.num hk
    have e:FEnc (d+1) j=Lib.itoa j.n_:=by simp only [FEnc,hk,Int.reduceBEq,cond_true,cond_false]
    rw [e] at hl ⊢
    have hN:=sZ_ hn.1 hn.2 hs hl
    have ej:aa_.mk 2 j.n_ [] [] []=j:=by
     have e2:=ho2.s0 (by omega)
     have e3:=ho.list (by omega) (by omega)
     have e4:=ho2.ns0 (by omega)
     obtain ⟨k,n,s,l,ns⟩:=j
     simp only at e2 e3 e4 hk
     subst e2 e3 e4 hk;rfl
    rw [ej] at hN
    obtain ⟨c,t,ec,hc⟩:=h2_ j.n_
    rw [ec] at hN ⊢
    have ne:∀ x:UInt8,(x.toNat<45∨x.toNat=46∨57<x.toNat)→c≠x:=by
     rintro x hx rfl
     rcases hc with rfl|hc
     · revert hx;decide
     · unfold fF_ at hc;omega
    rw [List.cons_append] at hN ⊢
    simp only [fu_,ab_ hp_,cV_ (ne 110 (by decide)),cV_ (ne 102 (by decide)),cV_ (ne 116 (by decide)),cV_ (ne 91 (by decide)),cV_ (ne 123 (by decide)),pG_ (ne 34 (by decide)),cond_false,ab_ hN,ae_]
  · have ht:=ho2.text hk
    have e:FEnc (d+1) j=dn_ j.s:=by simp only [FEnc,hk,Int.reduceBEq,cond_true,cond_false]
    rw [e] at hl ⊢
    have hq:=kk_ hl
    have ej:aa_.mk 3 0 j.s [] []=j:=by
     have e2:=ho2.n0 (by omega) (by omega)
     have e3:=ho.list (by omega) (by omega)
     have e4:=ho2.ns0 (by omega)
     obtain ⟨k,n,s,l,ns⟩:=j
     simp only at e2 e3 e4 hk
     subst e2 e3 e4 hk;rfl
    have ec:dn_ j.s++r=34::(j.s.flatMap fP_++[34]++r):=by simp [dn_]
    rw [ec] at hq ⊢
    have hpx:pfx [34] (34::(j.s.flatMap fP_++[34]++r))=true:=i4_ [34] _
    simp only [fu_,ab_ hp_,cV_ (show (34:UInt8)≠110 by decide),cV_ (show (34:UInt8)≠102 by decide),cV_ (show (34:UInt8)≠116 by decide),hpx,cond_false,cond_true,ab_ hq,ae_,ej]
  · have e:FEnc (d+1) j=[91]++ej_ (FEnc d) j j.list.length++[93]:=by simp only [FEnc,hk,Int.reduceBEq,cond_true,cond_false]
    have e1:FEnc (d+1) j++r=91::(ej_ (FEnc d) j j.list.length++93::r):=by rw [e];simp
    rw [e1] at hl ⊢
    have hP:=pH_ (by omega) h (.inl hk) ih 93 (.inl rfl) r (by simp only [List.length_cons] at hl;omega)
    rw [oK_ h (.inl hk),hk] at hP
    have e5:eN_ ⟨91::(ej_ (FEnc d) j j.list.length++93::r),false⟩ [91]=(true,⟨ej_ (FEnc d) j j.list.length++93::r,false⟩):=f7_ [91] _
    simp only [fu_,ab_ hp_,cV_ (show (91:UInt8)≠110 by decide),cV_ (show (91:UInt8)≠102 by decide),cV_ (show (91:UInt8)≠116 by decide),pG_ (show (91:UInt8)≠34 by decide),e5,cond_false,cond_true,ab_ hP,ae_]
  · have e:FEnc (d+1) j=[123]++ej_ (FEnc d) j j.list.length++[125]:=by simp only [FEnc,hk,Int.reduceBEq,cond_true,cond_false]
    have e1:FEnc (d+1) j++r=123::(ej_ (FEnc d) j j.list.length++125::r):=by rw [e];simp
    rw [e1] at hl ⊢
    have hP:=pH_ (by omega) h (.inr hk) ih 125 (.inr rfl) r (by simp only [List.length_cons] at hl;omega)
    rw [oK_ h (.inr hk),hk] at hP
    have e5:eN_ ⟨123::(ej_ (FEnc d) j j.list.length++125::r),false⟩ [123]=(true,⟨ej_ (FEnc d) j j.list.length++125::r,false⟩):=f7_ [123] _
    simp only [fu_,ab_ hp_,cV_ (show (123:UInt8)≠110 by decide),cV_ (show (123:UInt8)≠102 by decide),cV_ (show (123:UInt8)≠116 by decide),cV_ (show (123:UInt8)≠91 by decide),pG_ (show (123:UInt8)≠34 by decide),e5,cond_false,cond_true,ab_ hP,ae_]
end Go.Pi
end
section
namespace Go.Pi
abbrev jV_:Nat:=4194304
structure At (s:Bs) (p:Nat) (x:Bs):Prop where
 le:p≤s.length
 eq:s.drop p=x
theorem At.next {s a b:Bs} {p:Nat} (h:At s p (a++b)):At s (p+a.length) b:=by
 have h1:=congrArg List.length h.eq
 simp only [List.length_drop,List.length_append] at h1
 have h2:=h.le
 exact ⟨by omega,by rw [←List.drop_drop,h.eq,List.drop_left]⟩
theorem At.next1 {s t:Bs} {c:UInt8} {p:Nat} (h:At s p (c::t)):At s (p+1) t:=At.next (a:=[c]) h
theorem At.lt {s t:Bs} {c:UInt8} {p:Nat} (h:At s p (c::t)):p<s.length∧s.getD p 0=c:=by
 have h1:=congrArg List.length h.eq
 simp only [List.length_drop,List.length_cons] at h1
 have hp:p<s.length:=by omega
 refine ⟨hp,?_⟩
 have:=dM_ 0 hp
 rw [h.eq] at this
 exact (List.cons.inj this).1.symm
theorem At.end_ {s:Bs} {p:Nat} (h:At s p []):p=s.length:=by
 have h1:=congrArg List.length h.eq
 simp only [List.length_drop,List.length_nil] at h1
 have:=h.le;omega
def io_ (s:Bs) (p:Nat):Int:=cond (decide (p<s.length)) ((s.getD p 0).toNat:Int) 0
theorem eG_ {s:Bs} {p:Nat} {ok:Bool} {left:Int}:Ev (fun n _=>cW_ n ⟨s,(p:Int),ok,left⟩) (io_ s p,⟨s,(p:Int),ok,left⟩):=by
 refine ao_ ?_
 simp only [cW_,al_,bb_,ae_,Int.toNat_natCast,io_]
 by_cases h:p<s.length
 · rw [decide_eq_true h]
   exact ⟨fun hc=>by have:=of_decide_eq_true hc;omega,fun _=>⟨by omega,rfl⟩⟩
 · rw [decide_eq_false h]
   exact ⟨fun _=>rfl,fun hc=>by have:=of_decide_eq_false hc;omega⟩
theorem eH_ {s t:Bs} {c:UInt8} {p:Nat} (h:At s p (c::t)):io_ s p=(c.toNat:Int):=by
 obtain ⟨h1,h2⟩:=h.lt
 unfold io_;rw [decide_eq_true h1,h2];rfl
theorem peek_end {s:Bs} {p:Nat} (h:At s p []):io_ s p=0:=by
 unfold io_;rw [decide_eq_false (by have:=h.end_;omega)];rfl
theorem os_ {s:Bs} {p:Nat} (h:io_ s p≠0):p<s.length:=by
 unfold io_ at h
 by_cases hp:p<s.length
 · exact hp
 · rw [decide_eq_false hp] at h;exact absurd rfl h
def FTk (s:Bs) (p:Nat) (ok:Bool) (left:Int) (w:Bs):a8_:=cond (pfx w (s.drop p)) ⟨s,((p+w.length:Nat):Int),ok,left⟩ ⟨s,(p:Int),false,left⟩
theorem jn_ {s w:Bs} {p:Nat} {ok:Bool} {left:Int} (hs:s.length≤jV_) (hw:w.length≤100) (hp:p≤s.length):Ev (fun n _=>ce_ n ⟨s,(p:Int),ok,left⟩ w) (FTk s p ok left w):=by
 refine ao_ ?_
 simp only [jV_] at hs
 have e1:W ((s.length:Int) - (p:Int))=(s.length:Int) - p:=W_id (by omega) (by omega)
 have e2:W ((p:Int)+(w.length:Int))=((p+w.length:Nat):Int):=by rw [W_id (by omega) (by omega)];omega
 simp only [ce_,e1,e2,al_,d1_,ae_,Int.toNat_natCast,FTk]
 have e3:pfx w (s.drop p)=(((s.take (p+w.length)).drop p) == w):=by
  rw [lo_,List.drop_zero,List.drop_take,show p+w.length - p=w.length by omega]
 refine ⟨fun h => ?_,fun h => ?_⟩
 · have h:=of_decide_eq_true h
   cases e:pfx w (s.drop p) with
   |false=>rfl
   |true=>have:=i3_ e;simp only [List.length_drop] at this;omega
 · have h:=of_decide_eq_false h
   refine ⟨by omega,?_⟩
   rw [e3]
   cases ((s.take (p+w.length)).drop p == w)<;>simp
theorem pn_ {s w t:Bs} {p:Nat} {ok:Bool} {left:Int} (h:At s p (w++t)):FTk s p ok left w=⟨s,((p+w.length:Nat):Int),ok,left⟩:=by
 unfold FTk;rw [h.eq,i4_];rfl
theorem kb_ {s w:Bs} {p:Nat} {ok:Bool} {left:Int} (hp:p≤s.length):∃ p' ok',FTk s p ok left w=⟨s,((p':Nat):Int),ok',left⟩∧p≤p'∧p'≤s.length∧(ok'=true→ok=true):=by
 unfold FTk
 cases e:pfx w (s.drop p) with
 |false=>exact ⟨p,false,rfl,by omega,hp,fun h=>(by cases h)⟩
 |true=>have:=i3_ e;simp only [List.length_drop] at this;exact ⟨p+w.length,ok,rfl,by omega,by omega,id⟩
theorem kS_ {s:Bs} {p:Nat} {ok:Bool} {left:Int} (hs:s.length≤jV_) (hp:p≤s.length) :
  Ans (fun n _=>aH_ n ⟨s,(p:Int),ok,left⟩) fun x=>∃ p' ok',x.2=⟨s,((p':Nat):Int),ok',left⟩∧p'≤s.length∧x.1.length≤jV_∧(ok'=true→ok=true):=by
 refine ci_ ?_
 simp only [aH_,bf_ (jn_ (w:=[34]) hs (by simp) hp)]
 obtain ⟨p0,ok0,e0,_,hp0,hk0⟩:=kb_ (w:=[34]) (ok:=ok) (left:=left) hp
 rw [e0]
 have hs':=hs
 simp only [jV_] at hs
 have key:∀ (K:Nat→aH_.K4) (Q:Bs × a8_→Prop),(∀ (q:Nat) b o,q≤s.length→o.length≤jV_→(b=true→ok0=true)→Ans (fun n _=>K n s (q:Int) b left o) Q)→Ans (fun n _=>aH_.loop4 n (K n) n s (p0:Int) ok0 left []) Q:=by
  intro K Q hK
  refine gg_ (σ:=Nat × Bool × List Int) (fun n N st=>aH_.loop4 n (K n) N s (st.1:Int) st.2.1 left st.2.2) (fun st=>s.length - st.1) (fun st=>st.1≤s.length∧st.2.2.length≤st.1∧(st.2.1=true→ok0=true)) _ (fun st hI ih => ?_) (p0,ok0,[]) ⟨hp0,Nat.zero_le _,id⟩
  obtain ⟨q,b,o⟩:=st
  simp only at hI ih ⊢
  have hend:=hK q b o hI.1 (by simp only [jV_];omega) hI.2.2
  have hW:W ((q:Int)+1)=((q+1:Nat):Int):=by rw [W_id (by omega) (by omega)];omega
  have hW2:W (((q+1:Nat):Int)+1)=((q+1+1:Nat):Int):=by rw [W_id (by omega) (by omega)];omega
  simp only [aH_.turn4,aH_.step4,be_,bf_ eG_,hW,hW2,eX_,dN_,Int.toNat_natCast]
  refine ⟨fun hb=>⟨fun _=>⟨fun h92 => ?_,fun _=>⟨fun hc=>hK q false o hI.1 (by simp only [jV_];omega) (fun h=>(by cases h)),fun hc => ?_⟩⟩,fun _=>hend⟩,fun _=>hend⟩
  · have hlt:q<s.length:=os_ (fun e=>by rw [e] at h92;revert h92;decide)
    refine ⟨fun hc=>hK (q+1) false o (by omega) (by simp only [jV_];omega) (fun h=>(by cases h)),fun hc => ?_⟩
    have hc:=of_decide_eq_false hc
    exact ⟨by omega,by simp;omega,ih (q+1+1,b,_) ⟨by simp only;omega,by simp;omega,hI.2.2⟩ (by simp only;omega)⟩
  · have hc:=of_decide_eq_false hc
    exact ⟨by omega,by simp;omega,ih (q+1,b,_) ⟨by simp only;omega,by simp;omega,hI.2.2⟩ (by simp only;omega)⟩
 refine key _ _ fun q b o hq ho hb => ?_
 simp only [bf_ (jn_ (w:=[34]) hs' (by simp) hq),aS_]
 obtain ⟨p1,ok1,e1,h2,h3,h4⟩:=kb_ (w:=[34]) (ok:=b) (left:=left) hq
 exact ⟨p1,ok1,e1,h3,by simpa using ho,fun h=>hk0 (hb (h4 h))⟩
theorem kR_ {s t r:Bs} {p:Nat} {left:Int} (hs:s.length≤jV_) (h:At s p (dn_ t++r)) :
  Ev (fun n _=>aH_ n ⟨s,(p:Int),true,left⟩) (t,⟨s,((p+(dn_ t).length:Nat):Int),true,left⟩):=by
 have e:dn_ t++r=[34]++(t.flatMap fP_++34::r):=by simp [dn_]
 have eq:(dn_ t).length=1+(t.flatMap fP_).length+1:=by simp [dn_];omega
 rw [e] at h
 have h1:At s (p+1) (t.flatMap fP_++34::r):=h.next
 refine ao_ ?_
 simp only [aH_,ab_ (jn_ (w:=[34]) hs (by simp) h.le),pn_ h]
 have hs':=hs
 simp only [jV_] at hs
 have key:∀ (K:Nat→aH_.K4) (F:Bs × a8_),Ev (fun n _=>K n s ((p+1+(t.flatMap fP_).length:Nat):Int) true left (bi t)) F →
   ∀ (u v:Bs) (q:Nat),v++u=t→q=p+1+(v.flatMap fP_).length→At s q (u.flatMap fP_++34::r)→Ev (fun n N=>aH_.loop4 n (K n) N s (q:Int) true left (bi v)) F:=by
  intro K F hK u
  induction u with
  |nil=>
   intro v q hv hq ha
   rw [List.append_nil] at hv
   subst hv hq
   refine a9_ ?_
   have ha:At s (p+1+(v.flatMap fP_).length) (34::r):=ha
   simp only [aH_.turn4,aH_.step4,cond_true,ab_ eG_,eH_ ha]
   exact hK
  |cons c u ih=>
   intro v q hv hq ha
   have hnext:=ih (v++[c]) (q+(fP_ c).length) (by rw [←hv];simp) (by rw [hq];simp;omega) (by
    rw [List.flatMap_cons,List.append_assoc] at ha;exact ha.next)
   rw [←o6_] at hnext
   have hvl:v.length≤(v.flatMap fP_).length:=by
    clear hv hq hnext
    induction v with
    |nil=>exact Nat.le_refl _
    |cons c v ih=>rw [List.flatMap_cons,List.length_append,List.length_cons];have:1≤(fP_ c).length:=by unfold fP_;split<;>simp
                  omega
   have hbl:=k2_ v
   rw [List.flatMap_cons,List.append_assoc] at ha
   generalize bi v=o at hnext hbl ⊢
   refine a9_ ?_
   by_cases hc:c=34∨c=92
   · have e1:fP_ c=[92,c]:=if_pos hc
     rw [e1] at ha hnext
     have ha:At s q (92::c::(u.flatMap fP_++34::r)):=ha
     have hl:=ha.next1.lt
     have hW:W ((q:Int)+1)=((q+1:Nat):Int):=by rw [W_id (by omega) (by omega)];omega
     have hW2:W (((q+1:Nat):Int)+1)=((q+1+1:Nat):Int):=by rw [W_id (by omega) (by omega)];omega
     have hge:decide (((q+1:Nat):Int)≥(s.length:Int))=false:=decide_eq_false (by omega)
     have hp1:(((92:UInt8).toNat:Int) != 34)=true:=rfl
     have hp2:(((92:UInt8).toNat:Int) == 92)=true:=rfl
     simp only [aH_.turn4,aH_.step4,cond_true,cond_false,ab_ eG_,eH_ ha,hp1,hp2,hW,hW2,hge,bb_,ba_,Int.toNat_natCast,hl.2]
     exact ⟨by omega,by simp;omega,hnext⟩
   · have e1:fP_ c=[c]:=if_neg hc
     rw [e1] at ha hnext
     have ha:At s q (c::(u.flatMap fP_++34::r)):=ha
     have hl:=ha.lt
     have hW:W ((q:Int)+1)=((q+1:Nat):Int):=by rw [W_id (by omega) (by omega)];omega
     have hge:decide ((q:Int)≥(s.length:Int))=false:=decide_eq_false (by omega)
     have hp1:((c.toNat:Int) != 34)=true:=by
      show (!((c.toNat:Int) == 34))=true
      rw [byte34,decide_eq_false fun e=>hc (.inl e)];rfl
     have hp2:((c.toNat:Int) == 92)=false:=by rw [byte92,decide_eq_false fun e=>hc (.inr e)]
     simp only [aH_.turn4,aH_.step4,cond_true,cond_false,ab_ eG_,eH_ ha,hp1,hp2,hW,hge,bb_,ba_,Int.toNat_natCast,hl.2]
     exact ⟨by omega,by simp;omega,hnext⟩
 have h2:At s (p+1+(t.flatMap fP_).length) (34::r):=h1.next
 have:=key (fun n=>fun xy4 xy5 xy6 xy7 xy8=>((ce_ n (a8_.mk xy4 xy5 xy6 xy7) [34]).bind fun xr9=>(some ((hL_ xy8),xr9)))) (t,⟨s,((p+(dn_ t).length:Nat):Int),true,left⟩) (by
  simp only [ab_ (jn_ (w:=[34]) hs' (by simp) h2.le),pn_ (w:=[34]) h2,ae_,ka_]
  show (t,a8_.mk s ((p+1+(t.flatMap fP_).length+1:Nat):Int) true left)=_
  rw [show p+1+(t.flatMap fP_).length+1=p+(dn_ t).length by omega]) t [] (p+1) rfl rfl h1
 exact cZ_ (f:=fun n N=>aH_.loop4 n (fun xy4 xy5 xy6 xy7 xy8=>((ce_ n (a8_.mk xy4 xy5 xy6 xy7) [34]).bind fun xr9=>(some ((hL_ xy8),xr9)))) N s ((p+1:Nat):Int) true left []) this
theorem kU_ {s:Bs} {p:Nat} {ok:Bool} {left:Int} (hs:s.length≤jV_) (hp:p≤s.length) :
  Ans (fun n _=>aE_ n ⟨s,(p:Int),ok,left⟩) fun x=>∃ p' ok',x.2=⟨s,((p':Nat):Int),ok',left⟩∧p'≤s.length∧(ok'=true→ok=true) ∧ -9223372036854775808≤x.1∧x.1≤9223372036854775807:=by
 have hWr:∀ x:Int,-9223372036854775808≤W x∧W x≤9223372036854775807:=by
  intro x
  show -9223372036854775808≤IntKind.i64.wrap x∧IntKind.i64.wrap x≤9223372036854775807
  rw [IntKind.wrap_i64];omega
 simp only [jV_] at hs
 have key:∀ (K:Nat→aE_.K7) (Q:Int × a8_→Prop) (t3:Bool) (t4:Int) (p0:Nat),p0≤s.length→(∀ (q:Nat) (x:Int),q≤s.length → -9223372036854775808≤x→x≤9223372036854775807→Ans (fun n _=>K n t3 t4 x s (q:Int) ok left) Q)→Ans (fun n _=>aE_.loop7 n (K n) n t3 t4 0 s (p0:Int) ok left) Q:=by
  intro K Q t3 t4 p0 hp0 hK
  refine gg_ (σ:=Nat × Int) (fun n N st=>aE_.loop7 n (K n) N t3 t4 st.2 s (st.1:Int) ok left) (fun st=>s.length - st.1) (fun st=>st.1≤s.length ∧ -9223372036854775808≤st.2∧st.2≤9223372036854775807) _ (fun st hI ih => ?_) (p0,0) ⟨hp0,by simp,by simp⟩
  obtain ⟨q,x⟩:=st
  simp only at hI ih ⊢
  have hend:=hK q x hI.1 hI.2.1 hI.2.2
  have hW:W ((q:Int)+1)=((q+1:Nat):Int):=by rw [W_id (by omega) (by omega)];omega
  simp only [aE_.turn7,aE_.step7,be_,bf_ eG_,hW]
  refine ⟨fun h48=>⟨fun _=>⟨fun _ => ?_,fun _=>hend⟩,fun _=>hend⟩,fun _=>hend⟩
  have h48:=of_decide_eq_true h48
  have hlt:q<s.length:=os_ (fun e=>by omega)
  exact ih (q+1,_) ⟨by simp only;omega,hWr _⟩ (by simp only;omega)
 refine ci_ ?_
 simp only [aE_,bf_ eG_,be_]
 refine ⟨fun h45 => ?_,fun _ => ?_⟩
 · have hlt:p<s.length:=os_ (fun e=>by rw [e] at h45;revert h45;decide)
   have hW:W ((p:Int)+1)=((p+1:Nat):Int):=by rw [W_id (by omega) (by omega)];omega
   rw [hW]
   refine key _ _ _ _ (p+1) (by omega) fun q x hq hx0 hx1 => ?_
   simp only [be_,aS_]
   exact ⟨fun _=>⟨fun _=>⟨q,false,rfl,hq,fun h=>(by cases h),hWr _⟩,fun _=>⟨q,false,rfl,hq,fun h=>(by cases h),hx0,hx1⟩⟩,fun _=>⟨fun _=>⟨q,ok,rfl,hq,id,hWr _⟩,fun _=>⟨q,ok,rfl,hq,id,hx0,hx1⟩⟩⟩
 · refine key _ _ _ _ p hp fun q x hq hx0 hx1 => ?_
   simp only [be_,aS_]
   exact ⟨fun _=>⟨fun _=>⟨q,false,rfl,hq,fun h=>(by cases h),hWr _⟩,fun _=>⟨q,false,rfl,hq,fun h=>(by cases h),hx0,hx1⟩⟩,fun _=>⟨fun _=>⟨q,ok,rfl,hq,id,hWr _⟩,fun _=>⟨q,ok,rfl,hq,id,hx0,hx1⟩⟩⟩
theorem kT_ {s r:Bs} {p:Nat} {left:Int} {n:Int} (hs:s.length≤jV_) (h0 : -1000000000≤n) (h1:n≤1000000000) (hst:Stop r) (h:At s p (Lib.itoa n++r)) :
  Ev (fun m _=>aE_ m ⟨s,(p:Int),true,left⟩) (n,⟨s,((p+(Lib.itoa n).length:Nat):Int),true,left⟩):=by
 simp only [jV_] at hs
 have key:∀ (K:Nat→aE_.K7) (F:Int × a8_) (t3:Bool) (f:Nat) (D:Bs),(∀ c ∈ D,fF_ c)→∀ (q x:Nat),f≤q→q+D.length≤f+10→j8_ x D≤1000000000→At s q (D++r) →
   Ev (fun n _=>K n t3 (f:Int) (j8_ x D:Int) s ((q+D.length:Nat):Int) true left) F→Ev (fun n N=>aE_.loop7 n (K n) N t3 (f:Int) (x:Int) s (q:Int) true left) F:=by
  intro K F t3 f D
  induction D with
  |nil=>
   intro _ q x hf hl hv ha hK
   refine a9_ ?_
   have hK:Ev (fun n _=>K n t3 (f:Int) (x:Int) s (q:Int) true left) F:=hK
   have ha:At s q r:=ha
   simp only [aE_.turn7,aE_.step7,ab_ eG_,al_]
   have hnd:¬ (48≤io_ s q∧io_ s q≤57):=by
    cases r with
    |nil=>rw [peek_end ha];omega
    |cons c r=>rw [eH_ ha];have:=hst c r rfl;unfold fF_ at this;omega
   exact ⟨fun a=>⟨fun b=>absurd ⟨of_decide_eq_true a,of_decide_eq_true b⟩ hnd,fun _=>hK⟩,fun _=>hK⟩
  |cons c D ih=>
   intro hd q x hf hl hv ha hK
   have hc:=hd c (List.mem_cons_self ..)
   unfold fF_ at hc
   rw [jl_] at hv hK
   have hle:=val_le (10*x+(c.toNat - 48)) D
   have ha:At s q (c::(D++r)):=ha
   have hlt:=ha.lt
   simp only [List.length_cons] at hl
   have hn:=ih (fun c hc=>hd c (List.mem_cons_of_mem _ hc)) (q+1) (10*x+(c.toNat - 48)) (by omega) (by omega) hv ha.next1 (by
    rw [show q+1+D.length=q+(c::D).length by simp;omega];exact hK)
   have hW:W ((q:Int)+1)=((q+1:Nat):Int):=by rw [W_id (by omega) (by omega)];omega
   have hW2:W ((q:Int) - (f:Int))=(q:Int) - f:=W_id (by omega) (by omega)
   have hW3:W (10*(x:Int))=((10*x:Nat):Int):=by rw [W_id (by omega) (by omega)];omega
   have hW4:W (((10*x:Nat):Int)+(c.toNat:Int))=((10*x+c.toNat:Nat):Int):=by rw [W_id (by omega) (by omega)];omega
   have hW5:W (((10*x+c.toNat:Nat):Int) - 48)=((10*x+(c.toNat - 48):Nat):Int):=by rw [W_id (by omega) (by omega)];omega
   refine a9_ ?_
   simp only [aE_.turn7,aE_.step7,ab_ eG_,eH_ ha,sC_,hW,hW2,hW3,hW4,hW5,al_]
   exact ⟨fun _=>⟨fun _=>⟨fun _=>hn,fun hx=>by have:=of_decide_eq_false hx;omega⟩,fun hx=>by have:=of_decide_eq_false hx;omega⟩,fun hx=>by have:=of_decide_eq_false hx;omega⟩
 refine ao_ ?_
 by_cases hn:n<0
 · have e:Lib.itoa n=45::Lib.decDigits n.natAbs:=by unfold Lib.itoa;rw [if_pos hn]
   rw [e] at h ⊢
   have hdp:=mG_ n.natAbs
   have hdl:=ri_ 9 n.natAbs (by omega)
   have hdd:=ig_ n.natAbs
   have hdv:=n9_ n.natAbs
   generalize Lib.decDigits n.natAbs=D at h hdp hdl hdd hdv ⊢
   have h:At s p (45::(D++r)):=h
   have hlt:=h.lt
   have hW:W ((p:Int)+1)=((p+1:Nat):Int):=by rw [W_id (by omega) (by omega)];omega
   have hW0:W (0 - ((n.natAbs:Nat):Int))=n:=by rw [W_id (by omega) (by omega)];omega
   have h45:(((45:UInt8).toNat:Int) == 45)=true:=rfl
   simp only [aE_,ab_ eG_,eH_ h,h45,cond_true,hW]
   have hne:(((p+1+D.length:Nat):Int) == ((p+1:Nat):Int))=false:=beq_eq_false_iff_ne.2 (by omega)
   have:=key (fun n=>fun xy5 xy6 xy7 xy8 xy9 xy10 xy11=>(cond (xy9 == xy6) (cond xy5 (some ((W (0 - xy7)),(a8_.mk xy8 xy9 false xy11))) (some (xy7,(a8_.mk xy8 xy9 false xy11)))) (cond xy5 (some ((W (0 - xy7)),(a8_.mk xy8 xy9 xy10 xy11))) (some (xy7,(a8_.mk xy8 xy9 xy10 xy11)))))) (n,⟨s,((p+(45::D).length:Nat):Int),true,left⟩) true (p+1) D hdd (p+1) 0 (Nat.le_refl _) (by omega) (by omega) h.next1 (by
    simp only [hne,cond_false,cond_true,hdv,hW0,ae_,List.length_cons];congr 3;omega)
   exact cZ_ (f:=fun n N=>aE_.loop7 n (fun xy5 xy6 xy7 xy8 xy9 xy10 xy11=>(cond (xy9 == xy6) (cond xy5 (some ((W (0 - xy7)),(a8_.mk xy8 xy9 false xy11))) (some (xy7,(a8_.mk xy8 xy9 false xy11)))) (cond xy5 (some ((W (0 - xy7)),(a8_.mk xy8 xy9 xy10 xy11))) (some (xy7,(a8_.mk xy8 xy9 xy10 xy11)))))) N true ((p+1:Nat):Int) 0 s ((p+1:Nat):Int) true left) this
 · have e:Lib.itoa n=Lib.decDigits n.toNat:=by unfold Lib.itoa;rw [if_neg hn]
   rw [e] at h ⊢
   have hdp:=mG_ n.toNat
   have hdl:=ri_ 9 n.toNat (by omega)
   have hdd:=ig_ n.toNat
   have hdv:=n9_ n.toNat
   generalize Lib.decDigits n.toNat=D at h hdp hdl hdd hdv ⊢
   have h45:(io_ s p == 45)=false:=by
    cases D with
    |nil=>simp at hdp
    |cons c D=>
     have h:At s p (c::(D++r)):=h
     have hc:=hdd c (List.mem_cons_self ..)
     unfold fF_ at hc
     rw [eH_ h];exact beq_eq_false_iff_ne.2 (by omega)
   have hN:((n.toNat:Nat):Int)=n:=by omega
   simp only [aE_,ab_ eG_,h45,cond_false]
   have hne:(((p+D.length:Nat):Int) == (p:Int))=false:=beq_eq_false_iff_ne.2 (by omega)
   have:=key (fun n=>fun xy12 xy13 xy14 xy15 xy16 xy17 xy18=>(cond (xy16 == xy13) (cond xy12 (some ((W (0 - xy14)),(a8_.mk xy15 xy16 false xy18))) (some (xy14,(a8_.mk xy15 xy16 false xy18)))) (cond xy12 (some ((W (0 - xy14)),(a8_.mk xy15 xy16 xy17 xy18))) (some (xy14,(a8_.mk xy15 xy16 xy17 xy18)))))) (n,⟨s,((p+D.length:Nat):Int),true,left⟩) false p D hdd p 0 (Nat.le_refl _) (by omega) (by omega) h (by
    simp only [hne,cond_false,hdv,hN,ae_])
   exact cZ_ (f:=fun n N=>aE_.loop7 n (fun xy12 xy13 xy14 xy15 xy16 xy17 xy18=>(cond (xy16 == xy13) (cond xy12 (some ((W (0 - xy14)),(a8_.mk xy15 xy16 false xy18))) (some (xy14,(a8_.mk xy15 xy16 false xy18)))) (cond xy12 (some ((W (0 - xy14)),(a8_.mk xy15 xy16 xy17 xy18))) (some (xy14,(a8_.mk xy15 xy16 xy17 xy18)))))) N false (p:Int) 0 s (p:Int) true left) this
end Go.Pi
end
section
namespace Go.Pi
def rH_ (s:Bs) (left:Int) (d:Nat) (x:aa_ × a8_):Prop :=
 ∃ (p':Nat) (ok':Bool) (left':Int),x.2=⟨s,(p':Int),ok',left'⟩∧p'≤s.length ∧ -1≤left'∧left'<left∧(ok'=true→0≤left')∧ft_ d x.1
theorem many_any {s:Bs} (hs:s.length≤jV_) {d:Nat} (hd:d≤1000) (ih:∀ (p:Nat) (ok:Bool) (left:Int),p≤s.length→0≤left→left≤400→Ans (fun n _=>bS_ n ⟨s,(p:Int),ok,left⟩ (d:Int)) (rH_ s left d))
  (p:Nat) (left:Int) (hp:p<s.length) (h0:0≤left) (h1:left≤400):Ans (fun n _=>aY_ n ⟨s,(p:Int),true,left⟩ ((d+1:Nat):Int)) (rH_ s (left+1) (d+1)):=by
 have hW:W (((d+1:Nat):Int) - 1)=(d:Int):=by rw [W_id (by omega) (by omega)];omega
 have hs':=hs
 simp only [jV_] at hs
 have hWp:W ((p:Int)+1)=((p+1:Nat):Int):=by rw [W_id (by omega) (by omega)];omega
 have key:∀ (K:Nat→aY_.K8_1) (Q:aa_ × a8_→Prop) (kind:Int) (e:UInt8),(∀ (q:Nat) b (l:Int) js ns,q≤s.length → -1≤l→l≤left→(b=true→0≤l)→js.length≤402→(∀ y ∈ js,ft_ d y)→ns.length≤402→(∀ y ∈ ns,y.length≤jV_)→Ans (fun n _=>K n [e] s (q:Int) b l 0 0 [] kind 0 [] js ns) Q) →
   Ans (fun n _=>aY_.loop8 n (bS_ n) (K n) n ((d+1:Nat):Int) [e] s ((p+1:Nat):Int) true left 0 0 [] kind 0 [] [] []) Q:=by
  intro K Q kind e hK
  refine gg_ (σ:=Nat × Bool × Int × List aa_ × List Bs) (fun n N st=>aY_.loop8 n (bS_ n) (K n) N ((d+1:Nat):Int) [e] s (st.1:Int) st.2.1 st.2.2.1 0 0 [] kind 0 [] st.2.2.2.1 st.2.2.2.2)
   (fun st=>(st.2.2.1+1).toNat) (fun st=>st.1≤s.length ∧ -1≤st.2.2.1∧st.2.2.1+st.2.2.2.1.length≤left∧(st.2.1=true→0≤st.2.2.1)∧(∀ y ∈ st.2.2.2.1,ft_ d y)∧st.2.2.2.2.length≤st.2.2.2.1.length∧(∀ y ∈ st.2.2.2.2,y.length≤jV_)) _ (fun st hI ihl => ?_) (p+1,true,left,[],[]) ⟨hp,by simp only;omega,by simp,fun _=>h0,fun y h=>(by cases h),Nat.le_refl _,fun y h=>(by cases h)⟩
  obtain ⟨q,b,l,js,ns⟩:=st
  simp only at hI ihl ⊢
  obtain ⟨i1,i2,i3,i4,i5,i6,i7⟩:=hI
  have hend:=hK q b l js ns i1 i2 (by omega) i4 (by omega) i5 (by omega) i7
  simp only [aY_.turn8,aY_.step8,aW_,hW,be_,bf_ eG_,eX_,List.length_cons,List.length_nil]
  refine ⟨fun hb=>⟨by omega,fun _ => ?_,fun _=>hend⟩,fun _=>hend⟩
  subst hb
  have l0:=i4 rfl
  have step:∀ (q:Nat) (b:Bool) (ns':List Bs),q≤s.length→ns'.length≤js.length+1→(∀ y ∈ ns',y.length≤jV_) →
    Ans (fun n N=>(bS_ n ⟨s,(q:Int),b,l⟩ (d:Int)).bind fun xr6=>bm_ (js.length+(0+1)) 80 (aY_.loop8 n (bS_ n) (K n) N ((d+1:Nat):Int) [e] xr6.2.s xr6.2.at_ xr6.2.ok xr6.2.left 0 0 [] kind 0 [] (js++[xr6.1]) ns')) Q:=by
   intro q b ns' hq hn hnb
   refine az_ (ih q b l hq l0 (by omega)) fun v hv => ?_
   obtain ⟨j,c⟩:=v
   obtain ⟨p',ok',left',e1,e2,e3,e4,e5,e6⟩:=hv
   simp only at e1 e6
   subst e1
   simp only [dN_]
   refine ⟨by omega,ihl (p',ok',left',js++[j],ns') ⟨e2,e3,by simp;omega,e5,?_,by simpa using hn,hnb⟩ (by simp only;omega)⟩
   intro y hy
   rcases List.mem_append.1 hy with hy|hy
   · exact i5 y hy
   · obtain rfl:=List.mem_singleton.1 hy;exact e6
  have named:∀ (q:Nat) (b:Bool),q≤s.length →
    Ans (fun n N=>(aH_ n ⟨s,(q:Int),b,l⟩).bind fun xr4=>bm_ (ns.length+(0+1)) 16 ((ce_ n xr4.2 [58]).bind fun xr5=>(bS_ n xr5 (d:Int)).bind fun xr6=>bm_ (js.length+(0+1)) 80 (aY_.loop8 n (bS_ n) (K n) N ((d+1:Nat):Int) [e] xr6.2.s xr6.2.at_ xr6.2.ok xr6.2.left 0 0 [] kind 0 [] (js++[xr6.1]) (ns++[xr4.1])))) Q:=by
   intro q b hq
   refine az_ (kS_ (ok:=b) (left:=l) hs' hq) fun v hv => ?_
   obtain ⟨t,c⟩:=v
   obtain ⟨p',ok',e1,e2,e3,e4⟩:=hv
   simp only at e1 e3
   subst e1
   obtain ⟨p2,ok2,g1,g2,g3,g4⟩:=kb_ (w:=[58]) (ok:=ok') (left:=l) e2
   simp only [dN_,bf_ (jn_ (w:=[58]) hs' (by simp) e2),g1]
   refine ⟨by omega,step p2 ok2 (ns++[t]) g3 (by simp;omega) fun y hy => ?_⟩
   rcases List.mem_append.1 hy with hy|hy
   · exact i7 y hy
   · obtain rfl:=List.mem_singleton.1 hy;exact e3
  refine ⟨fun _ => ?_,fun _=>⟨fun _=>named q true i1,fun _=>step q true ns i1 (by omega) i7⟩⟩
  obtain ⟨p2,ok2,g1,g2,g3,g4⟩:=kb_ (w:=[44]) (ok:=true) (left:=l) i1
  simp only [bf_ (jn_ (w:=[44]) hs' (by simp) i1),g1,be_]
  exact ⟨fun _=>named p2 ok2 g3,fun _=>step p2 ok2 ns g3 (by omega) i7⟩
 have fin:∀ (e:UInt8) (kind:Int) (q:Nat) (b:Bool) (l:Int) (js:List aa_) (ns:List Bs),q≤s.length → -1≤l→l≤left→(b=true→0≤l)→js.length≤402→(∀ y ∈ js,ft_ d y)→ns.length≤402→(∀ y ∈ ns,y.length≤jV_) →
   Ans (fun n (_:Nat)=>(ce_ n (a8_.mk s (q:Int) b l) [e]).bind fun xr25=>some ((aa_.mk kind 0 [] js ns),xr25)) (rH_ s (left+1) (d+1)):=by
  intro e kind q b l js ns a1 a2 a3 a4 a5 a6 a7 a8
  obtain ⟨p2,ok2,g1,g2,g3,g4⟩:=kb_ (w:=[e]) (ok:=b) (left:=l) a1
  simp only [bf_ (jn_ (w:=[e]) hs' (by simp) a1),g1,aS_]
  refine ⟨p2,ok2,l,rfl,g3,a2,by omega,fun h=>a4 (g4 h),⟨Nat.zero_le _,?_,fun y hy => ?_⟩,?_,a6⟩
  · show ns.length≤cb_;simp only [cb_];omega
  · have:=a8 y hy;simp only [jV_] at this;simp only [cb_];omega
  · show js.length≤cb_;simp only [cb_];omega
 refine ci_ ?_
 simp only [aY_,bf_ eG_,be_,hWp]
 exact ⟨fun _=>key _ _ 5 125 fun q b l js ns a1 a2 a3 a4 a5 a6 a7 a8=>fin 125 5 q b l js ns a1 a2 a3 a4 a5 a6 a7 a8,fun _=>key _ _ 4 93 fun q b l js ns a1 a2 a3 a4 a5 a6 a7 a8=>fin 93 4 q b l js ns a1 a2 a3 a4 a5 a6 a7 a8⟩
theorem mi_ {s:Bs} (hs:s.length≤jV_):∀ (d:Nat),d≤1000→∀ (p:Nat) (ok:Bool) (left:Int),p≤s.length→0≤left→left≤400→Ans (fun n _=>bS_ n ⟨s,(p:Int),ok,left⟩ (d:Int)) (rH_ s left d)
 |0,_,p,ok,left,hp,h0,h1=>by
  have hl:W (left - 1)=left - 1:=W_id (by omega) (by omega)
  refine ci_ ?_
  simp only [bS_,be_,aS_,hl]
  exact ⟨fun _=>⟨p,false,_,rfl,hp,by omega,by omega,fun h=>(by cases h),trivial⟩,fun h=>by simp at h⟩
 |d+1,hd,p,ok,left,hp,h0,h1=>by
  have ihm:=many_any hs (d:=d) (by omega) (mi_ hs d (by omega))
  have hl:W (left - 1)=left - 1:=W_id (by omega) (by omega)
  refine ci_ ?_
  simp only [bS_,aW_,be_,aS_,hl,bf_ eG_]
  refine ⟨fun h=>by simp at h;omega,fun _=>⟨fun _=>⟨p,false,_,rfl,hp,by omega,by omega,fun h=>(by cases h),e2_⟩,fun hc => ?_⟩⟩
  have hc:=of_decide_eq_false hc
  refine ⟨fun _=>⟨p,ok,_,rfl,hp,by omega,by omega,fun h=>by omega,e2_⟩,fun hok => ?_⟩
  have hok:ok=true:=by simpa using hok
  subst hok
  have lit:∀ (w:Bs) (k n:Int),w.length≤100→Ans (fun m (_:Nat)=>(ce_ m ⟨s,(p:Int),true,left - 1⟩ w).bind fun xr=>some (aa_.mk k n [] [] [],xr)) (rH_ s left (d+1)):=by
   intro w k n hw
   obtain ⟨p2,ok2,g1,g2,g3,g4⟩:=kb_ (w:=w) (ok:=true) (left:=left - 1) hp
   simp only [bf_ (jn_ (w:=w) hs hw hp),g1,aS_]
   exact ⟨p2,ok2,_,rfl,g3,by omega,by omega,fun _=>by omega,e2_⟩
  have num:Ans (fun m (_:Nat)=>(aE_ m ⟨s,(p:Int),true,left - 1⟩).bind fun xr=>some (aa_.mk 2 xr.1 [] [] [],xr.2)) (rH_ s left (d+1)):=by
   refine az_ (kU_ (ok:=true) (left:=left - 1) hs hp) fun v hv => ?_
   obtain ⟨x,c⟩:=v
   obtain ⟨p',ok',e1,e2,e3,_⟩:=hv
   simp only at e1
   subst e1
   simp only [aS_]
   exact ⟨p',ok',_,rfl,e2,by omega,by omega,fun _=>by omega,e2_⟩
  have many:(io_ s p == 91)=true∨(io_ s p == 123)=true→Ans (fun n (_:Nat)=>(aY_ n ⟨s,(p:Int),true,left - 1⟩ ((d+1:Nat):Int)).bind fun xr8=>some (xr8.1,xr8.2)) (rH_ s left (d+1)):=by
   intro hpk
   have hlt:p<s.length:=os_ (fun e=>by rw [e] at hpk;revert hpk;decide)
   refine az_ (ihm p (left - 1) hlt (by omega) (by omega)) fun v hv => ?_
   simp only [aS_]
   obtain ⟨p',ok',left',e1,e2,e3,e4,e5,e6⟩:=hv
   exact ⟨p',ok',left',e1,e2,e3,by omega,e5,e6⟩
  refine ⟨fun _=>lit _ 0 0 (by simp),fun _=>⟨fun _=>lit _ 1 1 (by simp),fun _=>⟨fun _=>lit _ 1 0 (by simp),fun _=>⟨fun _ => ?_,fun _=>⟨fun h=>⟨fun _=>many (.inl h),fun _=>num⟩,fun _=>⟨fun h=>many (.inr h),fun _=>num⟩⟩⟩⟩⟩⟩
  refine az_ (kS_ (ok:=true) (left:=left - 1) hs hp) fun v hv => ?_
  obtain ⟨t,c⟩:=v
  obtain ⟨p',ok',e1,e2,e3,e4⟩:=hv
  simp only at e1 e3
  subst e1
  simp only [aS_]
  exact ⟨p',ok',_,rfl,e2,by omega,by omega,fun _=>by omega,pP_ (by simp only [jV_] at e3;simp only [cb_];omega)⟩
end Go.Pi
end
section
namespace Go.Pi
theorem r5_ {s:Bs} (hs:s.length≤jV_) {d:Nat} (hd:d≤1000) {j:aa_} (h:bG_ (d+1) j≤400) (hk:j.kind=4∨j.kind=5)
  (ih:∀ x,bG_ d x≤400→∀ (p:Nat) (r:Bs) (left:Int),Stop r→(bG_ d x:Int)≤left→left≤400→At s p (FEnc d x++r)→Ev (fun n _=>bS_ n ⟨s,(p:Int),true,left⟩ (d:Int)) (x,⟨s,((p+(FEnc d x).length:Nat):Int),true,left - bG_ d x⟩))
  (o c:UInt8) (hoc:(j.kind=4→o=91∧c=93)∧(j.kind=5→o=123∧c=125)) (r:Bs) (p:Nat) (left:Int) (hl:(eo_ (bG_ d) j.list:Int)≤left) (hl2:left≤400) (ha:At s p (o::(ej_ (FEnc d) j j.list.length++c::r))) :
  Ev (fun n _=>aY_ n ⟨s,(p:Int),true,left⟩ ((d+1:Nat):Int)) (aa_.mk j.kind 0 [] j.list j.names,⟨s,((p+1+(ej_ (FEnc d) j j.list.length).length+1:Nat):Int),true,left - eo_ (bG_ d) j.list⟩):=by
 have hW:W (((d+1:Nat):Int) - 1)=(d:Int):=by rw [W_id (by omega) (by omega)];omega
 have hs':=hs
 simp only [jV_] at hs
 have hll:=eT_ h
 have hnl:=fR_ h
 have ho:=(d2_ h).1
 have ho2:=fp_ (e1_ h)
 have hlt:=ha.lt
 have hWp:W ((p:Int)+1)=((p+1:Nat):Int):=by rw [W_id (by omega) (by omega)];omega
 have hc:c.toNat=93∨c.toNat=125:=by
  rcases hk with hk|hk
  · rw [(hoc.1 hk).2];exact .inl rfl
  · rw [(hoc.2 hk).2];exact .inr rfl
 have hcd:¬ fF_ c:=rf_ (kind:=0) hc
 have key:∀ (K:Nat→aY_.K8_1) (F:aa_ × a8_) (k i q:Nat) (left:Int),i+k=j.list.length→(eo_ (bG_ d) (j.list.drop i):Int)≤left→left≤400→At s q (dK_ (FEnc d) j k i++c::r) →
   Ev (fun n _=>K n [c] s ((q+(dK_ (FEnc d) j k i).length:Nat):Int) true (left - eo_ (bG_ d) (j.list.drop i)) 0 0 [] j.kind 0 [] j.list j.names) F →
   Ev (fun n N=>aY_.loop8 n (bS_ n) (K n) N ((d+1:Nat):Int) [c] s (q:Int) true left 0 0 [] j.kind 0 [] (j.list.take i) (j.names.take i)) F:=by
  intro K F k
  induction k with
  |zero=>
   intro i q left hi hl _ ha hK
   have ei:i=j.list.length:=by omega
   subst ei
   have en:j.names.take j.list.length=j.names:=by
    rcases hk with hk|hk
    · rw [ho2.ns0 (by omega)];simp
    · exact List.take_of_length_le (by rw [(ho.obj hk).1];exact Nat.le_refl _)
   have ha:At s q (c::r):=ha
   have hK:Ev (fun n _=>K n [c] s (q:Int) true left 0 0 [] j.kind 0 [] j.list j.names) F:=by
    simpa [dK_,eo_] using hK
   refine a9_ ?_
   have hne:((c.toNat:Int) != (([c]:Bs).getD 0 0).toNat)=false:=by simp
   simp only [aY_.turn8,aY_.step8,List.take_length,en,cond_true,ab_ eG_,eH_ ha,hne,cond_false,bb_]
   exact ⟨by simp,hK⟩
  |succ k ihk=>
   intro i q left hi hl hl2 ha hK
   have hlti:i<j.list.length:=by omega
   have hp:=fB_ h (i:=i) (by omega)
   rw [jp_ (bG_ d) aa_.dflt hlti] at hl hK
   have hnext:=ihk (i+1)
   rw [cE_ aa_.dflt hlti] at hnext
   have hx:=ih _ hp.size
   have hst:Stop (dK_ (FEnc d) j k (i+1)++c::r):=ps_ _ _ _ _ hcd r
   have etl:(j.list.take i).length=i:=by simp;omega
   have kj_:∀ (q':Nat),At s q' (dD_ (FEnc d) j i++(dK_ (FEnc d) j k (i+1)++c::r))→q'+(dD_ (FEnc d) j i).length+(dK_ (FEnc d) j k (i+1)).length=q+(dK_ (FEnc d) j (k+1) i).length →
     Ev (fun n N=>cond (j.kind == 5) ((aH_ n ⟨s,(q':Int),true,left⟩).bind fun xr4=>bm_ ((j.names.take i).length+[xr4.1].length) 16 ((ce_ n xr4.2 [58]).bind fun xr5=>(bS_ n xr5 (d:Int)).bind fun xr6=>bm_ ((j.list.take i).length+[xr6.1].length) 80 (aY_.loop8 n (bS_ n) (K n) N ((d+1:Nat):Int) [c] xr6.2.s xr6.2.at_ xr6.2.ok xr6.2.left 0 0 [] j.kind 0 [] (j.list.take i++[xr6.1]) (j.names.take i++[xr4.1]))))
      ((bS_ n ⟨s,(q':Int),true,left⟩ (d:Int)).bind fun xr6=>bm_ ((j.list.take i).length+[xr6.1].length) 80 (aY_.loop8 n (bS_ n) (K n) N ((d+1:Nat):Int) [c] xr6.2.s xr6.2.at_ xr6.2.ok xr6.2.left 0 0 [] j.kind 0 [] (j.list.take i++[xr6.1]) (j.names.take i)))) F:=by
    intro q' ha' hq'
    rcases hk with hk|hk
    · have h5:(j.kind == 5)=false:=by rw [hk];rfl
      have en:j.names=[]:=ho2.ns0 (by omega)
      have ef:dD_ (FEnc d) j i=FEnc d (j.list.getD i aa_.dflt):=by unfold dD_;rw [h5];rfl
      rw [ef] at ha' hq'
      have hx:=hx q' _ left hst (by omega) hl2 ha'
      have hn:=hnext (q'+(FEnc d (j.list.getD i aa_.dflt)).length) (left - bG_ d (j.list.getD i aa_.dflt)) (by omega) (by omega) (by omega) ha'.next (by
       rw [hq',show left - (bG_ d (j.list.getD i aa_.dflt):Int) - (eo_ (bG_ d) (j.list.drop (i+1)):Int)=left - ((bG_ d (j.list.getD i aa_.dflt)+eo_ (bG_ d) (j.list.drop (i+1)):Nat):Int) by omega]
       exact hK)
      rw [en,List.take_nil] at hn
      simp only [h5,cond_false,ab_ hx,ba_,en,List.take_nil]
      exact ⟨by simp;omega,hn⟩
    · have h5:(j.kind == 5)=true:=by rw [hk];rfl
      obtain ⟨o1,o2⟩:=ho.obj hk
      have ef:dD_ (FEnc d) j i=dn_ (j.names.getD i [])++([58]++FEnc d (j.list.getD i aa_.dflt)):=by unfold dD_;rw [h5];rfl
      rw [ef] at ha' hq'
      simp only [List.append_assoc] at ha'
      have hq:=kR_ (left:=left) hs' ha'
      have ha2:=ha'.next
      have ha3:=ha2.next
      have hx:=hx _ _ left hst (by omega) hl2 ha3
      rw [cE_ [] (show i<j.names.length by omega)] at hnext
      have hn:=hnext _ (left - bG_ d (j.list.getD i aa_.dflt)) (by omega) (by omega) (by omega) ha3.next (by
       rw [show q'+(dn_ (j.names.getD i [])).length+([58]:Bs).length+(FEnc d (j.list.getD i aa_.dflt)).length+(dK_ (FEnc d) j k (i+1)).length=q+(dK_ (FEnc d) j (k+1) i).length by rw [←hq'];simp only [List.length_append];omega,
        show left - (bG_ d (j.list.getD i aa_.dflt):Int) - (eo_ (bG_ d) (j.list.drop (i+1)):Int)=left - ((bG_ d (j.list.getD i aa_.dflt)+eo_ (bG_ d) (j.list.drop (i+1)):Nat):Int) by omega]
       exact hK)
      simp only [h5,cond_true,ab_ hq,ab_ (jn_ (w:=[58]) hs' (by simp) ha2.le),pn_ ha2,ab_ hx,ba_]
      exact ⟨by simp;omega,by simp;omega,hn⟩
   refine a9_ ?_
   by_cases h0:i=0
   · have e0:dK_ (FEnc d) j (k+1) i=dD_ (FEnc d) j i++dK_ (FEnc d) j k (i+1):=by rw [dK_,if_pos h0];rfl
     have ha':At s q (dD_ (FEnc d) j i++(dK_ (FEnc d) j k (i+1)++c::r)):=by rw [e0,List.append_assoc] at ha;exact ha
     have hr:=kj_ q ha' (by rw [e0,List.length_append];omega)
     obtain ⟨a,p0,ep,hp1,hp2,hp3⟩:=n5_ h (i:=i) (by omega)
     have hpk:(io_ s q != (([c]:Bs).getD 0 0).toNat)=true:=by
      rw [ep] at ha'
      rw [eH_ (t:=p0++(dK_ (FEnc d) j k (i+1)++c::r)) ha']
      show (!((a.toNat:Int) == (c.toNat:Int)))=true
      rw [beq_eq_false_iff_ne.2 (by omega)];rfl
     have hg:decide (((j.list.take i).length:Int) > 0)=false:=decide_eq_false (by omega)
     simp only [aY_.turn8,aY_.step8,aW_,hW,cond_true,ab_ eG_,hpk,hg,cond_false,bb_]
     exact ⟨by simp,hr⟩
   · have e0:dK_ (FEnc d) j (k+1) i=[44]++(dD_ (FEnc d) j i++dK_ (FEnc d) j k (i+1)):=by rw [dK_,if_neg h0]
     have ha':At s q ([44]++(dD_ (FEnc d) j i++(dK_ (FEnc d) j k (i+1)++c::r))):=by rw [e0,List.append_assoc,List.append_assoc] at ha;exact ha
     have hr:=kj_ (q+([44]:Bs).length) ha'.next (by rw [e0];simp only [List.length_append];omega)
     have hpk:(io_ s q != (([c]:Bs).getD 0 0).toNat)=true:=by
      rw [eH_ (c:=44) ha']
      show (!(((44:UInt8).toNat:Int) == (c.toNat:Int)))=true
      rw [beq_eq_false_iff_ne.2 (show (((44:UInt8).toNat:Int))≠(c.toNat:Int) by show (44:Int)≠_;omega)];rfl
     have hg:decide (((j.list.take i).length:Int) > 0)=true:=decide_eq_true (by omega)
     simp only [aY_.turn8,aY_.step8,aW_,hW,cond_true,ab_ eG_,hpk,hg,ab_ (jn_ (w:=[44]) hs' (by simp) ha'.le),pn_ ha',bb_]
     exact ⟨by simp,hr⟩
 have ha1:=ha.next1
 rw [mU_] at ha1 ⊢
 have ha2:=ha1.next
 have fin:Ev (fun n (_:Nat)=>(ce_ n (a8_.mk s ((p+1+(dK_ (FEnc d) j j.list.length 0).length:Nat):Int) true (left - eo_ (bG_ d) (j.list.drop 0))) [c]).bind fun xr25=>some ((aa_.mk j.kind 0 [] j.list j.names),xr25)) (aa_.mk j.kind 0 [] j.list j.names,⟨s,((p+1+(dK_ (FEnc d) j j.list.length 0).length+1:Nat):Int),true,left - eo_ (bG_ d) j.list⟩):=by
  simp only [ab_ (jn_ (w:=[c]) hs' (by simp) ha2.le),pn_ (w:=[c]) ha2,ae_,List.drop_zero];rfl
 refine ao_ ?_
 simp only [aY_,ab_ eG_,eH_ ha,hWp]
 rcases hk with hk|hk
 · obtain ⟨rfl,rfl⟩:=hoc.1 hk
   have h1:(((91:UInt8).toNat:Int) == 123)=false:=rfl
   have:=key (fun n=>fun xy26 xy27 xy28 xy29 xy30 xy31 xy32 xy33 xy34 xy35 xy36 xy37 xy38=>((ce_ n (a8_.mk xy27 xy28 xy29 xy30) xy26).bind fun xr39=>(some ((aa_.mk xy34 xy35 xy36 xy37 xy38),xr39)))) _ j.list.length 0 (p+1) left (by omega) (by rw [List.drop_zero];exact hl) hl2 ha1 fin
   rw [hk] at this ⊢
   simp only [h1,cond_false]
   exact cZ_ this
 · obtain ⟨rfl,rfl⟩:=hoc.2 hk
   have h1:(((123:UInt8).toNat:Int) == 123)=true:=rfl
   have:=key (fun n=>fun xy12 xy13 xy14 xy15 xy16 xy17 xy18 xy19 xy20 xy21 xy22 xy23 xy24=>((ce_ n (a8_.mk xy13 xy14 xy15 xy16) xy12).bind fun xr25=>(some ((aa_.mk xy20 xy21 xy22 xy23 xy24),xr25)))) _ j.list.length 0 (p+1) left (by omega) (by rw [List.drop_zero];exact hl) hl2 ha1 fin
   rw [hk] at this ⊢
   simp only [h1,cond_true]
   exact cZ_ this
theorem mh_ {s:Bs} (hs:s.length≤jV_):∀ (d:Nat),d≤1000→∀ x,bG_ d x≤400→∀ (p:Nat) (r:Bs) (left:Int),Stop r→(bG_ d x:Int)≤left→left≤400→At s p (FEnc d x++r)→Ev (fun n _=>bS_ n ⟨s,(p:Int),true,left⟩ (d:Int)) (x,⟨s,((p+(FEnc d x).length:Nat):Int),true,left - bG_ d x⟩)
 |0,_,x,h,p,r,left,_,_,_,_=>by simp only [bG_] at h;omega
 |d+1,hd,j,h,p,r,left,hst,hl,hl2,ha=>by
  have ih:=mh_ hs d (by omega)
  have ho:=(d2_ h).1
  have ho2:=fp_ (e1_ h)
  have hsz:=(d2_ h).2
  have hpos:=qz_ (d+1) j
  have hWl:W (left - 1)=left - 1:=W_id (by omega) (by omega)
  have hz:((((d+1:Nat):Int)) == 0)=false:=beq_eq_false_iff_ne.2 (by omega)
  have hlt:decide (left - 1<0)=false:=decide_eq_false (by omega)
  refine ao_ ?_
  simp only [bS_,aW_,hWl,hz,hlt,Bool.not_true,cond_false,ab_ eG_]
  have one:j.list=[]→left - 1=left - (bG_ (d+1) j:Int):=by
   intro e;rw [hsz,e];simp [eo_]
  rcases ho.kind with hk|hk|hk|hk|hk|hk
  · have e:FEnc (d+1) j=[110,117,108,108]:=by simp only [FEnc,hk,Int.reduceBEq,cond_true]
    have e3:=ho.list (by omega) (by omega)
    rw [←one e3]
    have ej:j=aa_.mk 0 0 [] [] []:=by
     have e1:=ho2.n0 (by omega) (by omega)
     have e2:=ho2.s0 (by omega)
     have e4:=ho2.ns0 (by omega)
     obtain ⟨k,n,s,l,ns⟩:=j
     simp only at e1 e2 e3 e4 hk
     subst e1 e2 e3 e4 hk;rfl
    rw [e] at ha ⊢
    have hpk:=eH_ (c:=110) (t:=[117,108,108]++r) ha
    have c1:(((110:UInt8).toNat:Int) == 110)=true:=rfl
    simp only [hpk,c1,cond_true,ab_ (jn_ (w:=[110,117,108,108]) hs (by simp) ha.le),pn_ ha,ae_]
    rw [ej]
  · have hb:=ho.bool hk
    have e2:=ho2.s0 (by omega)
    have e3:=ho.list (by omega) (by omega)
    have e4:=ho2.ns0 (by omega)
    rw [←one e3]
    obtain ⟨k,n,ss,l,ns⟩:=j
    simp only at e2 e3 e4 hk hb
    subst e2 e3 e4 hk
    have:n=0∨n=1:=by omega
    rcases this with rfl|rfl
    · have e:FEnc (d+1) (aa_.mk 1 0 [] [] [])=[102,97,108,115,101]:=rfl
      rw [e] at ha ⊢
      have hpk:=eH_ (c:=102) (t:=[97,108,115,101]++r) ha
      have c1:(((102:UInt8).toNat:Int) == 110)=false:=rfl
      have c2:(((102:UInt8).toNat:Int) == 116)=false:=rfl
      have c3:(((102:UInt8).toNat:Int) == 102)=true:=rfl
      simp only [hpk,c1,c2,c3,cond_true,cond_false,ab_ (jn_ (w:=[102,97,108,115,101]) hs (by simp) ha.le),pn_ ha,ae_]
    · have e:FEnc (d+1) (aa_.mk 1 1 [] [] [])=[116,114,117,101]:=rfl
      rw [e] at ha ⊢
      have hpk:=eH_ (c:=116) (t:=[114,117,101]++r) ha
      have c1:(((116:UInt8).toNat:Int) == 110)=false:=rfl
      have c2:(((116:UInt8).toNat:Int) == 116)=true:=rfl
      simp only [hpk,c1,c2,cond_true,cond_false,ab_ (jn_ (w:=[116,114,117,101]) hs (by simp) ha.le),pn_ ha,ae_]
  · have hn:=ho.num hk
    have e:FEnc (d+1) j=Lib.itoa j.n_:=by simp only [FEnc,hk,Int.reduceBEq,cond_true,cond_false]
    have e3:=ho.list (by omega) (by omega)
    rw [←one e3]
    rw [e] at ha ⊢
    have hN:=kT_ (left:=left - 1) hs hn.1 hn.2 hst ha
    have ej:aa_.mk 2 j.n_ [] [] []=j:=by
     have e2:=ho2.s0 (by omega)
     have e4:=ho2.ns0 (by omega)
     obtain ⟨k,n,s,l,ns⟩:=j
     simp only at e2 e3 e4 hk
     subst e2 e3 e4 hk;rfl
    obtain ⟨c,t,ec,hc⟩:=h2_ j.n_
    have hpk:io_ s p=(c.toNat:Int):=by
     rw [ec] at ha
     exact eH_ (t:=t++r) ha
    have ne:∀ x:Int,(x<45∨x=46∨57<x)→((c.toNat:Int) == x)=false:=by
     intro x hx
     refine beq_eq_false_iff_ne.2 ?_
     rcases hc with rfl|hc
     · show (45:Int)≠x;omega
     · unfold fF_ at hc;omega
    simp only [hpk,ne 110 (by decide),ne 116 (by decide),ne 102 (by decide),ne 34 (by decide),ne 91 (by decide),ne 123 (by decide),cond_false,ab_ hN,ae_,ej]
  · have ht:=ho2.text hk
    have e:FEnc (d+1) j=dn_ j.s:=by simp only [FEnc,hk,Int.reduceBEq,cond_true,cond_false]
    have e3:=ho.list (by omega) (by omega)
    rw [←one e3]
    rw [e] at ha ⊢
    have hq:=kR_ (left:=left - 1) hs ha
    have ej:aa_.mk 3 0 j.s [] []=j:=by
     have e2:=ho2.n0 (by omega) (by omega)
     have e4:=ho2.ns0 (by omega)
     obtain ⟨k,n,s,l,ns⟩:=j
     simp only at e2 e3 e4 hk
     subst e2 e3 e4 hk;rfl
    have hpk:io_ s p=((34:UInt8).toNat:Int):=eH_ (c:=34) (t:=j.s.flatMap fP_++[34]++r) (by
     have:dn_ j.s++r=34::(j.s.flatMap fP_++[34]++r):=by simp [dn_]
     rw [←this];exact ha)
    have c1:(((34:UInt8).toNat:Int) == 110)=false:=rfl
    have c2:(((34:UInt8).toNat:Int) == 116)=false:=rfl
    have c3:(((34:UInt8).toNat:Int) == 102)=false:=rfl
    have c4:(((34:UInt8).toNat:Int) == 34)=true:=rfl
    simp only [hpk,c1,c2,c3,c4,cond_true,cond_false,ab_ hq,ae_,ej]
  · have e:FEnc (d+1) j=[91]++ej_ (FEnc d) j j.list.length++[93]:=by simp only [FEnc,hk,Int.reduceBEq,cond_true,cond_false]
    have e1:FEnc (d+1) j++r=91::(ej_ (FEnc d) j j.list.length++93::r):=by rw [e];simp
    have e2:p+(FEnc (d+1) j).length=p+1+(ej_ (FEnc d) j j.list.length).length+1:=by rw [e];simp;omega
    rw [e1] at ha
    rw [e2]
    have hP:=r5_ hs (by omega) h (.inl hk) ih 91 93 ⟨fun _=>⟨rfl,rfl⟩,fun h=>by omega⟩ r p (left - 1) (by omega) (by omega) ha
    rw [oK_ h (.inl hk),show left - 1 - (eo_ (bG_ d) j.list:Int)=left - (bG_ (d+1) j:Int) by rw [hsz];omega] at hP
    have hpk:=eH_ ha
    have c1:(((91:UInt8).toNat:Int) == 110)=false:=rfl
    have c2:(((91:UInt8).toNat:Int) == 116)=false:=rfl
    have c3:(((91:UInt8).toNat:Int) == 102)=false:=rfl
    have c4:(((91:UInt8).toNat:Int) == 34)=false:=rfl
    have c5:(((91:UInt8).toNat:Int) == 91)=true:=rfl
    simp only [hpk,c1,c2,c3,c4,c5,cond_true,cond_false,ab_ hP,ae_]
  · have e:FEnc (d+1) j=[123]++ej_ (FEnc d) j j.list.length++[125]:=by simp only [FEnc,hk,Int.reduceBEq,cond_true,cond_false]
    have e1:FEnc (d+1) j++r=123::(ej_ (FEnc d) j j.list.length++125::r):=by rw [e];simp
    have e2:p+(FEnc (d+1) j).length=p+1+(ej_ (FEnc d) j j.list.length).length+1:=by rw [e];simp;omega
    rw [e1] at ha
    rw [e2]
    have hP:=r5_ hs (by omega) h (.inr hk) ih 123 125 ⟨fun h=>by omega,fun _=>⟨rfl,rfl⟩⟩ r p (left - 1) (by omega) (by omega) ha
    rw [oK_ h (.inr hk),show left - 1 - (eo_ (bG_ d) j.list:Int)=left - (bG_ (d+1) j:Int) by rw [hsz];omega] at hP
    have hpk:=eH_ ha
    have c1:(((123:UInt8).toNat:Int) == 110)=false:=rfl
    have c2:(((123:UInt8).toNat:Int) == 116)=false:=rfl
    have c3:(((123:UInt8).toNat:Int) == 102)=false:=rfl
    have c4:(((123:UInt8).toNat:Int) == 34)=false:=rfl
    have c5:(((123:UInt8).toNat:Int) == 91)=false:=rfl
    have c6:(((123:UInt8).toNat:Int) == 123)=true:=rfl
    simp only [hpk,c1,c2,c3,c4,c5,c6,cond_true,cond_false,ab_ hP,ae_]
end Go.Pi
end
section
namespace Go.Pi
theorem mZ_ {a b:List Bs} (ha:a.length≤cb_):Ev (fun n _=>aJ_ n a b) (je_ a b):=by
 refine ao_ ?_
 simp only [aJ_,r1_,al_,ae_]
 unfold je_
 by_cases hl:a.length=b.length
 · rw [decide_eq_true hl]
   refine ⟨fun h=>(by cases h),fun _ => ?_⟩
   refine ge_ (e3_ (fun n N i=>aJ_.loop6 n (some true) N a b (a.length:Int) (i:Int)) (fun i=>a.getD i [] == b.getD i []) (len:=a.length) (v:=true) (fun i w hi ih => ?_) ?_) (by rw [Bool.and_true,Bool.true_and])
   · simp only [aJ_.turn6,aJ_.step6,Int.toNat_natCast,W_up hi ha,al_,bb_,ae_,dE_ ih,cC_ hi,ch_ hi,ch_ (hl ▸ hi)]
     cases (a.getD i [] == b.getD i [])<;>simp
   · simp only [aJ_.turn6,aJ_.step6,cr_,cond_false,ae_]
 · rw [decide_eq_false hl]
   exact ⟨fun _=>rfl,fun h=>(by cases h)⟩
theorem jK_:∀ (d:Nat) (a b:aa_),tp_ d a→ft_ d a→Ev (fun n _=>d6_ n a b) (e5_ d a b)
 |0,a,b,h,_=>h.elim
 |d+1,a,b,h,hl=>by
  refine ao_ ?_
  have hE:Ev (fun n _=>ah_ n a.list b.list) (decide (a.list.length=b.list.length)&&iG_ (fun i=>e5_ d (a.list.getD i aa_.dflt) (b.list.getD i aa_.dflt)) a.list.length):=by
   refine ao_ ?_
   simp only [ah_,r1_,al_,ae_]
   by_cases hq:a.list.length=b.list.length
   · rw [decide_eq_true hq]
     refine ⟨fun h=>(by cases h),fun _ => ?_⟩
     refine ge_ (e3_ (fun n N i=>ah_.loop6 n (d6_ n) (some true) N b.list a.list (a.list.length:Int) (i:Int)) (fun i=>e5_ d (a.list.getD i aa_.dflt) (b.list.getD i aa_.dflt)) (len:=a.list.length) (v:=true) (fun i w hi ih => ?_) ?_) (by rw [Bool.and_true,Bool.true_and])
     · have hx:=jK_ d (a.list.getD i aa_.dflt) (b.list.getD i aa_.dflt) (h _ (bY_ _ hi)) (hl.2.2 _ (bY_ _ hi))
       simp only [ah_.turn6,ah_.step6,aW_,Int.toNat_natCast,W_up hi hl.2.1,al_,bb_,ab_ hx,ae_,dE_ ih,cC_ hi,ch_ hi,ch_ (hq ▸ hi)]
       cases e5_ d (a.list.getD i aa_.dflt) (b.list.getD i aa_.dflt)<;>simp
     · simp only [ah_.turn6,ah_.step6,cr_,cond_false,ae_]
   · rw [decide_eq_false hq]
     exact ⟨fun _=>rfl,fun h=>(by cases h)⟩
  simp only [d6_,al_,ab_ (mZ_ (b:=b.names) hl.1.2.1),ab_ hE,ae_,e5_]
  cases (a.kind == b.kind)<;>cases (a.n_ == b.n_)<;>cases (a.s == b.s)<;>cases je_ a.names b.names<;>simp
end Go.Pi
end
section
namespace Go.Pi
def gz_ (a b:aa_):Bool:=cI_ a&&(cI_ b&&e5_ 6 a b)
theorem hF_ {a b:aa_} (ha:ft_ 6 a) (hb:ft_ 6 b):Ev (fun n _=>dP_ n a b) (gz_ a b):=by
 refine ao_ ?_
 simp only [dP_,aW_,ab_ (eD_ ha),ab_ (eD_ hb),al_,ae_,gz_]
 cases h1:cI_ a with
 |false=>simp
 |true=>
  have hd:tp_ 6 a:=ha_ 6 a (of_decide_eq_true h1)
  simp only [ab_ (jK_ 6 a b hd ha),ae_]
  cases cI_ b<;>simp
theorem fZ_ {a b:aa_} (ha:ft_ 6 a) (hb:ft_ 6 b):Ev (fun n _=>dy_ n a b) (gz_ a b):=by
 refine ao_ ?_
 simp only [dy_,aW_,ab_ (dz_ ha),ab_ (dz_ hb),al_,ae_,gz_]
 cases h1:cI_ a with
 |false=>simp
 |true=>
  have hd:tp_ 6 a:=ha_ 6 a (of_decide_eq_true h1)
  simp only [ab_ (fJ_ 6 a b hd ha),ae_]
  cases cI_ b<;>simp
end Go.Pi
end
section
namespace Go.Pi
theorem it_ {d:Nat} {j:aa_} (h:bG_ (d+1) j≤400) {x:aa_} (hx:x ∈ j.list):bG_ d x≤400:=by
 have:=(d2_ h).2
 have:=iW_ (bG_ d) hx
 omega
theorem dh_:∀ (d:Nat) (j:aa_),bG_ d j≤400→ft_ d j
 |0,_,_=>trivial
 |d+1,j,h=>by
  have ho:=(d2_ h).1
  have ho2:=fp_ (e1_ h)
  have hll:=eT_ h
  have hnl:=fR_ h
  refine ⟨⟨?_,by simp only [cb_];omega,fun x hx => ?_⟩,by simp only [cb_];omega,fun x hx=>dh_ d x (it_ h hx)⟩
  · by_cases hk:j.kind=3
    · have:=il_ (ho2.text hk);simp only [cb_];omega
    · rw [ho2.s0 hk];exact Nat.zero_le _
  · by_cases hk:j.kind=5
    · obtain ⟨i,hi,e⟩:=List.getElem_of_mem hx
      have:=iF_ (ho.obj hk).2 hi
      rw [List.getD_eq_getElem?_getD,List.getElem?_eq_getElem hi,Option.getD_some,e] at this
      simp only [cb_];omega
    · rw [ho2.ns0 hk] at hx;cases hx
theorem nq_ {α:Type} {f g:α→Nat}:∀ {l:List α},(∀ x ∈ l,f x=g x)→eo_ f l=eo_ g l
 |[],_=>rfl
 |x::l,h=>by
  simp only [eo_]
  rw [h x (List.mem_cons_self ..),nq_ fun y hy=>h y (List.mem_cons_of_mem _ hy)]
theorem lv_:∀ (d:Nat) (j:aa_),bG_ d j≤400→bG_ (d+1) j=bG_ d j
 |0,j,h=>by simp only [bG_] at h;omega
 |d+1,j,h=>by
  have hs:=(d2_ h).2
  have ho:=e1_ h
  have e:eo_ (bG_ (d+1)) j.list=eo_ (bG_ d) j.list:=nq_ fun x hx=>lv_ d x (it_ h hx)
  rw [bG_,ho,cond_true,e,←hs];omega
theorem eC_:bG_ 6 g5_≤400:=by decide
theorem mE_ {j:aa_} (h:bB_ j≠[]):bG_ 6 j≤400∧bB_ j=FEnc 6 j∧(FEnc 6 j).length≤6000:=by
 unfold bB_ at h ⊢
 cases hj:cI_ j with
 |false=>rw [hj] at h;exact absurd rfl h
 |true=>
  rw [hj] at h
  simp only [cond_true] at h ⊢
  cases hl:decide (((FEnc 6 j).length:Int) > 6000) with
  |true=>rw [hl] at h;exact absurd rfl h
  |false=>have:=of_decide_eq_false hl;exact ⟨of_decide_eq_true hj,rfl,by omega⟩
theorem ib_ {s:Bs} (hs:s.length≤4194304):Ans (fun n _=>dI_ n s) fun x=>bG_ 6 x.1≤400:=by
 refine ci_ ?_
 simp only [dI_,aW_,be_,aS_]
 refine ⟨fun _=>eC_,fun _ => ?_⟩
 by_cases h0:s=[]
 · subst h0
   have hN:Ev (fun n _=>ap_ n ⟨[],false⟩) (aa_.mk 2 0 [] [] [],⟨[],true⟩):=by
    have hA:Ev (fun n _=>cR_ n []) (0,false):=m0_ (s:=[]) (by simp)
    refine ao_ ?_
    simp only [ap_]
    refine cZ_ (f:=fun n N=>ap_.loop3 n (fun xy2 xy3 xy4 xy5 xy6 xy7=>(gf_ 0 xy2 xy3.length ((cR_ n ((xy3.take xy2.toNat).drop 0)).bind fun xr8=>(cond (!xr8.2) (gf_ xy2 (xy3.length:Int) xy3.length (some ((aa_.mk 2 xr8.1 [] ([]:List aa_) ([]:List Bs)),(aX_.mk ((xy3.take (xy3.length:Int).toNat).drop xy2.toNat) true)))) (gf_ xy2 (xy3.length:Int) xy3.length (some ((aa_.mk 2 xr8.1 [] ([]:List aa_) ([]:List Bs)),(aX_.mk ((xy3.take (xy3.length:Int).toNat).drop xy2.toNat) xy4)))))))) N 0 [] false 0 0 []) (a9_ ?_)
    have e0:(([]:Bs).take (0:Int).toNat).drop 0=[]:=rfl
    have c0:decide ((0:Int)<((([]:Bs).length:Nat):Int))=false:=rfl
    simp only [ap_.turn3,ap_.step3,c0,cond_false,e0,d1_,ab_ hA,Bool.not_false,cond_true,ae_]
    exact ⟨⟨by decide,by decide,by decide⟩,⟨by decide,by decide,by decide⟩,rfl⟩
   have hv:Ev (fun n _=>aZ_ n ⟨[],false⟩ 6) (aa_.mk 2 0 [] [] [],⟨[],true⟩):=by
    have hd1:decide ((6:Int)<1)=false:=rfl
    refine ao_ ?_
    simp only [aZ_,aW_,hd1,cond_false,fu_,ab_ hp_,take_nil,pfx_nil,ab_ hN,ae_]
   simp only [bf_ hv,cond_true,aS_]
   exact eC_
 · refine az_ (pm_ 6 (by omega) ⟨s,false⟩ hs) fun v hv => ?_
   simp only [be_,aS_,bf_ (ei_ hv.2)]
   refine ⟨fun _=>eC_,fun _=>⟨fun _=>eC_,fun h => ?_⟩⟩
   have e:bB_ v.1=s:=by simpa using h
   exact (mE_ (by rw [e];exact h0)).1
theorem ia_ {j:aa_} (h:bB_ j≠[]):Ev (fun n _=>dI_ n (bB_ j)) (j,true):=by
 obtain ⟨h1,h2,h3⟩:=mE_ h
 have hv:=pl_ 6 (by omega) j h1 [] od_ (by rw [List.append_nil];omega)
 rw [List.append_nil,←h2] at hv
 have hv:Ev (fun n _=>aZ_ n ⟨bB_ j,false⟩ 6) (j,⟨[],false⟩):=hv
 have hE:=ei_ (dh_ 6 j h1)
 have hl:decide (((bB_ j).length:Int) > 6000)=false:=by rw [h2];exact decide_eq_false (by omega)
 refine ao_ ?_
 simp only [dI_,aW_,hl,cond_false,ab_ hv,ab_ hE,beq_self_eq_true,Bool.not_true,ae_]
theorem lS_ {s:Bs} (hs:s.length≤4194304):Ans (fun n _=>dY_ n s) fun x=>bG_ 6 x.1≤400:=by
 refine ci_ ?_
 simp only [dY_,aW_,be_,aS_]
 refine ⟨fun _=>eC_,fun h0=>⟨fun _=>eC_,fun _ => ?_⟩⟩
 refine az_ (mi_ (s:=s) hs 6 (by omega) 0 true 400 (Nat.zero_le _) (by omega) (by omega)) fun v hv => ?_
 obtain ⟨p',ok',left',e1,e2,e3,e4,e5,e6⟩:=hv
 simp only [be_,aS_,bf_ (dS_ e6)]
 refine ⟨fun _=>eC_,fun _=>⟨fun _=>eC_,fun _=>⟨fun _=>eC_,fun h => ?_⟩⟩⟩
 have e:bB_ v.1=s:=by simpa using h
 exact (mE_ (by rw [e];intro e;rw [e] at h0;cases h0)).1
theorem hV_ {j:aa_} (h:bB_ j≠[]):Ev (fun n _=>dY_ n (bB_ j)) (j,true):=by
 obtain ⟨h1,h2,h3⟩:=mE_ h
 have hsz:(bB_ j).length≤6000:=by rw [h2];exact h3
 have hv:=mh_ (s:=bB_ j) (by simp only [jV_];omega) 6 (by omega) j h1 0 [] 400 od_ (by omega) (by omega) ⟨Nat.zero_le _,by rw [List.append_nil,←h2];rfl⟩
 have hv:Ev (fun n _=>bS_ n ⟨bB_ j,0,true,400⟩ 6) (j,⟨bB_ j,((0+(FEnc 6 j).length:Nat):Int),true,400 - bG_ 6 j⟩):=hv
 have hE:=dS_ (dh_ 6 j h1)
 have hl:decide (((bB_ j).length:Int) > 6000)=false:=decide_eq_false (by omega)
 have hn:(bB_ j == [])=false:=beq_eq_false_iff_ne.2 h
 have ha:(((0+(FEnc 6 j).length:Nat):Int) != ((bB_ j).length:Int))=false:=by rw [h2];simp
 refine ao_ ?_
 simp only [dY_,aW_,hl,hn,cond_false,ab_ hv,ha,ab_ hE,beq_self_eq_true,Bool.not_true,ae_]
def FIdx (l:List Bs) (x:Bs):Int:=if l.findIdx (fun y=>y == x)<l.length then ((l.findIdx (fun y=>y == x):Nat):Int) else -1
theorem kL_ {j:aa_} {x:Bs} (h:j.names.length≤cb_):Ev (fun n _=>cF_ n j x) (FIdx j.names x):=by
 refine ao_ ?_
 unfold FIdx
 rw [←gN_ ([]:Bs) (fun y=>y == x) j.names]
 simp only [cF_]
 refine mC_ (fun n N i=>cF_.loop3 n (some (-1)) N x (i:Int) j.kind j.n_ j.s j.list j.names) _ (fun i u hi ih => ?_) ?_
 · simp only [cF_.turn3,cF_.step3,Int.toNat_natCast,W_up hi h,al_,bb_,ae_,dE_ ih,cC_ hi,ch_ hi]
   cases (j.names.getD i [] == x)<;>simp
 · simp only [cF_.turn3,cF_.step3,cr_,cond_false,ae_]
theorem gu_ {l:List Bs} {x:Bs} (h:l.length≤cb_):Ev (fun n _=>aG_ n l x) (FIdx l x):=by
 refine ao_ ?_
 unfold FIdx
 rw [←gN_ ([]:Bs) (fun y=>y == x) l]
 simp only [aG_]
 refine mC_ (fun n N i=>aG_.loop3 n (some (-1)) N l x (l.length:Int) (i:Int)) _ (fun i u hi ih => ?_) ?_
 · simp only [aG_.turn3,aG_.step3,Int.toNat_natCast,W_up hi h,al_,bb_,ae_,dE_ ih,cC_ hi,ch_ hi]
   rw [show (x == l.getD i [])=(l.getD i [] == x) from BEq.comm]
   cases (l.getD i [] == x)<;>simp
 · simp only [aG_.turn3,aG_.step3,cr_,cond_false,ae_]
def f6_ (j:aa_) (x:Bs):aa_ × Bool:=if FIdx j.names x<0 then (g5_,false) else (j.list.getD (FIdx j.names x).toNat aa_.dflt,true)
theorem idx_lt {l:List Bs} {x:Bs} (h:¬ FIdx l x<0):0≤FIdx l x∧FIdx l x<(l.length:Int):=by
 unfold FIdx at h ⊢
 split at h
 · rename_i hl;rw [if_pos hl];omega
 · exact absurd (by decide) h
theorem oV_ {j:aa_} (h:bG_ 6 j≤400) {x:Bs} (hx:¬ FIdx j.names x<0):(FIdx j.names x).toNat<j.list.length∧j.kind=5:=by
 have hi:=idx_lt hx
 by_cases hk:j.kind=5
 · have:=((d2_ h).1.obj hk).1;exact ⟨by omega,hk⟩
 · rw [(fp_ (e1_ h)).ns0 hk] at hi;simp at hi;omega
theorem gq_ {j:aa_} (h:bG_ 6 j≤400) (x:Bs):bG_ 6 (f6_ j x).1≤400:=by
 unfold f6_
 by_cases hx:FIdx j.names x<0
 · rw [if_pos hx];exact eC_
 · rw [if_neg hx]
   have:=(fB_ h (oV_ h hx).1).size
   rw [lv_ 5 _ this];exact this
theorem f8_ {j:aa_} (h:bG_ 6 j≤400) {x:Bs}:Ev (fun n _=>dU_ n j x) (f6_ j x):=by
 have hJ:=dz_ (dh_ 6 j h)
 have hn:=fR_ h
 have hok:cI_ j=true:=decide_eq_true h
 refine ao_ ?_
 simp only [dU_,aW_,ab_ (kL_ (j:=j) (x:=x) (by simp only [cb_];omega)),ab_ hJ,hok,Bool.not_true,cond_false,f6_]
 by_cases hx:FIdx j.names x<0
 · rw [if_pos hx,decide_eq_true hx]
   simp only [cond_true,al_,ae_]
   exact ⟨fun _=>rfl,fun _=>rfl⟩
 · obtain ⟨h1,h2⟩:=oV_ h hx
   have hi:=idx_lt hx
   have hC:=eZ_ 5 (j.list.getD (FIdx j.names x).toNat aa_.dflt) (fB_ h h1).size
   have hk:(j.kind != 5)=false:=by rw [h2];rfl
   rw [if_neg hx,decide_eq_false hx,hk]
   simp only [cond_false,bb_,ab_ hC,ae_]
   exact ⟨by omega,trivial⟩
theorem jL_ {j:aa_} (h:bG_ 6 j≤400) {x:Bs}:Ev (fun n _=>er_ n j x) (f6_ j x):=by
 have hJ:=eD_ (dh_ 6 j h)
 have hn:=fR_ h
 have hok:cI_ j=true:=decide_eq_true h
 refine ao_ ?_
 simp only [er_,aW_,ab_ (gu_ (l:=j.names) (x:=x) (by simp only [cb_];omega)),ab_ hJ,hok,Bool.not_true,cond_false,f6_]
 by_cases hx:FIdx j.names x<0
 · rw [if_pos hx,decide_eq_true hx]
   simp only [cond_true,ae_];rfl
 · obtain ⟨h1,h2⟩:=oV_ h hx
   have hi:=idx_lt hx
   have hC:=f0_ 5 (j.list.getD (FIdx j.names x).toNat aa_.dflt) (fB_ h h1).size
   rw [if_neg hx,decide_eq_false hx]
   simp only [cond_false,bb_,ab_ hC,ae_]
   exact ⟨by omega,trivial⟩
end Go.Pi
end
section
namespace Go.Pi
def fin (w:List Bs):List Bs × Bool:=if w.length > 6 then ([],false) else (w,true)
def wr (out:List Bs) (now:Bs):Bs→List Bs × Bool
 |[]=>fin (out++[now])
 |[c]=>if c=47 then fin (out++[now]++[[]]) else if c=126 then ([],false) else fin (out++[now++[c]])
 |c::e::l=>if c=47 then wr (out++[now]) [] (e::l) else if c=126 then (if e=48 then wr out (now++[126]) l else if e=49 then wr out (now++[47]) l else ([],false)) else wr out (now++[c]) (e::l)
theorem wr_sl (out:List Bs) (now l:Bs):wr out now (47::l)=wr (out++[now]) [] l:=by
 cases l with
 |nil=>rfl
 |cons e l=>rw [wr,if_pos rfl]
theorem wr_c {c:UInt8} (h1:c≠47) (h2:c≠126) (out:List Bs) (now l:Bs):wr out now (c::l)=wr out (now++[c]) l:=by
 cases l with
 |nil=>
  show (if c=47 then fin (out++[now]++[[]]) else if c=126 then ([],false) else fin (out++[now++[c]]))=fin (out++[now++[c]])
  rw [if_neg h1,if_neg h2]
 |cons e l=>rw [wr,if_neg h1,if_neg h2]
theorem wr_t (e:UInt8) (out:List Bs) (now l:Bs):wr out now (126::e::l)=if e=48 then wr out (now++[126]) l else if e=49 then wr out (now++[47]) l else ([],false):=by
 rw [wr,if_neg (by decide),if_pos rfl]
def FWr (s:Bs):List Bs × Bool:=match s with
 |[]=>([],true)
 |c::l=>if c=47 then wr [] [] l else ([],false)
theorem wr_enc:∀ (w:List Bs) (u now:Bs) (out:List Bs),wr out now (u.flatMap gC_++FWay w)=fin (out++[now++u]++w)
 |[],[],now,out=>by simp [FWay,wr]
 |s::w,[],now,out=>by
  have e:([]:Bs).flatMap gC_++FWay (s::w)=47::(s.flatMap gC_++FWay w):=rfl
  rw [e,wr_sl,wr_enc w s [] _];simp
 |w,c::u,now,out=>by
  have ih:=fun x=>wr_enc w u (now++[x]) out
  rw [List.flatMap_cons,List.append_assoc]
  by_cases h1:c=126
  · have e:gC_ c=[126,48]:=if_pos h1
    rw [e]
    show wr out now (126::48::(u.flatMap gC_++FWay w))=_
    rw [wr_t,if_pos rfl,ih 126,h1];simp
  · by_cases h2:c=47
    · have e:gC_ c=[126,49]:=by unfold gC_;rw [if_neg h1,if_pos h2]
      rw [e]
      show wr out now (126::49::(u.flatMap gC_++FWay w))=_
      rw [wr_t,if_neg (by decide),if_pos rfl,ih 47,h2];simp
    · have e:gC_ c=[c]:=by unfold gC_;rw [if_neg h1,if_neg h2]
      rw [e]
      show wr out now (c::(u.flatMap gC_++FWay w))=_
      rw [wr_c h2 h1,ih c];simp
theorem FWr_enc {w:List Bs} (h:w.length≤6):FWr (FWay w)=(w,true):=by
 cases w with
 |nil=>rfl
 |cons s w=>
  have e:FWay (s::w)=47::(s.flatMap gC_++FWay w):=rfl
  rw [e]
  show (if (47:UInt8)=47 then wr [] [] (s.flatMap gC_++FWay w) else ([],false))=_
  rw [if_pos rfl,wr_enc]
  unfold fin
  rw [if_neg (by simp at h ⊢;omega)];simp
def WrOk (B:Nat) (x:List Bs × Bool):Prop:=x.1.length≤6∧∀ y ∈ x.1,y.length≤B
theorem fin_ok {B:Nat} {w:List Bs} (h:∀ y ∈ w,y.length≤B):WrOk B (fin w):=by
 unfold fin
 split
 · exact ⟨Nat.zero_le _,fun y h=>(by cases h)⟩
 · exact ⟨by simp only;omega,h⟩
theorem wr_ok {B:Nat}:∀ (n:Nat) (l now:Bs) (out:List Bs),l.length≤n→(∀ y ∈ out,y.length≤B)→now.length+l.length≤B→WrOk B (wr out now l):=by
 have app:∀ {now:Bs} {out:List Bs},(∀ y ∈ out,y.length≤B)→now.length≤B→∀ y ∈ out++[now],y.length≤B:=by
  intro now out h1 h2 y hy
  rcases List.mem_append.1 hy with hy|hy
  · exact h1 y hy
  · obtain rfl:=List.mem_singleton.1 hy;exact h2
 have bad:WrOk B (([]:List Bs),false):=⟨Nat.zero_le _,fun y h=>(by cases h)⟩
 intro n
 induction n with
 |zero=>
  intro l now out hl h1 h2
  have:l=[]:=List.eq_nil_of_length_eq_zero (by omega)
  subst this
  exact fin_ok (app h1 (by simpa using h2))
 |succ n ih=>
  intro l now out hl h1 h2
  cases l with
  |nil=>exact fin_ok (app h1 (by simpa using h2))
  |cons c l=>
   simp only [List.length_cons] at hl h2
   by_cases hc:c=47
   · subst hc
     rw [wr_sl]
     exact ih l [] _ (by omega) (app h1 (by omega)) (by simp;omega)
   · by_cases ht:c=126
     · subst ht
       cases l with
       |nil=>exact bad
       |cons e l=>
        rw [wr_t]
        simp only [List.length_cons] at hl h2
        split
        · exact ih l _ out (by omega) h1 (by simp;omega)
        · split
          · exact ih l _ out (by omega) h1 (by simp;omega)
          · exact bad
     · rw [wr_c hc ht]
       exact ih l _ out (by omega) h1 (by simp;omega)
theorem FWr_ok (s:Bs):WrOk s.length (FWr s):=by
 unfold FWr
 split
 · exact ⟨Nat.zero_le _,fun y h=>(by cases h)⟩
 · rename_i c l
   split
   · exact wr_ok l.length l [] [] (Nat.le_refl _) (fun y h=>(by cases h)) (by simp)
   · exact ⟨Nat.zero_le _,fun y h=>(by cases h)⟩
theorem hS_ {s:Bs} (hs:s.length≤1000000):Ev (fun n _=>a4_ n s) (FWr s):=by
 have key:∀ (K:Nat→a4_.K6),(∀ out now,out.length≤1000000→s≠[]→Ev (fun n _=>K n s [] out (bi now)) (fin (out++[now]))) →
   ∀ (m i:Nat) (out:List Bs) (now:Bs),s.length - i≤m→1≤i→i≤s.length→out.length≤i→now.length≤i →
   Ev (fun n N=>a4_.loop6 n (K n) N s (i:Int) [] out (bi now)) (wr out now (s.drop i)):=by
  intro K hK m
  induction m with
  |zero=>
   intro i out now hm h1 h2 h3 h4
   have:i=s.length:=by omega
   subst this
   rw [List.drop_length]
   refine a9_ ?_
   simp only [a4_.turn6,a4_.step6,cr_,cond_false]
   exact hK out now (by omega) (fun e=>by rw [e] at h1;simp at h1)
  |succ m ih=>
   intro i out now hm h1 h2 h3 h4
   by_cases hi:i<s.length
   · have hd:=dM_ 0 hi
     have hbl:=k2_ now
     have hW:W ((i:Int)+1)=((i+1:Nat):Int):=by rw [W_id (by omega) (by omega)];omega
     have hW2:W (((i+1:Nat):Int)+1)=((i+2:Nat):Int):=by rw [W_id (by omega) (by omega)];omega
     have hz:((i:Int) == 0)=false:=beq_eq_false_iff_ne.2 (by omega)
     have hg:decide ((i:Int) > 0)=true:=decide_eq_true (by omega)
     refine a9_ ?_
     simp only [a4_.turn6,a4_.step6,cC_ hi,cond_true,bb_,ch_ hi,true_and,Int.toNat_natCast,hW,hW2,hz,hg,cond_false,byte47,byte126,ka_,ba_]
     rw [hd]
     generalize hc:s.getD i 0=c
     by_cases c47:c=47
     · subst c47
       rw [wr_sl,decide_eq_true rfl]
       simp only [cond_true,ba_]
       exact ⟨by simp;omega,ih (i+1) (out++[now]) [] (by omega) (by omega) (by omega) (by simp;omega) (by simp)⟩
     · rw [decide_eq_false c47]
       simp only [cond_false]
       by_cases c126:c=126
       · subst c126
         rw [decide_eq_true rfl]
         simp only [cond_true]
         by_cases hi2:i+1<s.length
         · have hd2:=dM_ 0 hi2
           have hne:(((i+1:Nat):Int) == (s.length:Int))=false:=beq_eq_false_iff_ne.2 (by omega)
           rw [hd2,wr_t]
           simp only [hne,cond_false,bb_,ch_ hi2,true_and,Int.toNat_natCast]
           generalize s.getD (i+1) 0=e
           have e48:((e.toNat:Int) == 48)=decide (e=48):=k1_ e 48 48 rfl
           have e49:((e.toNat:Int) == 49)=decide (e=49):=k1_ e 49 49 rfl
           have n1:=ih (i+2) out (now++[126]) (by omega) (by omega) (by omega) (by omega) (by simp;omega)
           have n2:=ih (i+2) out (now++[47]) (by omega) (by omega) (by omega) (by omega) (by simp;omega)
           rw [←o6_] at n1 n2
           simp only [bne,e48,e49]
           by_cases d48:e=48
           · subst d48
             simp only [decide_true,Bool.not_true,cond_false,cond_true,bb_,ch_ hi,ch_ hi2,true_and,ba_,if_true]
             exact ⟨by simp;omega,n1⟩
           · by_cases d49:e=49
             · subst d49
               simp only [d48,decide_true,decide_false,Bool.not_true,Bool.not_false,cond_false,cond_true,bb_,ch_ hi,ch_ hi2,true_and,ba_,if_true,if_false]
               exact ⟨by simp;omega,n2⟩
             · simp only [d48,d49,decide_false,Bool.not_false,cond_true,bb_,ch_ hi,ch_ hi2,true_and,ae_,if_false]
         · have hne:(((i+1:Nat):Int) == (s.length:Int))=true:=by simp;omega
           have hde:s.drop (i+1)=[]:=su_ (by omega)
           rw [hde]
           simp only [hne,cond_true,bb_,ch_ hi,true_and,ae_]
           rfl
       · rw [wr_c c47 c126,decide_eq_false c126]
         have n1:=ih (i+1) out (now++[c]) (by omega) (by omega) (by omega) (by omega) (by simp;omega)
         rw [←o6_] at n1
         simp only [cond_false,bb_,ch_ hi,true_and,ba_]
         exact ⟨by simp;omega,n1⟩
   · have:i=s.length:=by omega
     subst this
     rw [List.drop_length]
     refine a9_ ?_
     simp only [a4_.turn6,a4_.step6,cr_,cond_false]
     exact hK out now (by omega) (fun e=>by rw [e] at h1;simp at h1)
 refine ao_ ?_
 simp only [a4_]
 cases s with
 |nil=>
  refine cZ_ (f:=fun n N=>a4_.loop6 n (fun xy1 xy2 xy3 xy4=>(cond (!(xy1 == [])) (bm_ (xy3.length+([(hL_ xy4)]:List Bs).length) 16 (cond (decide (((xy3++([(hL_ xy4)]:List Bs)).length:Int) > 6)) (some (xy2,false)) (some ((xy3++([(hL_ xy4)]:List Bs)),true)))) (cond (decide ((xy3.length:Int) > 6)) (some (xy2,false)) (some (xy3,true))))) N [] 0 [] [] []) (a9_ ?_)
  exact ⟨0,fun _ _ _ _=>rfl⟩
 |cons c l=>
  have hK:∀ out now,out.length≤1000000→c::l≠[]→Ev (fun n (_:Nat)=>(cond (!(c::l == [])) (bm_ (out.length+([(hL_ (bi now))]:List Bs).length) 16 (cond (decide (((out++([(hL_ (bi now))]:List Bs)).length:Int) > 6)) (some (([]:List Bs),false)) (some ((out++([(hL_ (bi now))]:List Bs)),true)))) (cond (decide ((out.length:Int) > 6)) (some ([],false)) (some (out,true))))) (fin (out++[now])):=by
   intro out now h1 _
   have e:(!(c::l == []))=true:=rfl
   rw [e,ka_]
   simp only [cond_true,ba_,al_,ae_]
   unfold fin
   refine ⟨by simp;omega,fun h => ?_,fun h => ?_⟩
   · have h:=of_decide_eq_true h;rw [if_pos (by omega)]
   · have h:=of_decide_eq_false h;rw [if_neg (by omega)]
  refine cZ_ (f:=fun n N=>a4_.loop6 n (fun xy1 xy2 xy3 xy4=>(cond (!(xy1 == [])) (bm_ (xy3.length+([(hL_ xy4)]:List Bs).length) 16 (cond (decide (((xy3++([(hL_ xy4)]:List Bs)).length:Int) > 6)) (some (xy2,false)) (some ((xy3++([(hL_ xy4)]:List Bs)),true)))) (cond (decide ((xy3.length:Int) > 6)) (some (xy2,false)) (some (xy3,true))))) N (c::l) 0 [] [] []) (a9_ ?_)
  have hk:=key (fun _=>fun xy1 xy2 xy3 xy4=>(cond (!(xy1 == [])) (bm_ (xy3.length+([(hL_ xy4)]:List Bs).length) 16 (cond (decide (((xy3++([(hL_ xy4)]:List Bs)).length:Int) > 6)) (some (xy2,false)) (some ((xy3++([(hL_ xy4)]:List Bs)),true)))) (cond (decide ((xy3.length:Int) > 6)) (some (xy2,false)) (some (xy3,true))))) hK l.length 1 [] [] (by simp) (Nat.le_refl _) (by simp) (by simp) (by simp)
  have c0:decide ((0:Int)<(((c::l).length:Nat):Int))=true:=decide_eq_true (by simp)
  have cg:decide ((0:Int) > 0)=false:=rfl
  have cz:((0:Int) == 0)=true:=rfl
  have hW:W ((0:Int)+1)=((1:Nat):Int):=rfl
  have hg0:(c::l).getD (0:Int).toNat 0=c:=rfl
  simp only [a4_.turn6,a4_.step6,c0,cond_true,bb_,hg0,byte47,cg,cz,cond_false,hW]
  refine ⟨by simp,?_⟩
  unfold FWr
  by_cases c47:c=47
  · rw [decide_eq_true c47]
    simp only [c47,if_true,cond_true]
    rw [c47] at hk
    exact hk
  · rw [decide_eq_false c47]
    simp only [c47,if_false,cond_false,ae_]
def FWi (s:Bs):List Bs × Bool:=if s=[] then ([],true) else
 if (((eK_ 47 s).drop 1).map fun p=>gW_ 126 48 [126] (gW_ 126 49 [47] p)).length > 6 then ([],false) else
 if FWay (((eK_ 47 s).drop 1).map fun p=>gW_ 126 48 [126] (gW_ 126 49 [47] p))=s then (((eK_ 47 s).drop 1).map fun p=>gW_ 126 48 [126] (gW_ 126 49 [47] p),true) else ([],false)
theorem iT_ {a b c:UInt8} {s:Bs} (hs:s.length≤1000000) (hne:([a,b] == [c])=false):Ev (fun n _=>strings_ReplaceAll n s [a,b] [c]) (gW_ a b [c] s):=by
 refine ao_ ?_
 have:=rn_ a b s
 simp only [strings_ReplaceAll,gp_,count2,qV_ a b [c] s hne,al_,ae_,dC_]
 refine ⟨fun _=>trivial,fun h => ?_⟩
 have e1:decide (s.length<4294967281)=true:=decide_eq_true (by omega)
 have e2:decide (1≤[a,b].length)=true:=rfl
 have e3:decide (s.length+cnt2 a b s*[c].length≤140737488355328)=true:=decide_eq_true (by simp only [List.length_cons,List.length_nil];omega)
 rw [e1,e2,e3] at h;cases h
theorem Split_ev {s:Bs} {b:UInt8} (hs:s.length≤1000000):Ev (fun n _=>strings_Split n s [b]) (eK_ b s):=by
 refine ao_ ?_
 have e1:decide (s.length<4294967281)=true:=decide_eq_true (by omega)
 have e2:decide (1≤[b].length)=true:=rfl
 simp only [strings_Split,r2_,split_one,e1,e2,Bool.and_self,cond_true,ae_]
theorem h8_ {s:Bs} (hs:s.length≤60):Ev (fun n _=>bE_ n s) (FWi s):=by
 refine ao_ ?_
 simp only [bE_,al_,ae_,ab_ (Split_ev (s:=s) (b:=47) (by omega))]
 unfold FWi
 by_cases h0:s=[]
 · rw [if_pos h0,h0]
   exact ⟨fun _=>rfl,fun h=>(by cases h)⟩
 · rw [if_neg h0,beq_eq_false_iff_ne.2 h0]
   refine ⟨fun h=>(by cases h),fun _ => ?_⟩
   obtain ⟨hl,hp⟩:=ke_ 47 s
   obtain ⟨p,ps,e⟩:=kd_ 47 s
   rw [e] at hl hp ⊢
   have e1:(((p::ps).length:Nat):Int).toNat=ps.length+1:=by simp
   have e2:((p::ps).take (ps.length+1)).drop 1=ps:=by
    rw [List.take_of_length_le (by simp)];rfl
   have e3:(ps.length+1 - 1:Nat)=ps.length:=rfl
   have e4:(p::ps).drop 1=ps:=rfl
   simp only [e1,e2,e3,e4,d1_]
   refine ⟨by simp only [List.length_cons] at hl ⊢;omega,?_⟩
   simp only [List.length_cons] at hl
   have hps:∀ q ∈ ps,q.length≤60:=fun q hq=>by have:=hp q (List.mem_cons_of_mem _ hq);omega
   refine qh_ [] ps (fun p=>gW_ 126 48 [126] (gW_ 126 49 [47] p)) (fun n N i (o:List Bs)=>bE_.loop7 n (fun xy4 xy5=>(cond (decide ((xy5.length:Int) > 6)) (some (([]:List Bs),false)) ((bV_ n xy5).bind fun xr6=>(cond (!(xr6 == xy4)) (some (([]:List Bs),false)) (some (xy5,true)))))) N s ps (ps.length:Int) (i:Int) o) _ (fun i o hi ho F hF => ?_) ?_
   · have hq:=hps _ (bY_ [] hi)
     have r1:=iT_ (a:=126) (b:=49) (c:=47) (s:=ps.getD i []) (by omega) rfl
     have r1l:=hk_ 126 49 47 (ps.getD i [])
     have r2:=iT_ (a:=126) (b:=48) (c:=126) (s:=gW_ 126 49 [47] (ps.getD i [])) (by omega) rfl
     have hW:=W_up hi (show ps.length≤cb_ by simp only [cb_];omega)
     simp only [bE_.turn7,bE_.step7,cC_ hi,cond_true,bb_,ch_ hi,true_and,Int.toNat_natCast,hW,ab_ r1,ab_ r2,ba_]
     exact ⟨by simp;omega,hF⟩
   · generalize hw:ps.map (fun p=>gW_ 126 48 [126] (gW_ 126 49 [47] p))=w
     have hwl:∀ q ∈ w,q.length≤60:=by
      intro q hq
      rw [←hw] at hq
      obtain ⟨x,hx,rfl⟩:=List.mem_map.1 hq
      have:=hk_ 126 49 47 x
      have:=hk_ 126 48 126 (gW_ 126 49 [47] x)
      have:=hps x hx
      omega
     simp only [bE_.turn7,bE_.step7,cr_,cond_false,al_,ae_]
     refine ⟨fun h => ?_,fun h => ?_⟩
     · have h:=of_decide_eq_true h;rw [if_pos (by omega)]
     · have h:=of_decide_eq_false h
       rw [if_neg (by omega)]
       simp only [ab_ (h7_ (w:=w) (by omega) hwl),al_,ae_]
       by_cases he:FWay w=s
       · rw [he,if_pos rfl];simp
       · rw [if_neg he,beq_eq_false_iff_ne.2 he];simp
theorem FWi_enc {w:List Bs} (h:w.length≤6):FWi (FWay w)=(w,true):=by
 unfold FWi
 cases w with
 |nil=>rfl
 |cons s w=>
  have e:FWay (s::w)≠[]:=by
   show 47::_≠[]
   intro e;cases e
  have e2:((eK_ 47 (FWay (s::w))).drop 1).map (fun p=>gW_ 126 48 [126] (gW_ 126 49 [47] p))=s::w:=by
   rw [pt_]
   show (((s::w).map fun s=>s.flatMap gC_).map fun p=>gW_ 126 48 [126] (gW_ 126 49 [47] p))=_
   rw [List.map_map]
   refine (List.map_congr_left fun x _ => ?_).trans (List.map_id _)
   show gW_ 126 48 [126] (gW_ 126 49 [47] (x.flatMap gC_))=x
   rw [unesc1,unesc2]
  rw [if_neg e,e2,if_neg (by omega),if_pos rfl]
theorem FWi_ok {s:Bs}:WrOk s.length (FWi s):=by
 unfold FWi
 split
 · exact ⟨Nat.zero_le _,fun y h=>(by cases h)⟩
 · split
   · exact ⟨Nat.zero_le _,fun y h=>(by cases h)⟩
   · rename_i h
     split
     · refine ⟨by simp only;omega,fun y hy => ?_⟩
       obtain ⟨x,hx,rfl⟩:=List.mem_map.1 hy
       have h1:=hk_ 126 49 47 x
       have h2:=hk_ 126 48 126 (gW_ 126 49 [47] x)
       have h3:=(ke_ 47 s).2 x (List.mem_of_mem_drop hx)
       omega
     · exact ⟨Nat.zero_le _,fun y h=>(by cases h)⟩
end Go.Pi
end
section
namespace Go.Pi
theorem nZ_:∀ (d:Nat) (j:aa_),e5_ d j j=true
 |0,_=>rfl
 |d+1,j=>by
  simp only [e5_,je_,beq_self_eq_true,decide_true,Bool.true_and,Bool.and_eq_true]
  exact ⟨e8_.2 fun i _=>by simp,e8_.2 fun i _=>nZ_ d _⟩
theorem pB_ {j:aa_} (h:bG_ 6 j≤400):gz_ j j=true:=by
 unfold gz_ cI_
 rw [decide_eq_true h,nZ_];rfl
theorem ob_ {j:aa_} (h:bG_ 6 j≤400):j.s.length≤60:=by
 have ho2:=fp_ (e1_ h)
 by_cases hk:j.kind=3
 · exact il_ (ho2.text hk)
 · rw [ho2.s0 hk];exact Nat.zero_le _
theorem oE_ {k:Int} {x:List Bs × Bool} {v:aa_} {s:Bs} (hs:s.length≤60) (hw:WrOk s.length x) (hv:bG_ 6 v≤400):fS_ (TOp.mk k x.1 v) :=
 ⟨⟨by have:=hw.1;show x.1.length≤cb_;simp only [cb_];omega,fun y hy=>by have:=hw.2 y hy;simp only [cb_];omega⟩,dh_ 6 v hv⟩
theorem fc_:fS_ (TOp.mk 0 [] (aa_.mk 0 0 [] [] [])):=⟨⟨Nat.zero_le _,fun y h=>(by cases h)⟩,eq_ 6⟩
abbrev fk_:List Bs:=[[97,100,100],[114,101,109,111,118,101],[114,101,112,108,97,99,101],[116,101,115,116]]
theorem nC_:Ev (fun n _=>dl_ n ()) fk_:=ao_ (by simp only [dl_,ae_])
theorem nF_:Ev (fun n _=>dj_ n ()) ([]::fk_):=ao_ (by simp only [dj_,ae_])
theorem mt_ {p:aa_} (h:bG_ 6 p≤400):Ans (fun n _=>d0_ n p) fun x=>fS_ x.1:=by
 refine ci_ ?_
 have hs:=ob_ (gq_ h fQ_)
 have hv:=gq_ h hm_
 have hw:=FWi_ok (s:=(f6_ p fQ_).1.s)
 have hL:=fun k=>oE_ (k:=k) hs hw hv
 simp only [d0_,aW_,bf_ (jL_ h),bf_ (h8_ hs),bf_ nC_,bf_ (gu_ (l:=fk_) (by decide)),be_,aS_]
 refine ⟨fun _=>fc_,fun _=>⟨fun _=>fc_,fun _=>⟨fun _=>fc_,fun _ => ?_⟩⟩⟩
 have hk:=hL (W (1+FIdx fk_ (f6_ p [111,112]).1.s))
 simp only [bf_ (h9_ hk),bf_ (fM_ hk),bf_ (hF_ (i6_ hk) (dh_ 6 p h)),be_,aS_]
 exact ⟨fun _=>fc_,fun _=>⟨fun _=>fc_,fun _=>hk⟩⟩
structure OpIn (o:TOp):Prop where
 ok:iI_ o=true
 val:cH_ o=ey_ o
 size:bG_ 6 (ey_ o)≤400
theorem op_in {o:TOp} (h:(cH_ o).kind≠0):OpIn o:=by
 unfold cH_ at h
 cases ho:iI_ o with
 |false=>rw [ho] at h;exact absurd rfl h
 |true=>
  rw [ho,cond_true] at h
  unfold eO_ at h
  cases hj:cI_ (ey_ o) with
  |false=>rw [hj] at h;exact absurd rfl h
  |true=>
   refine ⟨ho,?_,of_decide_eq_true hj⟩
   unfold cH_ eO_
   rw [ho,hj];rfl
theorem ph_ {j:aa_} (h:j0_ j=true):j=g5_:=by
 unfold j0_ at h
 simp only [Bool.and_eq_true,beq_iff_eq,decide_eq_true_eq] at h
 obtain ⟨h1,h2,h3,h4,h5⟩:=h
 obtain ⟨k,n,s,l,ns⟩:=j
 simp only at h1 h2 h3 h4 h5
 rw [h1,h2,h3,List.eq_nil_of_length_eq_zero h4,List.eq_nil_of_length_eq_zero h5];rfl
theorem val_of {o:TOp} (h:iI_ o=true) (hk:o.kind=2):o.value=g5_:=by
 unfold iI_ at h
 simp only [Bool.and_eq_true,Bool.or_eq_true] at h
 rcases h.2.2.2.2 with h|h
 · rw [hk] at h;exact absurd h (by decide)
 · exact ph_ h
theorem sq_ {o:TOp}:f6_ (ey_ o) tz_=(sM_ (f3_ o.kind),true):=by
 unfold ey_
 cases (o.kind == 2)<;>rfl
theorem kz_ {o:TOp}:f6_ (ey_ o) fQ_=(sM_ (FWay o.way),true):=by
 unfold ey_
 cases (o.kind == 2)<;>rfl
theorem mB_ {o:TOp} (h:iI_ o=true):(f6_ (ey_ o) hm_).1=o.value:=by
 unfold ey_
 cases hk:(o.kind == 2) with
 |false=>rfl
 |true=>rw [val_of h (by simpa using hk)];rfl
theorem kind_back {o:TOp} (h:OpIs o):W (1+FIdx fk_ (f3_ o.kind))=o.kind:=by
 rcases h.kind with e|e|e|e<;>rw [e]<;>decide
theorem qH_ {o:TOp} (h:OpIn o):(FWay o.way).length≤60:=by
 have:=ob_ (gq_ h.size fQ_)
 rw [kz_] at this
 exact this
theorem ms_ {o:TOp} (h:OpIn o):Ev (fun n _=>d0_ n (ey_ o)) (o,true):=by
 have hi:=sY_ h.ok
 have hL:fS_ o:=oE_ (x:=(o.way,true)) (v:=o.value) (s:=FWay o.way) (qH_ h) ⟨hi.way,fun y hy=>by
  have:y.length≤(y.flatMap gC_).length:=by
   clear hy
   induction y with
   |nil=>exact Nat.le_refl _
   |cons c y ih=>rw [List.flatMap_cons,List.length_append,List.length_cons];have:1≤(gC_ c).length:=by unfold gC_;split<;>(try split)<;>simp
                 omega
  have:∀ w:List Bs,y ∈ w→(y.flatMap gC_).length≤(FWay w).length:=by
   intro w
   induction w with
   |nil=>intro h;cases h
   |cons s w ih=>
    intro h
    have e:FWay (s::w)=(47::s.flatMap gC_)++FWay w:=rfl
    rw [e,List.length_append,List.length_cons]
    rcases List.mem_cons.1 h with rfl|h
    · omega
    · have:=ih h;omega
  have:=this o.way hy
  simp only at hy;omega⟩ hi.val
 have hop:=sq_ (o:=o)
 have hpa:=kz_ (o:=o)
 have hva:=mB_ h.ok
 have hs:=qH_ h
 have hW:=kind_back hi
 have hw:Ev (fun n _=>bE_ n (FWay o.way)) (o.way,true):=by rw [←FWi_enc hi.way];exact h8_ hs
 have hS:=hF_ (a:=ey_ o) (b:=ey_ o) (dh_ 6 _ h.size) (dh_ 6 _ h.size)
 rw [pB_ h.size] at hS
 have hJ:=fM_ hL
 rw [h.val] at hJ
 have hK:=h9_ hL
 rw [h.ok] at hK
 unfold tz_ at hop
 unfold fQ_ at hpa
 refine ao_ ?_
 simp only [d0_,aW_,ab_ (jL_ h.size),hop,hpa,hva,sM_,ab_ hw,ab_ nC_,ab_ (gu_ (l:=fk_) (by decide)),hW,Bool.not_true,cond_false,hE_,ab_ hK,ab_ hJ,ab_ hS,ae_]
def FK (k:Int) (s:Bs):Nat→Nat→Int→Int
 |0,_,t=>t
 |j+1,i,t=>FK k s j (i+1) (cond (k == 3) (cond (s == ([]::fk_).getD i []) (i:Int) t) t)
theorem l9_ {K:Nat→bg_.K7} {F:TOp × Bool} {a0 a1:Int} {a2:Bs} {a3:List aa_} {a4:List Bs} {b1 b2 b3:Int} {b4:Bs} {c2 c3:Int} {c4:Bs} {k d1:Int} {s:Bs} {e0 e1:Int} {e2:Bs} {f3:List aa_} {f4:List Bs} {g3:List aa_} {g4:List Bs} :
  ∀ (j i:Nat) (t:Int),i+j=5→Ev (fun n _=>K n a0 a1 a2 a3 a4 b1 b2 b3 b4 (FK k s j i t) c2 c3 c4 e0 e1 e2 g3 g4) F →
    Ev (fun n N=>bg_.loop7 n (K n) N (i:Int) a0 a1 a2 a3 a4 b1 b2 b3 b4 t c2 c3 c4 k d1 s e0 e1 e2 ([]::fk_) f3 f4 g3 g4) F:=by
 have hlen:(([]:Bs)::fk_).length=5:=rfl
 intro j
 induction j with
 |zero=>
  intro i t hi hK
  obtain rfl:i=5:=by omega
  refine a9_ ?_
  have:decide (((5:Nat):Int)<(((([]:Bs)::fk_).length:Nat):Int))=false:=by rw [hlen];exact decide_eq_false (by omega)
  simp only [bg_.turn7,bg_.step7,this,cond_false]
  exact hK
 |succ j ih=>
  intro i t hi hK
  have hlt:i<(([]:Bs)::fk_).length:=by rw [hlen];omega
  have hW:W ((i:Int)+1)=((i+1:Nat):Int):=by rw [W_id (by omega) (by omega)];omega
  refine a9_ ?_
  simp only [bg_.turn7,bg_.step7,cC_ hlt,cond_true,Int.toNat_natCast,hW,al_,bb_,ch_ hlt,true_and]
  unfold FK at hK
  refine ⟨fun h3 => ?_,fun h3 => ?_⟩
  · rw [h3,cond_true] at hK
    exact ⟨fun he=>by rw [he,cond_true] at hK;exact ih (i+1) _ (by omega) hK,fun he=>by rw [he,cond_false] at hK;exact ih (i+1) _ (by omega) hK⟩
  · rw [h3,cond_false] at hK
    exact ih (i+1) _ (by omega) hK
theorem tail_any {p:aa_} (h:bG_ 6 p≤400) {t:Bool} {k:Int} {w:List Bs} {v:aa_} {b1 b2 b3:Int} {b4:Bs} (hk:fS_ (TOp.mk k w v)) :
  Ans (fun n (_:Nat)=>bg_.tail15 n t p.kind p.n_ p.s p.list p.names b1 b2 b3 b4 k w v.kind v.n_ v.s v.list v.names) fun x=>fS_ x.1:=by
 simp only [bg_.tail15,aW_,ec_,be_,aS_,bf_ (ez_ hk),bf_ (fZ_ (i6_ hk) (dh_ 6 p h))]
 exact ⟨fun _=>fc_,fun _=>⟨fun _=>fc_,fun _=>⟨fun _=>fc_,fun _=>hk⟩⟩⟩
theorem lQ_ {p:aa_} (h:bG_ 6 p≤400):Ans (fun n _=>bg_ n p) fun x=>fS_ x.1:=by
 have hs:=ob_ (gq_ h fQ_)
 have hv:=gq_ h hm_
 have hw:=FWr_ok (f6_ p fQ_).1.s
 have hL:=fun k=>oE_ (k:=k) hs hw hv
 refine ci_ ?_
 simp only [bg_,aW_,bf_ (f8_ h),bf_ nF_]
 obtain ⟨v,h1,h2⟩:=tail_any h (t:=(FWr (f6_ p fQ_).1.s).2) (b1:=0) (b2:=0) (b3:=0) (b4:=[]) (hL (FK (f6_ p tz_).1.kind (f6_ p tz_).1.s 4 1 0))
 refine ⟨v,?_,h2⟩
 refine cZ_ (l9_ (K:=fun n=>fun xy4 xy5 xy6 xy7 xy8 xy9 xy10 xy11 xy12 xy13 xy14 xy15 xy16 xy17 xy18 xy19 xy20 xy21=>((a4_ n xy19).bind fun xr22=>((dU_ n (aa_.mk xy4 xy5 xy6 xy7 xy8) [118,97,108,117,101]).bind fun xr23=>(bg_.tail15 n xr22.2 xy4 xy5 xy6 xy7 xy8 xy9 xy10 xy11 xy12 xy13 xr22.1 xr23.1.kind xr23.1.n_ xr23.1.s xr23.1.list xr23.1.names)))) 4 1 0 rfl ?_)
 simp only [ec_,ab_ (hS_ (s:=(f6_ p fQ_).1.s) (by omega)),ab_ (f8_ h)]
 exact h1
theorem s8_ {o:TOp} (h:OpIs o):FK 3 (f3_ o.kind) 4 1 0=o.kind:=by
 rcases h.kind with e|e|e|e<;>rw [e]<;>decide
theorem sc_ {o:TOp} (h:OpIn o):fS_ o:=by
 have hi:=sY_ h.ok
 exact ⟨⟨by have:=hi.way;simp only [cb_];omega,fun y hy=>by have:=hi.text y hy;simp only [cb_];omega⟩,dh_ 6 _ hi.val⟩
theorem lP_ {o:TOp} (h:OpIn o):Ev (fun n _=>bg_ n (ey_ o)) (o,true):=by
 have hi:=sY_ h.ok
 have hL:=sc_ h
 have hop:=sq_ (o:=o)
 have hpa:=kz_ (o:=o)
 have hva:=mB_ h.ok
 have hs:=qH_ h
 have hW:=s8_ hi
 have hw:Ev (fun n _=>a4_ n (FWay o.way)) (o.way,true):=by rw [←FWr_enc hi.way];exact hS_ (by omega)
 have hS:=fZ_ (a:=ey_ o) (b:=ey_ o) (dh_ 6 _ h.size) (dh_ 6 _ h.size)
 rw [pB_ h.size] at hS
 have hJ:=ez_ hL
 rw [h.val] at hJ
 have hk0:(o.kind == 0)=false:=beq_eq_false_iff_ne.2 (by rcases hi.kind with e|e|e|e<;>omega)
 unfold tz_ at hop
 unfold fQ_ at hpa
 refine ao_ ?_
 simp only [bg_,aW_,ab_ (f8_ h.size),ab_ nF_,hop,hpa,sM_]
 refine cZ_ (l9_ (K:=fun n=>fun xy4 xy5 xy6 xy7 xy8 xy9 xy10 xy11 xy12 xy13 xy14 xy15 xy16 xy17 xy18 xy19 xy20 xy21=>((a4_ n xy19).bind fun xr22=>((dU_ n (aa_.mk xy4 xy5 xy6 xy7 xy8) [118,97,108,117,101]).bind fun xr23=>(bg_.tail15 n xr22.2 xy4 xy5 xy6 xy7 xy8 xy9 xy10 xy11 xy12 xy13 xr22.1 xr23.1.kind xr23.1.n_ xr23.1.s xr23.1.list xr23.1.names)))) 4 1 0 rfl ?_)
 simp only [ec_,hW,ab_ hw,ab_ (f8_ h.size),hva,bg_.tail15,aW_,Bool.not_true,hk0,cond_false,hE_,ab_ hJ,ab_ hS,ae_]
end Go.Pi
end
section
namespace Go.Pi
mutual
def aa_.size:aa_→Nat
 |⟨_,_,s,l,ns⟩=>s.length+((l.length+aa_.sizes l)+i0_ szB ns)
def aa_.sizes:List aa_→Nat
 |[]=>0
 |x::l=>aa_.size x+aa_.sizes l
end
mutual
def aa_.len:aa_→Prop
 |⟨_,_,s,l,ns⟩=>s.length≤cb_∧(l.length≤cb_∧aa_.lens l)∧lenL lenB ns
def aa_.lens:List aa_→Prop
 |[]=>True
 |x::l=>aa_.len x∧aa_.lens l
end
theorem aa_.sizes_eq:∀ l:List aa_,aa_.sizes l=eo_ aa_.size l
 |[]=>by simp only [aa_.sizes,eo_]
 |x::l=>by simp only [aa_.sizes,eo_,aa_.sizes_eq l]
theorem aa_.lens_iff:∀ l:List aa_,aa_.lens l↔∀ x ∈ l,aa_.len x
 |[]=>by simp [aa_.lens]
 |x::l=>by simp [aa_.lens,aa_.lens_iff l]
theorem aa_.size_eq (j:aa_):aa_.size j=j.s.length+(i0_ aa_.size j.list+i0_ szB j.names):=by
 cases j;simp only [aa_.size,aa_.sizes_eq,i0_]
theorem aa_.len_iff (j:aa_):aa_.len j↔j.s.length≤cb_∧lenL aa_.len j.list∧lenL lenB j.names:=by
 cases j;simp only [aa_.len,aa_.lens_iff,lenL]
theorem aa_.dec {x:aa_} {a:List aa_} (h:x ∈ a):SizeOf.sizeOf x.list<SizeOf.sizeOf a:=by
 have h1:=List.sizeOf_lt_of_mem h
 have h2:SizeOf.sizeOf x.list<SizeOf.sizeOf x:=by cases x;simp;omega
 omega
end Go.Pi
end
section
namespace Go.Pi
def fd_ (l:List TOp):Nat:=l.findIdx fun o=>(cH_ o).kind == 0
def em_ (l:List TOp):aa_:=aa_.mk 4 0 [] (l.map cH_) []
def et_ (l:List TOp):Int:=cond (decide (fd_ l<l.length)) (-1) (cond (bB_ (em_ l) == []) (-1) ((bB_ (em_ l)).length:Int))
theorem kD_ {l:List TOp} {i:Nat} (hi:i<fd_ l):((cH_ (l.getD i TOp.dflt)).kind == 0)=false:=by
 have hl:fd_ l≤l.length:=List.findIdx_le_length
 rw [List.getD_eq_getElem?_getD,List.getElem?_eq_getElem (by omega),Option.getD_some]
 have:=List.not_of_lt_findIdx (xs:=l) (p:=fun o=>(cH_ o).kind == 0) (i:=i) hi
 simpa using this
theorem bad_at {l:List TOp} (h:fd_ l<l.length):((cH_ (l.getD (fd_ l) TOp.dflt)).kind == 0)=true:=by
 rw [List.getD_eq_getElem?_getD,List.getElem?_eq_getElem h,Option.getD_some]
 exact List.findIdx_getElem (xs:=l) (p:=fun o=>(cH_ o).kind == 0) (w:=h)
theorem oB_ {α β:Type} (f:α→β) (d:α) {a:List α} {i:Nat} (h:i<a.length):(a.take (i+1)).map f=(a.take i).map f++[f (a.getD i d)]:=by
 rw [cE_ d h,List.map_append];rfl
def kQ_ (l:List TOp):Prop:=l.length≤4000000∧∀ o ∈ l,fS_ o
theorem jH_ {l:List TOp} (h:kQ_ l):ft_ 6 (em_ l):=by
 refine ⟨⟨Nat.zero_le _,Nat.zero_le _,fun x hx=>(by cases hx)⟩,by have:=h.1;simp [em_,cb_];omega,fun x hx => ?_⟩
 obtain ⟨o,ho,e⟩:=List.mem_map.1 hx
 rw [←e];exact q1_ 5 _ (i6_ (h.2 o ho))
theorem h6_ {l:List TOp} (h:kQ_ l):Ev (fun n _=>bv_ n l) (cond (decide (fd_ l<l.length)) (g5_,false) (em_ l,true)):=by
 refine ao_ ?_
 have hl:=h.1
 have ht:l.length≤cb_:=by simp only [cb_];omega
 have hb:fd_ l≤l.length:=List.findIdx_le_length
 simp only [bv_]
 have:=eI_ (fun i=>(l.take i).map cH_) (fd_ l) (fun n N i (o:List aa_)=>bv_.loop4 n (fun xy2 xy3 xy4 xy5 xy6 xy7 xy8=>(some ((aa_.mk xy5 xy6 xy7 xy8 ([]:List Bs)),true))) N l (l.length:Int) (i:Int) 0 0 [] 4 0 [] o) (cond (decide (fd_ l<l.length)) (g5_,false) (em_ l,true)) (fun i hi F hF => ?_) ?_
 · exact this
 · have hi2:i<l.length:=by omega
   have hx:=fM_ (h.2 _ (bY_ TOp.dflt hi2))
   rw [oB_ cH_ TOp.dflt hi2] at hF
   have hol:((l.take i).map cH_).length≤i:=by simp;omega
   generalize (l.take i).map cH_=o at hF hol ⊢
   simp only [bv_.turn4,bv_.step4,aW_,hE_,Int.toNat_natCast,W_up hi2 ht,cC_ hi2,ch_ hi2,kD_ hi,cond_true,cond_false,bb_,ba_,ab_ hx]
   exact ⟨trivial,by simp;omega,hF⟩
 · by_cases hp:fd_ l<l.length
   · have hx:=fM_ (h.2 _ (bY_ TOp.dflt hp))
     simp only [bv_.turn4,bv_.step4,aW_,hE_,Int.toNat_natCast,cC_ hp,ch_ hp,bad_at hp,cond_true,bb_,ab_ hx,ae_]
     rw [decide_eq_true hp]
     exact ⟨trivial,rfl⟩
   · have e:fd_ l=l.length:=by omega
     rw [decide_eq_false hp,cond_false]
     unfold em_
     rw [e,List.take_length]
     simp only [bv_.turn4,bv_.step4,cr_,cond_false,ae_]
theorem kw_ {l:List TOp} (h:kQ_ l):Ev (fun n _=>dB_ n l) (et_ l):=by
 refine ao_ ?_
 simp only [dB_,aW_,ab_ (h6_ h)]
 unfold et_
 cases hp:decide (fd_ l<l.length) with
 |true=>
  simp only [cond_true,ab_ (ei_ (eq_ 6)),al_,ae_]
  simp
 |false=>
  simp only [cond_false,ab_ (ei_ (jH_ h)),al_,ae_]
  generalize bB_ (em_ l)=s
  cases (s == [])<;>simp
theorem sb_:∀ (d:Nat) (j:aa_),aa_.len j→ft_ d j
 |0,_,_=>trivial
 |d+1,j,h=>by
  have hq:=(aa_.len_iff j).1 h
  exact ⟨⟨hq.1,hq.2.2.1,hq.2.2.2⟩,hq.2.1.1,fun x hx=>sb_ d x (hq.2.1.2 x hx)⟩
end Go.Pi
end
section
namespace Go.Pi
theorem k9_ {j:aa_}:Ev (fun n _=>aq_ n j (aa_.mk 0 0 [] [] [])) (j0_ j):=by
 refine ao_ ?_
 simp only [aq_,al_,ae_,j0_]
 by_cases h1:j.list=[]
 · by_cases h2:j.names=[]
   · have hL:Ev (fun n _=>aq_.loop6 n (aq_ n) (fun xy2 xy3 xy4 xy5 xy6 xy7 xy8 xy9 xy10 xy11=>(aq_.loop14 n (aq_ n) (some true) n 0 xy2 xy3 xy4 xy5 xy6 xy7 xy8 xy9 xy10 xy11)) n 0 j.kind j.n_ j.s [] [] 0 0 [] [] []) true :=
      cZ_ (f:=fun n N=>aq_.loop6 n (aq_ n) (fun xy2 xy3 xy4 xy5 xy6 xy7 xy8 xy9 xy10 xy11=>(aq_.loop14 n (aq_ n) (some true) n 0 xy2 xy3 xy4 xy5 xy6 xy7 xy8 xy9 xy10 xy11)) N 0 j.kind j.n_ j.s [] [] 0 0 [] [] []) (a9_ (cZ_ (f:=fun n N=>aq_.loop14 n (aq_ n) (some true) N 0 j.kind j.n_ j.s [] [] 0 0 [] [] []) (a9_ ⟨0,fun _ _ _ _=>rfl⟩)))
     rw [h1,h2]
     simp only [dE_ hL,bne]
     cases (j.kind == 0)<;>cases (j.n_ == 0)<;>cases (j.s == [])<;>simp
   · simp only [bne]
     rw [h1]
     have e:((j.names.length:Int) == (([]:List Bs).length:Int))=false:=by
      simp only [List.length_nil]
      rw [beq_eq_false_iff_ne];intro e;exact h2 (List.eq_nil_of_length_eq_zero (by omega))
     have e2:decide (j.names.length=0)=false:=decide_eq_false fun e=>h2 (List.eq_nil_of_length_eq_zero e)
     rw [e,e2]
     cases (j.kind == 0)<;>cases (j.n_ == 0)<;>cases (j.s == [])<;>simp
 · simp only [bne]
   have e:((j.list.length:Int) == (([]:List aa_).length:Int))=false:=by
    simp only [List.length_nil]
    rw [beq_eq_false_iff_ne];intro e;exact h1 (List.eq_nil_of_length_eq_zero (by omega))
   have e2:decide (j.list.length=0)=false:=decide_eq_false fun e=>h1 (List.eq_nil_of_length_eq_zero e)
   rw [e,e2]
   cases (j.kind == 0)<;>cases (j.n_ == 0)<;>cases (j.s == [])<;>simp
theorem iK_ {l:List TOp} (h:kQ_ l):Ev (fun n _=>bQ_ n l) (cond (decide (fd_ l<l.length)) (aa_.mk 4 0 [] ((l.take (fd_ l)).map cH_) [],false) (em_ l,decide ((l.length:Int)≤40) && !(bB_ (em_ l) == []))):=by
 refine ao_ ?_
 have hl:=h.1
 have ht:l.length≤cb_:=by simp only [cb_];omega
 have hb:fd_ l≤l.length:=List.findIdx_le_length
 simp only [bQ_]
 have:=eI_ (fun i=>(l.take i).map cH_) (fd_ l) (fun n N i (o:List aa_)=>bQ_.loop4 n (fun xy2 xy3 xy4 xy5 xy6 xy7 xy8 xy9=>(cond (decide ((xy2.length:Int)≤40)) ((cY_ n (aa_.mk xy6 xy7 xy8 xy9 [])).bind fun xr10=>(some ((aa_.mk xy6 xy7 xy8 xy9 ([]:List Bs)),(!(xr10 == []))))) (some ((aa_.mk xy6 xy7 xy8 xy9 ([]:List Bs)),false)))) N l (i:Int) 0 0 [] 4 0 [] o) (cond (decide (fd_ l<l.length)) (aa_.mk 4 0 [] ((l.take (fd_ l)).map cH_) [],false) (em_ l,decide ((l.length:Int)≤40) && !(bB_ (em_ l) == []))) (fun i hi F hF => ?_) ?_
 · exact this
 · have hi2:i<l.length:=by omega
   have hx:=ez_ (h.2 _ (bY_ TOp.dflt hi2))
   rw [oB_ cH_ TOp.dflt hi2] at hF
   have hol:((l.take i).map cH_).length≤i:=by simp;omega
   generalize (l.take i).map cH_=o at hF hol ⊢
   simp only [bQ_.turn4,bQ_.step4,aW_,hE_,Int.toNat_natCast,W_up hi2 ht,cC_ hi2,ch_ hi2,kD_ hi,cond_true,cond_false,bb_,ba_,ab_ hx]
   exact ⟨trivial,by simp;omega,hF⟩
 · by_cases hp:fd_ l<l.length
   · have hx:=ez_ (h.2 _ (bY_ TOp.dflt hp))
     simp only [bQ_.turn4,bQ_.step4,aW_,hE_,Int.toNat_natCast,cC_ hp,ch_ hp,bad_at hp,cond_true,bb_,ab_ hx,ae_]
     rw [decide_eq_true hp]
     exact ⟨trivial,rfl⟩
   · have e:fd_ l=l.length:=by omega
     have hE:=dS_ (jH_ h)
     rw [decide_eq_false hp,cond_false]
     unfold em_ at hE ⊢
     rw [e,List.take_length]
     simp only [bQ_.turn4,bQ_.step4,cr_,cond_false,al_,ab_ hE,ae_]
     cases decide ((l.length:Int)≤40)<;>simp
def qA_ (l:List TOp):Bool:=(!decide (fd_ l<l.length))&&(decide ((l.length:Int)≤40) && !(bB_ (em_ l) == []))
def c4_ (e:aD_):Bool:=inn e.version 0 100000&&cond (e.kind == 1) ((e.base == 0)&&(decide (e.ops.length=0) && !(bB_ e.doc == []))) (cond (e.kind == 2) (qA_ e.ops&&(inn e.base 0 (W (e.version - 1))&&j0_ e.doc)) false)
def pS_ (e:aD_):Prop:=ft_ 6 e.doc∧kQ_ e.ops
theorem jR_ (e:aD_):aD_.mk e.kind e.version e.base e.doc e.ops=e:=rfl
theorem size_ok (l:List TOp):decide (et_ l≥0)=((!decide (fd_ l<l.length)) && !(bB_ (em_ l) == [])):=by
 unfold et_
 cases decide (fd_ l<l.length) with
 |true=>rfl
 |false=>
  cases hs:(bB_ (em_ l) == []) with
  |true=>rfl
  |false=>simp only [cond_false,Bool.not_false,Bool.and_true];exact decide_eq_true (by omega)
theorem lR_ {e:aD_} (h:pS_ e):Ev (fun n _=>eb_ n e) (c4_ e):=by
 refine ao_ ?_
 simp only [eb_,aW_,fT_,al_,ab_ (dS_ h.1),ab_ (iK_ h.2),ab_ k9_,ae_,oC_,c4_,qA_]
 generalize inn e.version 0 100000=a1
 generalize (e.kind == 1)=a2
 generalize (e.kind == 2)=a3
 generalize (e.base == 0)=a4
 generalize decide (e.ops.length=0)=a5
 generalize decide (fd_ e.ops<e.ops.length)=a6
 generalize decide ((e.ops.length:Int)≤40)=a7
 generalize (bB_ (em_ e.ops) == [])=a8
 generalize (bB_ e.doc == [])=a9
 generalize inn e.base 0 (W (e.version - 1))=b1
 generalize j0_ e.doc=b2
 cases a1<;>cases a2<;>cases a3<;>cases a4<;>simp only [cond_true,cond_false,Bool.not_true,Bool.not_false,Bool.false_and,Bool.true_and,reduceCtorEq,false_implies,true_implies,true_and,and_true,implies_true]
 all_goals (cases a5<;>cases a6<;>cases a7<;>cases a8<;>cases a9<;>cases b1<;>cases b2<;>simp)
theorem kv_ {n:Int}:Ev (fun m _=>db_ m n) (inn n 0 100000):=ao_ (by simp only [db_,gE_,ae_])
theorem mv_ {e:aD_} (h:pS_ e):Ev (fun n _=>ed_ n e) (c4_ e):=by
 refine ao_ ?_
 simp only [ed_,aW_,gE_,al_,ab_ kv_,ab_ (ei_ h.1),ab_ iQ_,ab_ (kw_ h.2),ae_,oC_,size_ok,c4_,qA_]
 generalize inn e.version 0 100000=a1
 generalize (e.kind == 1)=a2
 generalize (e.kind == 2)=a3
 generalize (e.base == 0)=a4
 generalize decide (e.ops.length=0)=a5
 generalize decide (fd_ e.ops<e.ops.length)=a6
 generalize decide ((e.ops.length:Int)≤40)=a7
 generalize (bB_ (em_ e.ops) == [])=a8
 generalize (bB_ e.doc == [])=a9
 generalize inn e.base 0 (W (e.version - 1))=b1
 generalize j0_ e.doc=b2
 cases a1<;>cases a2<;>cases a3<;>cases a4<;>simp only [cond_true,cond_false,Bool.not_true,Bool.not_false,Bool.false_and,Bool.true_and,reduceCtorEq,false_implies,true_implies,true_and,and_true,implies_true]
 all_goals (cases a5<;>cases a6<;>cases a7<;>cases a8<;>cases a9<;>cases b1<;>cases b2<;>simp)
end Go.Pi
end
section
namespace Go.Pi
theorem g1_ {x:Int} (h0 : -9223372036854775808≤x) (h1:x≤9223372036854775807):Ev (fun n _=>eg_ n x) (Lib.itoa x):=by
 refine ao_ ?_
 have:=Itoa_ev h0 h1
 simp only [eg_,ab_ this,ae_]
end Go.Pi
end
section
namespace Go.Pi
def nl_ (v:Int):Bs:=([105,100,58,32]++Lib.itoa v)++[10]
def fo_ (v:Int) (d:Bs):Bs:=((([101,118,101,110,116,58,32,115,110,97,112,10]++nl_ v)++[100,97,116,97,58,32])++d)++[10,10]
def eV_ (v b:Int) (d:Bs):Bs:=((((([101,118,101,110,116,58,32,112,97,116,99,104,10]++nl_ v)++[98,97,115,101,58,32])++Lib.itoa b)++[10,100,97,116,97,58,32])++d)++[10,10]
def cN_ (e:aD_):Bs:=cond (c4_ e) (cond (e.kind == 1) (fo_ e.version (bB_ e.doc)) (eV_ e.version e.base (bB_ (em_ e.ops)))) []
theorem fI_ (j:aa_):(bB_ j).length≤6000:=by
 unfold bB_
 cases cI_ j with
 |false=>exact Nat.zero_le _
 |true=>
  simp only [cond_true]
  cases h:decide (((FEnc 6 j).length:Int) > 6000) with
  |true=>exact Nat.zero_le _
  |false=>have:=of_decide_eq_false h;simp only [cond_false];omega
structure EvIs (e:aD_):Prop where
 ver:0≤e.version∧e.version≤100000
 base:(e.kind == 1)=false→0≤e.base∧e.base≤100000
 ops:(e.kind == 1)=false→decide (fd_ e.ops<e.ops.length)=false
theorem ev_is {e:aD_} (h:c4_ e=true):EvIs e:=by
 unfold c4_ at h
 rw [Bool.and_eq_true] at h
 have hv:=gM_ h.1
 refine ⟨by omega,fun hk => ?_,fun hk => ?_⟩
 all_goals (
  have h2:=h.2
  rw [hk,cond_false] at h2
  cases hk2:(e.kind == 2) with
  |false=>rw [hk2] at h2;cases h2
  |true=>
   rw [hk2,cond_true,Bool.and_eq_true,Bool.and_eq_true] at h2
   have hb:=gM_ h2.2.1
   rw [W_id (by omega) (by omega)] at hb
   unfold qA_ at h2
   rw [Bool.and_eq_true] at h2
   first|(have:=h2.1.1;simpa using this)|omega)
theorem fz_ {e:aD_} (h:pS_ e):Ev (fun n _=>da_ n e) (cN_ e):=by
 refine ao_ ?_
 simp only [da_,aW_,jR_,ab_ (lR_ h),al_,ae_,cN_]
 cases ho:c4_ e with
 |false=>exact ⟨fun _=>rfl,fun h=>(by cases h)⟩
 |true=>
  refine ⟨fun h=>(by cases h),fun _ => ?_⟩
  have hi:=ev_is ho
  have hd:=hi.ver
  have hdl:=Lib.itoa_length_le e.version (by omega) (by omega)
  cases hk:(e.kind == 1) with
  |true=>
   have hE:=dS_ h.1
   have hEl:=fI_ e.doc
   simp only [ab_ (c0_ (x:=e.version) (by omega) (by omega)),cond_true,al_,dC_,ab_ hE,ae_,fo_,nl_]
   generalize Lib.itoa e.version=a at hdl ⊢
   generalize bB_ e.doc=b at hEl ⊢
   repeat' (first|apply And.intro|intro _)
   all_goals (first|trivial|rfl|(rename_i hc;have hc:=of_decide_eq_false hc;simp only [List.length_append,List.length_cons,List.length_nil] at hc;omega))
  |false=>
   have hb:=hi.base hk
   have hbl:=Lib.itoa_length_le e.base (by omega) (by omega)
   have hO:=iK_ h.2
   rw [hi.ops hk,cond_false] at hO
   have hE:=dS_ (jH_ h.2)
   have hEl:=fI_ (em_ e.ops)
   simp only [ab_ (c0_ (x:=e.version) (by omega) (by omega)),ab_ (c0_ (x:=e.base) (by omega) (by omega)),ab_ hO,cond_true,cond_false,al_,dC_,ab_ hE,ae_,eV_,nl_]
   generalize Lib.itoa e.version=a at hdl ⊢
   generalize Lib.itoa e.base=c at hbl ⊢
   generalize bB_ (em_ e.ops)=b at hEl ⊢
   repeat' (first|apply And.intro|intro _)
   all_goals (first|trivial|rfl|(rename_i hc;have hc:=of_decide_eq_false hc;simp only [List.length_append,List.length_cons,List.length_nil] at hc;omega))
theorem fG_ {e:aD_} (h:pS_ e):Ev (fun n _=>c5_ n e) (cN_ e):=by
 refine ao_ ?_
 simp only [c5_,aW_,jR_,ab_ (mv_ h),al_,ae_,cN_]
 cases ho:c4_ e with
 |false=>exact ⟨fun _=>rfl,fun h=>(by cases h)⟩
 |true=>
  refine ⟨fun h=>(by cases h),fun _ => ?_⟩
  have hi:=ev_is ho
  have hd:=hi.ver
  have hdl:=Lib.itoa_length_le e.version (by omega) (by omega)
  cases hk:(e.kind == 1) with
  |true=>
   have hE:=ei_ h.1
   have hEl:=fI_ e.doc
   simp only [ab_ (g1_ (x:=e.version) (by omega) (by omega)),cond_true,al_,dC_,ab_ hE,ae_,fo_,nl_]
   generalize Lib.itoa e.version=a at hdl ⊢
   generalize bB_ e.doc=b at hEl ⊢
   repeat' (first|apply And.intro|intro _)
   all_goals (first|trivial|rfl|(rename_i hc;have hc:=of_decide_eq_false hc;simp only [List.length_append,List.length_cons,List.length_nil] at hc;omega))
  |false=>
   have hb:=hi.base hk
   have hbl:=Lib.itoa_length_le e.base (by omega) (by omega)
   have hO:=h6_ h.2
   rw [hi.ops hk,cond_false] at hO
   have hE:=ei_ (jH_ h.2)
   have hEl:=fI_ (em_ e.ops)
   simp only [ab_ (g1_ (x:=e.version) (by omega) (by omega)),ab_ (g1_ (x:=e.base) (by omega) (by omega)),ab_ hO,cond_true,cond_false,al_,dC_,ab_ hE,ae_,eV_,nl_]
   generalize Lib.itoa e.version=a at hdl ⊢
   generalize Lib.itoa e.base=c at hbl ⊢
   generalize bB_ (em_ e.ops)=b at hEl ⊢
   repeat' (first|apply And.intro|intro _)
   all_goals (first|trivial|rfl|(rename_i hc;have hc:=of_decide_eq_false hc;simp only [List.length_append,List.length_cons,List.length_nil] at hc;omega))
end Go.Pi
end
section
namespace Go.Pi
theorem r0_ {l:List TOp} {o:TOp} (h:∀ x ∈ l,fS_ x) (ho:fS_ o):∀ x ∈ l++[o],fS_ x:=by
 intro x hx
 rcases List.mem_append.1 hx with hx|hx
 · exact h x hx
 · obtain rfl:=List.mem_singleton.1 hx;exact ho
theorem nf_ {j:aa_} (h:bG_ 6 j≤400):Ans (fun n _=>b1_ n j) fun x=>kQ_ x.1:=by
 have hll:=eT_ h
 refine ci_ ?_
 simp only [b1_]
 refine gg_ (σ:=Nat × List TOp) (fun n N st=>b1_.loop4 n (fun xy2 xy3 xy4 xy5 xy6 xy7=>(some (xy7,(xy2 == 4)))) N j.list (j.list.length:Int) (st.1:Int) j.kind j.n_ j.s j.list j.names st.2) (fun st=>j.list.length - st.1) (fun st=>st.1≤j.list.length∧st.2.length≤st.1∧∀ o ∈ st.2,fS_ o) _ (fun st hI ih => ?_) (0,[]) ⟨Nat.zero_le _,Nat.zero_le _,fun y h=>(by cases h)⟩
 obtain ⟨i,ops⟩:=st
 simp only at hI ih ⊢
 obtain ⟨h1,h2,h3⟩:=hI
 simp only [b1_.turn4,b1_.step4,aW_,Int.toNat_natCast]
 by_cases hi:i<j.list.length
 · have hx:bG_ 6 (j.list.getD i aa_.dflt)≤400:=by
    have:=it_ h (bY_ aa_.dflt hi)
    rw [lv_ 5 _ this];exact this
   simp only [cC_ hi,cond_true,eX_,ch_ hi,true_and,W_up hi (show j.list.length≤cb_ by simp only [cb_];omega)]
   refine az_ (mt_ hx) fun v hv => ?_
   simp only [be_,aS_,dN_]
   exact ⟨fun _=>⟨Nat.zero_le _,fun y h=>(by cases h)⟩,fun _=>⟨by simp;omega,ih (i+1,_) ⟨hi,by simp;omega,r0_ h3 hv⟩ (by simp only;omega)⟩⟩
 · have e:i=j.list.length:=by omega
   subst e
   simp only [cr_,cond_false,aS_]
   exact ⟨by show ops.length≤4000000;omega,h3⟩
theorem ops_right {l:List TOp} (h:bG_ 6 (em_ l)≤400):l.length≤400:=by
 have:=eT_ h
 simpa [em_] using this
theorem ne_ {l:List TOp} (h:∀ o ∈ l,OpIn o) (hl:l.length≤400):Ev (fun n _=>b1_ n (em_ l)) (l,true):=by
 refine ao_ ?_
 simp only [b1_,em_]
 have:=eI_ (fun i=>l.take i) l.length (fun n N i (o:List TOp)=>b1_.loop4 n (fun xy2 xy3 xy4 xy5 xy6 xy7=>(some (xy7,(xy2 == 4)))) N (l.map cH_) ((l.map cH_).length:Int) (i:Int) 4 0 [] (l.map cH_) [] o) (l,true) (fun i hi F hF => ?_) ?_
 · exact this
 · have ho:=h _ (bY_ TOp.dflt hi)
   have hi2:i<(l.map cH_).length:=by simpa using hi
   have e:(l.map cH_).getD i aa_.dflt=ey_ (l.getD i TOp.dflt):=by
    rw [←ho.val,List.getD_eq_getElem?_getD,List.getElem?_map,List.getD_eq_getElem?_getD,List.getElem?_eq_getElem hi];rfl
   rw [cE_ TOp.dflt hi] at hF
   simp only [b1_.turn4,b1_.step4,aW_,Int.toNat_natCast,cC_ hi2,cond_true,bb_,ch_ hi2,true_and,e,ab_ (ms_ ho),Bool.not_true,cond_false,ba_,W_up hi (show l.length≤cb_ by simp only [cb_];omega)]
   exact ⟨by simp;omega,hF⟩
 · have e:decide ((l.length:Int)<((l.map cH_).length:Int))=false:=by simp
   simp only [List.take_length,b1_.turn4,b1_.step4,e,cond_false,ae_]
   rfl
def FCut (s:Bs):Bs × Bs:=if Lib.indexByte s 10<0 then (s,[]) else (s.take (Lib.indexByte s 10).toNat,s.drop ((Lib.indexByte s 10).toNat+1))
theorem idx_le:∀ (s:Bs),Lib.indexByte s 10<(s.length:Int)∨s=[]
 |[]=>.inr rfl
 |b::l=>by
  left
  unfold Lib.indexByte
  split
  · simp only [List.length_cons];omega
  · split
    · simp only [List.length_cons];omega
    · rcases idx_le l with h|h
      · simp only [List.length_cons];omega
      · subst h;rename_i h1 h2;exact absurd (by rfl) h2
theorem Cut_ev {s:Bs} (hs:s.length≤4194304):Ev (fun n _=>(ew_ n s [10])) ((FCut s).1,(FCut s).2,decide (0≤Lib.indexByte s 10)):=by
 have hge:=Lib.indexByte_ge s 10
 have hX:Ev (fun n _=>ca_ n s [10]) (Lib.indexByte s 10):=ao_ (by simp only [ca_,r3_,ae_])
 have hC:Ev (fun n _=>co_ n s [10]) ((FCut s).1,(FCut s).2,decide (0≤Lib.indexByte s 10)):=by
  refine ao_ ?_
  simp only [co_,ab_ hX,al_,d1_,ae_]
  unfold FCut
  refine ⟨fun h => ?_,fun h => ?_⟩
  · have h:=of_decide_eq_true h
    have hlt:Lib.indexByte s 10<(s.length:Int):=by
     rcases idx_le s with h|h
     · exact h
     · subst h;rename_i h0;exact absurd h0 (by decide)
    have hW:W (Lib.indexByte s 10+(([10]:Bs).length:Int))=Lib.indexByte s 10+1:=W_id (by show _≤Lib.indexByte s 10+1;omega) (by show Lib.indexByte s 10+1<_;omega)
    rw [hW,if_neg (by omega),decide_eq_true (show 0≤Lib.indexByte s 10 by omega)]
    have e1:(Lib.indexByte s 10+1).toNat=(Lib.indexByte s 10).toNat+1:=by omega
    rw [e1]
    simp only [Int.toNat_natCast,List.take_length,List.drop_zero]
    exact ⟨by omega,by omega,trivial⟩
  · have h:=of_decide_eq_false h
    rw [if_pos (by omega),decide_eq_false (show ¬ 0≤Lib.indexByte s 10 by omega)]
 exact ao_ (by simp only [ew_,ab_ hC,ae_])
theorem sx_ (s:Bs):(FCut s).1.length≤s.length∧(FCut s).2.length≤s.length:=by
 unfold FCut
 split
 · exact ⟨Nat.le_refl _,Nat.zero_le _⟩
 · simp;omega
theorem idx_app:∀ {a:Bs} (b:Bs),(∀ c ∈ a,c≠10)→Lib.indexByte (a++10::b) 10=(a.length:Int)
 |[],b,_=>rfl
 |c::a,b,h=>by
  have hc:=h c (List.mem_cons_self ..)
  have ih:=idx_app b fun x hx=>h x (List.mem_cons_of_mem _ hx)
  have e:(c == 10)=false:=beq_eq_false_iff_ne.2 hc
  rw [List.cons_append,Lib.indexByte,e,ih,if_neg (by simp),if_neg (by simp<;>omega),List.length_cons];omega
theorem cut_app {a:Bs} (b:Bs) (h:∀ c ∈ a,c≠10):FCut (a++10::b)=(a,b):=by
 unfold FCut
 rw [idx_app b h,if_neg (by omega),Int.toNat_natCast,List.take_left]
 have:(a++10::b).drop (a.length+1)=b:=by rw [←List.drop_drop,List.drop_left];rfl
 rw [this]
def j1_ (p s:Bs):Bs:=cond (pfx p s) (s.drop p.length) s
theorem trim_le (p s:Bs):(j1_ p s).length≤s.length:=by
 unfold j1_;cases pfx p s<;>simp
theorem rN_ (p s:Bs):j1_ p (p++s)=s:=by unfold j1_;rw [i4_,List.drop_left];rfl
theorem iB_ {s p:Bs} (hs:s.length≤4194304):Ev (fun n _=>dq_ n s p) (j1_ p (FCut s).1,(FCut s).2):=by
 refine ao_ ?_
 simp only [dq_,ab_ (Cut_ev hs),ab_ hx_,ae_,j1_]
theorem ic_ {p a b:Bs} (hp:∀ c ∈ p,c≠10) (ha:∀ c ∈ a,c≠10) (hs:(p++(a++10::b)).length≤4194304):Ev (fun n _=>dq_ n (p++(a++10::b)) p) (a,b):=by
 have e:p++(a++10::b)=(p++a)++10::b:=by simp
 have h:=iB_ (p:=p) hs
 rw [e] at h ⊢
 rw [cut_app b (fun c hc=>by rcases List.mem_append.1 hc with h|h;exact hp c h;exact ha c h),rN_] at h
 exact h
abbrev tSnap:Bs:=[101,118,101,110,116,58,32,115,110,97,112,10]
abbrev jo_:Bs:=[101,118,101,110,116,58,32,112,97,116,99,104,10]
abbrev tId:Bs:=[105,100,58,32]
abbrev k7_:Bs:=[98,97,115,101,58,32]
abbrev fx_:Bs:=[100,97,116,97,58,32]
theorem lU_ (v:Int) (d:Bs):fo_ v d=tSnap++(tId++(Lib.itoa v++10::(fx_++(d++10::[10])))):=by
 simp [fo_,nl_]
theorem km_ (v b:Int) (d:Bs):eV_ v b d=jo_++(tId++(Lib.itoa v++10::(k7_++(Lib.itoa b++10::(fx_++(d++10::[10])))))):=by
 simp [eV_,nl_]
theorem lh_ {s:Bs} (hs:s.length≤4194304):Ans (fun n _=>dm_ n s) fun e=>pS_ e:=by
 have hA:∀ {t:Bs},t.length≤4194304→Ev (fun n _=>cR_ n t) (endOf t (Lib.atoiAll t)):=fun h=>m0_ (by omega)
 have fl:∀ (p t:Bs),(j1_ p (FCut t).1).length≤t.length:=fun p t=>Nat.le_trans (trim_le _ _) (sx_ t).1
 refine ci_ ?_
 simp only [dm_,aW_,bf_ gS_]
 cases hp:pfx [101,118,101,110,116,58,32,115,110,97,112,10] s with
 |true=>
  simp only [cond_true]
  have h1:(s.drop tSnap.length).length≤s.length:=by simp
  generalize s.drop tSnap.length=t at h1 ⊢
  have h2:=(sx_ t).2
  have h3:=fl [100,97,116,97,58,32] (FCut t).2
  have h4:=fl [105,100,58,32] t
  simp only [bf_ (iB_ (s:=t) (p:=[105,100,58,32]) (by omega)),bf_ (iB_ (s:=(FCut t).2) (p:=[100,97,116,97,58,32]) (by omega)),bf_ (hA (t:=j1_ [105,100,58,32] (FCut t).1) (by omega))]
  refine az_ (ib_ (s:=j1_ [100,97,116,97,58,32] (FCut (FCut t).2).1) (by omega)) fun v hv => ?_
  simp only [aS_]
  exact ⟨dh_ 6 _ hv,Nat.zero_le _,fun o h=>(by cases h)⟩
 |false=>
  simp only [cond_false,bf_ hx_]
  have h1:=trim_le jo_ s
  show Ans (fun n N=>(dq_ n (j1_ jo_ s) [105,100,58,32]).bind _) _
  generalize j1_ jo_ s=t at h1 ⊢
  have h2:=(sx_ t).2
  have h3:=(sx_ (FCut t).2).2
  have h4:=fl [105,100,58,32] t
  have h5:=fl [98,97,115,101,58,32] (FCut t).2
  have h6:=fl [100,97,116,97,58,32] (FCut (FCut t).2).2
  simp only [bf_ (iB_ (s:=t) (p:=[105,100,58,32]) (by omega)),bf_ (iB_ (s:=(FCut t).2) (p:=[98,97,115,101,58,32]) (by omega)),bf_ (iB_ (s:=(FCut (FCut t).2).2) (p:=[100,97,116,97,58,32]) (by omega)),bf_ (hA (t:=j1_ [105,100,58,32] (FCut t).1) (by omega)),bf_ (hA (t:=j1_ [98,97,115,101,58,32] (FCut (FCut t).2).1) (by omega))]
  refine az_ (ib_ (s:=j1_ [100,97,116,97,58,32] (FCut (FCut (FCut t).2).2).1) (by omega)) fun v hv => ?_
  refine az_ (nf_ hv) fun w hw => ?_
  simp only [aS_]
  exact ⟨eq_ 6,hw⟩
structure SnapIs (e:aD_):Prop where
 ver:0≤e.version∧e.version≤100000
 base:e.base=0
 ops:e.ops=[]
 doc:bB_ e.doc≠[]
structure PatchIs (e:aD_):Prop where
 ver:0≤e.version∧e.version≤100000
 base:0≤e.base∧e.base≤100000
 doc:e.doc=g5_
 ops:∀ o ∈ e.ops,OpIn o
 enc:bB_ (em_ e.ops)≠[]
 len:e.ops.length≤400
theorem jS_ {e:aD_} (h:c4_ e=true):(e.kind=1∧SnapIs e)∨(e.kind=2∧PatchIs e):=by
 have hi:=ev_is h
 unfold c4_ at h
 rw [Bool.and_eq_true] at h
 have h2:=h.2
 cases hk:(e.kind == 1) with
 |true=>
  rw [hk,cond_true] at h2
  simp only [Bool.and_eq_true,Bool.not_eq_true',beq_iff_eq,decide_eq_true_eq,beq_eq_false_iff_ne] at h2
  exact .inl ⟨by simpa using hk,hi.ver,h2.1,List.eq_nil_of_length_eq_zero h2.2.1,h2.2.2⟩
 |false=>
  rw [hk,cond_false] at h2
  cases hk2:(e.kind == 2) with
  |false=>rw [hk2] at h2;cases h2
  |true=>
   rw [hk2,cond_true] at h2
   unfold qA_ at h2
   simp only [Bool.and_eq_true,Bool.not_eq_true',decide_eq_true_eq,decide_eq_false_iff_not,beq_eq_false_iff_ne] at h2
   obtain ⟨⟨b1,b2,b3⟩,b4,b5⟩:=h2
   have henc:=mE_ b3
   refine .inr ⟨by simpa using hk2,hi.ver,hi.base hk,ph_ b5,fun o ho=>op_in ?_,b3,ops_right henc.1⟩
   intro hz
   have:e.ops.findIdx (fun o=>(cH_ o).kind == 0)<e.ops.length:=List.findIdx_lt_length_of_exists ⟨o,ho,by rw [hz];rfl⟩
   exact b1 this
theorem hq_ {e:aD_} (h:c4_ e=true) (hk:e.kind=1):cN_ e=fo_ e.version (bB_ e.doc):=by
 unfold cN_;rw [h,hk];rfl
theorem gP_ {e:aD_} (h:c4_ e=true) (hk:e.kind=2):cN_ e=eV_ e.version e.base (bB_ (em_ e.ops)):=by
 unfold cN_;rw [h,hk];rfl
theorem oZ_ {j:aa_} (h:bB_ j≠[]):∀ c ∈ bB_ j,c≠10:=by
 obtain ⟨h1,h2,_⟩:=mE_ h
 rw [h2];exact enc_nl 6 j h1
theorem kA_ {e:aD_} (h:c4_ e=true):(cN_ e).length≤10000:=by
 rcases jS_ h with ⟨hk,hs⟩|⟨hk,hs⟩
 · rw [hq_ h hk,lU_]
   have:=fI_ e.doc
   have:=Lib.itoa_length_le e.version (by have:=hs.ver;omega) (by have:=hs.ver;omega)
   simp only [List.length_append,List.length_cons,List.length_nil];omega
 · rw [gP_ h hk,km_]
   have:=fI_ (em_ e.ops)
   have:=Lib.itoa_length_le e.version (by have:=hs.ver;omega) (by have:=hs.ver;omega)
   have:=Lib.itoa_length_le e.base (by have:=hs.base;omega) (by have:=hs.base;omega)
   simp only [List.length_append,List.length_cons,List.length_nil];omega
theorem qi_ {e:aD_} (h:c4_ e=true):cN_ e≠[]:=by
 rcases jS_ h with ⟨hk,hs⟩|⟨hk,hs⟩
 · rw [hq_ h hk,lU_];intro e;cases e
 · rw [gP_ h hk,km_];intro e;cases e
theorem o7_ {n:Int} (h0:0≤n) (h1:n≤100000):Ev (fun m _=>cR_ m (Lib.itoa n)) (n,true):=by
 have hl:=Lib.itoa_length_le n (by omega) (by omega)
 have:=m0_ (s:=Lib.itoa n) (by omega)
 rw [qr_ (by omega) (by omega)] at this
 exact this
theorem lg_ {e:aD_} (h:c4_ e=true):Ev (fun n _=>dm_ n (cN_ e)) e:=by
 have hlen:=kA_ h
 refine ao_ ?_
 rcases jS_ h with ⟨hk,hs⟩|⟨hk,hs⟩
 · rw [hq_ h hk,lU_] at hlen ⊢
   simp only [List.length_append] at hlen
   have hv:=hs.ver
   have f1:=ic_ (p:=tId) (a:=Lib.itoa e.version) (b:=fx_++(bB_ e.doc++10::[10])) (by decide) (i7_ _) (by simp only [List.length_append];omega)
   have f2:=ic_ (p:=fx_) (a:=bB_ e.doc) (b:=[10]) (by decide) (oZ_ hs.doc) (by simp only [List.length_append,List.length_cons] at hlen ⊢;omega)
   simp only [dm_,aW_,ab_ gS_,i4_,cond_true,List.drop_left,ab_ f1,ab_ f2,ab_ (o7_ hv.1 hv.2),ab_ (ia_ hs.doc),ae_]
   obtain ⟨k,v,b,d,o⟩:=e
   have e1:=hs.base
   have e2:=hs.ops
   simp only at e1 e2 hk
   rw [e1,e2,hk]
 · rw [gP_ h hk,km_] at hlen ⊢
   simp only [List.length_append] at hlen
   have hv:=hs.ver
   have hb:=hs.base
   have f1:=ic_ (p:=tId) (a:=Lib.itoa e.version) (b:=k7_++(Lib.itoa e.base++10::(fx_++(bB_ (em_ e.ops)++10::[10])))) (by decide) (i7_ _) (by simp only [List.length_append];omega)
   have f2:=ic_ (p:=k7_) (a:=Lib.itoa e.base) (b:=fx_++(bB_ (em_ e.ops)++10::[10])) (by decide) (i7_ _) (by simp only [List.length_append,List.length_cons] at hlen ⊢;omega)
   have f3:=ic_ (p:=fx_) (a:=bB_ (em_ e.ops)) (b:=[10]) (by decide) (oZ_ hs.enc) (by simp only [List.length_append,List.length_cons] at hlen ⊢;omega)
   have hp:∀ t,pfx [101,118,101,110,116,58,32,115,110,97,112,10] (jo_++t)=false:=fun t=>rfl
   have ht:∀ t,cond (pfx [101,118,101,110,116,58,32,112,97,116,99,104,10] (jo_++t)) ((jo_++t).drop ([101,118,101,110,116,58,32,112,97,116,99,104,10]:Bs).length) (jo_++t)=t:=fun t=>rN_ jo_ t
   simp only [dm_,aW_,ab_ gS_,hp,cond_false,ab_ hx_,ht,ab_ f1,ab_ f2,ab_ f3,ab_ (o7_ hv.1 hv.2),ab_ (o7_ hb.1 hb.2),ab_ (ia_ hs.enc),ab_ (ne_ hs.ops hs.len),ae_]
   obtain ⟨k,v,b,d,o⟩:=e
   have e1:=hs.doc
   simp only at e1 hk
   rw [e1,hk];rfl
abbrev zeroE:aD_:=aD_.mk 0 0 0 (aa_.mk 0 0 [] [] []) []
def sH_ (s:Bs) (x:aD_ × Bool):Prop:=x=(zeroE,false)∨(x.2=true∧c4_ x.1=true∧cN_ x.1=s)
theorem text_ok {e:aD_} (h:cN_ e≠[]):c4_ e=true:=by
 unfold cN_ at h
 cases ho:c4_ e with
 |true=>rfl
 |false=>rw [ho] at h;exact absurd rfl h
theorem jN_ {s:Bs} (hs:s.length≤4194304):Ans (fun n _=>cQ_ n s) (sH_ s):=by
 refine ci_ ?_
 simp only [cQ_,aW_,jR_]
 refine az_ (lh_ hs) fun e he => ?_
 simp only [bf_ (fG_ he),be_,aS_]
 refine ⟨fun _=>.inl rfl,fun h1=>⟨fun _=>.inl rfl,fun h2=>.inr ⟨rfl,text_ok ?_,by simpa using h2⟩⟩⟩
 exact fun e=>by rw [e] at h1;cases h1
theorem oG_ {e:aD_} (h:c4_ e=true):pS_ e:=by
 rcases jS_ h with ⟨hk,hs⟩|⟨hk,hs⟩
 · refine ⟨dh_ 6 _ (mE_ hs.doc).1,?_⟩
   rw [hs.ops];exact ⟨Nat.zero_le _,fun o h=>(by cases h)⟩
 · refine ⟨?_,by have:=hs.len;omega,fun o ho=>sc_ (hs.ops o ho)⟩
   rw [hs.doc];exact eq_ 6
theorem jM_ {e:aD_} (h:c4_ e=true):Ev (fun n _=>cQ_ n (cN_ e)) (e,true):=by
 have hne:(cN_ e == [])=false:=beq_eq_false_iff_ne.2 (qi_ h)
 refine ao_ ?_
 simp only [cQ_,aW_,jR_,ab_ (lg_ h),ab_ (fG_ (oG_ h)),hne,beq_self_eq_true,Bool.not_true,cond_false,ae_]
end Go.Pi
end
section
namespace Go.Pi
def eW_ (cur:Bs):Bs→List Bs
 |[]=>[]
 |c::l=>if c=10 then cur::eW_ [] l else eW_ (cur++[c]) l
theorem fm_ (cur b:Bs):∀ (a:Bs),(∀ c ∈ a,c≠10)→eW_ cur (a++10::b)=(cur++a)::eW_ [] b:=by
 intro a
 induction a generalizing cur with
 |nil=>intro _;rw [List.nil_append,eW_,if_pos rfl,List.append_nil]
 |cons c a ih=>
  intro h
  rw [List.cons_append,eW_,if_neg (h c (List.mem_cons_self ..)),ih _ fun x hx=>h x (List.mem_cons_of_mem _ hx)]
  simp
theorem ma_:∀ (s cur:Bs) (B:Nat),cur.length+s.length≤B→(eW_ cur s).length≤s.length∧∀ y ∈ eW_ cur s,y.length≤B
 |[],_,_,_=>⟨Nat.le_refl _,fun y h=>(by cases h)⟩
 |c::l,cur,B,h=>by
  unfold eW_
  simp only [List.length_cons] at h
  split
  · obtain ⟨h1,h2⟩:=ma_ l [] B (by simp;omega)
    refine ⟨by simp;omega,fun y hy => ?_⟩
    rcases List.mem_cons.1 hy with rfl|hy
    · omega
    · exact h2 y hy
  · obtain ⟨h1,h2⟩:=ma_ l (cur++[c]) B (by simp;omega)
    exact ⟨by simp;omega,h2⟩
theorem hC_ {s:Bs} (hs:s.length≤4194304):Ev (fun n _=>bo_ n s) (eW_ [] s):=by
 refine ao_ ?_
 simp only [bo_]
 have key:∀ (m i f:Nat) (out:List Bs),i+m=s.length→f≤i→out.length≤i→Ev (fun n N=>bo_.loop5 n (fun xy1=>(some xy1)) N s (f:Int) (i:Int) out) (out++eW_ ((s.take i).drop f) (s.drop i)):=by
  intro m
  induction m with
  |zero=>
   intro i f out hi _ _
   have:i=s.length:=by omega
   subst this
   refine a9_ ?_
   simp only [bo_.turn5,bo_.step5,cr_,cond_false,List.drop_length,eW_,List.append_nil,ae_]
  |succ m ih=>
   intro i f out hi hf ho
   have hlt:i<s.length:=by omega
   have hW:=W_up hlt (show s.length≤cb_ by simp only [cb_];omega)
   have hd:=dM_ 0 hlt
   refine a9_ ?_
   simp only [bo_.turn5,bo_.step5,cC_ hlt,cond_true,bb_,ch_ hlt,true_and,Int.toNat_natCast,hW,al_,d1_,ba_]
   have e10:((s.getD i 0).toNat:Int)=10↔s.getD i 0=10:=by
    have:=k1_ (s.getD i 0) 10 10 rfl
    constructor
    · intro h;rw [show (((s.getD i 0).toNat:Nat):Int)=((10:Nat):Int) from h] at this;simpa using this
    · intro h;rw [h];rfl
   rw [hd]
   refine ⟨fun h => ?_,fun h => ?_⟩
   · have h:s.getD i 0=10:=e10.1 (by simpa using h)
     have hn:=ih (i+1) (i+1) (out++[(s.take i).drop f]) (by omega) (Nat.le_refl _) (by simp;omega)
     rw [su_ (show (s.take (i+1)).length≤i+1 by simp;omega)] at hn
     rw [eW_,if_pos h]
     rw [List.append_assoc] at hn
     exact ⟨by omega,by simp;omega,hn⟩
   · have h:¬ s.getD i 0=10:=fun e=>by rw [e10.2 e] at h;cases h
     have hn:=ih (i+1) f out (by omega) (by omega) (by omega)
     rw [cE_ 0 hlt,List.drop_append_of_le_length (by simp;omega)] at hn
     rw [eW_,if_neg h]
     exact hn
 have:=key s.length 0 0 [] (by omega) (Nat.le_refl _) (Nat.le_refl _)
 rw [List.nil_append] at this
 exact cZ_ (f:=fun n N=>bo_.loop5 n (fun xy1=>(some xy1)) N s 0 0 []) this
def d3_ (l h:Bs):Bs:=cond (pfx h l) (l.drop h.length) []
theorem g8_ {l h:Bs}:Ev (fun n _=>cK_ n l h) (d3_ l h):=by
 refine ao_ ?_
 simp only [cK_,al_,d1_,ae_,Int.toNat_natCast,List.take_length,d3_,lo_]
 refine ⟨fun hc => ?_,fun hc => ?_⟩
 · have hc:=of_decide_eq_true hc
   cases e:((l.take h.length).drop 0 == h) with
   |false=>rfl
   |true=>rw [←lo_] at e;have:=i3_ e;omega
 · have hc:=of_decide_eq_false hc
   refine ⟨by omega,?_⟩
   cases ((l.take h.length).drop 0 == h) with
   |false=>exact ⟨fun _=>rfl,fun h=>(by cases h)⟩
   |true=>exact ⟨fun h=>(by cases h),fun _=>⟨by omega,rfl⟩⟩
theorem mL_ (l h:Bs):(d3_ l h).length≤l.length:=by
 unfold d3_;cases pfx h l<;>simp
theorem iE_ (h l:Bs):d3_ (h++l) h=l:=by unfold d3_;rw [i4_,List.drop_left];rfl
theorem nH_ {s:Bs} (hs:s.length≤4194304):Ans (fun n _=>dG_ n s) fun _=>True:=by
 refine ci_ ?_
 simp only [dG_]
 refine az_ (kU_ (s:=s) (p:=0) (ok:=true) (left:=0) hs (Nat.zero_le _)) fun v hv => ?_
 obtain ⟨p',ok',e1,e2,e3,e4,e5⟩:=hv
 simp only [be_,aS_,bf_ (c0_ (x:=v.1) e4 e5),implies_true,and_self]
theorem nG_ {n:Int} (h0:0≤n) (h1:n≤100000):Ev (fun m _=>dG_ m (Lib.itoa n)) (n,true):=by
 have hl:=Lib.itoa_length_le n (by omega) (by omega)
 have hN:=kT_ (s:=Lib.itoa n) (p:=0) (left:=0) (r:=[]) (n:=n) (by simp only [jV_];omega) (by omega) (by omega) od_ ⟨Nat.zero_le _,by simp⟩
 have hN:Ev (fun m _=>aE_ m ⟨Lib.itoa n,0,true,0⟩) (n,⟨Lib.itoa n,((0+(Lib.itoa n).length:Nat):Int),true,0⟩):=hN
 refine ao_ ?_
 simp only [dG_,ab_ hN,cond_true,ab_ (c0_ (x:=n) (by omega) (by omega)),beq_self_eq_true,ae_]
end Go.Pi
end
section
namespace Go.Pi
section
variable {n6:Int}
theorem s4_ {j:aa_} (h:bG_ 6 j≤400) {i:Nat} (hi:i<j.list.length):bG_ 6 (j.list.getD i aa_.dflt)≤400:=by
 have:=it_ h (bY_ aa_.dflt hi)
 rw [lv_ 5 _ this];exact this
theorem ops_uni {s:Bs} {t6 a b c d e:Int} {f:Bs} {t40 t41 t42 t43 t44:Int} {t45:Bs} {t5:List Bs} {t46:List aa_} {t47:List Bs} {j:aa_} (hj:bG_ 6 j≤400) :
  ∀ (m i:Nat) (o:List TOp),i+m=j.list.length→(∀ x ∈ o,fS_ x)→o.length≤4000+i→∃ M,
    (∀ n R,M≤n→M≤R→∀ k,ad_.loop20 n k R s t6 (i:Int) a b c d e f t40 t41 t42 t43 t44 t45 t5 j.kind j.n_ j.s t46 t47 o j.list j.names=some (zeroE,false)) ∨
    ∃ o',o'.length≤o.length+m∧(∀ x ∈ o',fS_ x)∧∀ n R,M≤n→M≤R→∀ k,ad_.loop20 n k R s t6 (i:Int) a b c d e f t40 t41 t42 t43 t44 t45 t5 j.kind j.n_ j.s t46 t47 o j.list j.names=k s t6 a b c d e f t40 t41 t42 t43 t44 t45 t5 t46 t47 o':=by
 have hll:=eT_ hj
 intro m
 induction m with
 |zero=>
  intro i o hi ho _
  have e:i=j.list.length:=by omega
  subst e
  refine ⟨1,.inr ⟨o,Nat.le_refl _,ho,fun n R _ hR k => ?_⟩⟩
  obtain ⟨R,rfl⟩:∃ m,R=m+1:=⟨R - 1,by omega⟩
  simp only [ad_.turn20,ad_.step20,cr_,cond_false]
 |succ m ih=>
  intro i o hi ho hol
  have hlt:i<j.list.length:=by omega
  obtain ⟨v,⟨M1,hM1⟩,hv⟩:=lQ_ (s4_ hj hlt)
  have hW:=W_up hlt (show j.list.length≤cb_ by simp only [cb_];omega)
  have hr:(o.length+1)*112≤140737488355328:=by omega
  cases hq:v.2 with
  |false=>
   refine ⟨max M1 1,.inl fun n R hn hR k => ?_⟩
   obtain ⟨R,rfl⟩:∃ m,R=m+1:=⟨R - 1,by omega⟩
   simp only [ad_.turn20,ad_.step20,aW_,Int.toNat_natCast,cC_ hlt,cond_true,jJ_ hlt,hM1 n n (by omega) (by omega),Option.bind_some,hq,Bool.not_false]
  |true=>
   obtain ⟨M2,h2⟩:=ih (i+1) (o++[v.1]) (by omega) (r0_ ho hv) (by simp;omega)
   refine ⟨max M1 (M2+1),?_⟩
   have step:∀ n R,max M1 (M2+1)≤n→max M1 (M2+1)≤R→∀ k,∃ R',M2≤R'∧ad_.loop20 n k R s t6 (i:Int) a b c d e f t40 t41 t42 t43 t44 t45 t5 j.kind j.n_ j.s t46 t47 o j.list j.names=ad_.loop20 n k R' s t6 ((i+1:Nat):Int) a b c d e f t40 t41 t42 t43 t44 t45 t5 j.kind j.n_ j.s t46 t47 (o++[v.1]) j.list j.names:=by
    intro n R hn hR k
    obtain ⟨R,rfl⟩:∃ m,R=m+1:=⟨R - 1,by omega⟩
    refine ⟨R,by omega,?_⟩
    have hr2:(o.length+[v.1].length)*112≤140737488355328:=hr
    simp only [ad_.turn20,ad_.step20,aW_,hE_,Int.toNat_natCast,cC_ hlt,cond_true,jJ_ hlt,hM1 n n (by omega) (by omega),Option.bind_some,hq,Bool.not_true,cond_false,jz_ hr2,hW]
   rcases h2 with h2|⟨o',g1,g2,g3⟩
   · refine .inl fun n R hn hR k => ?_
     obtain ⟨R',h1,e⟩:=step n R hn hR k
     rw [e];exact h2 n R' (by omega) h1 k
   · refine .inr ⟨o',by simp at g1;omega,g2,fun n R hn hR k => ?_⟩
     obtain ⟨R',h1,e⟩:=step n R hn hR k
     rw [e];exact g3 n R' (by omega) h1 k
theorem ops_any {K:Nat→Nat→ad_.K20} {Q:aD_ × Bool→Prop} {s:Bs} {t6 a b c d e:Int} {f:Bs} {t40 t41 t42 t43 t44:Int} {t45:Bs} {t5:List Bs} {t46:List aa_} {t47:List Bs} {j:aa_} (hj:bG_ 6 j≤400) {o:List TOp} (ho:∀ x ∈ o,fS_ x) (hol:o.length≤4000)
  (hz:Q (zeroE,false)) (hK:∀ o',o'.length≤o.length+400→(∀ x ∈ o',fS_ x)→Ans (fun n N=>K n N s t6 a b c d e f t40 t41 t42 t43 t44 t45 t5 t46 t47 o') Q) :
  Ans (fun n N=>ad_.loop20 n (K n N) n s t6 0 a b c d e f t40 t41 t42 t43 t44 t45 t5 j.kind j.n_ j.s t46 t47 o j.list j.names) Q:=by
 have hll:=eT_ hj
 obtain ⟨M,h|⟨o',g1,g2,g3⟩⟩:=ops_uni (s:=s) (t6:=t6) (a:=a) (b:=b) (c:=c) (d:=d) (e:=e) (f:=f) (t40:=t40) (t41:=t41) (t42:=t42) (t43:=t43) (t44:=t44) (t45:=t45) (t5:=t5) (t46:=t46) (t47:=t47) hj j.list.length 0 o (by omega) ho (by omega)
 · exact ⟨_,⟨M,fun n N hn _=>h n n hn hn _⟩,hz⟩
 · obtain ⟨v,hv,hq⟩:=hK o' (by omega) g2
   exact ⟨v,oX_ M (fun n N hn=>g3 n n hn hn _) hv,hq⟩
theorem ops_exact {s:Bs} {t6 a b c d e:Int} {f:Bs} {t40 t41 t42 t43 t44:Int} {t45:Bs} {t5:List Bs} {t46:List aa_} {t47:List Bs} {l:List TOp} (hl:l.length≤400) (h:∀ o ∈ l,OpIn o) :
  ∀ (m i:Nat),i+m=l.length→∃ M,∀ n R,M≤n→M≤R→∀ k,ad_.loop20 n k R s t6 (i:Int) a b c d e f t40 t41 t42 t43 t44 t45 t5 4 0 [] t46 t47 (l.take i) (l.map cH_) []=k s t6 a b c d e f t40 t41 t42 t43 t44 t45 t5 t46 t47 l:=by
 intro m
 induction m with
 |zero=>
  intro i hi
  have e:i=l.length:=by omega
  subst e
  have e:decide ((l.length:Int)<((l.map cH_).length:Int))=false:=by simp
  refine ⟨1,fun n R _ hR k => ?_⟩
  obtain ⟨R,rfl⟩:∃ m,R=m+1:=⟨R - 1,by omega⟩
  simp only [List.take_length,ad_.turn20,ad_.step20,e,cond_false]
 |succ m ih=>
  intro i hi
  have hlt:i<l.length:=by omega
  have ho:=h _ (bY_ TOp.dflt hlt)
  have hi2:i<(l.map cH_).length:=by simpa using hlt
  have e:(l.map cH_).getD i aa_.dflt=ey_ (l.getD i TOp.dflt):=by
   rw [←ho.val,List.getD_eq_getElem?_getD,List.getElem?_map,List.getD_eq_getElem?_getD,List.getElem?_eq_getElem hlt];rfl
  obtain ⟨M1,hM1⟩:=lP_ ho
  obtain ⟨M2,h2⟩:=ih (i+1) (by omega)
  have hW:=W_up hlt (show l.length≤cb_ by simp only [cb_];omega)
  refine ⟨max M1 (M2+1),fun n R hn hR k => ?_⟩
  obtain ⟨R,rfl⟩:∃ m,R=m+1:=⟨R - 1,by omega⟩
  have hr2:((l.take i).length+[l.getD i TOp.dflt].length)*112≤140737488355328:=by simp;omega
  rw [cE_ TOp.dflt hlt] at h2
  simp only [ad_.turn20,ad_.step20,aW_,hE_,Int.toNat_natCast,cC_ hi2,cond_true,jJ_ hi2,e,hM1 n n (by omega) (by omega),Option.bind_some,Bool.not_true,cond_false,jz_ hr2,hW]
  exact h2 n R (by omega) (by omega) k
theorem ops_enc {K:Nat→Nat→ad_.K20} {F:aD_ × Bool} {s:Bs} {t6 a b c d e:Int} {f:Bs} {t40 t41 t42 t43 t44:Int} {t45:Bs} {t5:List Bs} {t46:List aa_} {t47:List Bs} {l:List TOp} (hl:l.length≤400) (h:∀ o ∈ l,OpIn o)
  (hK:Ev (fun n N=>K n N s t6 a b c d e f t40 t41 t42 t43 t44 t45 t5 t46 t47 l) F) :
  Ev (fun n N=>ad_.loop20 n (K n N) n s t6 0 a b c d e f t40 t41 t42 t43 t44 t45 t5 4 0 [] t46 t47 [] (l.map cH_) []) F:=by
 obtain ⟨M,hM⟩:=ops_exact (s:=s) (t6:=t6) (a:=a) (b:=b) (c:=c) (d:=d) (e:=e) (f:=f) (t40:=t40) (t41:=t41) (t42:=t42) (t43:=t43) (t44:=t44) (t45:=t45) (t5:=t5) (t46:=t46) (t47:=t47) hl h l.length 0 (by omega)
 exact oX_ M (fun n N hn=>hM n n hn hn _) hK
end
section
variable {K:Nat→ad_.K5} {s:Bs} {a b c d e:Int} {f:Bs}
theorem lines_any {Q:aD_ × Bool→Prop} {L:List Bs} (hL:L.length≤4194304) (hLl:∀ y ∈ L,y.length≤4194304) (hz:Q (zeroE,false))
  (hK:∀ t40 t41 t42 (j:aa_) o,ft_ 6 j→o.length≤4000→(∀ x ∈ o,fS_ x)→Ans (fun n _=>K n s a b c d e f t40 t41 t42 j.kind j.n_ j.s j.list j.names o) Q) :
  Ans (fun n _=>ad_.loop5 n (K n) n s 0 a b c d e f 0 0 0 0 0 [] L [] [] []) Q:=by
 refine gg_ (σ:=Nat × Int × Int × Int × aa_ × List TOp) (fun n N st=>ad_.loop5 n (K n) N s (st.1:Int) a b c d e f st.2.1 st.2.2.1 st.2.2.2.1 st.2.2.2.2.1.kind st.2.2.2.2.1.n_ st.2.2.2.2.1.s L st.2.2.2.2.1.list st.2.2.2.2.1.names st.2.2.2.2.2) (fun st=>6 - st.1)
  (fun st=>st.1≤6∧ft_ 6 st.2.2.2.2.1∧st.2.2.2.2.2.length≤400*st.1∧∀ x ∈ st.2.2.2.2.2,fS_ x) _ (fun st hI ih => ?_) (0,0,0,0,g5_,[]) ⟨Nat.zero_le _,eq_ 6,Nat.zero_le _,fun y h=>(by cases h)⟩
 obtain ⟨i,t40,t41,t42,j,o⟩:=st
 simp only at hI ih ⊢
 obtain ⟨h1,h2,h3,h4⟩:=hI
 have hend:=hK t40 t41 t42 j o h2 (by omega) h4
 simp only [ad_.turn5,ad_.step5,aW_,Int.toNat_natCast,be_]
 refine ⟨fun hlt=>⟨fun h6 => ?_,fun _=>hend⟩,fun _=>hend⟩
 have hlt:=of_decide_eq_true hlt
 have h6:=of_decide_eq_true h6
 have hi:i<L.length:=by omega
 have hW:W ((i:Int)+1)=((i+1:Nat):Int):=by rw [W_id (by omega) (by omega)];omega
 have hy:=hLl _ (bY_ [] hi)
 have b1:=mL_ (L.getD i []) [105,100,58,32]
 have b2:=mL_ (L.getD i []) [98,97,115,101,58,32]
 have b3:=mL_ (L.getD i []) [100,97,116,97,58,32]
 simp only [eX_,ch_ hi,true_and,hW,be_,bf_ g8_]
 have next:∀ t40 t41 t42 j o',ft_ 6 j→o'.length≤o.length+400→(∀ x ∈ o',fS_ x)→Ans (fun n N=>ad_.loop5 n (K n) N s ((i+1:Nat):Int) a b c d e f t40 t41 t42 j.kind j.n_ j.s L j.list j.names o') Q :=
  fun t40 t41 t42 j o' g1 g2 g3=>ih (i+1,t40,t41,t42,j,o') ⟨by simp only;omega,g1,by simp only;omega,g3⟩ (by simp only;omega)
 refine ⟨fun _=>next _ _ _ j o h2 (by omega) h4,fun _=>⟨fun _=>next _ _ _ j o h2 (by omega) h4,fun _=>⟨fun _ => ?_,fun _=>⟨fun _ => ?_,fun _=>⟨fun _ => ?_,fun _=>next _ _ _ j o h2 (by omega) h4⟩⟩⟩⟩⟩
 · exact az_ (nH_ (by omega)) fun v _=>next _ _ _ j o h2 (by omega) h4
 · exact az_ (nH_ (by omega)) fun v _=>next _ _ _ j o h2 (by omega) h4
 · refine az_ (lS_ (by omega)) fun v hv => ?_
   simp only [be_]
   refine ⟨fun _=>next _ _ _ v.1 o (dh_ 6 _ hv) (by omega) h4,fun _ => ?_⟩
   exact ops_any hv h4 (by omega) hz fun o' g1 g2=>by simp only [hW];exact next _ _ _ j o' h2 g1 g2
end
theorem jw_ {s:Bs} (hs:s.length≤4194304):Ans (fun n _=>ad_ n s) (sH_ s):=by
 obtain ⟨l1,l2⟩:=ma_ s [] 4194304 (by simpa using hs)
 refine ci_ ?_
 simp only [ad_,bf_ (hC_ hs)]
 refine lines_any (by omega) l2 (.inl rfl) fun t40 t41 t42 j o g1 g2 g3 => ?_
 have he:pS_ (aD_.mk t40 t41 t42 j o):=⟨g1,by show o.length≤4000000;omega,g3⟩
 simp only [ec_,be_,aS_,bf_ (fz_ he)]
 refine ⟨fun _=>.inl rfl,fun h1=>⟨fun _=>.inl rfl,fun h2=>.inr ⟨rfl,text_ok ?_,by simpa using h2⟩⟩⟩
 have h2:cN_ (aD_.mk t40 t41 t42 j o)=s:=by simpa using h2
 rw [h2]
 exact fun e=>by rw [e] at h1;cases h1
section
variable {K:Nat→ad_.K5} {s:Bs} {a b c d e:Int} {f:Bs} {F:aD_ × Bool} {t40 t41 t42 t43 t44:Int} {t45:Bs} {L:List Bs} {t46:List aa_} {t47:List Bs} {t48:List TOp} {i:Nat}
theorem jD_ {a c:UInt8} (h:c≠a) (p t:Bs):d3_ (c::t) (a::p)=[]:=by unfold d3_;rw [pG_ h];rfl
theorem line_snap (hi:i<L.length) (h6:i<6) (hl:L.getD i []=[101,118,101,110,116,58,32,115,110,97,112])
  (h:Ev (fun n N=>ad_.loop5 n (K n) N s ((i+1:Nat):Int) a b c d e f 1 t41 t42 t43 t44 t45 L t46 t47 t48) F) :
  Ev (fun n N=>ad_.loop5 n (K n) N s (i:Int) a b c d e f t40 t41 t42 t43 t44 t45 L t46 t47 t48) F:=by
 have hW:W ((i:Int)+1)=((i+1:Nat):Int):=by rw [W_id (by omega) (by omega)];omega
 have h6':decide ((i:Int)<6)=true:=decide_eq_true (by omega)
 refine a9_ ?_
 simp only [ad_.turn5,ad_.step5,Int.toNat_natCast,cC_ hi,h6',cond_true,bb_,ch_ hi,true_and,hW,hl,beq_self_eq_true]
 exact h
theorem s6_ (hi:i<L.length) (h6:i<6) (hl:L.getD i []=[101,118,101,110,116,58,32,112,97,116,99,104])
  (h:Ev (fun n N=>ad_.loop5 n (K n) N s ((i+1:Nat):Int) a b c d e f 2 t41 t42 t43 t44 t45 L t46 t47 t48) F) :
  Ev (fun n N=>ad_.loop5 n (K n) N s (i:Int) a b c d e f t40 t41 t42 t43 t44 t45 L t46 t47 t48) F:=by
 have hW:W ((i:Int)+1)=((i+1:Nat):Int):=by rw [W_id (by omega) (by omega)];omega
 have h6':decide ((i:Int)<6)=true:=decide_eq_true (by omega)
 have c1:(([101,118,101,110,116,58,32,112,97,116,99,104]:Bs) == [101,118,101,110,116,58,32,115,110,97,112])=false:=rfl
 refine a9_ ?_
 simp only [ad_.turn5,ad_.step5,Int.toNat_natCast,cC_ hi,h6',cond_true,cond_false,bb_,ch_ hi,true_and,hW,hl,c1,beq_self_eq_true]
 exact h
theorem ow_ {c a:UInt8} (h:c≠a) (p t:Bs):((c::t:Bs) == (a::p))=false:=beq_eq_false_iff_ne.2 fun e=>h (List.cons.inj e).1
theorem itoa_ne (n:Int):(Lib.itoa n == [])=false:=by
 obtain ⟨c,t,e,_⟩:=h2_ n
 rw [e];rfl
theorem line_id {v:Int} (hv0:0≤v) (hv1:v≤100000) (hi:i<L.length) (h6:i<6) (hl:L.getD i []=tId++Lib.itoa v)
  (h:Ev (fun n N=>ad_.loop5 n (K n) N s ((i+1:Nat):Int) a b c d e f t40 v t42 t43 t44 t45 L t46 t47 t48) F) :
  Ev (fun n N=>ad_.loop5 n (K n) N s (i:Int) a b c d e f t40 t41 t42 t43 t44 t45 L t46 t47 t48) F:=by
 have hW:W ((i:Int)+1)=((i+1:Nat):Int):=by rw [W_id (by omega) (by omega)];omega
 have h6':decide ((i:Int)<6)=true:=decide_eq_true (by omega)
 have c1:∀ p,(tId++Lib.itoa v == (101::p))=false:=fun p=>ow_ (by decide) p _
 have c3:d3_ (tId++Lib.itoa v) [105,100,58,32]=Lib.itoa v:=iE_ tId _
 have c4:=itoa_ne v
 refine a9_ ?_
 simp only [ad_.turn5,ad_.step5,Int.toNat_natCast,cC_ hi,h6',cond_true,cond_false,bb_,ch_ hi,true_and,hW,hl,c1,ab_ g8_,c3,c4,Bool.not_false,ab_ (nG_ hv0 hv1)]
 exact h
theorem line_base {v:Int} (hv0:0≤v) (hv1:v≤100000) (hi:i<L.length) (h6:i<6) (hl:L.getD i []=k7_++Lib.itoa v)
  (h:Ev (fun n N=>ad_.loop5 n (K n) N s ((i+1:Nat):Int) a b c d e f t40 t41 v t43 t44 t45 L t46 t47 t48) F) :
  Ev (fun n N=>ad_.loop5 n (K n) N s (i:Int) a b c d e f t40 t41 t42 t43 t44 t45 L t46 t47 t48) F:=by
 have hW:W ((i:Int)+1)=((i+1:Nat):Int):=by rw [W_id (by omega) (by omega)];omega
 have h6':decide ((i:Int)<6)=true:=decide_eq_true (by omega)
 have c1:∀ p,(k7_++Lib.itoa v == (101::p))=false:=fun p=>ow_ (by decide) p _
 have c2:d3_ (k7_++Lib.itoa v) [105,100,58,32]=[]:=jD_ (by decide) _ _
 have c3:d3_ (k7_++Lib.itoa v) [98,97,115,101,58,32]=Lib.itoa v:=iE_ k7_ _
 have c4:=itoa_ne v
 have c5:(!(([]:Bs) == []))=false:=rfl
 refine a9_ ?_
 simp only [ad_.turn5,ad_.step5,Int.toNat_natCast,cC_ hi,h6',cond_true,cond_false,bb_,ch_ hi,true_and,hW,hl,c1,ab_ g8_,c2,c3,c4,c5,Bool.not_false,ab_ (nG_ hv0 hv1)]
 exact h
theorem line_data {j:aa_} (hj:bB_ j≠[]) (hi:i<L.length) (h6:i<6) (hl:L.getD i []=fx_++bB_ j)
  (h:Ev (fun n N=>ad_.loop5 n (K n) N s ((i+1:Nat):Int) a b c d e f 1 t41 t42 j.kind j.n_ j.s L j.list j.names t48) F) :
  Ev (fun n N=>ad_.loop5 n (K n) N s (i:Int) a b c d e f 1 t41 t42 t43 t44 t45 L t46 t47 t48) F:=by
 have hW:W ((i:Int)+1)=((i+1:Nat):Int):=by rw [W_id (by omega) (by omega)];omega
 have h6':decide ((i:Int)<6)=true:=decide_eq_true (by omega)
 have c1:∀ p,(fx_++bB_ j == (101::p))=false:=fun p=>ow_ (by decide) p _
 have c2:d3_ (fx_++bB_ j) [105,100,58,32]=[]:=jD_ (by decide) _ _
 have c6:d3_ (fx_++bB_ j) [98,97,115,101,58,32]=[]:=jD_ (by decide) _ _
 have c3:d3_ (fx_++bB_ j) [100,97,116,97,58,32]=bB_ j:=iE_ fx_ _
 have c4:(bB_ j == [])=false:=beq_eq_false_iff_ne.2 hj
 have c5:(!(([]:Bs) == []))=false:=rfl
 have c7:((1:Int) == 1)=true:=rfl
 refine a9_ ?_
 simp only [ad_.turn5,ad_.step5,Int.toNat_natCast,cC_ hi,h6',cond_true,cond_false,bb_,ch_ hi,true_and,hW,hl,c1,ab_ g8_,c2,c3,c4,c5,c6,c7,Bool.not_false,ab_ (hV_ hj)]
 exact h
theorem line_ops {l:List TOp} (hj:bB_ (em_ l)≠[]) (hn:l.length≤400) (ho:∀ o ∈ l,OpIn o) (hi:i<L.length) (h6:i<6) (hl:L.getD i []=fx_++bB_ (em_ l))
  (h:Ev (fun n N=>ad_.loop5 n (K n) N s ((i+1:Nat):Int) a b c d e f 2 t41 t42 t43 t44 t45 L t46 t47 l) F) :
  Ev (fun n N=>ad_.loop5 n (K n) N s (i:Int) a b c d e f 2 t41 t42 t43 t44 t45 L t46 t47 []) F:=by
 have hW:W ((i:Int)+1)=((i+1:Nat):Int):=by rw [W_id (by omega) (by omega)];omega
 have h6':decide ((i:Int)<6)=true:=decide_eq_true (by omega)
 have c1:∀ p,(fx_++bB_ (em_ l) == (101::p))=false:=fun p=>ow_ (by decide) p _
 have c2:d3_ (fx_++bB_ (em_ l)) [105,100,58,32]=[]:=jD_ (by decide) _ _
 have c6:d3_ (fx_++bB_ (em_ l)) [98,97,115,101,58,32]=[]:=jD_ (by decide) _ _
 have c3:d3_ (fx_++bB_ (em_ l)) [100,97,116,97,58,32]=bB_ (em_ l):=iE_ fx_ _
 have c4:(bB_ (em_ l) == [])=false:=beq_eq_false_iff_ne.2 hj
 have c5:(!(([]:Bs) == []))=false:=rfl
 have c7:((2:Int) == 1)=false:=rfl
 refine a9_ ?_
 simp only [ad_.turn5,ad_.step5,Int.toNat_natCast,cC_ hi,h6',cond_true,cond_false,bb_,ch_ hi,true_and,hW,hl,c1,ab_ g8_,c2,c3,c4,c5,c6,c7,Bool.not_false,ab_ (hV_ hj)]
 exact ops_enc hn ho (by simp only [hW];exact h)
theorem r8_ (hi:i<L.length) (h6:i<6) (hl:L.getD i []=[])
  (h:Ev (fun n N=>ad_.loop5 n (K n) N s ((i+1:Nat):Int) a b c d e f t40 t41 t42 t43 t44 t45 L t46 t47 t48) F) :
  Ev (fun n N=>ad_.loop5 n (K n) N s (i:Int) a b c d e f t40 t41 t42 t43 t44 t45 L t46 t47 t48) F:=by
 have hW:W ((i:Int)+1)=((i+1:Nat):Int):=by rw [W_id (by omega) (by omega)];omega
 have h6':decide ((i:Int)<6)=true:=decide_eq_true (by omega)
 have c1:∀ (a:UInt8) p,(([]:Bs) == (a::p))=false:=fun a p=>rfl
 have c2:∀ (a:UInt8) p,d3_ [] (a::p)=[]:=fun a p=>rfl
 have c5:(!(([]:Bs) == []))=false:=rfl
 refine a9_ ?_
 simp only [ad_.turn5,ad_.step5,Int.toNat_natCast,cC_ hi,h6',cond_true,cond_false,bb_,ch_ hi,true_and,hW,hl,c1,ab_ g8_,c2,c5]
 exact h
theorem r9_ (hi:i=L.length) (h:Ev (fun n _=>K n s a b c d e f t40 t41 t42 t43 t44 t45 t46 t47 t48) F) :
  Ev (fun n N=>ad_.loop5 n (K n) N s (i:Int) a b c d e f t40 t41 t42 t43 t44 t45 L t46 t47 t48) F:=by
 subst hi
 refine a9_ ?_
 simp only [ad_.turn5,ad_.step5,cr_,cond_false]
 exact h
end
theorem s5_ (v:Int) {d:Bs} (hd:∀ c ∈ d,c≠10):eW_ [] (fo_ v d)=[[101,118,101,110,116,58,32,115,110,97,112],tId++Lib.itoa v,fx_++d,[]]:=by
 have e:fo_ v d=[101,118,101,110,116,58,32,115,110,97,112]++10::((tId++Lib.itoa v)++10::((fx_++d)++10::([]++10::[]))):=by simp [fo_,nl_]
 have h1:∀ c ∈ tId++Lib.itoa v,c≠10:=fun c hc=>by rcases List.mem_append.1 hc with h|h;exact (show ∀ c ∈ tId,c≠10 by decide) c h;exact i7_ v c h
 have h2:∀ c ∈ fx_++d,c≠10:=fun c hc=>by rcases List.mem_append.1 hc with h|h;exact (show ∀ c ∈ fx_,c≠10 by decide) c h;exact hd c h
 rw [e,fm_ [] _ _ (by decide),fm_ [] _ _ h1,fm_ [] _ _ h2,fm_ [] _ _ (by decide)];rfl
theorem q0_ (v b:Int) {d:Bs} (hd:∀ c ∈ d,c≠10):eW_ [] (eV_ v b d)=[[101,118,101,110,116,58,32,112,97,116,99,104],tId++Lib.itoa v,k7_++Lib.itoa b,fx_++d,[]]:=by
 have e:eV_ v b d=[101,118,101,110,116,58,32,112,97,116,99,104]++10::((tId++Lib.itoa v)++10::((k7_++Lib.itoa b)++10::((fx_++d)++10::([]++10::[])))):=by simp [eV_,nl_]
 have h1:∀ c ∈ tId++Lib.itoa v,c≠10:=fun c hc=>by rcases List.mem_append.1 hc with h|h;exact (show ∀ c ∈ tId,c≠10 by decide) c h;exact i7_ v c h
 have h3:∀ c ∈ k7_++Lib.itoa b,c≠10:=fun c hc=>by rcases List.mem_append.1 hc with h|h;exact (show ∀ c ∈ k7_,c≠10 by decide) c h;exact i7_ b c h
 have h2:∀ c ∈ fx_++d,c≠10:=fun c hc=>by rcases List.mem_append.1 hc with h|h;exact (show ∀ c ∈ fx_,c≠10 by decide) c h;exact hd c h
 rw [e,fm_ [] _ _ (by decide),fm_ [] _ _ h1,fm_ [] _ _ h3,fm_ [] _ _ h2,fm_ [] _ _ (by decide)];rfl
theorem jv_ {e:aD_} (h:c4_ e=true):Ev (fun n _=>ad_ n (cN_ e)) (e,true):=by
 have hlen:=kA_ h
 have hne:(cN_ e == [])=false:=beq_eq_false_iff_ne.2 (qi_ h)
 have hT:=fz_ (oG_ h)
 refine ao_ ?_
 simp only [ad_,ab_ (hC_ (s:=cN_ e) (by omega))]
 rcases jS_ h with ⟨hk,hs⟩|⟨hk,hs⟩
 · have hl:=s5_ e.version (oZ_ hs.doc)
   rw [←hq_ h hk] at hl
   rw [hl]
   refine cZ_ (line_snap (i:=0) (by simp only [List.length_cons,List.length_nil];omega) (by decide) rfl (line_id hs.ver.1 hs.ver.2 (by simp only [List.length_cons,List.length_nil];omega) (by decide) rfl (line_data hs.doc (by simp only [List.length_cons,List.length_nil];omega) (by decide) rfl (r8_ (by simp only [List.length_cons,List.length_nil];omega) (by decide) rfl (r9_ rfl ?_)))))
   have ee:aD_.mk 1 e.version 0 e.doc []=e:=by
    obtain ⟨k,v,b,d,o⟩:=e
    have e1:=hs.base
    have e2:=hs.ops
    simp only at e1 e2 hk
    rw [e1,e2,hk]
   simp only [ec_,ee,hne,cond_false,ab_ hT,beq_self_eq_true,Bool.not_true,ae_]
 · have hl:=q0_ e.version e.base (oZ_ hs.enc)
   rw [←gP_ h hk] at hl
   rw [hl]
   refine cZ_ (s6_ (i:=0) (by simp only [List.length_cons,List.length_nil];omega) (by decide) rfl (line_id hs.ver.1 hs.ver.2 (by simp only [List.length_cons,List.length_nil];omega) (by decide) rfl (line_base hs.base.1 hs.base.2 (by simp only [List.length_cons,List.length_nil];omega) (by decide) rfl (line_ops hs.enc hs.len hs.ops (by simp only [List.length_cons,List.length_nil];omega) (by decide) rfl (r8_ (by simp only [List.length_cons,List.length_nil];omega) (by decide) rfl (r9_ rfl ?_))))))
   have ee:aD_.mk 2 e.version e.base (aa_.mk 0 0 [] [] []) e.ops=e:=by
    obtain ⟨k,v,b,d,o⟩:=e
    have e1:=hs.doc
    simp only at e1 hk
    rw [e1,hk];rfl
   simp only [ee,hne,cond_false,ab_ hT,beq_self_eq_true,Bool.not_true,ae_]
theorem iV_ {s:Bs} (hs:s.length≤4194304):∃ x,sH_ s x∧Ev (fun n _=>ad_ n s) x∧Ev (fun n _=>cQ_ n s) x:=by
 obtain ⟨x,h1,h2⟩:=jN_ hs
 obtain ⟨y,g1,g2⟩:=jw_ hs
 rcases h2 with rfl|⟨a1,a2,a3⟩
 · rcases g2 with rfl|⟨b1,b2,b3⟩
   · exact ⟨_,.inl rfl,g1,h1⟩
   · have:=jM_ b2
     rw [b3] at this
     have e:=congrArg Prod.snd ((dE_ h1).1 this)
     cases e
 · have:=jv_ a2
   rw [a3] at this
   refine ⟨x,.inr ⟨a1,a2,a3⟩,?_,h1⟩
   rw [←a1] at this
   exact this
end Go.Pi
end
section
namespace Go.Pi
theorem po_:∀ {l:List Bs} {c:Nat},(∀ x ∈ l,x.length≤c)→eo_ szB l≤l.length*c
 |[],_,_=>Nat.zero_le _
 |x::l,c,h=>by
  have:=po_ (l:=l) fun y hy=>h y (List.mem_cons_of_mem _ hy)
  have:=h x (List.mem_cons_self ..)
  simp only [eo_,szB,List.length_cons,Nat.add_mul] at *;omega
theorem sg_:∀ (d:Nat) (j:aa_),bG_ d j≤400→aa_.size j≤50000*bG_ d j
 |0,j,h=>by simp only [bG_] at h;omega
 |d+1,j,h=>by
  obtain ⟨ho,hs⟩:=d2_ h
  have hl:=eT_ h
  have hn:=fR_ h
  have hsum:∀ l:List aa_,(∀ x ∈ l,bG_ d x≤400)→eo_ aa_.size l≤50000*eo_ (bG_ d) l:=by
   intro l
   induction l with
   |nil=>intro _;exact Nat.zero_le _
   |cons x l ih=>
    intro hx
    have h1:=sg_ d x (hx x (List.mem_cons_self ..))
    have h2:=ih fun y hy=>hx y (List.mem_cons_of_mem _ hy)
    simp only [eo_];omega
  have h1:=hsum j.list fun x hx=>by have:=iW_ (bG_ d) hx;omega
  have hF:FOwn j=true:=by
   simp only [bG_] at h
   cases hf:FOwn j with
   |true=>rfl
   |false=>rw [hf,cond_false] at h;omega
  have hsl:j.s.length≤60:=by
   unfold FOwn at hF
   simp only [Bool.and_eq_true,Bool.or_eq_true] at hF
   rcases hF.2.2.2.1 with e|e
   · have:j.s=[]:=by simpa using e
     rw [this];exact Nat.zero_le _
   · exact ho.text (by simpa using e)
  have hnt:eo_ szB j.names≤j.names.length*60:=po_ fun x hx=>by
   by_cases hk:j.kind=5
   · obtain ⟨i,hi,e⟩:=List.mem_iff_getElem.1 hx
     have:=iF_ (ho.obj hk).2 hi
     rw [List.getD_eq_getElem?_getD,List.getElem?_eq_getElem hi,Option.getD_some,e] at this
     exact this
   · have:j.names.length=0:=by
      unfold FOwn at hF
      simp only [Bool.and_eq_true,Bool.or_eq_true] at hF
      rcases hF.2.1 with e|e
      · exact of_decide_eq_true e
      · exact absurd (by simpa using e) hk
     rw [List.eq_nil_of_length_eq_zero this] at hx;cases hx
  have e:=aa_.size_eq j
  unfold i0_ at e
  rw [hs]
  omega
end Go.Pi
end
section
namespace Go.Pi
end Go.Pi
end
section
namespace Go.Pi
abbrev hc_ (s:Bs):Int:=Lib.index s [10,10]
def FEnd (s:Bs):Int:=if hc_ s = -1 then -1 else hc_ s+2
theorem idx2_nil:hc_ [] = -1:=rfl
theorem oP_ (x:UInt8):hc_ [x] = -1:=by
 unfold hc_
 rw [kV_,if_neg (by simp)];rfl
theorem jO_ (x y:UInt8) (l:Bs):hc_ (x::y::l)=if x=10∧y=10 then 0 else if hc_ (y::l) = -1 then -1 else hc_ (y::l)+1:=by
 unfold hc_
 rw [kV_]
 by_cases h:x=10∧y=10
 · rw [if_pos h,if_pos (by simpa using h)]
 · rw [if_neg h,if_neg (by simpa using h)]
theorem mw_ (s:Bs) : -1≤hc_ s:=Lib.index_ge s [10,10]
theorem idx2_lt:∀ (s:Bs),hc_ s = -1∨hc_ s+2≤(s.length:Int)
 |[]=>.inl rfl
 |[x]=>.inl (oP_ x)
 |x::y::l=>by
  rw [jO_]
  by_cases h:x=10∧y=10
  · rw [if_pos h];right;simp only [List.length_cons];omega
  · rw [if_neg h]
    rcases idx2_lt (y::l) with e|e
    · rw [if_pos e];exact .inl rfl
    · have:=mw_ (y::l)
      by_cases e2:hc_ (y::l) = -1
      · rw [if_pos e2];exact .inl rfl
      · rw [if_neg e2];right;simp only [List.length_cons] at e ⊢;omega
theorem oY_ {s:Bs} (h:¬ FEnd s<0):2≤FEnd s∧FEnd s≤(s.length:Int):=by
 unfold FEnd at h ⊢
 have:=mw_ s
 by_cases e:hc_ s = -1
 · rw [if_pos e] at h;exact absurd (by decide) h
 · rw [if_neg e]
   rcases idx2_lt s with g|g
   · exact absurd g e
   · omega
theorem m3_ {s:Bs} (hs:s.length≤1000000000):Ev (fun n _=>b3_ n s) (FEnd s):=by
 have b10:∀ c:UInt8,((c.toNat:Int) == 10)=decide (c=10):=fun c=>k1_ c 10 10 rfl
 refine ao_ ?_
 simp only [b3_]
 have key:∀ (m i:Nat),i+m=s.length→1≤i→Ev (fun n N=>b3_.loop3 n (some (-1)) N s (i:Int)) (if hc_ (s.drop (i - 1)) = -1 then -1 else hc_ (s.drop (i - 1))+(i:Int)+1):=by
  intro m
  induction m with
  |zero=>
   intro i hi h1
   have e:i=s.length:=by omega
   subst e
   have hd:=dM_ 0 (show s.length - 1<s.length by omega)
   rw [show s.length - 1+1=s.length by omega,List.drop_length] at hd
   refine a9_ ?_
   simp only [b3_.turn3,b3_.step3,cr_,cond_false,ae_]
   rw [hd,oP_,if_pos rfl]
  |succ m ih=>
   intro i hi h1
   have hlt:i<s.length:=by omega
   have hd:=dM_ 0 (show i - 1<s.length by omega)
   have hd2:=dM_ 0 hlt
   rw [show i - 1+1=i by omega,hd2] at hd
   have hn:=ih (i+1) (by omega) (by omega)
   rw [show i+1 - 1=i by omega,hd2] at hn
   have hW:W ((i:Int)+1)=((i+1:Nat):Int):=by rw [W_id (by omega) (by omega)];omega
   have hW2:W ((i:Int) - 1)=((i - 1:Nat):Int):=by rw [W_id (by omega) (by omega)];omega
   refine a9_ ?_
   simp only [b3_.turn3,b3_.step3,cC_ hlt,cond_true,bb_,ch_ hlt,ch_ (show i - 1<s.length by omega),true_and,Int.toNat_natCast,hW,hW2,b10,al_,ae_]
   rw [hd,jO_]
   generalize s.getD i 0=y at hn ⊢
   generalize s.getD (i - 1) 0=x at hn ⊢
   generalize s.drop (i+1)=l at hn ⊢
   have hge:=mw_ (y::l)
   have hrest:¬ (x=10∧y=10)→Ev (fun n N=>b3_.loop3 n (some (-1)) N s ((i+1:Nat):Int)) (if (if x=10∧y=10 then (0:Int) else if hc_ (y::l) = -1 then -1 else hc_ (y::l)+1) = -1 then -1 else (if x=10∧y=10 then (0:Int) else if hc_ (y::l) = -1 then -1 else hc_ (y::l)+1)+(i:Int)+1):=by
    intro hc
    rw [if_neg hc]
    by_cases e:hc_ (y::l) = -1
    · rw [if_pos e] at hn ⊢;rw [if_pos rfl];exact hn
    · rw [if_neg e] at hn ⊢
      rw [if_neg (by omega),show hc_ (y::l)+1+(i:Int)+1=hc_ (y::l)+((i+1:Nat):Int)+1 by omega];exact hn
   refine ⟨fun hy=>⟨fun hx => ?_,fun hx=>hrest fun h => ?_⟩,fun hy=>hrest fun h => ?_⟩
   · have hx:=of_decide_eq_true hx
     have hy:=of_decide_eq_true hy
     rw [if_pos (show x=10∧y=10 from ⟨hx,hy⟩),if_neg (by decide)];omega
   · exact of_decide_eq_false hx h.1
   · exact of_decide_eq_false hy h.2
 cases s with
 |nil=>exact cZ_ (f:=fun n N=>b3_.loop3 n (some (-1)) N [] 1) (a9_ ⟨0,fun _ _ _ _=>rfl⟩)
 |cons c l=>
  have:=key l.length 1 (by simp;omega) (Nat.le_refl _)
  have e:(if hc_ ((c::l).drop (1 - 1)) = -1 then -1 else hc_ ((c::l).drop (1 - 1))+((1:Nat):Int)+1)=FEnd (c::l):=by
   show (if hc_ (c::l) = -1 then -1 else hc_ (c::l)+((1:Nat):Int)+1)=_
   unfold FEnd
   split
   · rfl
   · omega
  rw [e] at this
  exact cZ_ (f:=fun n N=>b3_.loop3 n (some (-1)) N (c::l) ((1:Nat):Int)) this
theorem k8_ {s:Bs} (hs:s.length≤1000000000):Ev (fun n _=>strings_Index n s [10,10]) (hc_ s):=ao_ (by
 simp only [strings_Index,oy_,decide_eq_true (show s.length<4294967281 by omega),cond_true,ae_])
end Go.Pi
end
