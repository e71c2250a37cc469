/- FnClient: of drawn events that follow each other whoever listens has the last one's version, or is bad; once bad always. No condition. Text 7 of 7. -/
import Derived.Test.YtmgcfhlcdhlafaaGreatDoorClF
import Derived.Lib.AtoiAllCases
set_option linter.unusedVariables false
set_option maxRecDepth 100000
set_option linter.unusedSimpArgs false
section
namespace Go.Pi
def i1_ (v:a8_):Nat:=g4_ v.q v.rows.length
def d6_ (v:a8_):List aa_:=i9_ eq_ v.q v.rows (eN_ v) (i1_ v)
def dY_ (v:a8_):List Int:=(List.range (i1_ v)).map fun i=>(v.rows.getD i TRow.dflt).id_
theorem hC_ (v:a8_):i1_ v≤v.rows.length:=lt_
theorem ids_next (v:a8_) (i:Nat):((List.range (i+1)).map fun i=>(v.rows.getD i TRow.dflt).id_)=((List.range i).map fun i=>(v.rows.getD i TRow.dflt).id_)++[(v.rows.getD i TRow.dflt).id_]:=by
 rw [List.range_succ,List.map_append];rfl
theorem pv_ {v:a8_} {i:Nat} (h:i<v.rows.length):(eN_ v).getD i 0=ip_ v.kids (v.rows.getD i TRow.dflt).id_:=kk_ (fun r:TRow=>ip_ v.kids r.id_) TRow.dflt 0 h
section
variable {v:a8_} (h:jj_ cap v) (hs:∀ c ∈ v.q.show_,i64 c)
include h hs
theorem hc_:Ev (fun n _=>bg_ n v) (d6_ v,dY_ v):=by
 refine au_ ?_
 have h1:=h.1.2;have h2:=h.2.1.1;have h3:=h.2.2
 simp only [cap] at h1 h2 h3
 have hm:=hC_ v
 simp only [bg_]
 let S:Nat→List aa_ × List Int:=fun i=>(i9_ eq_ v.q v.rows (eN_ v) i,(List.range i).map fun i=>(v.rows.getD i TRow.dflt).id_)
 have:=eo_ S (i1_ v) (fun n N i (s:List aa_ × List Int)=>bg_.loop5 n (fun xy4 xy5=>(some (xy4,xy5))) N (i:Int) v.q.table v.q.where_ v.q.order v.q.down v.q.first v.q.show_ v.q.kids v.q.kidTable v.q.kidCol v.rows v.kids s.1 s.2) (d6_ v,dY_ v) (fun i hi F hF => ?_) ?_
 · exact this
 · have hir:i<v.rows.length:=by omega
   simp only [S,mx_,ids_next,pv_ hir] at hF ⊢
   have hol:=i8_ (g:=eq_) (q:=v.q) (rows:=v.rows) (kids:=eN_ v) (m:=i)
   have hol2:((List.range i).map fun i=>(v.rows.getD i TRow.dflt).id_).length=i:=by simp
   generalize ((List.range i).map fun i=>(v.rows.getD i TRow.dflt).id_)=s2 at hF hol2 ⊢
   generalize i9_ eq_ v.q v.rows (eN_ v) i=s1 at hF hol ⊢
   have e0:av_.mk v.q.table v.q.where_ v.q.order v.q.down v.q.first v.q.show_ v.q.kids v.q.kidTable v.q.kidCol=v.q:=rfl
   have e1:a8_.mk v.q v.rows v.kids=v:=rfl
   have hK:=h3_ (v:=v) (id:=(v.rows.getD i TRow.dflt).id_) (by simp only [bV_];omega)
   have hrow:=hS_ h.2.1.top i
   have hRd:Ev (fun n _=>d8_ n v.q (v.rows.getD i TRow.dflt) (ip_ v.kids (v.rows.getD i TRow.dflt).id_)) (eq_ (nv_ v.q (v.rows.getD i TRow.dflt) (ip_ v.kids (v.rows.getD i TRow.dflt).id_))) :=
    au_ (by simp only [d8_,aW_,ad_ (h1_ (q:=v.q) (by omega) hs hrow),ad_ (kX_ (m1_ (q:=v.q) (by omega) hs 6)),af_])
   have hlt:decide ((i:Int)<(g4_ v.q v.rows.length:Int))=true:=decide_eq_true (by unfold i1_ at hi;omega)
   simp only [bg_.turn5,bg_.step5,e0,e1,aW_,Int.toNat_natCast,W_up hir (show v.rows.length≤bV_ by simp only [bV_];omega),ad_ eH_,hlt,cf_ hir,cond_true,bB_,ad_ hK,ad_ hRd,bO_]
   exact ⟨trivial,trivial,by simp only [List.length_cons,List.length_nil];omega,trivial,by simp only [List.length_cons,List.length_nil];omega,hF⟩
 · have e0:av_.mk v.q.table v.q.where_ v.q.order v.q.down v.q.first v.q.show_ v.q.kids v.q.kidTable v.q.kidCol=v.q:=rfl
   have hlt:decide ((i1_ v:Int)<(g4_ v.q v.rows.length:Int))=false:=decide_eq_false (by unfold i1_;omega)
   simp only [bg_.turn5,bg_.step5,e0,ad_ eH_,hlt,cond_false,af_]
   rfl
theorem hO_:∀ j ∈ d6_ v,ff_ 6 j:=by
 have h1:=h.1.2
 simp only [cap] at h1
 intro j hj
 obtain ⟨i,_,e⟩:=List.mem_map.1 hj
 rw [←e]
 unfold eq_
 cases bF_ (nv_ v.q (v.rows.getD i TRow.dflt) ((eN_ v).getD i 0)) with
 |true=>exact m1_ (by omega) hs 6
 |false=>exact en_ 6
end
theorem fE_ (v:a8_):(d6_ v).length=i1_ v:=i8_
theorem mu_ (v:a8_):(dY_ v).length=i1_ v:=by unfold dY_;simp
def gS_ (a b:a8_):List TOp:=cond (!decide (a.rows.length=b.rows.length)) [TOp.mk 3 [nmCount] (eq_ (o8_ b.rows.length))] []
def dF_ (a b:a8_):List TOp:=cond (jC_ a.q b.q) (gS_ a b++oO_ jN_ (fP_ (d6_ a) (dY_ a) (d6_ b) (dY_ b))) []
theorem mD_ {n:Nat}:Ev (fun m _=>ew_ m (n:Int)) (eq_ (o8_ n)):=by
 refine au_ ?_
 have:=cD_ (kj_ (n:=(n:Int)) 6)
 unfold eq_
 unfold o8_ at this ⊢
 simp only [ew_,ad_ this,am_,af_,fJ_]
 cases bF_ (aa_.mk 2 (n:Int) [] [] [])<;>simp
section
variable {a b:a8_} (ha:jj_ cap a) (hb:jj_ cap b) (hsa:∀ c ∈ a.q.show_,i64 c) (hsb:∀ c ∈ b.q.show_,i64 c)
include ha hb hsa hsb
theorem kJ_:lenO (fP_ (d6_ a) (dY_ a) (d6_ b) (dY_ b))∧(∀ o ∈ fP_ (d6_ a) (dY_ a) (d6_ b) (dY_ b),opK o)∧(fP_ (d6_ a) (dY_ a) (d6_ b) (dY_ b)).length≤a.rows.length+2*b.rows.length:=by
 have h1:=ha.2.1.1;have h2:=hb.2.1.1
 simp only [cap] at h1 h2
 have:=hC_ a
 have:=hC_ b
 obtain ⟨k1,k2⟩:=ry_ (keys:=dY_ a) (keys':=dY_ b) (by rw [fE_];omega) (by rw [fE_];omega) (hO_ ha hsa) (hO_ hb hsb)
 rw [fE_,fE_] at k2
 refine ⟨⟨by omega,fun o ho=>⟨?_,(k1 o ho).2.1⟩⟩,k1,by omega⟩
 obtain ⟨t,_,e⟩:=(k1 o ho).1
 rw [e];exact (by decide:1≤1000000)
theorem gk_:Ev (fun n _=>cS_ n a b) (dF_ a b):=by
 refine au_ ?_
 have h1:=ha.2.1.1;have h2:=hb.2.1.1
 simp only [cap] at h1 h2
 have n1:=hC_ a
 have n2:=hC_ b
 obtain ⟨r1,_,r3⟩:=kJ_ ha hb hsa hsb
 have hR:=nJ_ (docs:=d6_ a) (keys:=dY_ a) (docs':=d6_ b) (keys':=dY_ b) (by rw [fE_];omega) (by rw [fE_];omega) (hO_ ha hsa) (hO_ hb hsb) (by rw [mu_];omega) (by rw [mu_];omega)
 have hU:=mB_ (name:=jN_) r1
 have hq:rC_ bV_ a.q:=⟨Nat.le_trans ha.1.1 (by decide),Nat.le_trans ha.1.2 (by decide)⟩
 have hUl:(oO_ jN_ (fP_ (d6_ a) (dY_ a) (d6_ b) (dY_ b))).length=(fP_ (d6_ a) (dY_ a) (d6_ b) (dY_ b)).length:=List.length_map _
 simp only [cS_,ad_ (je_ hq),qb_,am_,aW_,ad_ mD_,ad_ (hc_ ha hsa),ad_ (hc_ hb hsb),ad_ hR,ad_ hU,bO_,af_,List.nil_append,List.length_nil,dF_,gS_]
 cases jC_ a.q b.q with
 |false=>exact ⟨fun _=>rfl,fun h=>(by cases h)⟩
 |true=>
  refine ⟨fun h=>(by cases h),fun _=>⟨fun hc=>⟨?_,?_,?_⟩,fun hc=>⟨?_,?_⟩⟩⟩
  · simp only [List.length_cons,List.length_nil];omega
  · simp only [List.length_cons,List.length_nil];omega
  · rw [hc];rfl
  · omega
  · rw [hc];rfl
theorem jO_ (hab:a.rows.length+b.rows.length≤1500000):iL_ (dF_ a b):=by
 obtain ⟨r1,r2,r3⟩:=kJ_ ha hb hsa hsb
 unfold dF_
 cases jC_ a.q b.q with
 |false=>exact ⟨Nat.zero_le _,fun o ho=>(by cases ho)⟩
 |true=>
  have hUl:(oO_ jN_ (fP_ (d6_ a) (dY_ a) (d6_ b) (dY_ b))).length=(fP_ (d6_ a) (dY_ a) (d6_ b) (dY_ b)).length:=List.length_map _
  have hcl:(gS_ a b).length≤1:=by unfold gS_;cases (!decide (a.rows.length=b.rows.length))<;>simp
  refine ⟨by simp only [cond_true,List.length_append];omega,fun o ho => ?_⟩
  rw [cond_true] at ho
  rcases List.mem_append.1 ho with ho|ho
  · unfold gS_ at ho
    cases hc:(!decide (a.rows.length=b.rows.length))<;>rw [hc] at ho
    · cases ho
    · rw [List.mem_singleton.1 ho]
      refine ⟨⟨by show 1≤bV_;decide,fun x hx => ?_⟩,?_⟩
      · rw [List.mem_singleton.1 hx];show 5≤bV_;decide
      · show ff_ 6 (eq_ (o8_ b.rows.length))
        unfold eq_
        cases bF_ (o8_ b.rows.length) with
        |true=>exact kj_ 6
        |false=>exact en_ 6
  · obtain ⟨o',ho',e⟩:=List.mem_map.1 ho
    obtain ⟨⟨t,ht,e2⟩,_,hv⟩:=r2 o' ho'
    rw [←e]
    refine ⟨⟨?_,fun x hx => ?_⟩,hv⟩
    · show (jN_::o'.way).length≤bV_
      rw [e2];show 2≤bV_;decide
    · have hx:x ∈ jN_::o'.way:=hx
      rw [e2] at hx
      rcases List.mem_cons.1 hx with e3|hx
      · rw [e3];show 4≤bV_;decide
      · rw [List.mem_singleton.1 hx];simp only [bV_];omega
end
end Go.Pi
end
section
namespace Go.Pi
theorem jf_ {l:List TOp} (h:iL_ l):Ev (fun n _=>aY_ n l) (d5_ l):=by
 refine au_ ?_
 have hl:=h.1
 have ht:l.length≤bV_:=by simp only [bV_];omega
 have hb:eP_ l≤l.length:=List.findIdx_le_length
 simp only [aY_]
 have:=eo_ (fun i=>(l.take i).map cO_) (eP_ l) (fun n N i (o:List aa_)=>aY_.loop4 n (fun xy2 xy3 xy4 xy5=>((cY_ n (aa_.mk xy2 xy3 xy4 xy5 [])).bind fun xr6=>(cond (xr6 == []) (some (-1)) (some (xr6.length:Int))))) N l (i:Int) 4 0 [] o) (d5_ l) (fun i hi F hF => ?_) ?_
 · exact this
 · have hi2:i<l.length:=by omega
   have hx:=fb_ (h.2 _ (bw_ TOp.dflt hi2))
   rw [mY_ cO_ TOp.dflt hi2] at hF
   have hol:((l.take i).map cO_).length≤i:=by simp;omega
   generalize (l.take i).map cO_=o at hF hol ⊢
   simp only [aY_.turn4,aY_.step4,aW_,eZ_,Int.toNat_natCast,W_up hi2 ht,cy_ hi2,cf_ hi2,jy_ hi,cond_true,cond_false,bB_,bO_,ad_ hx]
   exact ⟨trivial,by simp;omega,hF⟩
 · by_cases hp:eP_ l<l.length
   · have hx:=fb_ (h.2 _ (bw_ TOp.dflt hp))
     simp only [aY_.turn4,aY_.step4,aW_,eZ_,Int.toNat_natCast,cy_ hp,cf_ hp,bad_at hp,cond_true,bB_,ad_ hx,af_]
     unfold d5_
     rw [decide_eq_true hp]
     exact ⟨trivial,rfl⟩
   · have e:eP_ l=l.length:=by omega
     have hE:=fd_ (m2_ h)
     unfold d5_
     rw [decide_eq_false hp,cond_false]
     unfold fT_ at hE ⊢
     rw [e,List.take_length]
     simp only [aY_.turn4,aY_.step4,ca_,cond_false,ad_ hE,am_,af_]
     generalize dp_ _=s
     cases (s == [])<;>simp
end Go.Pi
end
section
namespace Go.Pi
end Go.Pi
end
section
namespace Go.Pi
def i2_ (a b:a8_):Bool:=decide (((dF_ a b).length:Int)≤40)&&(decide (d5_ (dF_ a b)≥0)&&decide (d5_ (dF_ a b)<((dp_ (eK_ b)).length:Int)))
section
variable {a b:a8_} (ha:jj_ cap a) (hb:jj_ cap b) (hsa:∀ c ∈ a.q.show_,i64 c) (hsb:∀ c ∈ b.q.show_,i64 c) (hab:a.rows.length+b.rows.length≤1500000)
include ha hb hsa hsb hab
theorem kz_:Ev (fun n _=>dK_ n a b) (i2_ a b):=by
 refine au_ ?_
 have hP:=jf_ (jO_ ha hb hsa hsb hab)
 have hE:=fd_ (f1_ hb hsb)
 simp only [dK_,aW_,ad_ (gk_ ha hb hsa hsb),ad_ hP,am_,ad_ (eT_ hb hsb),ad_ hE,af_,i2_]
 cases decide (((dF_ a b).length:Int)≤40)<;>cases decide (d5_ (dF_ a b)≥0)<;>simp
end
end Go.Pi
end
section
namespace Go.Pi
def ls_ (a b:aa_):Bool:=bF_ a&&(bF_ b&&eh_ 6 a b)
theorem j1_ {a b:aa_} (ha:ff_ 6 a) (hb:ff_ 6 b):Ev (fun n _=>dm_ n a b) (ls_ a b):=by
 refine au_ ?_
 simp only [dm_,aW_,ad_ (cD_ ha),ad_ (cD_ hb),am_,af_,ls_]
 cases h1:bF_ a with
 |false=>simp
 |true=>
  have hd:deepJ 6 a:=e9_ 6 a (of_decide_eq_true h1)
  simp only [ad_ (eb_ 6 a b hd ha),af_]
  cases bF_ b<;>simp
end Go.Pi
end
section
namespace Go.Pi
end Go.Pi
end
section
namespace Go.Pi
def FDue (x:b3_):Bool:=!x.began || !ls_ (eK_ x.view) (eK_ x.last)
def intsS (x:b3_):Prop:=(∀ c ∈ x.view.q.show_,i64 c)∧∀ c ∈ x.last.q.show_,i64 c
theorem kA_ {x:b3_} (h:lenS cap x) (hi:intsS x):Ev (fun n _=>dL_ n x) (FDue x):=by
 refine au_ ?_
 simp only [dL_,aW_,ad_ (eT_ h.1 hi.1),ad_ (eT_ h.2 hi.2),ad_ (j1_ (f1_ h.1 hi.1) (f1_ h.2 hi.2)),am_,af_,FDue]
 cases x.began<;>simp
end Go.Pi
end
section
namespace Go.Pi
theorem nD_:∀ {l:List Bs} {c:Nat},(∀ x ∈ l,x.length≤c)→eD_ szB l≤l.length*c
 |[],_,_=>Nat.zero_le _
 |x::l,c,h=>by
  have:=nD_ (l:=l) fun y hy=>h y (List.mem_cons_of_mem _ hy)
  have:=h x (List.mem_cons_self ..)
  simp only [eD_,szB,List.length_cons,Nat.add_mul] at *;omega
theorem m8_:∀ (d:Nat) (j:aa_),b7_ d j≤400→aa_.size j≤50000*b7_ d j
 |0,j,h=>by simp only [b7_] at h;omega
 |d+1,j,h=>by
  obtain ⟨ho,hs⟩:=dZ_ h
  have hl:=f0_ h
  have hn:=iJ_ h
  have hsum:∀ l:List aa_,(∀ x ∈ l,b7_ d x≤400)→eD_ aa_.size l≤50000*eD_ (b7_ d) l:=by
   intro l
   induction l with
   |nil=>intro _;exact Nat.zero_le _
   |cons x l ih=>
    intro hx
    have h1:=m8_ d x (hx x (List.mem_cons_self ..))
    have h2:=ih fun y hy=>hx y (List.mem_cons_of_mem _ hy)
    simp only [eD_];omega
  have h1:=hsum j.list fun x hx=>by have:=gx_ (b7_ d) hx;omega
  have hF:FOwn j=true:=by
   simp only [b7_] at h
   cases hf:FOwn j with
   |true=>rfl
   |false=>rw [hf,cond_false] at h;omega
  have hsl:j.s.length≤60:=by
   unfold FOwn at hF
   simp only [Bool.and_eq_true,Bool.or_eq_true] at hF
   rcases hF.2.2.2.1 with e|e
   · have:j.s=[]:=by simpa using e
     rw [this];exact Nat.zero_le _
   · exact ho.text (by simpa using e)
  have hnt:eD_ szB j.names≤j.names.length*60:=nD_ fun x hx=>by
   by_cases hk:j.kind=5
   · obtain ⟨i,hi,e⟩:=List.mem_iff_getElem.1 hx
     have:=hV_ (ho.obj hk).2 hi
     rw [List.getD_eq_getElem?_getD,List.getElem?_eq_getElem hi,Option.getD_some,e] at this
     exact this
   · have:j.names.length=0:=by
      unfold FOwn at hF
      simp only [Bool.and_eq_true,Bool.or_eq_true] at hF
      rcases hF.2.1 with e|e
      · exact of_decide_eq_true e
      · exact absurd (by simpa using e) hk
     rw [List.eq_nil_of_length_eq_zero this] at hx;cases hx
  have e:=aa_.size_eq j
  unfold ei_ at e
  rw [hs]
  omega
end Go.Pi
end
section
namespace Go.Pi
def noEv:aE_:=aE_.mk 0 0 0 (aa_.mk 0 0 [] [] []) []
def FEvOf (x:b3_):aE_:=cond (x.began&&i2_ x.last x.view) (aE_.mk 2 x.version x.lastVersion (aa_.mk 0 0 [] [] []) (dF_ x.last x.view)) (aE_.mk 1 x.version 0 (eK_ x.view) [])
def FTaken (x:b3_):b3_:=b3_.mk x.view x.version x.view x.version true
def fo_ (x:b3_):b3_ × aE_ × Bool:=cond (FDue x) (FTaken x,FEvOf x,true) (x,noEv,false)
section
variable {x:b3_} (h:lenS cap x) (hi:intsS x) (hr:x.last.rows.length+x.view.rows.length≤1500000)
include h hi hr
theorem jZ_:Ev (fun n _=>cJ_ n x) (fo_ x):=by
 have hR:lenS eR_ x:=⟨h.1.upto (by decide),h.2.upto (by decide)⟩
 refine au_ ?_
 simp only [cJ_,aW_,ob_ hR,ad_ (kA_ h hi),am_,ad_ (eT_ h.1 hi.1),ad_ (kz_ h.2 h.1 hi.2 hi.1 hr),ad_ (gk_ h.2 h.1 hi.2 hi.1),hs_ hR.1,af_,fo_,FTaken,FEvOf,noEv]
 cases FDue x<;>cases x.began<;>cases i2_ x.last x.view<;>simp
end
end Go.Pi
end
section
namespace Go.Pi
def eL_ (v:a8_) (l:List aT_):a8_:=l.foldl jF_ v
theorem pR_ {c:Nat} {v:a8_} {x:aT_} (h:jj_ c v) (hx:n6_ c x):jj_ (c+2) (jF_ v x):=by
 have hr:gD_ (c+1) (qK_ v x):=by
  have h1:=lu_ (id:=x.old.id_) h.2.1
  unfold qK_
  cases (x.table == v.q.table)<;>cases (x.has&&fD_ v.q x.new)<;>cases x.had<;>simp only [cond_true,cond_false]
  all_goals (first|exact km_ h1 hx.2|exact km_ h.2.1 hx.2|exact h1.upto (by omega)|exact h.2.1.upto (by omega))
 have hk:(qL_ v x).length≤c+2:=by
  have h0:=h.2.2
  have h1:=ko_ (kids:=v.kids) (id:=fQ_ x.old v.q.kidCol) (by_:=-1)
  have h2:=ko_ (kids:=v.kids) (id:=fQ_ x.new v.q.kidCol) (by_:=1)
  have h3:=ko_ (kids:=FKid v.kids (fQ_ x.old v.q.kidCol) (-1)) (id:=fQ_ x.new v.q.kidCol) (by_:=1)
  unfold qL_
  cases (v.q.kids&&(x.table == v.q.kidTable))<;>cases x.has<;>cases x.had<;>simp only [cond_true,cond_false]<;>omega
 exact ⟨⟨Nat.le_trans h.1.1 (by omega),Nat.le_trans h.1.2 (by omega)⟩,hr.upto (by omega),hk⟩
theorem jV_ {c:Nat} {v:a8_} {l:List aT_} (h:jj_ c v) (hl:∀ x ∈ l,n6_ c x):jj_ (c+2*l.length) (eL_ v l):=by
 have key:∀ (l:List aT_) (d:Nat) (v:a8_),c≤d→jj_ d v→(∀ x ∈ l,n6_ c x)→jj_ (d+2*l.length) (eL_ v l):=by
  intro l
  induction l with
  |nil=>intro d v _ h _;exact h
  |cons x l ih=>
   intro d v hd h hl
   have hx:=hl x (List.mem_cons_self ..)
   have:=ih (d+2) (jF_ v x) (by omega) (pR_ h ⟨Nat.le_trans hx.1 hd,Nat.le_trans hx.2 hd⟩) (fun y hy=>hl y (List.mem_cons_of_mem _ hy))
   simp only [List.length_cons]
   rw [show d+2*(l.length+1)=d+2+2*l.length by omega]
   exact this
 exact key l c v (Nat.le_refl _) h hl
section
variable {v:a8_} {l:List aT_} (h:jj_ cap v) (hl:l.length≤cap) (hx:∀ x ∈ l,n6_ cap x)
include h hl hx
omit hl in
theorem oD_ {i:Nat} (hi:i<l.length):jj_ (cap+2*i) (eL_ v (l.take i))∧n6_ (cap+2*i) (l.getD i aT_.dflt)∧eL_ v (l.take (i+1))=jF_ (eL_ v (l.take i)) (l.getD i aT_.dflt):=by
 refine ⟨?_,?_,?_⟩
 · have:=jV_ (l:=l.take i) h fun x h=>hx x (List.mem_of_mem_take h)
   rwa [List.length_take,Nat.min_eq_left (by omega)] at this
 · have:=hx _ (bw_ aT_.dflt hi)
   exact ⟨Nat.le_trans this.1 (by omega),Nat.le_trans this.2 (by omega)⟩
 · rw [cP_ aT_.dflt hi];simp only [eL_,List.foldl_append,List.foldl_cons,List.foldl_nil]
theorem ic_:Ev (fun n _=>aR_ n v l) (eL_ v l):=by
 refine au_ ?_
 simp only [cap] at hl
 have ht:l.length≤bV_:=by simp only [bV_];omega
 simp only [aR_,hs_ (h.upto (show cap≤eR_ by decide))]
 refine eo_ (fun i=>eL_ v (l.take i)) l.length (fun n N i (s:a8_)=>aR_.loop4 n (fun xy3 xy4 xy5 xy6 xy7 xy8 xy9 xy10 xy11 xy12 xy13 xy14 xy15 xy16 xy17 xy18 xy19 xy20=>(some (a8_.mk (av_.mk xy10 xy17 xy11 xy12 xy13 xy18 xy14 xy15 xy16) xy19 xy20))) N l (i:Int) 0 0 false 0 false 0 0 s.q.table s.q.order s.q.down s.q.first s.q.kids s.q.kidTable s.q.kidCol s.q.where_ s.q.show_ s.rows s.kids) _ (fun i hi F hF => ?_) ?_
 · obtain ⟨a,b,e⟩:=oD_ h hx hi
   have hs:=iy_ a b (by simp only [eR_,cap];omega)
   rw [e] at hF
   simp only [aR_.turn4,aR_.step4,Int.toNat_natCast,W_up hi ht,am_,bB_,cy_ hi,cf_ hi]
   refine ⟨fun _=>⟨trivial,?_⟩,fun h=>by cases h⟩
   exact (ad_ hs).2 hF
 · simp only [aR_.turn4,aR_.step4,ca_,cond_false,af_,List.take_length]
end
def lo_ (x:b3_) (l:List aT_):b3_:={ x with view:=eL_ x.view l,version:=W (x.version+1) }
section
variable {x:b3_} {l:List aT_} (h:lenS cap x) (hl:l.length≤cap) (hx:∀ x ∈ l,n6_ cap x)
include h hl hx
omit hl hx in
theorem lenS.toR:lenS eR_ x:=⟨h.1.upto (by decide),h.2.upto (by decide)⟩
theorem lF_:Ev (fun n _=>cM_ n x l) (lo_ x l):=by
 refine au_ ?_
 simp only [cM_,ob_ (lenS.toR h),ad_ (ic_ h.1 hl hx),af_]
 rfl
end
end Go.Pi
end
section
namespace Go.Pi
def i3_ (s:ar_) (q:av_):b3_ × Bool:=cond (gi_ s q).2 (b3_.mk (gi_ s q).1 s.version qN_ 0 false,true) (b3_.mk qN_ 0 qN_ 0 false,false)
theorem hd_ {s:ar_} {q:av_} {c:Nat} (hl:e3_ c s) (hq:rC_ 100000 q) (hc:c≤100000):Ev (fun n _=>dt_ n s q) (i3_ s q):=by
 refine au_ ?_
 simp only [dt_,ad_ (lE_ hl hq hc),am_,af_]
 unfold i3_
 cases (gi_ s q).2<;>simp [qN_,zeroQ]
theorem it_ (c:Nat):jj_ c qN_:=⟨⟨Nat.zero_le _,Nat.zero_le _⟩,⟨Nat.zero_le _,fun x hx=>(by cases hx)⟩,Nat.zero_le _⟩
theorem pK_ {s:ar_} {q:av_} {c:Nat} (hl:e3_ c s) (hq:rC_ c q):jj_ (c+c) (gi_ s q).1:=by
 have hT:∀ i,gD_ c (s.tables.getD i []):=fun i=>fk_ hl.2.2 i
 unfold gi_
 cases FSQ s q
 · exact it_ _
 · refine ⟨⟨Nat.le_trans hq.1 (Nat.le_add_right _ _),Nat.le_trans hq.2 (Nat.le_add_right _ _)⟩,?_,?_⟩
   · show gD_ (c+c) (gO_ s q)
     unfold gO_
     cases FSQ s q
     · exact ⟨Nat.zero_le _,fun x hx=>(by cases hx)⟩
     · have:=lp_ (c:=c) (q:=q) (rows:=s.tables.getD q.table.toNat []) (o:=[]) (k:=0) ⟨Nat.zero_le _,fun x hx=>(by cases hx)⟩ (hT _).2
       exact this.upto (by have:=(hT q.table.toNat).1;omega)
   · show (kn_ s q).length≤c+c
     unfold kn_
     cases q.kids
     · exact Nat.zero_le _
     · have:=lr_ (q:=q) (rows:=s.tables.getD q.kidTable.toNat []) (k:=[])
       have:=(hT q.kidTable.toNat).1
       simp only [cond_true,List.length_nil] at *
       omega
structure SsIn (c:Nat) (x:b3_):Prop where
 len:lenS c x
 v:∀ y ∈ x.view.q.show_,0≤y∧y≤1000
 l:∀ y ∈ x.last.q.show_,0≤y∧y≤1000
theorem SsIn.ints {c:Nat} {x:b3_} (h:SsIn c x):intsS x:=⟨fun y hy=>by have:=h.v y hy;unfold i64;omega,fun y hy=>by have:=h.l y hy;unfold i64;omega⟩
theorem SsIn.upto {c d:Nat} {x:b3_} (h:SsIn c x) (hc:c≤d):SsIn d x:=⟨⟨h.len.1.upto hc,h.len.2.upto hc⟩,h.v,h.l⟩
theorem lY_ {s:ar_} {q:av_} {c:Nat} (hs:e3_ c s) (hq:QIn q) (hc:1010≤c):SsIn (c+c) (i3_ s q).1:=by
 have hV:=pK_ hs (q:=q) ⟨Nat.le_trans hq.len.1 hc,Nat.le_trans hq.len.2 hc⟩
 unfold i3_
 cases h2:(gi_ s q).2
 · exact ⟨⟨it_ _,it_ _⟩,fun y hy=>(by cases hy),fun y hy=>(by cases hy)⟩
 · refine ⟨⟨hV,it_ _⟩,?_,fun y hy=>(by cases hy)⟩
   show ∀ y ∈ (gi_ s q).1.q.show_,_
   unfold gi_ at h2 ⊢
   cases h:FSQ s q<;>rw [h] at h2
   · cases h2
   · exact hq.show_
theorem ig_ {x:b3_} {c:Nat} (h:SsIn c x):SsIn c (fo_ x).1:=by
 unfold fo_
 cases FDue x
 · exact h
 · exact ⟨⟨h.len.1,h.len.1⟩,h.v,h.v⟩
theorem changes_q (l:List aT_) (v:a8_):(eL_ v l).q=v.q:=by
 unfold eL_
 induction l generalizing v with
 |nil=>rfl
 |cons x l ih=>rw [List.foldl_cons,ih];rfl
theorem nP_ {x:b3_} {l:List aT_} {c:Nat} (h:SsIn c x) (hl:∀ y ∈ l,n6_ c y) (h5:l.length≤5):SsIn (c+10) (lo_ x l):=by
 refine ⟨⟨(jV_ h.len.1 hl).upto (by omega),h.len.2.upto (by omega)⟩,?_,h.l⟩
 show ∀ y ∈ (eL_ x.view l).q.show_,_
 rw [changes_q];exact h.v
theorem SsIn.take {c:Nat} {x:b3_} (h:SsIn c x) (hc:c≤700000):Ev (fun n _=>cJ_ n x) (fo_ x) :=
 jZ_ ⟨h.len.1.upto (by simp only [cap];omega),h.len.2.upto (by simp only [cap];omega)⟩ h.ints (by have:=h.len.1.2.1.1;have:=h.len.2.2.1.1;omega)
theorem SsIn.go {c:Nat} {x:b3_} {l:List aT_} (h:SsIn c x) (hc:c≤700000) (hl:∀ y ∈ l,n6_ c y) (h5:l.length≤5):Ev (fun n _=>cM_ n x l) (lo_ x l) :=
 lF_ ⟨h.len.1.upto (by simp only [cap];omega),h.len.2.upto (by simp only [cap];omega)⟩ (by simp only [cap];omega) fun y hy=>⟨Nat.le_trans (hl y hy).1 (by simp only [cap];omega),Nat.le_trans (hl y hy).2 (by simp only [cap];omega)⟩
theorem nO_ (x:b3_):b3_.mk x.view x.version x.last x.lastVersion x.began=x:=rfl
theorem nC_ (x:a8_):a8_.mk x.q x.rows x.kids=x:=rfl
end Go.Pi
end
section
namespace Go.Pi
theorem l16loop {K:Nat→aq_.K5} {P:ar_ × b3_ × ac_→Prop} {t21 t30 t32 t33 t34 t36 t37 t38 t311 t312 t314 t315 t316 t318 t319 t320 t323 t324} (hK:∀ c s x,DwOk c→StIn 1100 s→SsIn 6000 x→Ans (fun n _=>K n c.b c.i c.h t21 t30 t32 t33 t34 t36 t37 t38 t311 t312 t314 t315 t316 t318 t319 t320 t323 t324 s.schema.cols s.version s.tables x.view.q.table x.view.q.where_ x.view.q.order x.view.q.down x.view.q.first x.view.q.show_ x.view.q.kids x.view.q.kidTable x.view.q.kidCol x.view.rows x.view.kids x.version x.last.q.table x.last.q.where_ x.last.q.order x.last.q.down x.last.q.first x.last.q.show_ x.last.q.kids x.last.q.kidTable x.last.q.kidCol x.last.rows x.last.kids x.lastVersion x.began) P)
  {c:ac_} {s:ar_} {x:b3_} (hc:DwOk c) (hs:StIn 1010 s) (hx:SsIn 5000 x):Ans (fun n _=>aq_.loop5 n (K n) n 0 c.b c.i c.h t21 t30 t32 t33 t34 t36 t37 t38 t311 t312 t314 t315 t316 t318 t319 t320 t323 t324 s.schema.cols s.version s.tables x.view.q.table x.view.q.where_ x.view.q.order x.view.q.down x.view.q.first x.view.q.show_ x.view.q.kids x.view.q.kidTable x.view.q.kidCol x.view.rows x.view.kids x.version x.last.q.table x.last.q.where_ x.last.q.order x.last.q.down x.last.q.first x.last.q.show_ x.last.q.kids x.last.q.kidTable x.last.q.kidCol x.last.rows x.last.kids x.lastVersion x.began) P:=by
 have key:∀ (m i:Nat) (c:ac_) (s:ar_) (x:b3_),i+m=6→DwOk c→StIn (1010+3*i) s→SsIn (5000+10*i) x→Ans (fun n N=>aq_.loop5 n (K n) N (i:Int) c.b c.i c.h t21 t30 t32 t33 t34 t36 t37 t38 t311 t312 t314 t315 t316 t318 t319 t320 t323 t324 s.schema.cols s.version s.tables x.view.q.table x.view.q.where_ x.view.q.order x.view.q.down x.view.q.first x.view.q.show_ x.view.q.kids x.view.q.kidTable x.view.q.kidCol x.view.rows x.view.kids x.version x.last.q.table x.last.q.where_ x.last.q.order x.last.q.down x.last.q.first x.last.q.show_ x.last.q.kids x.last.q.kidTable x.last.q.kidCol x.last.rows x.last.kids x.lastVersion x.began) P:=by
  intro m
  induction m with
  |zero=>
   intro i c s x hi hc hs hx
   refine cg_ ?_
   simp only [aq_.turn5,aq_.step5,cu_]
   refine ax_ (bc_ hc) fun r hr => ?_
   have h1:=hr.lo;have h2:=hr.hi
   rw [decide_eq_false (by omega)]
   simp only [cond_false]
   exact hK _ _ _ hr.cur (hs.upto (by omega)) (hx.upto (by omega))
  |succ m ih=>
   intro i c s x hi hc hs hx
   refine cg_ ?_
   simp only [aq_.turn5,aq_.step5,cu_]
   refine ax_ (bc_ hc) fun r hr => ?_
   simp only [bh_]
   refine ⟨fun _ => ?_,fun _=>hK _ _ _ hr.cur (hs.upto (by omega)) (hx.upto (by omega))⟩
   refine ax_ (ez_ hr.cur) fun r2 h2 => ?_
   have hgo:∀ (y:b3_),SsIn (5000+10*i) y→Ans (fun n N=>(aw_ n r2.2 s).bind fun xr57=>((a7_ n s xr57.1).bind fun xr58=>(cond xr58.2.2 ((cM_ n y xr58.2.1).bind fun xr59=>(aq_.loop5 n (K n) N (W ((i:Int)+1)) xr57.2.b xr57.2.i xr57.2.h t21 t30 t32 t33 t34 t36 t37 t38 t311 t312 t314 t315 t316 t318 t319 t320 t323 t324 xr58.1.schema.cols xr58.1.version xr58.1.tables xr59.view.q.table xr59.view.q.where_ xr59.view.q.order xr59.view.q.down xr59.view.q.first xr59.view.q.show_ xr59.view.q.kids xr59.view.q.kidTable xr59.view.q.kidCol xr59.view.rows xr59.view.kids xr59.version xr59.last.q.table xr59.last.q.where_ xr59.last.q.order xr59.last.q.down xr59.last.q.first xr59.last.q.show_ xr59.last.q.kids xr59.last.q.kidTable xr59.last.q.kidCol xr59.last.rows xr59.last.kids xr59.lastVersion xr59.began)) (aq_.loop5 n (K n) N (W ((i:Int)+1)) xr57.2.b xr57.2.i xr57.2.h t21 t30 t32 t33 t34 t36 t37 t38 t311 t312 t314 t315 t316 t318 t319 t320 t323 t324 s.schema.cols s.version s.tables y.view.q.table y.view.q.where_ y.view.q.order y.view.q.down y.view.q.first y.view.q.show_ y.view.q.kids y.view.q.kidTable y.view.q.kidCol y.view.rows y.view.kids y.version y.last.q.table y.last.q.where_ y.last.q.order y.last.q.down y.last.q.first y.last.q.show_ y.last.q.kids y.last.q.kidTable y.last.q.kidCol y.last.rows y.last.kids y.lastVersion y.began)))) P:=by
    intro y hy
    refine ax_ (hr_ h2 hs (by omega) (by omega)) fun b hb => ?_
    have hm:j3_ (1010+3*i) b.1:=fun z hz=>Nat.le_trans (hb.2.1 z hz) (by omega)
    have hB:=hg_ (l:=b.1) hs.len hm (by have:=hb.1;omega)
    have hL:=hG_ (l:=b.1) hs.len hm
    have hI:=lw_ (l:=b.1) hs hm
    have hC:∀ z ∈ (eg_ s b.1).2.1,n6_ (5000+10*i) z:=fun z hz=>⟨Nat.le_trans (hL.2.2 z hz).1 (by have:=hb.1;omega),Nat.le_trans (hL.2.2 z hz).2 (by have:=hb.1;omega)⟩
    have e1:=up1 (show i≤1000000 by omega)
    rw [bf_ hB]
    simp only [bh_,bf_ (hy.go (by omega) hC hL.2.1),e1]
    refine ⟨fun _=>ih (i+1) b.2 (eg_ s b.1).1 (lo_ y (eg_ s b.1).2.1) (by omega) hb.2.2 (hI.upto (by have:=hb.1;omega)) ?_,fun _=>ih (i+1) b.2 s y (by omega) hb.2.2 (hs.upto (by omega)) (hy.upto (by omega))⟩
    exact (nP_ hy hC hL.2.1).upto (by omega)
   simp only [aq_.tail10,eM_,es_,hL_,nC_,nO_,cu_,bh_,bf_ (hx.take (by omega))]
   exact ⟨fun _=>hgo _ (ig_ hx),fun _=>hgo _ hx⟩
 exact d0_ (key 6 0 c s x rfl hc hs hx)
theorem j6_ {c:ac_} (hc:DwOk c):Ans (fun n _=>aq_ n c) fun r=>StIn 1100 r.1∧SsIn 6000 r.2.1∧DwOk r.2.2:=by
 refine b5_ ?_
 simp only [aq_]
 refine ax_ (hq_ hc) fun r hr => ?_
 simp only [aq_.tail1,eM_,es_,cu_]
 refine ax_ (hp_ hr.2 hr.1.col) fun q hq => ?_
 have hN:=hd_ (s:=r.1) (q:=q.1) hr.1.len ⟨Nat.le_trans hq.1.len.1 (by decide),Nat.le_trans hq.1.len.2 (by decide)⟩ (by decide)
 rw [bf_ hN]
 exact l16loop (fun c s x h1 h2 h3=>aD_.2 ⟨h2,h3,h1⟩) hq.2 hr.1 ((lY_ hr.1.len hq.1 (Nat.le_refl _)).upto (by decide))
end Go.Pi
end
section
namespace Go.Pi
theorem jX_ {j:aa_}:Ev (fun n _=>an_ n j (aa_.mk 0 0 [] [] [])) (iY_ j):=by
 refine au_ ?_
 simp only [an_,am_,af_,iY_]
 by_cases h1:j.list=[]
 · by_cases h2:j.names=[]
   · have hL:Ev (fun n _=>an_.loop6 n (an_ n) (fun xy2 xy3 xy4 xy5 xy6 xy7 xy8 xy9 xy10 xy11=>(an_.loop14 n (an_ n) (some true) n 0 xy2 xy3 xy4 xy5 xy6 xy7 xy8 xy9 xy10 xy11)) n 0 j.kind j.n_ j.s [] [] 0 0 [] [] []) true :=
      d3_ (f:=fun n N=>an_.loop6 n (an_ n) (fun xy2 xy3 xy4 xy5 xy6 xy7 xy8 xy9 xy10 xy11=>(an_.loop14 n (an_ n) (some true) n 0 xy2 xy3 xy4 xy5 xy6 xy7 xy8 xy9 xy10 xy11)) N 0 j.kind j.n_ j.s [] [] 0 0 [] [] []) (b4_ (d3_ (f:=fun n N=>an_.loop14 n (an_ n) (some true) N 0 j.kind j.n_ j.s [] [] 0 0 [] [] []) (b4_ ⟨0,fun _ _ _ _=>rfl⟩)))
     rw [h1,h2]
     simp only [dj_ hL,bne]
     cases (j.kind == 0)<;>cases (j.n_ == 0)<;>cases (j.s == [])<;>simp
   · simp only [bne]
     rw [h1]
     have e:((j.names.length:Int) == (([]:List Bs).length:Int))=false:=by
      simp only [List.length_nil]
      rw [beq_eq_false_iff_ne];intro e;exact h2 (List.eq_nil_of_length_eq_zero (by omega))
     have e2:decide (j.names.length=0)=false:=decide_eq_false fun e=>h2 (List.eq_nil_of_length_eq_zero e)
     rw [e,e2]
     cases (j.kind == 0)<;>cases (j.n_ == 0)<;>cases (j.s == [])<;>simp
 · simp only [bne]
   have e:((j.list.length:Int) == (([]:List aa_).length:Int))=false:=by
    simp only [List.length_nil]
    rw [beq_eq_false_iff_ne];intro e;exact h1 (List.eq_nil_of_length_eq_zero (by omega))
   have e2:decide (j.list.length=0)=false:=decide_eq_false fun e=>h1 (List.eq_nil_of_length_eq_zero e)
   rw [e,e2]
   cases (j.kind == 0)<;>cases (j.n_ == 0)<;>cases (j.s == [])<;>simp
theorem lD_ {l:List TOp} (h:iL_ l):Ev (fun n _=>bD_ n l) (cond (decide (eP_ l<l.length)) (aa_.mk 4 0 [] ((l.take (eP_ l)).map cO_) [],false) (fT_ l,decide ((l.length:Int)≤40) && !(dp_ (fT_ l) == []))):=by
 refine au_ ?_
 have hl:=h.1
 have ht:l.length≤bV_:=by simp only [bV_];omega
 have hb:eP_ l≤l.length:=List.findIdx_le_length
 simp only [bD_]
 have:=eo_ (fun i=>(l.take i).map cO_) (eP_ l) (fun n N i (o:List aa_)=>bD_.loop4 n (fun xy2 xy3 xy4 xy5 xy6 xy7 xy8 xy9=>(cond (decide ((xy2.length:Int)≤40)) ((cY_ n (aa_.mk xy6 xy7 xy8 xy9 [])).bind fun xr10=>(some ((aa_.mk xy6 xy7 xy8 xy9 ([]:List Bs)),(!(xr10 == []))))) (some ((aa_.mk xy6 xy7 xy8 xy9 ([]:List Bs)),false)))) N l (i:Int) 0 0 [] 4 0 [] o) (cond (decide (eP_ l<l.length)) (aa_.mk 4 0 [] ((l.take (eP_ l)).map cO_) [],false) (fT_ l,decide ((l.length:Int)≤40) && !(dp_ (fT_ l) == []))) (fun i hi F hF => ?_) ?_
 · exact this
 · have hi2:i<l.length:=by omega
   have hx:=fb_ (h.2 _ (bw_ TOp.dflt hi2))
   rw [mY_ cO_ TOp.dflt hi2] at hF
   have hol:((l.take i).map cO_).length≤i:=by simp;omega
   generalize (l.take i).map cO_=o at hF hol ⊢
   simp only [bD_.turn4,bD_.step4,aW_,eZ_,Int.toNat_natCast,W_up hi2 ht,cy_ hi2,cf_ hi2,jy_ hi,cond_true,cond_false,bB_,bO_,ad_ hx]
   exact ⟨trivial,by simp;omega,hF⟩
 · by_cases hp:eP_ l<l.length
   · have hx:=fb_ (h.2 _ (bw_ TOp.dflt hp))
     simp only [bD_.turn4,bD_.step4,aW_,eZ_,Int.toNat_natCast,cy_ hp,cf_ hp,bad_at hp,cond_true,bB_,ad_ hx,af_]
     rw [decide_eq_true hp]
     exact ⟨trivial,rfl⟩
   · have e:eP_ l=l.length:=by omega
     have hE:=fd_ (m2_ h)
     rw [decide_eq_false hp,cond_false]
     unfold fT_ at hE ⊢
     rw [e,List.take_length]
     simp only [bD_.turn4,bD_.step4,ca_,cond_false,am_,ad_ hE,af_]
     cases decide ((l.length:Int)≤40)<;>simp
def oQ_ (l:List TOp):Bool:=(!decide (eP_ l<l.length))&&(decide ((l.length:Int)≤40) && !(dp_ (fT_ l) == []))
def d1_ (e:aE_):Bool:=inn e.version 0 100000&&cond (e.kind == 1) ((e.base == 0)&&(decide (e.ops.length=0) && !(dp_ e.doc == []))) (cond (e.kind == 2) (oQ_ e.ops&&(inn e.base 0 (W (e.version - 1))&&iY_ e.doc)) false)
def n5_ (e:aE_):Prop:=ff_ 6 e.doc∧iL_ e.ops
theorem lb_ (e:aE_):aE_.mk e.kind e.version e.base e.doc e.ops=e:=rfl
theorem size_ok (l:List TOp):decide (d5_ l≥0)=((!decide (eP_ l<l.length)) && !(dp_ (fT_ l) == [])):=by
 unfold d5_
 cases decide (eP_ l<l.length) with
 |true=>rfl
 |false=>
  cases hs:(dp_ (fT_ l) == []) with
  |true=>rfl
  |false=>simp only [cond_false,Bool.not_false,Bool.and_true];exact decide_eq_true (by omega)
theorem kC_ {e:aE_} (h:n5_ e):Ev (fun n _=>dM_ n e) (d1_ e):=by
 refine au_ ?_
 simp only [dM_,aW_,fj_,am_,ad_ (fd_ h.1),ad_ (lD_ h.2),ad_ jX_,af_,mZ_,d1_,oQ_]
 generalize inn e.version 0 100000=a1
 generalize (e.kind == 1)=a2
 generalize (e.kind == 2)=a3
 generalize (e.base == 0)=a4
 generalize decide (e.ops.length=0)=a5
 generalize decide (eP_ e.ops<e.ops.length)=a6
 generalize decide ((e.ops.length:Int)≤40)=a7
 generalize (dp_ (fT_ e.ops) == [])=a8
 generalize (dp_ e.doc == [])=a9
 generalize inn e.base 0 (W (e.version - 1))=b1
 generalize iY_ e.doc=b2
 cases a1<;>cases a2<;>cases a3<;>cases a4<;>simp only [cond_true,cond_false,Bool.not_true,Bool.not_false,Bool.false_and,Bool.true_and,reduceCtorEq,false_implies,true_implies,true_and,and_true,implies_true]
 all_goals (cases a5<;>cases a6<;>cases a7<;>cases a8<;>cases a9<;>cases b1<;>cases b2<;>simp)
theorem jr_ {n:Int}:Ev (fun m _=>cT_ m n) (inn n 0 100000):=au_ (by simp only [cT_,hI_,af_])
theorem k6_ {e:aE_} (h:n5_ e):Ev (fun n _=>dR_ n e) (d1_ e):=by
 refine au_ ?_
 simp only [dR_,aW_,hI_,am_,ad_ jr_,ad_ (gg_ h.1),ad_ h6_,ad_ (js_ h.2),af_,mZ_,size_ok,d1_,oQ_]
 generalize inn e.version 0 100000=a1
 generalize (e.kind == 1)=a2
 generalize (e.kind == 2)=a3
 generalize (e.base == 0)=a4
 generalize decide (e.ops.length=0)=a5
 generalize decide (eP_ e.ops<e.ops.length)=a6
 generalize decide ((e.ops.length:Int)≤40)=a7
 generalize (dp_ (fT_ e.ops) == [])=a8
 generalize (dp_ e.doc == [])=a9
 generalize inn e.base 0 (W (e.version - 1))=b1
 generalize iY_ e.doc=b2
 cases a1<;>cases a2<;>cases a3<;>cases a4<;>simp only [cond_true,cond_false,Bool.not_true,Bool.not_false,Bool.false_and,Bool.true_and,reduceCtorEq,false_implies,true_implies,true_and,and_true,implies_true]
 all_goals (cases a5<;>cases a6<;>cases a7<;>cases a8<;>cases a9<;>cases b1<;>cases b2<;>simp)
end Go.Pi
end
section
namespace Go.Pi
structure EvDw (e:aE_):Prop where
 len:n5_ e
 doc:aa_.size e.doc≤2000000000
 few:e.ops.length≤3900000
section
variable {a b:a8_} (ha:jj_ cap a) (hb:jj_ cap b) (hsa:∀ c ∈ a.q.show_,i64 c) (hsb:∀ c ∈ b.q.show_,i64 c)
include ha hb hsa hsb
theorem patch_few (hab:a.rows.length+b.rows.length≤1500000):(dF_ a b).length≤3900000:=by
 obtain ⟨r1,r2,r3⟩:=kJ_ ha hb hsa hsb
 unfold dF_
 cases jC_ a.q b.q with
 |false=>exact Nat.zero_le _
 |true=>
  have hUl:(oO_ jN_ (fP_ (d6_ a) (dY_ a) (d6_ b) (dY_ b))).length=(fP_ (d6_ a) (dY_ a) (d6_ b) (dY_ b)).length:=List.length_map _
  have hcl:(gS_ a b).length≤1:=by unfold gS_;cases (!decide (a.rows.length=b.rows.length))<;>simp
  simp only [cond_true,List.length_append];omega
end
theorem evOf_in {x:b3_} {c:Nat} (h:SsIn c x) (hc:c≤700000):EvDw (FEvOf x):=by
 have k1:jj_ cap x.view:=h.len.1.upto (by simp only [cap];omega)
 have k2:jj_ cap x.last:=h.len.2.upto (by simp only [cap];omega)
 unfold FEvOf
 cases (x.began&&i2_ x.last x.view)
 · refine ⟨⟨f1_ k1 h.ints.1,Nat.zero_le _,fun o ho=>(by cases ho)⟩,?_,Nat.zero_le _⟩
   have:bF_ (eK_ x.view)=true∨eK_ x.view=fJ_:=by
    unfold eK_ FDoc eq_
    cases h:bF_ (mt_ x.view.rows.length (i9_ id x.view.q x.view.rows (eN_ x.view) (g4_ x.view.q x.view.rows.length)))
    · exact .inr rfl
    · exact .inl h
   rcases this with h|h
   · have h:=of_decide_eq_true h
     have:=m8_ 6 _ h
     show aa_.size (eK_ x.view)≤_;omega
   · show aa_.size (eK_ x.view)≤_;rw [h];decide
 · have hab:x.last.rows.length+x.view.rows.length≤1500000:=by have:=h.len.1.2.1.1;have:=h.len.2.2.1.1;omega
   exact ⟨⟨en_ 6,jO_ k2 k1 h.ints.2 h.ints.1 hab⟩,show aa_.size (aa_.mk 0 0 [] [] [])≤2000000000 by decide,patch_few k2 k1 h.ints.2 h.ints.1 hab⟩
theorem nQ_ {x:b3_} {c:Nat} (h:SsIn c x) (hc:c≤700000):EvDw (fo_ x).2.1:=by
 unfold fo_
 cases FDue x
 · exact ⟨⟨en_ 6,Nat.zero_le _,fun o ho=>(by cases ho)⟩,show aa_.size (aa_.mk 0 0 [] [] [])≤2000000000 by decide,Nat.zero_le _⟩
 · exact evOf_in h hc
theorem ev_etaD (e:aE_):aE_.mk e.kind e.version e.base e.doc e.ops=e:=rfl
theorem gr_ {c:ac_} (hc:DwOk c):Ans (fun n _=>ao_ n c) fun r=>r.1.length≤6∧(∀ e ∈ r.1,EvDw e)∧DwOk r.2:=by
 refine b5_ ?_
 simp only [ao_]
 refine ax_ (hq_ hc) fun r hr => ?_
 simp only [ao_.tail1,eM_,es_,cu_]
 refine ax_ (hp_ hr.2 hr.1.col) fun q hq => ?_
 have hN:=hd_ (s:=r.1) (q:=q.1) hr.1.len ⟨Nat.le_trans hq.1.len.1 (by decide),Nat.le_trans hq.1.len.2 (by decide)⟩ (by decide)
 rw [bf_ hN]
 refine ax_ (bc_ hq.2) fun b hb => ?_
 have b1:=hb.lo;have b2:=hb.hi
 rw [Wn (x:=1+b.1) (by omega) (by omega)]
 have key:∀ (m i:Nat) (c:ac_) (s:ar_) (x:b3_) (o:List aE_),i+m=6→DwOk c→StIn (1010+3*i) s→SsIn (5000+10*i) x→o.length≤i→(∀ e ∈ o,EvDw e) →
   Ans (fun n N=>ao_.loop7 n (fun xy50 xy51 xy52 xy53=>(some (xy53,(ac_.mk xy50 xy51 xy52)))) N (1+b.1) (i:Int) c.b c.i c.h s.schema.cols s.version s.tables x.view.q.table x.view.q.where_ x.view.q.order x.view.q.down x.view.q.first x.view.q.show_ x.view.q.kids x.view.q.kidTable x.view.q.kidCol x.view.rows x.view.kids x.version x.last.q.table x.last.q.where_ x.last.q.order x.last.q.down x.last.q.first x.last.q.show_ x.last.q.kids x.last.q.kidTable x.last.q.kidCol x.last.rows x.last.kids x.lastVersion x.began o) fun r=>r.1.length≤6∧(∀ e ∈ r.1,EvDw e)∧DwOk r.2:=by
  intro m
  induction m with
  |zero=>
   intro i c s x o hi hc hs hx ho he
   refine cg_ ?_
   simp only [ao_.turn7,ao_.step7]
   rw [decide_eq_false (by omega)]
   simp only [cond_false,cu_,aD_]
   exact ⟨by omega,he,hc⟩
  |succ m ih=>
   intro i c s x o hi hc hs hx ho he
   refine cg_ ?_
   simp only [ao_.turn7,ao_.step7,bh_,cu_,aD_]
   refine ⟨fun _ => ?_,fun _=>⟨by omega,he,hc⟩⟩
   have hgo:∀ (y:b3_) (c:ac_) (o:List aE_),SsIn (5000+10*i) y→DwOk c→o.length≤i+1→(∀ e ∈ o,EvDw e)→Ans (fun n N=>(aw_ n c s).bind fun xr7=>((a7_ n s xr7.1).bind fun xr8=>(cond xr8.2.2 ((cM_ n y xr8.2.1).bind fun xr9=>(ao_.loop7 n (fun xy50 xy51 xy52 xy53=>(some (xy53,(ac_.mk xy50 xy51 xy52)))) N (1+b.1) (W ((i:Int)+1)) xr7.2.b xr7.2.i xr7.2.h xr8.1.schema.cols xr8.1.version xr8.1.tables xr9.view.q.table xr9.view.q.where_ xr9.view.q.order xr9.view.q.down xr9.view.q.first xr9.view.q.show_ xr9.view.q.kids xr9.view.q.kidTable xr9.view.q.kidCol xr9.view.rows xr9.view.kids xr9.version xr9.last.q.table xr9.last.q.where_ xr9.last.q.order xr9.last.q.down xr9.last.q.first xr9.last.q.show_ xr9.last.q.kids xr9.last.q.kidTable xr9.last.q.kidCol xr9.last.rows xr9.last.kids xr9.lastVersion xr9.began o)) (ao_.loop7 n (fun xy50 xy51 xy52 xy53=>(some (xy53,(ac_.mk xy50 xy51 xy52)))) N (1+b.1) (W ((i:Int)+1)) xr7.2.b xr7.2.i xr7.2.h s.schema.cols s.version s.tables y.view.q.table y.view.q.where_ y.view.q.order y.view.q.down y.view.q.first y.view.q.show_ y.view.q.kids y.view.q.kidTable y.view.q.kidCol y.view.rows y.view.kids y.version y.last.q.table y.last.q.where_ y.last.q.order y.last.q.down y.last.q.first y.last.q.show_ y.last.q.kids y.last.q.kidTable y.last.q.kidCol y.last.rows y.last.kids y.lastVersion y.began o)))) fun r=>r.1.length≤6∧(∀ e ∈ r.1,EvDw e)∧DwOk r.2:=by
    intro y c o hy hc ho he
    refine ax_ (hr_ hc hs (by omega) (by omega)) fun b hb => ?_
    have hm:j3_ (1010+3*i) b.1:=fun z hz=>Nat.le_trans (hb.2.1 z hz) (by omega)
    have hB:=hg_ (l:=b.1) hs.len hm (by have:=hb.1;omega)
    have hL:=hG_ (l:=b.1) hs.len hm
    have hI:=lw_ (l:=b.1) hs hm
    have hC:∀ z ∈ (eg_ s b.1).2.1,n6_ (5000+10*i) z:=fun z hz=>⟨Nat.le_trans (hL.2.2 z hz).1 (by have:=hb.1;omega),Nat.le_trans (hL.2.2 z hz).2 (by have:=hb.1;omega)⟩
    have e1:=up1 (show i≤1000000 by omega)
    rw [bf_ hB]
    simp only [bh_,bf_ (hy.go (by omega) hC hL.2.1),e1]
    refine ⟨fun _=>ih (i+1) b.2 (eg_ s b.1).1 (lo_ y (eg_ s b.1).2.1) o (by omega) hb.2.2 (hI.upto (by have:=hb.1;omega)) ?_ ho he,fun _=>ih (i+1) b.2 s y o (by omega) hb.2.2 (hs.upto (by omega)) (hy.upto (by omega)) ho he⟩
    exact (nP_ hy hC hL.2.1).upto (by omega)
   have hE:∀ e ∈ o++[(fo_ x).2.1],EvDw e:=fun e h=>by
    rcases List.mem_append.1 h with h|h
    · exact he e h
    · rw [List.mem_singleton.1 h];exact nQ_ hx (by omega)
   simp only [ao_.tail8,eM_,es_,hL_,nC_,nO_,cu_,aW_,ev_etaD,bh_,bf_ (hx.take (by omega))]
   refine ⟨fun _=>ax_ (ez_ hc) fun r2 h2 => ?_,fun _=>hgo x c o hx hc (by omega) he⟩
   simp only [bh_,d4_]
   exact ⟨fun _=>⟨by simp;omega,hgo _ _ _ (ig_ hx) h2 (by simp;omega) hE⟩,fun _=>hgo _ _ _ (ig_ hx) h2 (by omega) he⟩
 exact d0_ (key 6 0 b.2 r.1 (i3_ r.1 q.1).1 [] rfl hb.cur hr.1 ((lY_ hr.1.len hq.1 (Nat.le_refl _)).upto (by decide)) (Nat.le_refl _) fun e he=>(by cases he))
end Go.Pi
end
section
namespace Go.Pi
def oe_ (c:UInt8):Prop:=48≤c.toNat∧c.toNat≤57
theorem iR_ {d:Nat} (h:d<10):(UInt8.ofNat (48+d)).toNat=48+d:=by
 rw [UInt8.toNat_ofNat'];omega
theorem nn_:∀ (u:Nat),∀ c ∈ Lib.decDigits u,oe_ c:=by
 intro u
 induction u using Nat.strongRecOn with
 |ind u ih=>
  intro c hc
  rw [Lib.decDigits] at hc
  by_cases h:u<10
  · rw [dif_pos h] at hc
    obtain rfl:=List.mem_singleton.1 hc
    unfold oe_;rw [iR_ h];omega
  · rw [dif_neg h] at hc
    rcases List.mem_append.1 hc with hc|hc
    · exact ih (u / 10) (by omega) c hc
    · obtain rfl:=List.mem_singleton.1 hc
      unfold oe_;rw [iR_ (by omega)];omega
theorem ps_ (u:Nat):1≤(Lib.decDigits u).length:=by
 rw [Lib.decDigits]
 by_cases h:u<10
 · rw [dif_pos h];simp
 · rw [dif_neg h];simp
theorem dec_len:∀ (k u:Nat),u<10 ^ (k+1)→(Lib.decDigits u).length≤k+1
 |0,u,h=>by rw [Lib.decDigits,dif_pos (by simpa using h)];simp
 |k+1,u,h=>by
  rw [Lib.decDigits]
  by_cases h1:u<10
  · rw [dif_pos h1];simp
  · rw [dif_neg h1,List.length_append]
    have:=dec_len k (u / 10) (by rw [Nat.pow_succ] at h;omega)
    simp;omega
def jW_ (x:Nat) (l:Bs):Nat:=l.foldl (fun x c=>10*x+(c.toNat - 48)) x
theorem val_nil (x:Nat):jW_ x []=x:=rfl
theorem iv_ (x:Nat) (c:UInt8) (l:Bs):jW_ x (c::l)=jW_ (10*x+(c.toNat - 48)) l:=by unfold jW_;rw [List.foldl_cons]
theorem val_app (x:Nat) (a b:Bs):jW_ x (a++b)=jW_ (jW_ x a) b:=List.foldl_append
theorem oV_:∀ (u:Nat),jW_ 0 (Lib.decDigits u)=u:=by
 intro u
 induction u using Nat.strongRecOn with
 |ind u ih=>
  rw [Lib.decDigits]
  by_cases h:u<10
  · rw [dif_pos h,iv_,val_nil,iR_ h];omega
  · rw [dif_neg h,val_app,ih (u / 10) (by omega)]
    have e:=iR_ (d:=u % 10) (by omega)
    rw [iv_,val_nil,e]
    omega
theorem val_le:∀ (x:Nat) (l:Bs),x≤jW_ x l
 |_,[]=>Nat.le_refl _
 |x,c::l=>by rw [iv_];exact Nat.le_trans (by omega) (val_le _ l)
theorem pu_val:∀ (x:Nat) (l:Bs),(∀ c ∈ l,oe_ c)→jW_ x l≤1000000000000000000→Lib.parseUint10 x l = .ok (jW_ x l)
 |_,[],_,_=>rfl
 |x,c::l,h,hv=>by
  have hc:=h c (List.mem_cons_self ..)
  have h1:=val_le (10*x+(c.toNat - 48)) l
  rw [iv_] at hv ⊢
  unfold oe_ at hc
  rw [Lib.parseUint10,if_pos hc,if_neg (by omega),if_neg (by omega),show x*10+(c.toNat - 48)=10*x+(c.toNat - 48) by omega]
  exact pu_val _ l (fun c hc=>h c (List.mem_cons_of_mem _ hc)) hv
theorem li_ {n:Int} (h0 : -1000000000≤n) (h1:n≤1000000000):Lib.atoiAll (Lib.itoa n) = .ok n:=by
 unfold Lib.itoa
 have key:∀ u:Nat,u≤1000000000→Lib.parseMag (Lib.decDigits u) = .ok u:=by
  intro u hu
  have:=ps_ u
  unfold Lib.parseMag
  rw [if_neg (fun e=>by rw [e] at this;simp at this),pu_val 0 _ (nn_ u) (by rw [oV_];omega),oV_]
 by_cases hn:n<0
 · rw [if_pos hn,Lib.atoiAll_minus,key n.natAbs (by omega)]
   show (if 9223372036854775808<n.natAbs then Lib.NumEnd.range else .ok (-(n.natAbs:Int)))=_
   rw [if_neg (by omega),show (-(n.natAbs:Int))=n by omega]
 · rw [if_neg hn]
   have e:=key n.toNat (by omega)
   have hp:=ps_ n.toNat
   have hd:=nn_ n.toNat
   generalize Lib.decDigits n.toNat=l at e hp hd ⊢
   cases l with
   |nil=>simp at hp
   |cons c r=>
    have hc:=hd c (List.mem_cons_self ..)
    unfold oe_ at hc
    rw [Lib.atoiAll_plain c r (by omega) (by omega),e]
    show (if 9223372036854775808≤n.toNat then Lib.NumEnd.range else .ok (n.toNat:Int))=_
    rw [if_neg (by omega),show (n.toNat:Int)=n by omega]
theorem itoa_head (n:Int):∃ c t,Lib.itoa n=c::t∧(c=45∨oe_ c):=by
 unfold Lib.itoa
 by_cases h:n<0
 · rw [if_pos h];exact ⟨45,_,rfl,.inl rfl⟩
 · rw [if_neg h]
   have hp:=ps_ n.toNat
   have hd:=nn_ n.toNat
   generalize Lib.decDigits n.toNat=l at hp hd ⊢
   cases l with
   |nil=>simp at hp
   |cons c r=>exact ⟨c,r,rfl,.inr (hd c (List.mem_cons_self ..))⟩
structure Own2 (j:aa_):Prop where
 text:j.kind=3→i0_ j.s=true
 n0:j.kind≠1→j.kind≠2→j.n_=0
 s0:j.kind≠3→j.s=[]
 ns0:j.kind≠5→j.names=[]
theorem oP_ {j:aa_} (h:FOwn j=true):Own2 j:=by
 unfold FOwn FOwnK at h
 simp only [Bool.and_eq_true,Bool.or_eq_true] at h
 obtain ⟨h1,h2,h3,h4,h5⟩:=h
 refine ⟨fun hk => ?_,fun k1 k2 => ?_,fun k3 => ?_,fun k5 => ?_⟩
 · simpa only [hk,Int.reduceBEq,cond_true,cond_false] using h5
 · rcases h3 with h|h|h
   · simpa using h
   · exact absurd (by simpa using h) k1
   · exact absurd (by simpa using h) k2
 · rcases h4 with h|h
   · simpa using h
   · exact absurd (by simpa using h) k3
 · rcases h2 with h|h
   · exact List.eq_nil_of_length_eq_zero (of_decide_eq_true h)
   · exact absurd (by simpa using h) k5
theorem nU_ {d:Nat} {j:aa_} (h:b7_ (d+1) j≤400):FOwn j=true:=by
 simp only [b7_] at h
 cases ho:FOwn j with
 |false=>rw [ho,cond_false] at h;omega
 |true=>rfl
end Go.Pi
end
section
namespace Go.Pi
end Go.Pi
end
section
namespace Go.Pi
section
variable {β:Type} {g:Nat→Nat→Bool→Option β} {v:β}
end
section
variable {β:Type} {Q:β→Prop} {v:β}
end
theorem Atoi_ev {s:Bs} (h:s.length≤281474976710656):Ev (fun n _=>dG_ n s) (endOf s (Lib.atoiAll s)) :=
 au_ (by simp only [dG_,nAtoi,decide_eq_true h,cond_true,af_])
end Go.Pi
end
section
namespace Go.Pi
end Go.Pi
end
section
namespace Go.Pi
end Go.Pi
end
section
namespace Go.Pi
end Go.Pi
end
section
namespace Go.Pi
end Go.Pi
end
section
namespace Go.Pi
theorem gm_ {d:Nat} {j:aa_} (h:b7_ (d+1) j≤400) {x:aa_} (hx:x ∈ j.list):b7_ d x≤400:=by
 have:=(dZ_ h).2
 have:=gx_ (b7_ d) hx
 omega
theorem dD_:∀ (d:Nat) (j:aa_),b7_ d j≤400→ff_ d j
 |0,_,_=>trivial
 |d+1,j,h=>by
  have ho:=(dZ_ h).1
  have ho2:=oP_ (nU_ h)
  have hll:=f0_ h
  have hnl:=iJ_ h
  refine ⟨⟨?_,by simp only [bV_];omega,fun x hx => ?_⟩,by simp only [bV_];omega,fun x hx=>dD_ d x (gm_ h hx)⟩
  · by_cases hk:j.kind=3
    · have:=iZ_ (ho2.text hk);simp only [bV_];omega
    · rw [ho2.s0 hk];exact Nat.zero_le _
  · by_cases hk:j.kind=5
    · obtain ⟨i,hi,e⟩:=List.getElem_of_mem hx
      have:=hV_ (ho.obj hk).2 hi
      rw [List.getD_eq_getElem?_getD,List.getElem?_eq_getElem hi,Option.getD_some,e] at this
      simp only [bV_];omega
    · rw [ho2.ns0 hk] at hx;cases hx
theorem enc_ne {j:aa_} (h:dp_ j≠[]):b7_ 6 j≤400∧dp_ j=FEnc 6 j∧(FEnc 6 j).length≤6000:=by
 unfold dp_ at h ⊢
 cases hj:bF_ j with
 |false=>rw [hj] at h;exact absurd rfl h
 |true=>
  rw [hj] at h
  simp only [cond_true] at h ⊢
  cases hl:decide (((FEnc 6 j).length:Int) > 6000) with
  |true=>rw [hl] at h;exact absurd rfl h
  |false=>have:=of_decide_eq_false hl;exact ⟨of_decide_eq_true hj,rfl,by omega⟩
def FIdx (l:List Bs) (x:Bs):Int:=if l.findIdx (fun y=>y == x)<l.length then ((l.findIdx (fun y=>y == x):Nat):Int) else -1
theorem jJ_ {j:aa_} {x:Bs} (h:j.names.length≤bV_):Ev (fun n _=>ck_ n j x) (FIdx j.names x):=by
 refine au_ ?_
 unfold FIdx
 rw [←f6_ ([]:Bs) (fun y=>y == x) j.names]
 simp only [ck_]
 refine la_ (fun n N i=>ck_.loop3 n (some (-1)) N x (i:Int) j.kind j.n_ j.s j.list j.names) _ (fun i u hi ih => ?_) ?_
 · simp only [ck_.turn3,ck_.step3,Int.toNat_natCast,W_up hi h,am_,bB_,af_,dj_ ih,cy_ hi,cf_ hi]
   cases (j.names.getD i [] == x)<;>simp
 · simp only [ck_.turn3,ck_.step3,ca_,cond_false,af_]
theorem ln_ {l:List Bs} {x:Bs} (h:l.length≤bV_):Ev (fun n _=>aG_ n l x) (FIdx l x):=by
 refine au_ ?_
 unfold FIdx
 rw [←f6_ ([]:Bs) (fun y=>y == x) l]
 simp only [aG_]
 refine la_ (fun n N i=>aG_.loop3 n (some (-1)) N l x (l.length:Int) (i:Int)) _ (fun i u hi ih => ?_) ?_
 · simp only [aG_.turn3,aG_.step3,Int.toNat_natCast,W_up hi h,am_,bB_,af_,dj_ ih,cy_ hi,cf_ hi]
   rw [show (x == l.getD i [])=(l.getD i [] == x) from BEq.comm]
   cases (l.getD i [] == x)<;>simp
 · simp only [aG_.turn3,aG_.step3,ca_,cond_false,af_]
end Go.Pi
end
section
namespace Go.Pi
theorem p9_ (ns:List Bs) (x:Bs):dn_ ns x≤fi_ ns x:=by unfold fi_;split<;>omega
theorem sumL_cut {α:Type} (f:α→Nat) (l:List α) {a b:Nat} (h:a≤b):eD_ f (l.take a)+eD_ f (l.drop b)≤eD_ f l:=by
 have e:eD_ f l=eD_ f (l.take a)+eD_ f (l.drop a):=by rw [←fU_,List.take_append_drop]
 have e2:eD_ f (l.drop a)=eD_ f ((l.drop a).take (b - a))+eD_ f (l.drop b):=by
  rw [←fU_];congr 1
  have:l.drop b=(l.drop a).drop (b - a):=by rw [List.drop_drop];congr 1;omega
  rw [this,List.take_append_drop]
 omega
theorem nL_ {α:Type} (f:α→Nat) (ns:List Bs) (x:Bs) (l:List α) (y:α):ei_ f (hl_ ns x l y)≤ei_ f l+1+f y:=by
 have h:=p9_ ns x
 have h1:=sumL_cut f l h
 have h2:(l.take (dn_ ns x)).length+(l.drop (fi_ ns x)).length≤l.length:=by simp;omega
 unfold ei_ hl_
 rw [fU_,fU_]
 simp only [List.length_append,List.length_cons,List.length_nil,eD_]
 omega
def jB:Nat→Nat
 |0=>100
 |d+1=>10*jB d+1000
theorem m9_ (k n:Int) (s:Bs) (l:List aa_) (ns:List Bs):aa_.size (aa_.mk k n s l ns)=s.length+(ei_ aa_.size l+ei_ szB ns):=aa_.size_eq _
theorem oy_ {x:Bs} (h:x ∈ ([[97],[98],[99],[105,100],[110],[114,111,119,115],[],[97,47,98],[126]]:List Bs)):x.length≤4:=by
 simp only [List.mem_cons,List.not_mem_nil,or_false] at h
 rcases h with rfl|rfl|rfl|rfl|rfl|rfl|rfl|rfl|rfl<;>decide
theorem lO_ {c:ac_} (hc:DwOk c):Ans (fun n _=>cV_ n c) fun r=>r.1.length≤4∧DwOk r.2:=by
 refine b5_ ?_
 simp only [cV_]
 exact ax_ (gp_ hc (by simp)) fun r hr=>aD_.2 ⟨oy_ hr.1,hr.2⟩
section
variable {R:Nat→ac_→Int→Option (aa_ × ac_)} {B:Nat} {append:Int} {P:aa_ × ac_→Prop}
theorem rk_ {K:Nat→ab_.K20_1} {t40 t41 t42 t60 t61 t62} (hR:∀ c,DwOk c→Ans (fun n _=>R n c (W (append - 1))) fun r=>aa_.size r.1≤B∧DwOk r.2)
  (hK:∀ c o,DwOk c→o.length≤5→eD_ aa_.size o≤5*B→Ans (fun n _=>K n c.b c.i c.h t40 t41 t42 t60 t61 t62 o) P) {c:ac_} (hc:DwOk c) :
  Ans (fun n _=>ab_.loop20 n (R n) (K n) n append 0 c.b c.i c.h t40 t41 t42 t60 t61 t62 []) P:=by
 have key:∀ (m i:Nat) (c:ac_) (o:List aa_),i+m=5→DwOk c→o.length=i→eD_ aa_.size o≤i*B→Ans (fun n N=>ab_.loop20 n (R n) (K n) N append (i:Int) c.b c.i c.h t40 t41 t42 t60 t61 t62 o) P:=by
  intro m
  induction m with
  |zero=>
   intro i c o hi hc ho hs
   obtain rfl:i=5:=by omega
   refine cg_ ?_
   simp only [ab_.turn20,ab_.step20,cu_]
   refine ax_ (bc_ hc) fun r hr => ?_
   have h1:=hr.lo;have h2:=hr.hi
   rw [decide_eq_false (by omega)]
   simp only [cond_false]
   exact hK _ _ hr.cur (by omega) hs
  |succ m ih=>
   intro i c o hi hc ho hs
   have hiB:i*B≤5*B:=Nat.mul_le_mul_right _ (by omega)
   refine cg_ ?_
   simp only [ab_.turn20,ab_.step20,cu_]
   refine ax_ (bc_ hc) fun r hr => ?_
   simp only [bh_]
   refine ⟨fun _=>ax_ (hR _ hr.cur) fun r2 h2 => ?_,fun _=>hK _ _ hr.cur (by omega) (by omega)⟩
   simp only [d4_,up1 (show i≤1000000 by omega),aW_]
   refine ⟨by simp;omega,ih (i+1) r2.2 _ (by omega) h2.2 (by simp;omega) ?_⟩
   rw [fU_,Nat.add_mul,Nat.one_mul]
   have e:eD_ aa_.size [r2.1]=aa_.size r2.1:=by simp only [eD_,Nat.add_zero]
   rw [e]
   have:=h2.1
   omega
 exact d0_ (key 5 0 c [] rfl hc rfl (Nat.zero_le _))
theorem rj_ {K:Nat→ab_.K28_1} {t40 t41 t42} (hR:∀ c,DwOk c→Ans (fun n _=>R n c (W (append - 1))) fun r=>aa_.size r.1≤B∧DwOk r.2)
  (hK:∀ c j,DwOk c→aa_.size j≤5*B+50→j.list.length=j.names.length→Ans (fun n _=>K n c.b c.i c.h t40 t41 t42 j.kind j.n_ j.s j.list j.names) P) {c:ac_} (hc:DwOk c) (hB:B≤100000000) :
  Ans (fun n _=>ab_.loop28 n (R n) (K n) n append 0 c.b c.i c.h t40 t41 t42 5 0 [] [] []) P:=by
 have key:∀ (m i:Nat) (c:ac_) (j:aa_),i+m=5→DwOk c→aa_.size j≤i*(B+10)→j.list.length=j.names.length→j.names.length≤i→Ans (fun n N=>ab_.loop28 n (R n) (K n) N append (i:Int) c.b c.i c.h t40 t41 t42 j.kind j.n_ j.s j.list j.names) P:=by
  intro m
  induction m with
  |zero=>
   intro i c j hi hc hs hl hn
   obtain rfl:i=5:=by omega
   refine cg_ ?_
   simp only [ab_.turn28,ab_.step28,cu_]
   refine ax_ (bc_ hc) fun r hr => ?_
   have h1:=hr.lo;have h2:=hr.hi
   rw [decide_eq_false (by omega)]
   simp only [cond_false]
   exact hK _ _ hr.cur (by omega) hl
  |succ m ih=>
   intro i c j hi hc hs hl hn
   have hiB:i*(B+10)≤5*(B+10):=Nat.mul_le_mul_right _ (by omega)
   have hin:(i+1)*(B+10)=i*(B+10)+(B+10):=by rw [Nat.add_mul,Nat.one_mul]
   refine cg_ ?_
   simp only [ab_.turn28,ab_.step28,cu_,cA_]
   refine ax_ (bc_ hc) fun r hr => ?_
   simp only [bh_]
   refine ⟨fun _=>ax_ (lO_ hr.cur) fun nm hnm => ?_,fun _=>hK _ _ hr.cur (by omega) hl⟩
   have hA:=jJ_ (j:=j) (x:=nm.1) (by simp only [bV_];omega)
   rw [bf_ hA]
   simp only [bh_,up1 (show i≤1000000 by omega)]
   refine ⟨fun hneg=>ax_ (hR _ hnm.2) fun r2 h2 => ?_,fun _=>ih (i+1) nm.2 j (by omega) hnm.2 (by omega) hl (by omega)⟩
   have hneg:=of_decide_eq_true hneg
   have hno:∀ q,q<j.names.length→(j.names.getD q [] == nm.1)=false:=by
    intro q hq
    unfold FIdx at hneg
    split at hneg
    · omega
    · rename_i hf
      have:=List.findIdx_eq_length.1 (show j.names.findIdx (fun y=>y == nm.1)=j.names.length from Nat.le_antisymm List.findIdx_le_length (by omega)) _ (bw_ [] hq)
      exact this
   have hP:=fu_ (o:=j) (j:=r2.1) (x:=nm.1) (by omega) hl (fun _=>less_ne) (fun q _ h2=>hno q h2)
   simp only [aW_,bf_ hP]
   have p1:=nL_ aa_.size j.names nm.1 j.list r2.1
   have p2:=nL_ szB j.names nm.1 j.names nm.1
   have e:=aa_.size_eq j
   have hr2:=h2.1
   have hnl:=hnm.1
   have hsz:szB nm.1=nm.1.length:=rfl
   have q1:(hl_ j.names nm.1 j.list r2.1).length=(hl_ j.names nm.1 j.names nm.1).length:=by
    unfold hl_;simp only [List.length_append,List.length_take,List.length_drop,List.length_cons,List.length_nil];omega
   refine ih (i+1) r2.2 (aa_.mk 5 0 [] (hl_ j.names nm.1 j.list r2.1) (hl_ j.names nm.1 j.names nm.1)) (by omega) h2.2 ?_ q1 ?_
   · rw [m9_];simp only [List.length_nil];omega
   · show (hl_ j.names nm.1 j.names nm.1).length≤i+1
     have:=p9_ j.names nm.1
     unfold hl_;simp only [List.length_append,List.length_take,List.length_drop,List.length_cons,List.length_nil];omega
 exact d0_ (key 5 0 c (aa_.mk 5 0 [] [] []) rfl hc (by rw [m9_];simp [ei_,eD_]) rfl (Nat.le_refl _))
end
theorem jB_mono {a b:Nat} (h:a≤b):jB a≤jB b:=by
 induction b with
 |zero=>obtain rfl:a=0:=by omega
        exact Nat.le_refl _
 |succ b ih=>
  by_cases e:a=b+1
  · rw [e];exact Nat.le_refl _
  · have:=ih (by omega);simp only [jB];omega
theorem jS_ {x:Bs} (h:x ∈ ([[],[120],[97,34,98],[97,92,92,98],[104,101,108,108,111,32,116,104,101,114,101],[126,49]]:List Bs)):x.length≤20:=by
 simp only [List.mem_cons,List.not_mem_nil,or_false] at h
 rcases h with rfl|rfl|rfl|rfl|rfl|rfl<;>decide
theorem n7_ {k n:Int} {s:Bs} {B:Nat} (h:s.length≤20) (hB:100≤B):aa_.size (aa_.mk k n s [] [])≤B:=by
 rw [m9_];simp [ei_,eD_];omega
theorem jB_ge (d:Nat):100≤jB d:=jB_mono (a:=0) (Nat.zero_le d)
theorem eW_:∀ (d:Nat) (depth:Int) (c:ac_),d≤4→depth≤(d:Int)+1 → -1000000≤depth→DwOk c→Ans (fun n _=>ab_ n c depth) fun r=>aa_.size r.1≤jB d∧DwOk r.2:=by
 intro d
 induction d with
 |zero=>
  intro depth c hd h1 h2 hc
  have hge:=jB_ge 0
  refine b5_ ?_
  simp only [ab_]
  repeat' (first
   |(refine ax_ (bc_ (by assumption)) fun _ hd => ?_;obtain ⟨_,_,_⟩:=hd)
   |(refine ax_ (ey_ (by assumption) (by simp)) fun _ hd => ?_;obtain ⟨_,_⟩:=hd)
   |(refine ax_ (gp_ (by assumption) (by simp)) fun _ hd => ?_;obtain ⟨_,_⟩:=hd)
   |(with_reducible refine bh_.2 ⟨fun _ => ?_,fun _ => ?_⟩)
   |((with_reducible refine aD_.2 ?_);exact ⟨n7_ (by first|exact Nat.zero_le _|(exact jS_ (by assumption))) hge,by assumption⟩)
   |(exfalso;simp only [beq_iff_eq,beq_eq_false_iff_ne,decide_eq_true_eq,decide_eq_false_iff_not,ne_eq] at *;omega))
 |succ d ih=>
  intro depth c hd h1 h2 hc
  have hge:=jB_ge (d+1)
  have e0:jB (d+1)=10*jB d+1000:=rfl
  have hB:jB d≤100000000:=Nat.le_trans (jB_mono (show d≤4 by omega)) (by decide)
  have hge0:=jB_ge d
  have hR:¬ depth≤1→∀ c,DwOk c→Ans (fun n _=>ab_ n c (W (depth - 1))) fun r=>aa_.size r.1≤jB d∧DwOk r.2:=fun hn c hc=>by
   rw [Wn (by omega) (by omega)]
   exact ih (depth - 1) c (by omega) (by omega) (by omega) hc
  refine b5_ ?_
  simp only [ab_]
  repeat' (first
   |(refine ax_ (bc_ (by assumption)) fun _ hd => ?_;obtain ⟨_,_,_⟩:=hd)
   |(refine ax_ (ey_ (by assumption) (by simp)) fun _ hd => ?_;obtain ⟨_,_⟩:=hd)
   |(refine ax_ (gp_ (by assumption) (by simp)) fun _ hd => ?_;obtain ⟨_,_⟩:=hd)
   |(with_reducible refine bh_.2 ⟨fun _ => ?_,fun _ => ?_⟩)
   |((with_reducible refine aD_.2 ?_);exact ⟨n7_ (by first|exact Nat.zero_le _|(exact jS_ (by assumption))) hge,by assumption⟩)
   |(exfalso;simp only [beq_iff_eq,beq_eq_false_iff_ne,decide_eq_true_eq,decide_eq_false_iff_not,ne_eq] at *;omega)
   |(refine rk_ (hR (by simp only [decide_eq_false_iff_not] at *;assumption)) (fun _ o hc' ho hs=>aD_.2 ⟨?_,hc'⟩) (by assumption))
   |(refine rj_ (hR (by simp only [decide_eq_false_iff_not] at *;assumption)) (fun _ j hc' hs hl=>aD_.2 ⟨?_,hc'⟩) (by assumption) hB))
  all_goals (first
   |(show aa_.size (aa_.mk _ _ _ _ _)≤_;rw [m9_];simp only [ei_,eD_,List.length_nil];omega)
   |(show aa_.size (aa_.mk _ _ _ _ _)≤_;rw [cA_];exact Nat.le_trans hs (by omega)))
end Go.Pi
end
section
namespace Go.Pi
def FPos (s:Bs):Int:=match (List.range 1000).find? (fun x:Nat=>Lib.itoa (x:Int) == s) with
 |some x=>(x:Int)
 |none => -1
theorem q4_ {x y:Nat} (hx:x≤999) (hy:y≤999) (h:Lib.itoa (x:Int)=Lib.itoa (y:Int)):x=y:=by
 have h1:=li_ (n:=(x:Int)) (by omega) (by omega)
 have h2:=li_ (n:=(y:Int)) (by omega) (by omega)
 rw [h,h2] at h1
 cases h1;rfl
theorem pos_itoa {x:Nat} (h:x≤999):FPos (Lib.itoa (x:Int))=x:=by
 unfold FPos
 cases e:(List.range 1000).find? (fun y:Nat=>Lib.itoa (y:Int) == Lib.itoa (x:Int)) with
 |none=>
  have:=List.find?_eq_none.1 e x (List.mem_range.2 (by omega))
  simp at this
 |some y=>
  have h1:=List.find?_some e
  have h3:=List.mem_range.1 (List.mem_of_find?_eq_some e)
  have h2:=q4_ (x:=y) (y:=x) (by omega) h (eq_of_beq h1)
  show ((y:Nat):Int)=(x:Int)
  rw [h2]
theorem pos_none {s:Bs} (h:∀ x:Nat,x≤999→Lib.itoa (x:Int)≠s):FPos s = -1:=by
 unfold FPos
 rw [List.find?_eq_none.2 fun x hx=>by have:=h x (by have:=List.mem_range.1 hx;omega);simp;exact this]
theorem hm_ (s:Bs):(∃ x:Nat,x≤999∧s=Lib.itoa (x:Int)∧FPos s=x)∨((∀ x:Nat,x≤999→Lib.itoa (x:Int)≠s)∧FPos s = -1):=by
 by_cases h:∃ x:Nat,x≤999∧s=Lib.itoa (x:Int)
 · obtain ⟨x,h1,rfl⟩:=h
   exact .inl ⟨x,h1,rfl,pos_itoa h1⟩
 · have h':∀ x:Nat,x≤999→Lib.itoa (x:Int)≠s:=fun x hx e=>h ⟨x,hx,e.symm⟩
   exact .inr ⟨h',pos_none h'⟩
theorem kL_ (s:Bs) : -1≤FPos s∧FPos s≤999:=by
 rcases hm_ s with ⟨x,h,_,e⟩|⟨_,e⟩<;>rw [e]<;>omega
theorem qk_ (x:Nat):Lib.itoa (x:Int)=Lib.decDigits x:=by
 unfold Lib.itoa
 rw [if_neg (by omega)]
 simp
theorem hv_ {s:Bs} (hs:s.length≤281474976710656):Ev (fun n _=>dw_ n s) (FPos s):=by
 refine au_ ?_
 simp only [dw_,ad_ (Atoi_ev hs)]
 rcases hm_ s with ⟨x,h,rfl,e⟩|⟨h,e⟩
 · rw [li_ (n:=(x:Int)) (by omega) (by omega),e]
   have e2:endOf (Lib.itoa (x:Int)) (.ok (x:Int))=((x:Int),true):=rfl
   have e3:inn (x:Int) 0 999=true:=by simp [inn];omega
   simp only [e2,e3,Bool.not_true,cond_false,ad_ iu_,af_,ad_ (pH_ (x:=(x:Int)) (by omega) (by omega)),beq_self_eq_true]
 · rw [e]
   generalize endOf s (Lib.atoiAll s)=v
   obtain ⟨x,ok⟩:=v
   simp only [am_,af_,ad_ iu_]
   refine ⟨fun _=>trivial,fun _=>⟨fun _=>trivial,fun hw => ?_⟩⟩
   have hw:0≤x∧x≤999:=by simpa [inn] using hw
   have hne:=h x.toNat (by omega)
   rw [Int.toNat_of_nonneg hw.1] at hne
   simp only [ad_ (pH_ (x:=x) (by omega) (by omega)),am_,af_]
   exact ⟨fun _=>trivial,fun hq=>by simp [hne] at hq⟩
def FVal (x:Nat):Bs→Option Nat
 |[]=>some x
 |c::l=>if 48≤c.toNat∧c.toNat≤57 then FVal (10*x+(c.toNat - 48)) l else none
theorem qr_:∀ (x:Nat) (l:Bs),(∀ c ∈ l,oe_ c)→FVal x l=some (jW_ x l)
 |_,[],_=>rfl
 |x,c::l,h=>by
  unfold FVal
  rw [if_pos (show 48≤c.toNat∧c.toNat≤57 from h c (List.mem_cons_self ..)),qr_ _ l fun y hy=>h y (List.mem_cons_of_mem _ hy),iv_]
theorem fval_lt:∀ (l:Bs) (x i y:Nat),x<10 ^ i→FVal x l=some y→y<10 ^ (i+l.length)
 |[],x,i,y,hx,h=>by
  simp only [FVal,Option.some.injEq] at h
  subst h;simpa using hx
 |c::l,x,i,y,hx,h=>by
  unfold FVal at h
  split at h
  · rename_i hc
    have:=fval_lt l _ (i+1) y (by rw [Nat.pow_succ];omega) h
    rw [List.length_cons,show i+(l.length+1)=i+1+l.length by omega]
    exact this
  · cases h
def FPos1 (s:Bs):Option Nat→Int
 |some y=>cond (!(Lib.itoa (y:Int) == s)) (-1) y
 |none => -1
theorem fH_ {s:Bs}:Ev (fun n _=>bk_ n s) (FPos s):=by
 refine au_ ?_
 simp only [bk_,am_,af_]
 refine ⟨fun h => ?_,fun _=>⟨fun h => ?_,fun hl => ?_⟩⟩
 · have:s=[]:=by simpa using h
   subst this
   rcases hm_ [] with ⟨x,h1,h2,h3⟩|⟨_,e⟩
   · obtain ⟨c,t,e,_⟩:=itoa_head (x:Int)
     rw [e] at h2;cases h2
   · exact e.symm
 · rcases hm_ s with ⟨x,h1,h2,h3⟩|⟨_,e⟩
   · have h:=of_decide_eq_true h
     have:=dec_len 2 x (by omega)
     rw [h2,qk_] at h
     omega
   · exact e.symm
 · have hl:s.length≤3:=by have:=of_decide_eq_false hl;omega
   have key:∀ (m i x:Nat),i+m=s.length→x<10 ^ i →
     Ev (fun n N=>bk_.loop7 n (fun xy1 xy2=>((aQ_ n xy2).bind fun xr3=>(cond (!(xr3 == xy1)) (some (-1)) (some xy2)))) N s (x:Int) (i:Int)) (FPos1 s (FVal x (s.drop i))):=by
    intro m
    induction m with
    |zero=>
     intro i x hi hx
     have:i=s.length:=by omega
     subst this
     have hx3:10 ^ s.length≤10 ^ 3:=Nat.pow_le_pow_right (by omega) hl
     refine b4_ ?_
     simp only [bk_.turn7,bk_.step7,ca_,cond_false,List.drop_length,FVal,FPos1,ad_ (dB_ (x:=(x:Int)) (by omega) (by omega)),am_,af_]
     cases (!(Lib.itoa (x:Int) == s))<;>simp
    |succ m ih=>
     intro i x hi hx
     have hlt:i<s.length:=by omega
     have hx3:10 ^ i≤10 ^ 3:=Nat.pow_le_pow_right (by omega) (by omega)
     have hW:=W_up hlt (show s.length≤bV_ by simp only [bV_];omega)
     have hd:=ep_ 0 hlt
     refine b4_ ?_
     simp only [bk_.turn7,bk_.step7,cy_ hlt,cond_true,bB_,cf_ hlt,true_and,Int.toNat_natCast,hW,am_,af_]
     rw [hd,FVal]
     have hc:(s.getD i 0).toNat≤255:=by have:=(s.getD i 0).toNat_lt;omega
     refine ⟨fun h => ?_,fun h=>⟨fun h2 => ?_,fun h2 => ?_⟩⟩
     · have h:=of_decide_eq_true h
       rw [if_neg (by omega)];rfl
     · have h2:=of_decide_eq_true h2
       rw [if_neg (by omega)];rfl
     · have h:=of_decide_eq_false h
       have h2:=of_decide_eq_false h2
       rw [if_pos (by omega)]
       have e:W (W (W (10*(x:Int))+W ((s.getD i 0).toNat:Int)) - 48)=((10*x+((s.getD i 0).toNat - 48):Nat):Int):=by
        rw [W_id (n:=10*(x:Int)) (by omega) (by omega),W_id (n:=((s.getD i 0).toNat:Int)) (by omega) (by omega),W_id (n:=10*(x:Int)+((s.getD i 0).toNat:Int)) (by omega) (by omega),W_id (by omega) (by omega)]
        omega
       rw [e]
       exact ih (i+1) _ (by omega) (by rw [Nat.pow_succ];omega)
   have hk:=key s.length 0 0 (by omega) (by omega)
   have e:FPos1 s (FVal 0 (s.drop 0))=FPos s:=by
    rw [List.drop_zero]
    rcases hm_ s with ⟨x,h1,h2,h3⟩|⟨h,e⟩
    · rw [h3]
      have:FVal 0 s=some x:=by rw [h2,qk_,qr_ _ _ (nn_ x),oV_]
      rw [this,FPos1,←h2]
      simp
    · rw [e]
      cases hv:FVal 0 s with
      |none=>rfl
      |some y=>
       have:=fval_lt s 0 0 y (by omega) hv
       have hx3:10 ^ (0+s.length)≤10 ^ 3:=Nat.pow_le_pow_right (by omega) (by omega)
       have:=h y (by omega)
       have hb:(Lib.itoa (y:Int) == s)=false:=beq_eq_false_iff_ne.2 this
       simp only [FPos1,hb,Bool.not_false,cond_true]
   rw [e] at hk
   exact d3_ (f:=fun n N=>bk_.loop7 n (fun xy1 xy2=>((aQ_ n xy2).bind fun xr3=>(cond (!(xr3 == xy1)) (some (-1)) (some xy2)))) N s 0 0) hk
end Go.Pi
end
section
namespace Go.Pi
def FAt (j:aa_) (s:Bs):Int:=cond (j.kind == 5) (FIdx j.names s) (cond (j.kind == 4) (cond (decide (FPos s<(j.list.length:Int))) (FPos s) (-1)) (-1))
theorem idx_low (l:List Bs) (x:Bs) : -1≤FIdx l x∧FIdx l x<(l.length:Int):=by
 unfold FIdx
 split<;>omega
theorem g9_ {j:aa_} {s:Bs} (hn:j.names.length≤bV_):Ev (fun n _=>ek_ n j s) (FAt j s):=by
 refine au_ ?_
 simp only [ek_,aW_,am_,ad_ (jJ_ (x:=s) hn),ad_ fH_,af_,FAt]
 cases (j.kind == 5)<;>cases (j.kind == 4)<;>cases (decide (FPos s<(j.list.length:Int)))<;>simp
theorem k2_ {j:aa_} {s:Bs} (hn:j.names.length≤bV_) (he:j.kind=5→j.list.length=j.names.length) (hs:s.length≤281474976710656):Ev (fun n _=>dv_ n j s) (FAt j s):=by
 refine au_ ?_
 simp only [dv_,aW_,am_,ad_ (ln_ (x:=s) hn),ad_ (hv_ hs),af_,FAt]
 have h1:=idx_low j.names s
 refine ⟨fun h5 => ?_,fun h5=>⟨fun h4 => ?_,fun h4 => ?_⟩⟩
 · have hk:j.kind=5:=by simpa using h5
   have:=he hk
   rw [h5]
   exact ⟨fun h=>by have:=of_decide_eq_true h;omega,fun _=>rfl⟩
 · rw [h5,h4]
   refine ⟨fun h => ?_,fun h => ?_⟩
   · have:=of_decide_eq_true h
     rw [decide_eq_false (by omega)];rfl
   · have:=of_decide_eq_false h
     rw [decide_eq_true (by omega)];rfl
 · rw [h5,h4]
   exact ⟨fun _=>rfl,fun _=>rfl⟩
theorem iU_ (j:aa_) (s:Bs) (he:j.kind=5→j.list.length=j.names.length) : -1≤FAt j s∧FAt j s<(j.list.length:Int):=by
 have h1:=idx_low j.names s
 have h2:=kL_ s
 unfold FAt
 cases h5:(j.kind == 5)
 · cases h4:(j.kind == 4)
   · simp;omega
   · simp only [cond_false,cond_true]
     cases hd:decide (FPos s<(j.list.length:Int))
     · simp;omega
     · have:=of_decide_eq_true hd
       simp only [cond_true];omega
 · have hk:j.kind=5:=by simpa using h5
   have:=he hk
   simp only [cond_true];omega
end Go.Pi
end
section
namespace Go.Pi
theorem kT_ (j:aa_) (h:aa_.size j≤bV_):aa_.len j:=by
 have e:=aa_.size_eq j
 have e1:ei_ aa_.size j.list=j.list.length+eD_ aa_.size j.list:=rfl
 have e2:ei_ szB j.names=j.names.length+eD_ szB j.names:=rfl
 have hx:∀ x ∈ j.list,aa_.len x:=fun x hx=>kT_ x (by have:=gx_ aa_.size hx;omega)
 exact (aa_.len_iff j).2 ⟨by omega,⟨by omega,hx⟩,by omega,fun x hx=>by have:=gx_ szB hx;show x.length≤bV_;have:szB x=x.length:=rfl;omega⟩
termination_by SizeOf.sizeOf j.list
decreasing_by exact aa_.dec hx
theorem f2_ {j:aa_} {B:Nat} (h:aa_.size j≤B) (hB:B≤bV_):ff_ 6 j:=qg_ 6 _ (kT_ j (Nat.le_trans h hB))
abbrev dB:Nat:=1000000
theorem lX_:∀ n:Nat,eD_ aa_.size (List.replicate n aa_.dflt)=0
 |0=>rfl
 |n+1=>by rw [List.replicate_succ];simp only [eD_,lX_ n];decide
theorem pick3_len {x:Bs} (h:x ∈ ([[120],[1],[127]]:List Bs)):x.length≤1:=by
 simp only [List.mem_cons,List.not_mem_nil,or_false] at h
 rcases h with rfl|rfl|rfl<;>decide
theorem ma_ {c:ac_} (hc:DwOk c):Ans (fun n _=>bo_ n c) fun r=>aa_.size r.1≤dB∧DwOk r.2:=by
 have hj3:jB 3=211000:=rfl
 have hW:∀ x:Int,0≤x→x<2∨x=0→W (399+x)=399+x:=fun x h1 h2=>Wn (by omega) (by omega)
 refine b5_ ?_
 simp only [bo_]
 refine ax_ (eW_ 3 4 c (by decide) (by decide) (by decide) hc) fun j hj => ?_
 obtain ⟨hs,hcu⟩:=hj
 rw [hj3] at hs
 have e:=aa_.size_eq j.1
 have key:∀ (m i:Nat) (c:ac_) (q:aa_),i+m=5→DwOk c→aa_.size q≤211000+i→Ans (fun n N=>bo_.loop10 n (fun xy6 xy7 xy8 xy9 xy10 xy11 xy12 xy13 xy14 xy15 xy16=>(some ((aa_.mk xy12 xy13 xy14 xy15 xy16),(ac_.mk xy6 xy7 xy8)))) N (i:Int) c.b c.i c.h 0 0 [] q.kind q.n_ q.s q.list q.names) fun r=>aa_.size r.1≤dB∧DwOk r.2:=by
  intro m
  induction m with
  |zero=>
   intro i c q hi hc hq
   obtain rfl:i=5:=by omega
   refine cg_ ?_
   simp only [bo_.turn10,bo_.step10]
   rw [decide_eq_false (by omega)]
   simp only [cond_false,cA_,cu_,aD_]
   exact ⟨by simp only [dB];omega,hc⟩
  |succ m ih=>
   intro i c q hi hc hq
   refine cg_ ?_
   simp only [bo_.turn10,bo_.step10,cA_]
   rw [decide_eq_true (by omega)]
   simp only [cond_true,up1 (show i≤1000000 by omega)]
   refine ih (i+1) c (aa_.mk 4 0 [] [q] []) (by omega) hc ?_
   rw [m9_]
   simp only [ei_,eD_,List.length_cons,List.length_nil];omega
 repeat' (first
  |(refine ax_ (bc_ (by assumption)) fun _ hd => ?_;obtain ⟨_,_,_⟩:=hd)
  |(refine ax_ (ey_ (by assumption) (by simp)) fun _ hd => ?_;obtain ⟨_,_⟩:=hd)
  |(refine ax_ (gp_ (by assumption) (by simp)) fun _ hd => ?_;obtain ⟨hpk,_⟩:=hd)
  |(with_reducible refine bh_.2 ⟨fun _ => ?_,fun _ => ?_⟩)
  |(with_reducible refine d4_.2 ⟨?_,?_⟩)
  |((with_reducible refine aD_.2 ?_);refine ⟨?_,by assumption⟩)
  |(exact d0_ (key 5 0 _ j.1 rfl (by assumption) (by omega))))
 all_goals (try simp only [aW_,cA_])
 all_goals (first
  |(show aa_.size j.1≤dB;simp only [dB];omega)
  |(show aa_.size (aa_.mk _ _ _ _ _)≤dB;rw [m9_];simp only [dB];omega)
  |skip)
 · show aa_.size (aa_.mk _ _ _ _ _)≤dB
   have:_≤1:=pick3_len hpk
   rw [m9_];simp only [dB];omega
 · have:ei_ szB j.1.names=j.1.names.length+eD_ szB j.1.names:=rfl
   simp;omega
 · show aa_.size (aa_.mk _ _ _ _ _)≤dB
   have h1:ei_ szB j.1.names=j.1.names.length+eD_ szB j.1.names:=rfl
   have h2:ei_ szB (j.1.names++[[97]])=(j.1.names.length+1)+(eD_ szB j.1.names+1):=by
    unfold ei_;rw [fU_,List.length_append];rfl
   rw [m9_,h2];simp only [dB];omega
 · rename_i x _ h1 h2 _ _ _ _
   show aa_.size (aa_.mk _ _ _ _ _)≤dB
   rw [m9_,hW _ h1 h2]
   unfold ei_
   rw [lX_]
   simp only [List.length_replicate,eD_,List.length_nil,dB];omega
 · exfalso;rename_i x _ h1 h2 _ _ _ h;rw [hW _ h1 h2] at h;have:=of_decide_eq_false h;omega
 · exfalso;rename_i x _ h1 h2 _ _ h;rw [hW _ h1 h2] at h;have:=of_decide_eq_false h;omega
 · exfalso;rename_i h;exact of_decide_eq_false h trivial
def wayIn (w:List Bs):Prop:=w.length≤8∧∀ x ∈ w,x.length≤20
theorem pick7_len {x:Bs} (h:x ∈ ([[97],[48],[49],[45],[114,111,119,115],[48,48],[122,122]]:List Bs)):x.length≤20:=by
 simp only [List.mem_cons,List.not_mem_nil,or_false] at h
 rcases h with rfl|rfl|rfl|rfl|rfl|rfl|rfl<;>decide
theorem lN_ {c:ac_} (hc:DwOk c):Ans (fun n _=>ba_ n c (aa_.mk 0 0 [] [] [])) fun r=>(r.1.length≤1∧∀ x ∈ r.1,x.length≤20)∧DwOk r.2:=by
 refine b5_ ?_
 simp only [ba_]
 refine d0_ (f:=fun n N=>ba_.loop4 n (fun xy4 xy5 xy6 xy7=>((b1_ n (ac_.mk xy4 xy5 xy6) 5).bind fun xr8=>(cond xr8.1 ((cU_ n xr8.2 ([[97],[48],[49],[45],[114,111,119,115],[48,48],[122,122]]:List Bs)).bind fun xr9=>(bq_ (xy7.length+([xr9.1]:List Bs).length) 16 (some ((xy7++([xr9.1]:List Bs)),xr9.2)))) (some (xy7,xr8.2))))) N 0 c.b c.i c.h 0 0 [] [] [] []) (cg_ ?_)
 simp only [ba_.turn4,ba_.step4,cu_,show decide ((0:Int)<5)=true from rfl,show decide ((([]:List aa_).length:Int) > 0)=false from rfl,cond_true,cond_false]
 refine ax_ (ez_ hc) fun r hr => ?_
 simp only [bh_,aD_]
 refine ⟨fun _=>ax_ (gp_ hr (by simp)) fun r2 h2 => ?_,fun _=>⟨⟨Nat.zero_le _,fun x hx=>(by cases hx)⟩,hr⟩⟩
 simp only [d4_,aD_]
 exact ⟨by simp,⟨by simp,fun x hx=>by
  have hx':x ∈ [r2.1]:=by simpa using hx
  rw [List.mem_singleton.1 hx'];exact pick7_len h2.1⟩,h2.2⟩
theorem Get_null {w:List Bs} (h:w.length≤1):Ans (fun n _=>cr_ n (aa_.mk 0 0 [] [] []) w) fun r=>r.1=aa_.mk 0 0 [] [] []:=by
 have hJ:=cD_ (j:=aa_.mk 0 0 [] [] []) (en_ 6)
 have hok:bF_ (aa_.mk 0 0 [] [] [])=true:=by decide
 rw [hok] at hJ
 have hC:=cR_ 6 (aa_.mk 0 0 [] [] []) (of_decide_eq_true hok)
 refine b5_ ?_
 simp only [cr_,aW_,bf_ hJ,Bool.not_true,cond_false]
 cases w with
 |nil=>
  refine d0_ (f:=fun n N=>cr_.loop6 n (fun xy3 xy4 xy5 xy6 xy7 xy8 xy9 xy10=>((aB_ n (aa_.mk xy3 xy4 xy5 xy6 xy7)).bind fun xr11=>(some (xr11,true)))) N [] 0 0 0 [] [] [] 0 0 []) (cg_ ?_)
  simp only [cr_.turn6,cr_.step6,List.length_nil,show decide ((0:Int)<((0:Nat):Int))=false from rfl,cond_false,bf_ hC,aD_]
 |cons x l=>
  have hl:l=[]:=by simpa using h
  subst hl
  have hA:=g9_ (j:=aa_.mk 0 0 [] [] []) (s:=x) (Nat.zero_le _)
  have hr:=iU_ (aa_.mk 0 0 [] [] []) x (fun h=>by cases h)
  have hneg:FAt (aa_.mk 0 0 [] [] []) x<0:=by
   have:((aa_.mk 0 0 [] [] []).list.length:Int)=0:=rfl
   omega
  refine d0_ (f:=fun n N=>cr_.loop6 n (fun xy3 xy4 xy5 xy6 xy7 xy8 xy9 xy10=>((aB_ n (aa_.mk xy3 xy4 xy5 xy6 xy7)).bind fun xr11=>(some (xr11,true)))) N [x] 0 0 0 [] [] [] 0 0 []) (cg_ ?_)
  simp only [cr_.turn6,cr_.step6,List.length_singleton,show decide ((0:Int)<((1:Nat):Int))=true from rfl,cond_true,do_]
  refine ⟨by omega,?_⟩
  rw [show ([x]:List Bs).getD (0:Int).toNat []=x from rfl,bf_ hA,decide_eq_true hneg]
  simp only [cond_true,aD_]
theorem m6_ {c:ac_} (hc:DwOk c):Ans (fun n _=>dk_ n c (aa_.mk 0 0 [] [] [])) fun r=>(wayIn r.1.way∧aa_.size r.1.value≤dB)∧DwOk r.2:=by
 have hz:aa_.size (aa_.mk 0 0 [] [] [])≤dB:=by decide
 have hj1:jB 1≤dB:=by decide
 refine b5_ ?_
 simp only [dk_,aW_]
 refine ax_ (bc_ hc) fun k hk => ?_
 refine ax_ (lN_ hk.cur) fun w hw => ?_
 obtain ⟨⟨w1,w2⟩,hcu⟩:=hw
 have hw:wayIn w.1:=⟨by omega,w2⟩
 have hw1:wayIn (w.1++[[1]]):=⟨by simp;omega,fun x hx=>by
  rcases List.mem_append.1 hx with h|h
  · exact w2 x h
  · rw [List.mem_singleton.1 h];decide⟩
 have hw7:wayIn [[97],[97],[97],[97],[97],[97],[97]]:=⟨by decide,by decide⟩
 repeat' (first
  |(refine ax_ (bc_ (by assumption)) fun _ hd => ?_;obtain ⟨_,_,_⟩:=hd)
  |(refine ax_ (ez_ (by assumption)) fun _ _ => ?_)
  |(refine ax_ (eW_ 1 2 _ (by decide) (by decide) (by decide) (by assumption)) fun _ hd => ?_;obtain ⟨_,_⟩:=hd)
  |(refine ax_ (ma_ (by assumption)) fun _ hd => ?_;obtain ⟨_,_⟩:=hd)
  |(refine ax_ (Get_null w1) fun _ hg => ?_)
  |(with_reducible refine bh_.2 ⟨fun _ => ?_,fun _ => ?_⟩)
  |(with_reducible refine d4_.2 ⟨by simp;omega,?_⟩)
  |((with_reducible refine aD_.2 ?_);refine ⟨⟨by first|exact hw|exact hw1|exact hw7,?_⟩,by assumption⟩))
 all_goals (first|exact hz|assumption|(refine Nat.le_trans ?_ hj1;assumption)|(simp only [hg];exact hz)|skip)
end Go.Pi
end
section
namespace Go.Pi
def ascB:List Bs→Prop
 |[]=>True
 |k::l=>(∀ y ∈ l,k<y)∧ascB l
theorem qF_:∀ {l:List Bs},ascB l→ge_ (l.map fun y=>(y,(0:Int)))
 |[],_=>trivial
 |k::l,h=>⟨fun p hp=>by
   obtain ⟨y,hy,rfl⟩:=List.mem_map.1 hp
   exact h.1 y hy,qF_ h.2⟩
theorem keys_map (l:List Bs):(l.map fun y=>(y,(0:Int))).map (·.1)=l:=by
 rw [List.map_map];exact List.map_id'' (fun _=>rfl) l
theorem ascB_ne {l:List Bs} {x:Bs} (h:ascB l):∀ i,fi_ l x≤i→i<l.length→(l.getD i [] == x)=false:=by
 have:=asc_ne (x:=x) (qF_ h)
 rw [keys_map] at this
 exact this
theorem o6_ {k x:Bs} {ns:List Bs}:dn_ (k::ns) x=if k<x then dn_ ns x+1 else 0:=by
 by_cases h:k<x
 · have hb:Op.bytesLess k x=true:=by rw [e7_];exact decide_eq_true h
   rw [if_pos h];unfold dn_;rw [List.findIdx_cons];simp [hb]
 · have hb:Op.bytesLess k x=false:=by rw [e7_];exact decide_eq_false h
   rw [if_neg h];unfold dn_;rw [List.findIdx_cons];simp [hb]
theorem oG_ {x:Bs}:∀ {l:List Bs},ascB l→∀ h,h<l.length→Op.bytesLess (l.getD h []) x=decide (h<dn_ l x)
 |[],_,h,hh=>by simp at hh
 |k::l,ha,h,hh=>by
  rw [e7_]
  simp only [o6_]
  cases h with
  |zero=>
   simp only [List.getD_cons_zero]
   by_cases hk:k<x
   · rw [if_pos hk,decide_eq_true hk];simp
   · rw [if_neg hk,decide_eq_false hk];simp
  |succ h=>
   have hh':h<l.length:=by simpa using hh
   simp only [List.getD_cons_succ]
   by_cases hk:k<x
   · have:=oG_ (x:=x) ha.2 h hh'
     rw [e7_] at this
     rw [if_pos hk,this]
     simp
   · rw [if_neg hk]
     have hm:=ha.1 _ (bw_ (d:=([]:Bs)) (a:=l) hh')
     rw [decide_eq_false fun h2=>hk (List.lt_trans hm h2)]
     simp
theorem l8_:∀ {l:List Bs},(∀ i,i+1<l.length→l.getD i []<l.getD (i+1) [])→ascB l
 |[],_=>trivial
 |[k],_=>⟨fun y hy=>(by cases hy),trivial⟩
 |k::k2::l,h=>by
  have h2:ascB (k2::l):=l8_ fun i hi=>h (i+1) (by simpa using hi)
  have h0:k<k2:=h 0 (by simp)
  refine ⟨fun y hy => ?_,h2⟩
  rcases List.mem_cons.1 hy with rfl|hy
  · exact h0
  · exact List.lt_trans h0 (h2.1 y hy)
theorem mw_ {l:List Bs} (h:i4_ l=true):ascB l:=by
 refine l8_ fun i hi => ?_
 have:=fg_.1 h (i+1) hi
 simp only [Bool.and_eq_true,Bool.or_eq_true,decide_eq_true_eq,Nat.add_sub_cancel] at this
 rcases this.2 with h|h
 · omega
 · rw [e7_] at h;exact of_decide_eq_true h
end Go.Pi
end
section
namespace Go.Pi
def Ok2 (x:Option aa_) (r:aa_ × Bool):Prop:=r.2=x.isSome∧∀ y,x=some y→r.1=y
theorem fZ_ {j:aa_}:Ok2 none (j,false):=⟨rfl,fun y h=>(by cases h)⟩
theorem ef_ {j:aa_}:Ok2 (some j) (j,true):=⟨rfl,fun y h=>(by cases h;rfl)⟩
def j2_ {α:Type} (l:List α) (k:Nat) (v:α):List α:=l.take k++[v]++l.drop k
def addAt (j:aa_) (name:Bs):Int:=cond (name == [45]) (j.list.length:Int) (FPos name)
def FAdd (j:aa_) (name:Bs) (v:aa_):Option aa_ :=
 cond (j.kind == 5) (some (aa_.mk 5 0 [] (hl_ j.names name j.list v) (hl_ j.names name j.names name)))
  (cond (j.kind == 4) (cond (inn (addAt j name) 0 (j.list.length:Int)) (some (aa_.mk j.kind j.n_ j.s (j2_ j.list (addAt j name).toNat v) j.names)) none) none)
theorem size_pos:∀ (d:Nat) (x:aa_),1≤b7_ d x
 |0,_=>by simp [b7_]
 |d+1,x=>by
  simp only [b7_]
  cases FOwn x<;>simp only [cond_true,cond_false]<;>omega
theorem sum_len (d:Nat):∀ l:List aa_,l.length≤eD_ (b7_ d) l
 |[]=>Nat.zero_le _
 |x::l=>by
  have h1:=sum_len d l
  have h2:=size_pos d x
  show l.length+1≤b7_ d x+eD_ (b7_ d) l
  omega
theorem gn_ {d:Nat} {j:aa_} (h:b7_ (d+1) j≤400):j.list.length≤399:=by
 have h1:=(dZ_ h).2
 have h2:=sum_len d j.list
 omega
theorem kc_ {l:List Bs} {k:Nat} {x:Bs} (h:k≤l.length) (hl:l.length≤10000):Ev (fun n _=>cn_ n l (k:Int) [x]) (j2_ l k x):=by
 refine au_ ?_
 simp only [cn_,jh_,am_,af_,dh_,Int.toNat_natCast,j2_]
 simp;omega
theorem gh_ {l:List aa_} {k:Nat} {x:aa_} (h:k≤l.length) (hl:l.length≤10000):Ev (fun n _=>cd_ n l (k:Int) [x]) (j2_ l k x):=by
 refine au_ ?_
 simp only [cd_,jh_,am_,af_,dh_,Int.toNat_natCast,j2_]
 simp;omega
theorem putL_new {α:Type} {ns:List Bs} {x:Bs} (h:(decide (dn_ ns x<ns.length)&&(ns.getD (dn_ ns x) [] == x))=false) (l:List α) (y:α):hl_ ns x l y=j2_ l (dn_ ns x) y:=by
 unfold hl_ j2_ fi_
 rw [if_neg]
 rintro ⟨h1,h2⟩
 rw [decide_eq_true h2,h1] at h
 simp at h
theorem p6_ {α:Type} {ns:List Bs} {x:Bs} (h:(decide (dn_ ns x<ns.length)&&(ns.getD (dn_ ns x) [] == x))=true) (l:List α) (y:α) (hl:dn_ ns x<l.length):hl_ ns x l y=l.set (dn_ ns x) y:=by
 simp only [Bool.and_eq_true,decide_eq_true_eq] at h
 unfold hl_ fi_
 rw [if_pos ⟨eq_of_beq h.2,h.1⟩,List.set_eq_take_append_cons_drop,if_pos hl]
 simp
theorem set_same {l:List Bs} {p:Nat} {x:Bs} (h:p<l.length) (e:l.getD p []=x):l.set p x=l:=by
 rw [List.getD_eq_getElem?_getD,List.getElem?_eq_getElem h,Option.getD_some] at e
 subst e
 exact List.set_getElem_self h
theorem j8_ {d:Nat} {j:aa_} (h:b7_ (d+1) j≤400) {name:Bs} {v:aa_} (hn:name.length≤281474976710656):Ans (fun n _=>dQ_ n j name v) (Ok2 (FAdd j name v)):=by
 have ho:=(dZ_ h).1
 have o2:=oP_ (nU_ h)
 have hl:=gn_ h
 refine b5_ ?_
 simp only [dQ_,aW_]
 unfold FAdd
 cases h5:(j.kind == 5)
 · cases h4:(j.kind == 4)
   · simp only [cond_false,aD_];exact fZ_
   · simp only [cond_false,cond_true,bf_ (hv_ hn),bh_,bf_ iu_,aD_]
     have hr:=kL_ name
     unfold addAt
     refine ⟨fun hq => ?_,fun hq => ?_⟩
     · rw [hq,cond_true]
       have e:inn (j.list.length:Int) 0 (j.list.length:Int)=true:=by simp [inn]
       rw [e]
       simp only [Bool.not_true,cond_true,bf_ (gh_ (l:=j.list) (k:=j.list.length) (x:=v) (Nat.le_refl _) (by omega)),aD_,Int.toNat_natCast]
       exact ⟨fun h=>(by cases h),fun _=>ef_⟩
     · rw [hq,cond_false]
       cases e:inn (FPos name) 0 (j.list.length:Int)
       · simp only [Bool.not_false,cond_false]
         exact ⟨fun _=>fZ_,fun h=>(by cases h)⟩
       · have hi:=gF_.1 e
         have hi2:((FPos name).toNat:Int)=FPos name:=Int.toNat_of_nonneg hi.1
         have hI:=gh_ (l:=j.list) (k:=(FPos name).toNat) (x:=v) (by omega) (by omega)
         rw [hi2] at hI
         simp only [Bool.not_true,cond_true,bf_ hI,aD_]
         exact ⟨fun h=>(by cases h),fun _=>ef_⟩
 · have hk:j.kind=5:=by simpa using h5
   obtain ⟨he,hN⟩:=ho.obj hk
   have hA:=mw_ hN
   have hB:=lz_ (ns:=j.names) (x:=name) (by omega) (oG_ hA)
   have hp:dn_ j.names name≤j.names.length:=List.findIdx_le_length
   simp only [cond_true,bf_ hB]
   have n0:=o2.n0 (by omega) (by omega)
   have s0:=o2.s0 (by omega)
   cases hf:(decide (dn_ j.names name<j.names.length)&&(j.names.getD (dn_ j.names name) [] == name))
   · simp only [cond_false,bf_ (kc_ (l:=j.names) (k:=dn_ j.names name) (x:=name) hp (by omega)),bf_ (gh_ (l:=j.list) (k:=dn_ j.names name) (x:=v) (by omega) (by omega)),aD_,putL_new hf,hk,n0,s0]
     exact ef_
   · have hlt:dn_ j.names name<j.names.length:=by simp only [Bool.and_eq_true,decide_eq_true_eq] at hf;exact hf.1
     have e2:j.names.set (dn_ j.names name) name=j.names:=by
      have h7:j.names.getD (dn_ j.names name) []=name:=by simp only [Bool.and_eq_true] at hf;exact eq_of_beq hf.2
      exact set_same hlt h7
     simp only [cond_true,do_,cf_ (show dn_ j.names name<j.list.length by omega),true_and,Int.toNat_natCast,aD_,p6_ hf j.list v (by omega),p6_ hf j.names name hlt,hk,n0,s0]
     rw [e2]
     exact ef_
end Go.Pi
end
section
namespace Go.Pi
theorem lC_ {d:Nat} {j:aa_} (h:b7_ (d+1) j≤400) {name:Bs} {o:TOp} (hv:b7_ 6 o.value≤400):Ans (fun n _=>et_ n j name o) (Ok2 (FAdd j name o.value)):=by
 have ho:=(dZ_ h).1
 have hl:=gn_ h
 have hC:=cR_ 6 o.value hv
 refine b5_ ?_
 simp only [et_,aW_]
 unfold FAdd
 cases h5:(j.kind == 5)
 · cases h4:(j.kind == 4)
   · have h4':(j.kind != 4)=true:=by rw [bne,h4];rfl
     simp only [h4',cond_false,cond_true,bf_ fH_,bh_,aD_]
     exact ⟨fun _=>fZ_,fun _=>fZ_⟩
   · have h4':(j.kind != 4)=false:=by rw [bne,h4];rfl
     have hr:=kL_ name
     simp only [h4',cond_false,cond_true,bf_ fH_,bh_,bf_ l1In_ev,aD_,bf_ hC,iV_,d4_,List.nil_append,List.length_nil,List.drop_zero,List.take_length,Int.toNat_natCast]
     unfold addAt
     refine ⟨fun hq => ?_,fun hq => ?_⟩
     · rw [hq,cond_true]
       have e:inn (j.list.length:Int) 0 (j.list.length:Int)=true:=by simp [inn]
       have e9:j2_ j.list j.list.length o.value=j.list++[o.value]++j.list.drop j.list.length:=by unfold j2_;rw [List.take_length]
       rw [e]
       simp only [Bool.not_true,cond_true,Int.toNat_natCast,e9]
       refine ⟨fun h=>(by cases h),fun _ => ?_⟩
       repeat' (first|exact ef_|apply And.intro)
       all_goals (first|omega|(simp;done)|(simp;omega)|trace_state)
     · rw [hq,cond_false]
       cases e:inn (FPos name) 0 (j.list.length:Int)
       · simp only [Bool.not_false,cond_false]
         exact ⟨fun _=>fZ_,fun h=>(by cases h)⟩
       · have hi:=gF_.1 e
         simp only [Bool.not_true,cond_true]
         refine ⟨fun h=>(by cases h),fun _ => ?_⟩
         repeat' (first|exact ef_|apply And.intro)
         all_goals (first|omega|(simp;done)|(simp;omega)|trace_state)
 · have hk:j.kind=5:=by simpa using h5
   obtain ⟨he,hN⟩:=ho.obj hk
   have hA:=mw_ hN
   have hP:=fu_ (o:=j) (j:=o.value) (x:=name) (by omega) he.symm (fun z hz=>by
    rw [e7_] at hz
    exact beq_eq_false_iff_ne.2 fun e=>by subst e;exact List.lt_irrefl z (of_decide_eq_true hz)) (ascB_ne hA)
   simp only [cond_true,bf_ hC,bf_ hP,aD_]
   exact ef_
end Go.Pi
end
section
namespace Go.Pi
def hB_ (d:Nat) (j:aa_) (o:TOp):Option aa_:=cond (o.kind == 4) (cond (eh_ d j o.value) (some j) none) (cond (o.kind == 2) none (some o.value))
def mH_ (j:aa_) (i:Nat) (y:aa_):aa_:=aa_.mk j.kind j.n_ j.s (j.list.set i y) j.names
def mn_ (j:aa_) (i:Nat):aa_:=aa_.mk j.kind j.n_ j.s (j.list.take i++j.list.drop (i+1)) (cond (j.kind == 5) (j.names.take i++j.names.drop (i+1)) j.names)
def FPat:Nat→aa_→List Bs→TOp→Option aa_
 |d,j,[],o=>hB_ d j o
 |0,_,_::_,_=>none
 |d+1,j,x::w,o=>cond (w.isEmpty&&(o.kind == 1)) (FAdd j x o.value) (cond (decide (FAt j x<0)) none (cond (w.isEmpty&&(o.kind == 2)) (some (mn_ j (FAt j x).toNat))
   ((FPat d (j.list.getD (FAt j x).toNat aa_.dflt) w o).map (mH_ j (FAt j x).toNat))))
structure pF_ (o:TOp):Prop where
 kind:o.kind=1∨o.kind=2∨o.kind=3∨o.kind=4
 value:b7_ 6 o.value≤400
theorem lP_ {d:Nat} {j:aa_} {o:TOp} (h:b7_ d j≤400) (ho:pF_ o):Ans (fun n _=>eA_ n j o) (Ok2 (hB_ d j o)):=by
 have hC:=dE_ 6 o.value ho.value
 have hA:=iN_ d j o.value (e9_ d j h) (dD_ d j h)
 refine b5_ ?_
 simp only [eA_,aW_]
 unfold hB_
 rcases ho.kind with hk|hk|hk|hk<;>rw [hk]
 · simp only [show ((1:Int) == 1)=true from rfl,show ((1:Int) == 4)=false from rfl,show ((1:Int) == 2)=false from rfl,cond_true,cond_false,bf_ hC,aD_];exact ef_
 · simp only [show ((2:Int) == 1)=false from rfl,show ((2:Int) == 3)=false from rfl,show ((2:Int) == 4)=false from rfl,show ((2:Int) == 2)=true from rfl,cond_true,cond_false,aD_];exact fZ_
 · simp only [show ((3:Int) == 1)=false from rfl,show ((3:Int) == 3)=true from rfl,show ((3:Int) == 4)=false from rfl,show ((3:Int) == 2)=false from rfl,cond_true,cond_false,bf_ hC,aD_];exact ef_
 · simp only [show ((4:Int) == 1)=false from rfl,show ((4:Int) == 3)=false from rfl,show ((4:Int) == 4)=true from rfl,cond_true,cond_false,bf_ hA,aD_]
   cases eh_ d j o.value
   · exact fZ_
   · exact ef_
theorem lA_ {d:Nat} {j:aa_} {o:TOp} (h:b7_ d j≤400) (ho:pF_ o):Ans (fun n _=>dH_ n j o) (Ok2 (hB_ d j o)):=by
 have hC:=cR_ 6 o.value ho.value
 have hA:=eb_ d j o.value (e9_ d j h) (dD_ d j h)
 refine b5_ ?_
 simp only [dH_,aW_]
 unfold hB_
 rcases ho.kind with hk|hk|hk|hk<;>rw [hk]
 · simp only [show ((1:Int) == 4)=false from rfl,show ((1:Int) == 2)=false from rfl,cond_true,cond_false,bf_ hC,aD_];exact ef_
 · simp only [show ((2:Int) == 4)=false from rfl,show ((2:Int) == 2)=true from rfl,cond_true,cond_false,aD_];exact fZ_
 · simp only [show ((3:Int) == 4)=false from rfl,show ((3:Int) == 2)=false from rfl,cond_true,cond_false,bf_ hC,aD_];exact ef_
 · simp only [show ((4:Int) == 4)=true from rfl,show ((4:Int) == 2)=false from rfl,cond_true,cond_false,bf_ hA,aD_]
   cases eh_ d j o.value
   · exact fZ_
   · exact ef_
theorem j7_ {j:aa_} {i:Nat} (hi:i<j.list.length) (hl:j.list.length≤10000) (he:j.kind=5→j.names.length=j.list.length):Ev (fun n _=>db_ n j (i:Int)) (mn_ j i):=by
 have hW:=W_up hi (show j.list.length≤bV_ by simp only [bV_];omega)
 have e1:((i+1:Nat):Int).toNat=i+1:=Int.toNat_natCast _
 have hD:Ev (fun n _=>cx_ n j.list (i:Int) ((i+1:Nat):Int)) (j.list.take i++j.list.drop (i+1)):=by
  refine au_ ?_
  simp only [cx_,ji_,am_,af_,dh_,Int.toNat_natCast,e1]
  simp;omega
 refine au_ ?_
 simp only [db_,hW,ad_ hD,am_,af_]
 unfold mn_
 refine ⟨fun h5 => ?_,fun h5 => ?_⟩
 · have hk:=he (by simpa using h5)
   have hS:Ev (fun n _=>co_ n j.names (i:Int) ((i+1:Nat):Int)) (j.names.take i++j.names.drop (i+1)):=by
    refine au_ ?_
    simp only [co_,ji_,am_,af_,dh_,Int.toNat_natCast,e1]
    simp;omega
   rw [h5]
   simp only [ad_ hS,af_,cond_true]
 · rw [h5];rfl
end Go.Pi
end
section
namespace Go.Pi
theorem o7_ {x:Option aa_} {r:aa_ × Bool} (h:Ok2 x r) {f:aa_→aa_} {z:aa_} (hz:r.2=true→z=f r.1):Ok2 (x.map f) (z,r.2):=by
 obtain ⟨h1,h2⟩:=h
 refine ⟨by rw [h1];cases x<;>rfl,fun y hy => ?_⟩
 cases x with
 |none=>cases hy
 |some x0=>
  simp only [Option.map_some,Option.some.injEq] at hy
  rw [←hy,←h2 x0 rfl]
  exact hz (by rw [h1];rfl)
theorem beq_nat (n:Nat):Nat.beq n n=true:=Nat.beq_refl n
theorem gZ_:∀ (d:Nat) (j:aa_) (way:List Bs) (o:TOp),b7_ d j≤400→(∀ x ∈ way,x.length≤281474976710656)→way.length≤1000→pF_ o→Ans (fun n _=>cC_ n j way o) (Ok2 (FPat d j way o))
 |0,j,way,o,h,hw,hl,ho=>by simp only [b7_] at h;omega
 |d+1,j,[],o,h,hw,hl,ho=>by
  have hW:=lP_ h ho
  refine b5_ ?_
  simp only [cC_,aW_,eZ_,List.length_nil,show (((0:Nat):Int) == 0)=true from rfl,cond_true]
  exact ax_ hW fun r hr=>aD_.2 hr
 |d+1,j,x::w,o,h,hw,hl,ho=>by
  have hown:=(dZ_ h).1
  have hjl:=gn_ h
  have he:j.kind=5→j.list.length=j.names.length:=fun hk=>(hown.obj hk).1.symm
  have hnl:j.names.length≤bV_:=by
   have:=(dD_ (d+1) j h).1.2
   exact this.1
  have hx:=hw x (List.mem_cons_self ..)
  have hC:=dE_ 6 o.value ho.value
  have hP:=k2_ (s:=x) hnl he hx
  have hAdd:=j8_ h (name:=x) (v:=o.value) hx
  have hr:=iU_ j x he
  have hcut:(0:Int)≤1∧(1:Int)≤((x::w).length:Int)∧((x::w).length:Int)≤((x::w).length:Int):=⟨by omega,by simp;omega,by omega⟩
  have hin0:(0:Int)≤0∧(0:Int)<((x::w).length:Int):=⟨by omega,by simp<;>omega⟩
  have e0:(((x::w).length:Int) == 0)=false:=by simp;omega
  have ew:(((x::w).take (((x::w).length:Nat):Int).toNat).drop 1)=w:=by rw [Int.toNat_natCast,List.take_length];rfl
  have hX_:¬ FAt j x<0→Ans (fun n N=>inB (FAt j x) j.list.length (gI_ 1 ((x::w).length:Int) (x::w).length (cond (Nat.beq (FAt j x).toNat (FAt j x).toNat) (cond (Nat.beq (FAt j x).toNat (FAt j x).toNat) ((cC_ n (j.list.getD (FAt j x).toNat aa_.dflt) w o).bind fun xr6=>(cond (!xr6.2) (some ((aa_.mk 0 0 [] ([]:List aa_) ([]:List Bs)),false)) (inB (FAt j x) j.list.length (cond (Nat.beq (FAt j x).toNat (FAt j x).toNat) (let xa7:List aa_:=j.list.set (FAt j x).toNat xr6.1;(some ((aa_.mk j.kind j.n_ j.s xa7 j.names),true))) none)))) none) none)))
    (Ok2 ((FPat d (j.list.getD (FAt j x).toNat aa_.dflt) w o).map (mH_ j (FAt j x).toNat))):=fun hn=>by
   have hlt:(FAt j x).toNat<j.list.length:=by omega
   have ih:=gZ_ d (j.list.getD (FAt j x).toNat aa_.dflt) w o (gm_ h (bw_ _ hlt)) (fun y hy=>hw y (List.mem_cons_of_mem _ hy)) (by simp at hl;omega) ho
   simp only [beq_nat,cond_true,do_,iV_]
   refine ⟨⟨by omega,by omega⟩,hcut,?_⟩
   refine ax_ ih fun r hr => ?_
   simp only [bh_,aD_,do_]
   refine ⟨fun hf => ?_,fun hf=>⟨⟨by omega,by omega⟩,?_⟩⟩
   · have hf:r.2=false:=by simpa using hf
     have:=o7_ hr (f:=mH_ j (FAt j x).toNat) (z:=aa_.mk 0 0 [] ([]:List aa_) ([]:List Bs)) (fun e=>by rw [hf] at e;cases e)
     rwa [hf] at this
   · have hf:r.2=true:=by simpa using hf
     have:=o7_ hr (f:=mH_ j (FAt j x).toNat) (z:=mH_ j (FAt j x).toNat r.1) (fun _=>rfl)
     rwa [hf] at this
  refine b5_ ?_
  simp only [cC_,aW_,eZ_,e0,cond_false,ew,List.getD_cons_zero]
  cases w with
  |nil=>
   have e1:(([x]:List Bs).length:Int) == 1:=rfl
   have e1:((([x]:List Bs).length:Int) == 1)=true:=rfl
   simp only [e1,cond_true,FPat,List.isEmpty_nil,Bool.true_and]
   cases hk:(o.kind == 1)
   · simp only [cond_false,do_,bf_ hP,bh_,aD_]
     refine ⟨hin0,fun hn => ?_,fun hn => ?_⟩
     · rw [hn];exact fZ_
     · have hn':=of_decide_eq_false hn
       rw [hn]
       refine ⟨fun h2 => ?_,fun h2 => ?_⟩
       · have hi:((FAt j x).toNat:Int)=FAt j x:=Int.toNat_of_nonneg (by omega)
         have hD:=j7_ (j:=j) (i:=(FAt j x).toNat) (by omega) (by omega) (fun hk=>(hown.obj hk).1)
         rw [hi] at hD
         simp only [bf_ hD,aD_,h2,cond_true,cond_false]
         exact ef_
       · rw [h2]
         have hq:=do_.1 (hX_ hn')
         simp only [FPat] at hq
         exact hq
   · simp only [cond_true,do_,bf_ hC]
     refine ⟨hin0,?_⟩
     exact ax_ hAdd fun r hr=>aD_.2 hr
  |cons x2 w=>
   have e1:(((x::x2::w).length:Int) == 1)=false:=by simp<;>omega
   simp only [e1,cond_false,FPat,List.isEmpty_cons,Bool.false_and]
   simp only [do_,bf_ hP,bh_,aD_]
   refine ⟨hin0,fun hn => ?_,fun hn => ?_⟩
   · rw [hn];exact fZ_
   · have hn':=of_decide_eq_false hn
     rw [hn]
     exact do_.1 (hX_ hn')
end Go.Pi
end
section
namespace Go.Pi
theorem qS_ {j:aa_} {i:Nat} (h:i<j.list.length):mH_ j i (j.list.getD i aa_.dflt)=j:=by
 unfold mH_
 rw [List.getD_eq_getElem?_getD,List.getElem?_eq_getElem h,Option.getD_some,List.set_getElem_self]
 exact cA_ j
theorem tail_drop {j:aa_} {i:Nat} (hi:i<j.list.length) (hl:j.list.length≤10000) (he:j.kind=5→j.names.length=j.list.length):Ans (fun n (_:Nat)=>c3_.tail8 n (i:Int) j.names j.kind j.n_ j.s j.list 0 0 []) (Ok2 (some (mn_ j i))):=by
 have hW:=W_up hi (show j.list.length≤bV_ by simp only [bV_];omega)
 have e1:((i+1:Nat):Int).toNat=i+1:=Int.toNat_natCast _
 simp only [c3_.tail8,c3_.tail17,hW,iV_,d4_,bh_,aD_,Int.toNat_natCast,e1,List.take_length,List.drop_zero,List.nil_append,List.length_nil]
 unfold mn_
 refine ⟨by omega,by simp;omega,by omega,by simp;omega,fun h5 => ?_,fun h5 => ?_⟩
 · have hk:=he (by simpa using h5)
   rw [h5]
   refine ⟨by omega,by simp;omega,by omega,by simp;omega,ef_⟩
 · rw [h5];exact ef_
theorem mA_ {d:Nat} {j:aa_} {x:Bs} {o:TOp} (h:b7_ (d+1) j≤400) (ho:pF_ o):Ans (fun n _=>c3_ n j x o) (Ok2 (FPat (d+1) j [x] o)):=by
 have hown:=(dZ_ h).1
 have hjl:=gn_ h
 have he:j.kind=5→j.list.length=j.names.length:=fun hk=>(hown.obj hk).1.symm
 have hnl:j.names.length≤bV_:=(dD_ (d+1) j h).1.2.1
 have hP:=g9_ (j:=j) (s:=x) hnl
 have hr:=iU_ j x he
 have hC:=cR_ 6 o.value ho.value
 refine b5_ ?_
 simp only [c3_,aW_,eZ_,bf_ hP,bh_,aD_,do_,FPat,List.isEmpty_nil,Bool.true_and]
 have hAdd:=lC_ h (name:=x) ho.value
 refine ⟨fun hk => ?_,fun hk=>⟨fun hn => ?_,fun hn=>⟨fun h4 => ?_,fun h4=>⟨fun h3 => ?_,fun h3 => ?_⟩⟩⟩⟩
 · rw [hk];exact ax_ hAdd fun r hr=>aD_.2 hr
 · rw [hk,hn];exact fZ_
 · have hn':=of_decide_eq_false hn
   have hlt:(FAt j x).toNat<j.list.length:=by omega
   have hc:=gm_ h (bw_ aa_.dflt hlt)
   have hA:=eb_ d (j.list.getD (FAt j x).toNat aa_.dflt) o.value (e9_ d _ hc) (dD_ d _ hc)
   have h2:(o.kind == 2)=false:=by have:o.kind=4:=by simpa using h4
                                   rw [this];rfl
   rw [hk,hn,h2]
   unfold hB_
   rw [h4]
   refine ⟨⟨by omega,by omega⟩,?_⟩
   simp only [bf_ hA,aD_,cond_true,cond_false]
   cases eh_ d (j.list.getD (FAt j x).toNat aa_.dflt) o.value
   · exact fZ_
   · simp only [cond_true,Option.map_some,qS_ hlt];exact ef_
 · have hn':=of_decide_eq_false hn
   have h2:(o.kind == 2)=false:=by have:o.kind=3:=by simpa using h3
                                   rw [this];rfl
   rw [hk,hn,h2]
   unfold hB_
   rw [h4,h2]
   simp only [bf_ hC,do_,aD_,cond_false,Option.map_some]
   exact ⟨⟨by omega,by omega⟩,ef_⟩
 · have hn':=of_decide_eq_false hn
   have h2:(o.kind == 2)=true:=by
    rcases ho.kind with e|e|e|e<;>rw [e] at hk h3 h4 ⊢ <;> first|rfl|(cases hk;done)|(cases h3;done)|(cases h4;done)
   have hi:((FAt j x).toNat:Int)=FAt j x:=Int.toNat_of_nonneg (by omega)
   have hD:=tail_drop (j:=j) (i:=(FAt j x).toNat) (by omega) (by omega) (fun hk=>(hown.obj hk).1)
   rw [hi] at hD
   rw [hk,hn,h2]
   exact hD
end Go.Pi
end
section
namespace Go.Pi
theorem gW_:∀ (d:Nat) (j:aa_) (way:List Bs) (o:TOp),b7_ d j≤400→way.length≤1000→pF_ o→Ans (fun n _=>c1_ n j way o) (Ok2 (FPat d j way o))
 |0,j,way,o,h,hl,ho=>by simp only [b7_] at h;omega
 |d+1,j,[],o,h,hl,ho=>by
  have hW:=lA_ h ho
  refine b5_ ?_
  simp only [c1_,aW_,eZ_,List.length_nil,show (((0:Nat):Int) == 0)=true from rfl,cond_true]
  exact ax_ hW fun r hr=>aD_.2 hr
 |d+1,j,[x],o,h,hl,ho=>by
  have hI:=mA_ h (x:=x) ho
  have e0:((([x]:List Bs).length:Int) == 0)=false:=rfl
  have e1:((([x]:List Bs).length:Int) == 1)=true:=rfl
  refine b5_ ?_
  simp only [c1_,aW_,eZ_,e0,e1,cond_false,cond_true,do_,List.getD_cons_zero]
  exact ⟨⟨by omega,by simp⟩,ax_ hI fun r hr=>aD_.2 hr⟩
 |d+1,j,x::x2::w,o,h,hl,ho=>by
  have hown:=(dZ_ h).1
  have hjl:=gn_ h
  have he:j.kind=5→j.list.length=j.names.length:=fun hk=>(hown.obj hk).1.symm
  have hnl:j.names.length≤bV_:=(dD_ (d+1) j h).1.2.1
  have hP:=g9_ (j:=j) (s:=x) hnl
  have hr:=iU_ j x he
  have e0:(((x::x2::w).length:Int) == 0)=false:=by simp<;>omega
  have e1:(((x::x2::w).length:Int) == 1)=false:=by simp<;>omega
  have ew:(((x::x2::w).take (((x::x2::w).length:Nat):Int).toNat).drop 1)=x2::w:=by rw [Int.toNat_natCast,List.take_length];rfl
  have hcut:(0:Int)≤1∧(1:Int)≤((x::x2::w).length:Int)∧((x::x2::w).length:Int)≤((x::x2::w).length:Int):=⟨by omega,by simp<;>omega,by omega⟩
  refine b5_ ?_
  simp only [c1_,aW_,eZ_,e0,e1,ew,cond_false,cond_true,do_,List.getD_cons_zero,bf_ hP,bh_,aD_,FPat,List.isEmpty_cons,Bool.false_and,beq_nat,iV_]
  refine ⟨⟨by omega,by simp<;>omega⟩,fun hn => ?_,fun hn => ?_⟩
  · rw [hn];exact fZ_
  · have hn':=of_decide_eq_false hn
    have hlt:(FAt j x).toNat<j.list.length:=by omega
    have ih:=gW_ d (j.list.getD (FAt j x).toNat aa_.dflt) (x2::w) o (gm_ h (bw_ _ hlt)) (by simp at hl ⊢;omega) ho
    rw [hn]
    refine ⟨⟨by omega,by omega⟩,hcut,?_⟩
    refine ax_ ih fun r hr => ?_
    simp only [aD_,do_,cond_false]
    exact ⟨⟨by omega,by omega⟩,o7_ hr (f:=mH_ j (FAt j x).toNat) (fun _=>rfl)⟩
end Go.Pi
end
section
namespace Go.Pi
theorem pd_ {e:Nat} {v:aa_} (h:ff_ e v):∀ {k d:Nat},d+k=e→ff_ d v
 |0,d,hd=>by
  have:d=e:=by omega
  rw [this];exact h
 |k+1,d,hd=>m3_ d v (pd_ h (k:=k) (by omega))
theorem p7_ {α:Type} {ns:List Bs} {x:Bs} {l:List α} {y z:α} (h:z ∈ hl_ ns x l y):z=y∨z ∈ l:=by
 unfold hl_ at h
 rcases List.mem_append.1 h with h|h
 · rcases List.mem_append.1 h with h|h
   · exact .inr (List.mem_of_mem_take h)
   · exact .inl (List.mem_singleton.1 h)
 · exact .inr (List.mem_of_mem_drop h)
theorem p8_ {α:Type} {ns:List Bs} {x:Bs} {l:List α} {y:α}:(hl_ ns x l y).length≤l.length+1:=by
 have:dn_ ns x≤fi_ ns x:=by unfold fi_;split<;>omega
 unfold hl_
 simp;omega
theorem putIn_mem {α:Type} {k:Nat} {l:List α} {y z:α} (h:z ∈ j2_ l k y):z=y∨z ∈ l:=by
 unfold j2_ at h
 rcases List.mem_append.1 h with h|h
 · rcases List.mem_append.1 h with h|h
   · exact .inr (List.mem_of_mem_take h)
   · exact .inl (List.mem_singleton.1 h)
 · exact .inr (List.mem_of_mem_drop h)
theorem cut_mem {α:Type} {k m:Nat} {l:List α} {z:α} (h:z ∈ l.take k++l.drop m):z ∈ l:=by
 rcases List.mem_append.1 h with h|h
 · exact List.mem_of_mem_take h
 · exact List.mem_of_mem_drop h
theorem nw_:∀ (d:Nat) (j:aa_) (way:List Bs) (o:TOp) (y:aa_),d≤6→b7_ d j≤400→(∀ x ∈ way,x.length≤1000)→pF_ o→FPat d j way o=some y→ff_ d y
 |0,j,way,o,y,hd,h,hw,ho,e=>by simp only [b7_] at h;omega
 |d+1,j,[],o,y,hd,h,hw,ho,e=>by
  have hj:=dD_ (d+1) j h
  have hv:=pd_ (dD_ 6 _ ho.value) (d:=d+1) (k:=5 - d) (by omega)
  simp only [FPat,hB_] at e
  cases h4:(o.kind == 4)<;>rw [h4] at e
  · cases h2:(o.kind == 2)<;>rw [h2] at e
    · cases e;exact hv
    · cases e
  · cases ha:eh_ (d+1) j o.value<;>rw [ha] at e
    · cases e
    · cases e;exact hj
 |d+1,j,x::w,o,y,hd,h,hw,ho,e=>by
  have hj:=dD_ (d+1) j h
  obtain ⟨⟨hs,hn,hns⟩,hl,hk⟩:=hj
  have hjl:=gn_ h
  have hv:=pd_ (dD_ 6 _ ho.value) (d:=d) (k:=6 - d) (by omega)
  have hx:=hw x (List.mem_cons_self ..)
  have hown:=(dZ_ h).1
  have ht:(1000000:Nat)≤bV_:=by simp only [bV_];omega
  have hnl:j.kind=5→j.names.length≤400:=fun h5=>by have:=(hown.obj h5).1;omega
  simp only [FPat] at e
  cases c1:(w.isEmpty&&(o.kind == 1))<;>rw [c1] at e
  · cases c2:decide (FAt j x<0)<;>rw [c2] at e
    · cases c3:(w.isEmpty&&(o.kind == 2))<;>rw [c3] at e
      · simp only [cond_false] at e
        cases hf:FPat d (j.list.getD (FAt j x).toNat aa_.dflt) w o with
        |none=>rw [hf] at e;cases e
        |some z=>
         rw [hf] at e
         simp only [Option.map_some,Option.some.injEq] at e
         subst e
         have hr:=iU_ j x fun h5=>(hown.obj h5).1.symm
         have c2':=of_decide_eq_false c2
         have hlt:(FAt j x).toNat<j.list.length:=by omega
         have ih:=nw_ d _ w o z (by omega) (gm_ h (bw_ _ hlt)) (fun y hy=>hw y (List.mem_cons_of_mem _ hy)) ho hf
         refine ⟨⟨hs,hn,hns⟩,by simp only [mH_,List.length_set];exact hl,fun q hq => ?_⟩
         rcases List.mem_or_eq_of_mem_set hq with hq|rfl
         · exact hk q hq
         · exact ih
      · simp only [cond_true,cond_false,Option.some.injEq] at e
        subst e
        refine ⟨⟨hs,?_⟩,?_,fun q hq=>hk q (cut_mem hq)⟩
        · show q1_ bV_ (cond (j.kind == 5) _ _)
          cases h5:(j.kind == 5)
          · exact ⟨hn,hns⟩
          · have:=hnl (by simpa using h5)
            exact ⟨by simp;omega,fun q hq=>hns q (cut_mem hq)⟩
        · simp only [mn_];simp;omega
    · cases e
  · simp only [cond_true,FAdd] at e
    cases h5:(j.kind == 5)<;>rw [h5] at e
    · cases h4:(j.kind == 4)<;>rw [h4] at e
      · cases e
      · simp only [cond_true,cond_false] at e
        cases hi:inn (addAt j x) 0 (j.list.length:Int)<;>rw [hi] at e
        · cases e
        · cases e
          refine ⟨⟨hs,hn,hns⟩,?_,fun q hq => ?_⟩
          · simp only [j2_];simp;omega
          · rcases putIn_mem hq with rfl|hq
            · exact hv
            · exact hk q hq
    · cases e
      have:=hnl (by simpa using h5)
      have p1:=p8_ (ns:=j.names) (x:=x) (l:=j.names) (y:=x)
      have p2:=p8_ (ns:=j.names) (x:=x) (l:=j.list) (y:=o.value)
      refine ⟨⟨Nat.zero_le _,(by show (hl_ j.names x j.names x).length≤bV_;omega),fun q hq => ?_⟩,by show (hl_ j.names x j.list o.value).length≤bV_;omega,fun q hq => ?_⟩
      · rcases p7_ hq with rfl|hq
        · omega
        · exact hns q hq
      · rcases p7_ hq with rfl|hq
        · exact hv
        · exact hk q hq
end Go.Pi
end
section
namespace Go.Pi
def g3_ (j:aa_) (o:TOp):aa_ × Bool:=cond (bF_ j&&gP_ o) (match FPat 6 j o.way o with
 |some y=>cond (bF_ y) (y,true) (fJ_,false)
 |none=>(fJ_,false)) (fJ_,false)
theorem op_fit {o:TOp} (h:gP_ o=true):pF_ o∧o.way.length≤6∧∀ x ∈ o.way,x.length≤60:=by
 unfold gP_ at h
 simp only [Bool.and_eq_true] at h
 obtain ⟨h1,h2,h3,h4,h5⟩:=h
 have h1:=gF_.1 h1
 refine ⟨⟨by omega,of_decide_eq_true h3⟩,of_decide_eq_true h2,fun x hx => ?_⟩
 obtain ⟨i,hi,rfl⟩:=List.mem_iff_getElem.1 hx
 have:=fg_.1 h4 i hi
 rw [List.getD_eq_getElem?_getD,List.getElem?_eq_getElem hi,Option.getD_some] at this
 simp only [i0_,Bool.and_eq_true,decide_eq_true_eq] at this
 omega
theorem ne_ {j:aa_} {o:TOp} (hj:ff_ 6 j) (ho:lL_ o):Ev (fun n _=>eC_ n j o) (g3_ j o):=by
 refine ev_ans (b5_ ?_)
 simp only [eC_,aW_,eZ_,bf_ (ee_ hj),bh_,aD_,bf_ (jP_ ho)]
 unfold g3_
 cases h1:bF_ j
 · exact ⟨fun _=>rfl,fun h=>(by cases h)⟩
 · cases h2:gP_ o
   · exact ⟨fun h=>(by cases h),fun _=>⟨fun _=>rfl,fun h=>(by cases h)⟩⟩
   · refine ⟨fun h=>(by cases h),fun _=>⟨fun h=>(by cases h),fun _ => ?_⟩⟩
     obtain ⟨f1,f2,f3⟩:=op_fit h2
     have hs:b7_ 6 j≤400:=of_decide_eq_true h1
     have hC:=dE_ 6 j hs
     have hP:=gZ_ 6 j o.way o hs (fun x hx=>by have:=f3 x hx;omega) (by omega) f1
     rw [bf_ hC]
     refine ax_ hP fun r hr => ?_
     obtain ⟨r1,r2⟩:=hr
     simp only [bh_,aD_,Bool.and_self,cond_true]
     cases hf:FPat 6 j o.way o with
     |none=>
      rw [hf] at r1
      rw [r1]
      exact ⟨fun _=>rfl,fun h=>(by cases h)⟩
     |some y=>
      rw [hf] at r1
      rw [r1,r2 y hf]
      refine ⟨fun h=>(by cases h),fun _ => ?_⟩
      have hl:=nw_ 6 j o.way o y (Nat.le_refl _) hs (fun x hx=>by have:=f3 x hx;omega) f1 hf
      rw [bf_ (ee_ hl)]
      simp only [bh_,aD_]
      cases bF_ y
      · exact ⟨fun _=>rfl,fun h=>(by cases h)⟩
      · exact ⟨fun h=>(by cases h),fun _=>rfl⟩
theorem mC_ {j:aa_} {o:TOp} (hj:ff_ 6 j) (ho:lL_ o):Ev (fun n _=>ev_ n j o) (g3_ j o):=by
 refine ev_ans (b5_ ?_)
 simp only [ev_,aW_,eZ_,bf_ (cD_ hj),bh_,aD_,bf_ (jK_ ho)]
 unfold g3_
 cases h1:bF_ j
 · exact ⟨fun _=>rfl,fun h=>(by cases h)⟩
 · cases h2:gP_ o
   · exact ⟨fun h=>(by cases h),fun _=>⟨fun _=>rfl,fun h=>(by cases h)⟩⟩
   · refine ⟨fun h=>(by cases h),fun _=>⟨fun h=>(by cases h),fun _ => ?_⟩⟩
     obtain ⟨f1,f2,f3⟩:=op_fit h2
     have hs:b7_ 6 j≤400:=of_decide_eq_true h1
     have hC:=cR_ 6 j hs
     have hP:=gW_ 6 j o.way o hs (by omega) f1
     rw [bf_ hC]
     refine ax_ hP fun r hr => ?_
     obtain ⟨r1,r2⟩:=hr
     simp only [bh_,aD_,Bool.and_self,cond_true]
     cases hf:FPat 6 j o.way o with
     |none=>
      rw [hf] at r1
      rw [r1]
      exact ⟨fun _=>rfl,fun h=>(by cases h)⟩
     |some y=>
      rw [hf] at r1
      rw [r1,r2 y hf]
      refine ⟨fun h=>(by cases h),fun _ => ?_⟩
      have hl:=nw_ 6 j o.way o y (Nat.le_refl _) hs (fun x hx=>by have:=f3 x hx;omega) f1 hf
      rw [bf_ (cD_ hl)]
      simp only [bh_,aD_]
      cases bF_ y
      · exact ⟨fun _=>rfl,fun h=>(by cases h)⟩
      · exact ⟨fun h=>(by cases h),fun _=>rfl⟩
end Go.Pi
end
section
namespace Go.Pi
def eX_:aa_→List TOp→aa_ × Bool
 |j,[]=>(j,true)
 |j,o::l=>cond (g3_ j o).2 (eX_ (g3_ j o).1 l) (fJ_,false)
def dS_ (j:aa_) (l:List TOp):aa_ × Bool:=cond (bF_ j&&decide (l.length≤40)) (eX_ j l) (fJ_,false)
theorem ii_ {j:aa_} {o:TOp} (h:(g3_ j o).2=true):bF_ (g3_ j o).1=true:=by
 unfold g3_ at h ⊢
 cases h1:(bF_ j&&gP_ o)<;>rw [h1] at h
 · cases h
 · simp only [cond_true] at h ⊢
   cases hf:FPat 6 j o.way o with
   |none=>rw [hf] at h;cases h
   |some y=>
    rw [hf] at h
    simp only at h ⊢
    cases hy:bF_ y<;>rw [hy] at h
    · cases h
    · exact hy
theorem iG_:∀ {l:List TOp} {j:aa_},bF_ j=true→(eX_ j l).2=true→bF_ (eX_ j l).1=true
 |[],j,hj,_=>hj
 |o::l,j,hj,h=>by
  unfold eX_ at h ⊢
  cases hp:(g3_ j o).2<;>rw [hp] at h
  · cases h
  · exact iG_ (ii_ hp) h
theorem lK_ {l:List TOp} {j:aa_} (h:(dS_ j l).2=true):bF_ (dS_ j l).1=true:=by
 unfold dS_ at h ⊢
 cases h1:(bF_ j&&decide (l.length≤40))<;>rw [h1] at h
 · cases h
 · rw [Bool.and_eq_true] at h1
   exact iG_ h1.1 h
theorem gt40 (n:Nat):decide ((n:Int) > 40) = !decide (n≤40):=by
 by_cases h:n≤40
 · rw [decide_eq_true h,decide_eq_false (by omega)];rfl
 · rw [decide_eq_false h,decide_eq_true (by omega)];rfl
theorem kQ_ {j:aa_} (h:bF_ j=true):ff_ 6 j:=dD_ 6 j (of_decide_eq_true h)
theorem j9_ {j:aa_} {l:List TOp} (hj:ff_ 6 j) (hl:iL_ l):Ev (fun n _=>a9_ n j l) (dS_ j l):=by
 refine au_ ?_
 simp only [a9_,aW_,gt40,ad_ (ee_ hj),am_,af_]
 unfold dS_
 cases h1:bF_ j
 · exact ⟨fun _=>rfl,fun h=>(by cases h)⟩
 · refine ⟨fun h=>(by cases h),fun _ => ?_⟩
   cases h2:decide (l.length≤40)
   · exact ⟨fun _=>rfl,fun h=>(by cases h)⟩
   · refine ⟨fun h=>(by cases h),fun _ => ?_⟩
     have hC:=dE_ 6 j (of_decide_eq_true h1)
     simp only [ad_ hC,Bool.and_true,cond_true]
     have key:∀ (m i:Nat) (v:aa_),i+m=l.length→bF_ v=true →
       Ev (fun n N=>a9_.loop7 n (fun xy4 xy5 xy6 xy7 xy8 xy9 xy10 xy11=>(some ((aa_.mk xy7 xy8 xy9 xy10 xy11),true))) N l (l.length:Int) (i:Int) 0 0 [] v.kind v.n_ v.s v.list v.names) (eX_ v (l.drop i)):=by
      intro m
      induction m with
      |zero=>
       intro i v hi hv
       have e:i=l.length:=by omega
       subst e
       refine b4_ ?_
       simp only [a9_.turn7,a9_.step7,ca_,cond_false,af_,List.drop_length,eX_,cA_]
      |succ m ih=>
       intro i v hi hv
       have hlt:i<l.length:=by omega
       have hP:=ne_ (j:=v) (o:=l.getD i TOp.dflt) (kQ_ hv) (hl.2 _ (bw_ _ hlt))
       have hW:=W_up hlt (show l.length≤bV_ by have:=hl.1;simp only [bV_];omega)
       rw [ep_ TOp.dflt hlt]
       refine b4_ ?_
       simp only [a9_.turn7,a9_.step7,aW_,cA_,eZ_,cy_ hlt,cond_true,bB_,cf_ hlt,true_and,Int.toNat_natCast,hW,ad_ hP,am_,af_,eX_]
       cases hp:(g3_ v (l.getD i TOp.dflt)).2
       · exact ⟨fun _=>rfl,fun h=>(by cases h)⟩
       · exact ⟨fun h=>(by cases h),fun _=>ih (i+1) _ (by omega) (ii_ hp)⟩
     exact d3_ (key l.length 0 j (by omega) h1)
theorem j0_ {j:aa_} {l:List TOp} (hj:ff_ 6 j) (hl:iL_ l):Ev (fun n _=>be_ n j l) (dS_ j l):=by
 refine au_ ?_
 simp only [be_,aW_,gt40,ad_ (cD_ hj),am_,af_]
 unfold dS_
 cases h1:bF_ j
 · exact ⟨fun _=>rfl,fun h=>(by cases h)⟩
 · refine ⟨fun h=>(by cases h),fun _ => ?_⟩
   cases h2:decide (l.length≤40)
   · exact ⟨fun _=>rfl,fun h=>(by cases h)⟩
   · refine ⟨fun h=>(by cases h),fun _ => ?_⟩
     have hC:=cR_ 6 j (of_decide_eq_true h1)
     simp only [ad_ hC,Bool.and_true,cond_true]
     have key:∀ (m i:Nat) (v:aa_),i+m=l.length→bF_ v=true →
       Ev (fun n N=>be_.loop7 n (fun xy4 xy5 xy6 xy7 xy8 xy9 xy10 xy11=>(some ((aa_.mk xy7 xy8 xy9 xy11 xy10),true))) N l (i:Int) 0 0 [] v.kind v.n_ v.s v.names v.list) (eX_ v (l.drop i)):=by
      intro m
      induction m with
      |zero=>
       intro i v hi hv
       have e:i=l.length:=by omega
       subst e
       refine b4_ ?_
       simp only [be_.turn7,be_.step7,ca_,cond_false,af_,List.drop_length,eX_,cA_]
      |succ m ih=>
       intro i v hi hv
       have hlt:i<l.length:=by omega
       have hP:=mC_ (j:=v) (o:=l.getD i TOp.dflt) (kQ_ hv) (hl.2 _ (bw_ _ hlt))
       have hW:=W_up hlt (show l.length≤bV_ by have:=hl.1;simp only [bV_];omega)
       rw [ep_ TOp.dflt hlt]
       refine b4_ ?_
       simp only [be_.turn7,be_.step7,aW_,cA_,eZ_,cy_ hlt,cond_true,bB_,cf_ hlt,true_and,Int.toNat_natCast,hW,ad_ hP,am_,af_,eX_]
       cases hp:(g3_ v (l.getD i TOp.dflt)).2
       · exact ⟨fun _=>rfl,fun h=>(by cases h)⟩
       · exact ⟨fun h=>(by cases h),fun _=>ih (i+1) _ (by omega) (ii_ hp)⟩
     exact d3_ (key l.length 0 j (by omega) h1)
end Go.Pi
end
section
namespace Go.Pi
theorem e5_ (j:aa_) (h:aa_.size j≤4000000000):Ev (fun n _=>aA_ n j) j:=by
 have e:=aa_.size_eq j
 have e1:ei_ aa_.size j.list=j.list.length+eD_ aa_.size j.list:=rfl
 have e2:ei_ szB j.names=j.names.length+eD_ szB j.names:=rfl
 have hx:∀ x ∈ j.list,Ev (fun n _=>aA_ n x) x:=fun x hx=>e5_ x (by have:=gx_ aa_.size hx;omega)
 refine au_ ?_
 have hc:Ev (fun n _=>cH_ n j.names) j.names:=au_ (by simp only [cH_,bO_,af_,List.nil_append,List.length_nil,and_true];omega)
 simp only [aA_,ad_ hc]
 have:=eo_ (fun i=>j.list.take i) j.list.length (fun n N i (o:List aa_)=>aA_.loop4 n (aA_ n) (fun xy3 xy4 xy5 xy6 xy7 xy8 xy9 xy10=>(some (aa_.mk xy6 xy7 xy8 xy9 xy10))) N j.list (j.list.length:Int) (i:Int) 0 0 [] j.kind j.n_ j.s o j.names) j (fun i hi F hF => ?_) ?_
 · exact this
 · have hx:=hx _ (bw_ aa_.dflt hi)
   rw [cP_ aa_.dflt hi] at hF
   simp only [aA_.turn4,aA_.step4,aW_,Int.toNat_natCast,W_up hi (show j.list.length≤bV_ by simp only [bV_];omega),am_,bB_,bO_,cy_ hi,cf_ hi,ad_ hx]
   exact ⟨fun _=>⟨trivial,by simp;omega,hF⟩,fun h=>(by cases h)⟩
 · simp only [aA_.turn4,aA_.step4,ca_,cond_false,List.take_length,af_,cA_]
termination_by SizeOf.sizeOf j.list
decreasing_by exact aa_.dec hx
theorem fF_ (j:aa_) (h:aa_.size j≤4000000000):Ev (fun n _=>aB_ n j) j:=by
 have e:=aa_.size_eq j
 have e1:ei_ aa_.size j.list=j.list.length+eD_ aa_.size j.list:=rfl
 have e2:ei_ szB j.names=j.names.length+eD_ szB j.names:=rfl
 have hx:∀ x ∈ j.list,Ev (fun n _=>aB_ n x) x:=fun x hx=>fF_ x (by have:=gx_ aa_.size hx;omega)
 refine au_ ?_
 simp only [aB_,bO_,List.nil_append,List.length_nil]
 refine ⟨by omega,?_⟩
 have:=eo_ (fun i=>j.list.take i) j.list.length (fun n N i (o:List aa_)=>aB_.loop4 n (aB_ n) (fun xy2 xy3 xy4 xy5 xy6 xy7 xy8 xy9=>(some (aa_.mk xy5 xy6 xy7 xy8 xy9))) N (i:Int) j.kind j.n_ j.s j.list j.names 0 0 [] j.kind j.n_ j.s o j.names) j (fun i hi F hF => ?_) ?_
 · exact this
 · have hx:=hx _ (bw_ aa_.dflt hi)
   rw [cP_ aa_.dflt hi] at hF
   simp only [aB_.turn4,aB_.step4,aW_,Int.toNat_natCast,W_up hi (show j.list.length≤bV_ by simp only [bV_];omega),am_,bB_,bO_,cy_ hi,cf_ hi,ad_ hx]
   exact ⟨fun _=>⟨trivial,by simp;omega,hF⟩,fun h=>(by cases h)⟩
 · simp only [aB_.turn4,aB_.step4,ca_,cond_false,List.take_length,af_,cA_]
termination_by SizeOf.sizeOf j.list
decreasing_by exact aa_.dec hx
end Go.Pi
end
section
namespace Go.Pi
def badC (c:aX_):aX_:=aX_.mk c.doc c.version c.began true
def cv_ (c:aX_) (e:aE_):aX_:=cond c.bad c (cond (d1_ e) (cond (e.kind == 1) (cond (c.began&&decide (e.version≤c.version)) (badC c) (aX_.mk e.doc e.version true false))
 (cond (c.began&&(e.base == c.version)&&(dS_ c.doc e.ops).2) (aX_.mk (dS_ c.doc e.ops).1 e.version true false) (badC c))) (badC c))
theorem eO_ (c:aX_):aX_.mk c.doc c.version c.began c.bad=c:=rfl
theorem ov_ {e:aE_} (h:d1_ e=true):(e.kind == 1)=false→(e.kind == 2)=true:=by
 intro h1
 unfold d1_ at h
 rw [h1] at h
 cases h2:(e.kind == 2)
 · rw [h2] at h;simp at h
 · rfl
section
variable {c:aX_} {e:aE_} (hc:aa_.size c.doc≤4000000000) (hcl:ff_ 6 c.doc) (he:aa_.size e.doc≤4000000000) (hel:n5_ e)
include hc hcl he hel
theorem fW_:Ev (fun n _=>cG_ n c e) (cv_ c e):=by
 have h0:Ev (fun n _=>dJ_ n c) c:=au_ (by simp only [dJ_,aW_,ad_ (fF_ c.doc hc),af_])
 refine au_ ?_
 simp only [cG_,aW_,eO_,lb_,ad_ h0,am_,af_,ad_ (kC_ hel),ad_ (fF_ e.doc he),ad_ (j0_ hcl hel.2)]
 unfold cv_ badC
 cases c.bad<;>cases h2:d1_ e<;>cases h3:(e.kind == 1)<;>cases c.began<;>cases decide (e.version≤c.version)<;>cases h4:(e.base == c.version)<;>cases (dS_ c.doc e.ops).2<;>simp [bne,h4]
theorem f5_:Ev (fun n _=>cI_ n c e) (cv_ c e):=by
 have h0:Ev (fun n _=>cZ_ n c) c:=au_ (by simp only [cZ_,aW_,ad_ (e5_ c.doc hc),af_])
 have hk:=fun h=>ov_ (e:=e) h
 have hv:decide (e.version > c.version) = !decide (e.version≤c.version):=by
  by_cases h:e.version≤c.version
  · rw [decide_eq_true h,decide_eq_false (by omega)];rfl
  · rw [decide_eq_false h,decide_eq_true (by omega)];rfl
 have hkk:(e.kind == 1)=true→(e.kind == 2)=false:=by
  intro h;rw [eq_of_beq h];rfl
 refine au_ ?_
 simp only [cI_,aW_,eO_,lb_,hv,ad_ h0,am_,af_,ad_ (k6_ hel),ad_ (e5_ e.doc he),ad_ (j9_ hcl hel.2)]
 unfold cv_ badC
 cases hb:c.bad<;>cases h2:d1_ e<;>cases h3:(e.kind == 1)<;>cases hg:c.began<;>cases decide (e.version≤c.version)<;>cases h4:(e.base == c.version)<;>cases (dS_ c.doc e.ops).2<;>simp only [h2,h3,true_implies,reduceCtorEq,false_implies] at hk hkk<;>simp [h3,hk,hkk,hb,hg]
end
end Go.Pi
end
section
namespace Go.Pi
end Go.Pi
end
section
namespace Go.Pi
theorem nk_ {j:aa_} (h:bF_ j=true):aa_.size j≤20000000:=by
 have h:=of_decide_eq_true h
 have:=m8_ 6 _ h
 omega
end Go.Pi
end
section
namespace Go.Pi
end Go.Pi
end
section
namespace Go.Pi
structure OpIn (o:TOp):Prop where
 ok:gP_ o=true
 val:cO_ o=hF_ o
 size:b7_ 6 (hF_ o)≤400
theorem op_in {o:TOp} (h:(cO_ o).kind≠0):OpIn o:=by
 unfold cO_ at h
 cases ho:gP_ o with
 |false=>rw [ho] at h;exact absurd rfl h
 |true=>
  rw [ho,cond_true] at h
  unfold eq_ at h
  cases hj:bF_ (hF_ o) with
  |false=>rw [hj] at h;exact absurd rfl h
  |true=>
   refine ⟨ho,?_,of_decide_eq_true hj⟩
   unfold cO_ eq_
   rw [ho,hj];rfl
theorem zero_null {j:aa_} (h:iY_ j=true):j=fJ_:=by
 unfold iY_ at h
 simp only [Bool.and_eq_true,beq_iff_eq,decide_eq_true_eq] at h
 obtain ⟨h1,h2,h3,h4,h5⟩:=h
 obtain ⟨k,n,s,l,ns⟩:=j
 simp only at h1 h2 h3 h4 h5
 rw [h1,h2,h3,List.eq_nil_of_length_eq_zero h4,List.eq_nil_of_length_eq_zero h5];rfl
end Go.Pi
end
section
namespace Go.Pi
structure EvIs (e:aE_):Prop where
 ver:0≤e.version∧e.version≤100000
 base:(e.kind == 1)=false→0≤e.base∧e.base≤100000
 ops:(e.kind == 1)=false→decide (eP_ e.ops<e.ops.length)=false
theorem ev_is {e:aE_} (h:d1_ e=true):EvIs e:=by
 unfold d1_ at h
 rw [Bool.and_eq_true] at h
 have hv:=gE_ h.1
 refine ⟨by omega,fun hk => ?_,fun hk => ?_⟩
 all_goals (
  have h2:=h.2
  rw [hk,cond_false] at h2
  cases hk2:(e.kind == 2) with
  |false=>rw [hk2] at h2;cases h2
  |true=>
   rw [hk2,cond_true,Bool.and_eq_true,Bool.and_eq_true] at h2
   have hb:=gE_ h2.2.1
   rw [W_id (by omega) (by omega)] at hb
   unfold oQ_ at h2
   rw [Bool.and_eq_true] at h2
   first|(have:=h2.1.1;simpa using this)|omega)
end Go.Pi
end
section
namespace Go.Pi
theorem ops_right {l:List TOp} (h:b7_ 6 (fT_ l)≤400):l.length≤400:=by
 have:=f0_ h
 simpa [fT_] using this
structure SnapIs (e:aE_):Prop where
 ver:0≤e.version∧e.version≤100000
 base:e.base=0
 ops:e.ops=[]
 doc:dp_ e.doc≠[]
structure PatchIs (e:aE_):Prop where
 ver:0≤e.version∧e.version≤100000
 base:0≤e.base∧e.base≤100000
 doc:e.doc=fJ_
 ops:∀ o ∈ e.ops,OpIn o
 enc:dp_ (fT_ e.ops)≠[]
 len:e.ops.length≤400
theorem ev_cases {e:aE_} (h:d1_ e=true):(e.kind=1∧SnapIs e)∨(e.kind=2∧PatchIs e):=by
 have hi:=ev_is h
 unfold d1_ at h
 rw [Bool.and_eq_true] at h
 have h2:=h.2
 cases hk:(e.kind == 1) with
 |true=>
  rw [hk,cond_true] at h2
  simp only [Bool.and_eq_true,Bool.not_eq_true',beq_iff_eq,decide_eq_true_eq,beq_eq_false_iff_ne] at h2
  exact .inl ⟨by simpa using hk,hi.ver,h2.1,List.eq_nil_of_length_eq_zero h2.2.1,h2.2.2⟩
 |false=>
  rw [hk,cond_false] at h2
  cases hk2:(e.kind == 2) with
  |false=>rw [hk2] at h2;cases h2
  |true=>
   rw [hk2,cond_true] at h2
   unfold oQ_ at h2
   simp only [Bool.and_eq_true,Bool.not_eq_true',decide_eq_true_eq,decide_eq_false_iff_not,beq_eq_false_iff_ne] at h2
   obtain ⟨⟨b1,b2,b3⟩,b4,b5⟩:=h2
   have henc:=enc_ne b3
   refine .inr ⟨by simpa using hk2,hi.ver,hi.base hk,zero_null b5,fun o ho=>op_in ?_,b3,ops_right henc.1⟩
   intro hz
   have:e.ops.findIdx (fun o=>(cO_ o).kind == 0)<e.ops.length:=List.findIdx_lt_length_of_exists ⟨o,ho,by rw [hz];rfl⟩
   exact b1 this
end Go.Pi
end
section
namespace Go.Pi
def o9_:aX_:=aX_.mk fJ_ 0 false false
def de_ (c:aX_) (l:List aE_):aX_:=l.foldl cv_ c
theorem ho_:bF_ fJ_=true:=by decide
theorem jc_ {c:aX_} {e:aE_} (hc:bF_ c.doc=true):bF_ (cv_ c e).doc=true:=by
 unfold cv_ badC
 cases c.bad
 · cases hev:d1_ e
   · exact hc
   · cases hk:(e.kind == 1)
     · cases h:(c.began&&(e.base == c.version)&&(dS_ c.doc e.ops).2)
       · exact hc
       · rw [Bool.and_eq_true] at h
         exact lK_ h.2
     · cases (c.began&&decide (e.version≤c.version))
       · rcases ev_cases hev with ⟨_,hs⟩|⟨h2,_⟩
         · exact decide_eq_true (enc_ne hs.doc).1
         · rw [h2] at hk;cases hk
       · exact hc
 · exact hc
theorem oH_:∀ {l:List aE_} {c:aX_},bF_ c.doc=true→bF_ (de_ c l).doc=true
 |[],_,h=>h
 |_::l,_,h=>oH_ (l:=l) (jc_ h)
section
variable {l:List aE_} (hn:l.length≤1000000000) (hl:∀ e ∈ l,aa_.size e.doc≤4000000000∧n5_ e)
include hn hl
theorem gl_:Ev (fun n _=>a0_ n l) (de_ o9_ l):=by
 refine au_ ?_
 simp only [a0_]
 have key:∀ (m i:Nat) (c:aX_),i+m=l.length→bF_ c.doc=true →
   Ev (fun n N=>a0_.loop4 n (fun xy2 xy3 xy4 xy5 xy6 xy7 xy8 xy9 xy10 xy11 xy12 xy13 xy14 xy15=>(some (aX_.mk (aa_.mk xy8 xy9 xy10 xy15 xy11) xy12 xy13 xy14))) N l (i:Int) 0 0 [] 0 false false c.doc.kind c.doc.n_ c.doc.s c.doc.names c.version c.began c.bad c.doc.list) (de_ c (l.drop i)):=by
  intro m
  induction m with
  |zero=>
   intro i c hi hc
   have e:i=l.length:=by omega
   subst e
   refine b4_ ?_
   simp only [a0_.turn4,a0_.step4,ca_,cond_false,af_,List.drop_length,de_,List.foldl_nil,cA_,eO_]
  |succ m ih=>
   intro i c hi hc
   have hlt:i<l.length:=by omega
   have hx:=hl _ (bw_ aE_.dflt hlt)
   have hT:=fW_ (c:=c) (e:=l.getD i aE_.dflt) (by have:=nk_ hc;omega) (kQ_ hc) hx.1 hx.2
   have hW:=W_up hlt (show l.length≤bV_ by simp only [bV_];omega)
   have hI:=ih (i+1) _ (by omega) (jc_ (e:=l.getD i aE_.dflt) hc)
   rw [ep_ aE_.dflt hlt]
   refine b4_ ?_
   simp only [a0_.turn4,a0_.step4,aW_,cA_,eO_,lb_,cy_ hlt,cond_true,bB_,cf_ hlt,true_and,Int.toNat_natCast,hW,ad_ hT]
   exact hI
 exact d3_ (key l.length 0 o9_ (by omega) ho_)
theorem jt_:Ev (fun n _=>a3_ n l) (de_ o9_ l):=by
 refine au_ ?_
 simp only [a3_]
 have key:∀ (m i:Nat) (c:aX_),i+m=l.length→bF_ c.doc=true →
   Ev (fun n N=>a3_.loop4 n (fun xy2 xy3 xy4 xy5 xy6 xy7 xy8 xy9 xy10 xy11 xy12 xy13 xy14 xy15=>(some (aX_.mk (aa_.mk xy8 xy9 xy10 xy14 xy15) xy11 xy12 xy13))) N l (l.length:Int) (i:Int) 0 0 [] 0 false false c.doc.kind c.doc.n_ c.doc.s c.version c.began c.bad c.doc.list c.doc.names) (de_ c (l.drop i)):=by
  intro m
  induction m with
  |zero=>
   intro i c hi hc
   have e:i=l.length:=by omega
   subst e
   refine b4_ ?_
   simp only [a3_.turn4,a3_.step4,ca_,cond_false,af_,List.drop_length,de_,List.foldl_nil,cA_,eO_]
  |succ m ih=>
   intro i c hi hc
   have hlt:i<l.length:=by omega
   have hx:=hl _ (bw_ aE_.dflt hlt)
   have hT:=f5_ (c:=c) (e:=l.getD i aE_.dflt) (by have:=nk_ hc;omega) (kQ_ hc) hx.1 hx.2
   have hW:=W_up hlt (show l.length≤bV_ by simp only [bV_];omega)
   have hI:=ih (i+1) _ (by omega) (jc_ (e:=l.getD i aE_.dflt) hc)
   rw [ep_ aE_.dflt hlt]
   refine b4_ ?_
   simp only [a3_.turn4,a3_.step4,aW_,cA_,eO_,lb_,cy_ hlt,cond_true,bB_,cf_ hlt,true_and,Int.toNat_natCast,hW,ad_ hT]
   exact hI
 exact d3_ (key l.length 0 o9_ (by omega) ho_)
end
end Go.Pi
end
section
namespace Go.Pi
theorem j5_ {c:ac_} (hc:DwOk c):Ans (fun n _=>cE_ n c) fun r=>EvDw r.1∧DwOk r.2:=by
 have hj:jB 4≤2200000:=by decide
 refine b5_ ?_
 simp only [cE_,aW_]
 refine ax_ (ez_ hc) fun r hr => ?_
 with_reducible refine bh_.2 ⟨fun _ => ?_,fun _ => ?_⟩
 · refine ax_ (bc_ hr) fun k hk => ?_
   refine ax_ (eW_ 4 4 _ (by decide) (by decide) (by decide) hk.cur) fun j hj4 => ?_
   exact aD_.2 ⟨⟨⟨f2_ hj4.1 (Nat.le_trans hj (by decide)),Nat.zero_le _,fun o ho=>(by cases ho)⟩,Nat.le_trans hj4.1 (Nat.le_trans hj (by decide)),Nat.zero_le _⟩,hj4.2⟩
 · refine ax_ (j6_ hr) fun x hx => ?_
   simp only [bf_ (hx.2.1.take (by omega)),ev_etaD]
   with_reducible refine bh_.2 ⟨fun _ => ?_,fun _ => ?_⟩
   · exact aD_.2 ⟨⟨⟨en_ 6,Nat.zero_le _,fun o ho=>(by cases ho)⟩,show aa_.size (aa_.mk 0 0 [] [] [])≤2000000000 by decide,Nat.zero_le _⟩,hx.2.2⟩
   · exact aD_.2 ⟨nQ_ hx.2.1 (by omega),hx.2.2⟩
structure EvL (e:aE_):Prop where
 len:n5_ e
 doc:aa_.size e.doc≤2000000000
theorem EvDw.l {e:aE_} (h:EvDw e):EvL e:=⟨h.len,h.doc⟩
theorem lenOp_dw {o:TOp} (hw:wayIn o.way) (hv:aa_.size o.value≤dB):lL_ o :=
 ⟨⟨Nat.le_trans hw.1 (by decide),fun x hx=>Nat.le_trans (hw.2 x hx) (by decide)⟩,f2_ hv (by decide)⟩
theorem kW_ {c:ac_} (hc:DwOk c):Ans (fun n _=>dr_ n c) fun r=>EvL r.1∧DwOk r.2:=by
 refine b5_ ?_
 simp only [dr_,aW_]
 refine ax_ (j5_ hc) fun r hr => ?_
 obtain ⟨he,hcu⟩:=hr
 refine ax_ (bc_ hcu) fun k hk => ?_
 have hk:=hk.cur
 refine bh_.2 ⟨fun _=>ax_ (bc_ hk) fun x hx=>aD_.2 ⟨⟨he.len,he.doc⟩,hx.cur⟩,fun _ => ?_⟩
 refine bh_.2 ⟨fun _=>ax_ (ey_ hk (by simp)) fun x hx=>aD_.2 ⟨⟨he.len,he.doc⟩,hx.2⟩,fun _ => ?_⟩
 refine bh_.2 ⟨fun _=>ax_ (bc_ hk) fun x hx=>aD_.2 ⟨⟨he.len,he.doc⟩,hx.cur⟩,fun _ => ?_⟩
 refine bh_.2 ⟨fun _=>ax_ (ma_ hk) fun x hx=>aD_.2 ⟨⟨⟨f2_ hx.1 (by decide),he.len.2⟩,Nat.le_trans hx.1 (by decide)⟩,hx.2⟩,fun _ => ?_⟩
 refine bh_.2 ⟨fun _=>ax_ (m6_ hk) fun x hx => ?_,fun _=>aD_.2 ⟨⟨he.len,he.doc⟩,hk⟩⟩
 have hf:=he.few
 with_reducible refine d4_.2 ⟨by simp;omega,?_⟩
 refine aD_.2 ⟨⟨⟨he.len.1,?_,fun o ho => ?_⟩,he.doc⟩,hx.2⟩
 · simp only [List.length_append,List.length_singleton];omega
 · rcases List.mem_append.1 ho with h|h
   · exact he.len.2.2 o h
   · rw [List.mem_singleton.1 h];exact lenOp_dw hx.1.1 hx.1.2
end Go.Pi
end
section
namespace Go.Pi
theorem ct_bad {c:aX_} {e:aE_} (h:(cv_ c e).bad=true):(cv_ c e).version=c.version:=by
 revert h
 unfold cv_ badC
 cases c.bad<;>cases d1_ e<;>cases (e.kind == 1)<;>cases (c.began&&decide (e.version≤c.version))<;>cases (c.began&&(e.base == c.version)&&(dS_ c.doc e.ops).2)<;>simp
theorem ct_good {c:aX_} {e:aE_} (h:(cv_ c e).bad=false):(cv_ c e).version=e.version∧(cv_ c e).began=true∧c.bad=false:=by
 revert h
 unfold cv_ badC
 cases hb:c.bad<;>cases d1_ e<;>cases (e.kind == 1)<;>cases (c.began&&decide (e.version≤c.version))<;>cases (c.began&&(e.base == c.version)&&(dS_ c.doc e.ops).2)<;>simp [hb]
theorem ca_snoc (c:aX_) (l:List aE_) (e:aE_):de_ c (l++[e])=cv_ (de_ c l) e:=by
 unfold de_;rw [List.foldl_append];rfl
theorem ca_last {c:aX_} {l:List aE_} (hl:l≠[]) (h:(de_ c l).bad=false):(de_ c l).version=(l.getD (l.length - 1) aE_.dflt).version∧(de_ c l).began=true:=by
 obtain ⟨l',e,rfl⟩:∃ l' e,l=l'++[e]:=⟨l.dropLast,l.getLast hl,(List.dropLast_concat_getLast hl).symm⟩
 rw [ca_snoc] at h ⊢
 have g:=ct_good h
 have e1:(l'++[e]).getD ((l'++[e]).length - 1) aE_.dflt=e:=by
  rw [List.length_append,List.length_singleton,Nat.add_sub_cancel,List.getD_eq_getElem?_getD,List.getElem?_append_right (Nat.le_refl _),Nat.sub_self];rfl
 rw [e1]
 exact ⟨g.1,g.2.1⟩
structure CliL (c:aX_):Prop where
 len:ff_ 6 c.doc
 doc:aa_.size c.doc≤4000000000
theorem right_l {c:aX_} (h:bF_ c.doc=true):CliL c:=⟨kQ_ h,Nat.le_trans (nk_ h) (by decide)⟩
theorem jG_ {eJ_:List Int} (hc:eJ_.length≤1048576):Ans (fun n _=>cw_ n eJ_) fun l=>l.length≤6∧∀ e ∈ l,EvDw e:=by
 refine b5_ ?_
 simp only [cw_]
 refine ax_ (oa_ hc) fun c h => ?_
 refine ax_ (gr_ h) fun r hr => ?_
 exact aD_.2 ⟨hr.1,hr.2.1⟩
theorem ja_ {eJ_:List Int} (hc:eJ_.length≤1048576):Ans (fun n _=>bU_ n eJ_) fun r=>CliL r.1∧EvL r.2:=by
 refine b5_ ?_
 simp only [bU_,aW_]
 refine ax_ (oa_ hc) fun c h => ?_
 refine ax_ (gr_ h) fun r hr => ?_
 obtain ⟨h6,he,hcu⟩:=hr
 refine bh_.2 ⟨fun _=>ax_ (kW_ hcu) fun x hx=>aD_.2 ⟨⟨en_ 6,show aa_.size (aa_.mk 0 0 [] [] [])≤4000000000 by decide⟩,hx.1⟩,fun h0 => ?_⟩
 have hp:0<r.1.length:=by
  rcases Nat.eq_zero_or_pos r.1.length with h|h
  · rw [h] at h0;cases h0
  · exact h
 refine ax_ (bc_ hcu) fun k hk => ?_
 obtain ⟨k0,k1,k2⟩:=hk
 have hs:∀ e ∈ (r.1.take k.1.toNat).drop 0,aa_.size e.doc≤4000000000∧n5_ e:=fun e h=>by
  have:=he e (List.mem_of_mem_take h)
  exact ⟨Nat.le_trans this.doc (by decide),this.len⟩
 have hA:=gl_ (l:=(r.1.take k.1.toNat).drop 0) (by simp;omega) hs
 have hr:=right_l (oH_ (l:=(r.1.take k.1.toNat).drop 0) (c:=o9_) ho_)
 have hx:=(he _ (bw_ aE_.dflt (show k.1.toNat<r.1.length by omega))).l
 simp only [bU_.tail6,aW_,cu_,lb_]
 refine iV_.2 ⟨by omega,?_⟩
 rw [bf_ hA]
 with_reducible refine do_.2 ⟨by omega,?_⟩
 refine ax_ (bc_ k2) fun x hx6 => ?_
 have hcu:=hx6.cur
 refine bh_.2 ⟨fun _=>ax_ (kW_ hcu) fun x hx=>aD_.2 ⟨hr,hx.1⟩,fun _ => ?_⟩
 refine bh_.2 ⟨fun _=>aD_.2 ⟨⟨hr.len,hr.doc⟩,hx⟩,fun _ => ?_⟩
 refine bh_.2 ⟨fun _=>ax_ (eW_ 3 3 _ (by decide) (by decide) (by decide) hcu) fun x hx3=>aD_.2 ⟨⟨f2_ hx3.1 (by decide),Nat.le_trans hx3.1 (by decide)⟩,hx⟩,fun _=>aD_.2 ⟨hr,hx⟩⟩
theorem oN_ {eJ_:List Int} (hg:(n3_ lenI) eJ_):∃ n,laws_FnClient n eJ_=some true:=by
 have key:Ans (fun n _=>laws_FnClient n eJ_) fun b=>b=true:=by
  have hB:Ev (fun n _=>fz_ n eJ_) (decide ((eJ_.length:Int) > 1048576)):=au_ (by simp only [fz_,af_])
  refine b5_ ?_
  simp only [laws_FnClient,bf_ hB]
  refine bh_.2 ⟨fun _=>aD_.2 rfl,fun hb => ?_⟩
  have hb:=of_decide_eq_false hb
  have hc:eJ_.length≤1048576:=by omega
  refine ax_ (jG_ hc) fun l hl => ?_
  obtain ⟨h6,he⟩:=hl
  have he':∀ e ∈ l,aa_.size e.doc≤4000000000∧n5_ e:=fun e h=>⟨Nat.le_trans (he e h).doc (by decide),(he e h).len⟩
  rw [bf_ (jt_ (by omega) he')]
  have hlast:=fun h=>ca_last (c:=o9_) (l:=l) h
  generalize hr:de_ o9_ l=r at hlast ⊢
  simp only [laws_FnClient.tail5,aW_,cA_,eO_,lb_]
  rw [bf_ (hr ▸ gl_ (by omega) he')]
  simp only [bne_self_eq_false,beq_self_eq_true,Bool.not_true,cond_false]
  refine ax_ (ja_ hc) fun x hx => ?_
  obtain ⟨hx1,hx2⟩:=hx
  rw [bf_ (f5_ hx1.doc hx1.len (Nat.le_trans hx2.doc (by decide)) hx2.len)]
  have hbad:=ct_bad (c:=x.1) (e:=x.2)
  have hgood:=ct_good (c:=x.1) (e:=x.2)
  have hstick:x.1.bad=true→(cv_ x.1 x.2).bad=true:=fun h=>by unfold cv_;rw [h];exact h
  generalize ht:cv_ x.1 x.2=t at hbad hgood hstick ⊢
  simp only [laws_FnClient.tail11,aW_,cA_,eO_,lb_]
  rw [bf_ (ht ▸ fW_ hx1.doc hx1.len (Nat.le_trans hx2.doc (by decide)) hx2.len)]
  simp only [bne_self_eq_false,beq_self_eq_true,Bool.not_true,cond_false]
  have hend:Ans (fun _ _=>cond r.bad (some true) (cond ((l.length:Int) == 0) (some true) (inB (W ((l.length:Int) - 1)) l.length (cond (r.version == (l.getD (W ((l.length:Int) - 1)).toNat aE_.dflt).version) (some r.began) (some false))))) fun b=>b=true:=by
   refine bh_.2 ⟨fun _=>aD_.2 rfl,fun hbd=>bh_.2 ⟨fun _=>aD_.2 rfl,fun h0 => ?_⟩⟩
   have hp:0<l.length:=by
    rcases Nat.eq_zero_or_pos l.length with h|h
    · rw [h] at h0;cases h0
    · exact h
   have hW:W ((l.length:Int) - 1)=(l.length:Int) - 1:=Wn (by omega) (by omega)
   have hT:((l.length:Int) - 1).toNat=l.length - 1:=by omega
   have hL:=hlast (List.length_pos_iff.1 hp) hbd
   rw [hW,hT,hL.1,hL.2]
   with_reducible refine do_.2 ⟨by omega,?_⟩
   simp only [beq_self_eq_true,cond_true]
   exact aD_.2 rfl
  have s1:=fun h=>hstick h
  refine bh_.2 ⟨fun h => ?_,fun h => ?_⟩
  · have hb:=hstick h
    have hv:=hbad hb
    simp only [hb,hv,bne_self_eq_false,Bool.not_true,cond_false,cond_true]
    exact hend
  · cases hb:t.bad
    · have hv:=(hgood hb).1
      simp only [hv,bne_self_eq_false,Bool.not_false,cond_false,cond_true]
      exact hend
    · have hv:=hbad hb
      simp only [hv,bne_self_eq_false,Bool.not_true,cond_false,cond_true]
      exact hend
 obtain ⟨v,hv,rfl⟩:=key
 exact ev_ex hv
end Go.Pi
end
section
namespace Go.Pi
theorem good_sl {t:TC} {xs:List (El t)} (h:Good (.sl .v t xs)):xs.length≤bV_∧∀ x ∈ xs,∀ c ∈ ah_.enc .v t x,Good c:=by
 cases h with
 |sl t xs h1 h2=>exact ⟨h1,h2⟩
end Go.Pi
end
section
namespace Go.Pi
theorem good_str {l:Bs} (h:Good (.s l)):lenB l:=by
 cases h with
 |s l h=>exact h
theorem good_IntS {a:List Int} (h:Good (.sl .v .u8 a)):(n3_ lenI) a:=⟨(good_sl (t:=.u8) h).1,fun x0 hx0=>trivial⟩
end Go.Pi
end
section
namespace Go.Pi
open Go.Proofs Go.Proofs.YtmgcfhlcdhlafaaGreatDoor
namespace laws_FnClient
theorem pure_law:Pure:=fun o h0=>oN_ (good_IntS (h0 _ (by simp)))
theorem proved:Rows.FnClientCardSaid:=card pure_law
end laws_FnClient
end Go.Pi
end
namespace Go.Proofs.YtmgcfhlcdhlafaaGreatDoor
theorem fnClient_holds:Rows.FnClientCardSaid:=Go.Pi.laws_FnClient.proved
#print axioms fnClient_holds
end Go.Proofs.YtmgcfhlcdhlafaaGreatDoor
