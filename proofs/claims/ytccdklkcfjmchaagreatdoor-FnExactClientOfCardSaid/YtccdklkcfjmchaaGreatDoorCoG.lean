/- The program's ClientOf returns what the reference's returns, for all arguments, and returns memory that it shares with nothing. Text 7 of 7. -/
import Derived.Test.YtccdklkcfjmchaaGreatDoorCoF
set_option linter.unusedVariables false
set_option maxRecDepth 100000
set_option linter.unusedSimpArgs false
section
namespace Go.Pi
theorem isNaN_ev {x:Bs}:Ev (fun n _=>bg_ n x) false:=aI_ (by simp [bg_,ai_])
theorem isNaN2_ev {x:Bs}:Ev (fun n _=>bz_ n x) false:=aI_ (by simp [bz_,ai_])
theorem pO_ {x y:Bs}:Ev (fun n _=>bL_ n x y) (Op.bytesLess x y):=by
 refine aI_ ?_
 simp only [bL_,ae_ isNaN2_ev,aE_,ai_]
 cases Op.bytesLess x y<;>simp
theorem half {i j:Nat} (h:i+j≤4000000):W (Int.fdiv (IntKind.u64.wrap (W ((i:Int)+(j:Int)))) (2 ^ min (1:Int).toNat (IntKind.bits .u64)))=(((i+j) / 2:Nat):Int):=by
 have e1:W ((i:Int)+(j:Int))=((i+j:Nat):Int):=by rw [W_id (by omega) (by omega)];omega
 have e2:IntKind.u64.wrap ((i+j:Nat):Int)=((i+j:Nat):Int):=by
  show (((i+j:Nat):Int)) % _=_
  exact Int.emod_eq_of_lt (by omega) (by have:((i+j:Nat):Int)≤4000000:=by omega
                                         exact Int.lt_of_le_of_lt this (by decide))
 have e3:(2:Int) ^ min (1:Int).toNat (IntKind.bits .u64)=2:=by decide
 rw [e1,e2,e3,Int.fdiv_eq_ediv_of_nonneg _ (by decide)]
 rw [W_id (by omega) (by omega)];omega
theorem kq_ {ns:List Bs} {x:Bs} (hl:ns.length≤2000000) (hM:∀ h,h<ns.length→Op.bytesLess (ns.getD h []) x=decide (h<dI_ ns x)) :
  Ev (fun n _=>ad_ n ns x) ((dI_ ns x:Int),decide (dI_ ns x<ns.length)&&(ns.getD (dI_ ns x) [] == x)):=by
 refine aI_ ?_
 have hpl:dI_ ns x≤ns.length:=List.findIdx_le_length
 obtain ⟨p,hp⟩:∃ p,p=dI_ ns x:=⟨_,rfl⟩
 rw [←hp] at hpl hM ⊢
 simp only [ad_]
 have key:∀ (d i j:Nat),j - i≤d→i≤p→p≤j→j≤ns.length→Ev (fun n N=>ad_.loop4 n (fun xy3 xy4 xy5 xy6=>(cond (decide (xy6<xy5)) (inB xy6 xy3.length (cond ((xy3.getD xy6.toNat []) == xy4) (some (xy6,true)) (inB xy6 xy3.length ((bg_ n (xy3.getD xy6.toNat [])).bind fun xr7=>(cond xr7 ((bg_ n xy4).bind fun xr8=>(some (xy6,xr8))) (some (xy6,false))))))) (some (xy6,false)))) N ns x (ns.length:Int) (i:Int) (j:Int)) ((p:Int),decide (p<ns.length)&&(ns.getD p [] == x)):=by
  intro d
  induction d with
  |zero=>
   intro i j hd h1 h2 h3
   have e:i=p:=by omega
   have e':j=p:=by omega
   subst e;subst e'
   refine bm_ ?_
   simp only [ad_.turn4,ad_.step4,Int.lt_irrefl,decide_false,cond_false,aE_,b7_,ai_,Int.toNat_natCast,ae_ isNaN_ev]
   by_cases hc:j<ns.length
   · rw [decide_eq_true hc,decide_eq_true (show (j:Int)<(ns.length:Int) by omega)]
     cases hs:(ns.getD j [] == x)<;>simp<;>omega
   · rw [decide_eq_false hc,decide_eq_false (show ¬ (j:Int)<(ns.length:Int) by omega)]
     exact ⟨fun h=>(by cases h),fun _=>rfl⟩
  |succ d ih=>
   intro i j hd h1 h2 h3
   by_cases hij:i<j
   · have hh:=half (i:=i) (j:=j) (by omega)
     have hm:(i+j) / 2<ns.length:=by omega
     refine bm_ ?_
     simp only [ad_.turn4,ad_.step4,hh,decide_eq_true (show (i:Int)<(j:Int) by omega),cond_true,aE_,b7_,Int.toNat_natCast,ae_ pO_,da_ hm,hM _ hm,W_up hm (show ns.length≤cY_ by simp only [cY_];omega)]
     refine ⟨trivial,fun hc => ?_,fun hc => ?_⟩
     · have hc:=of_decide_eq_true hc
       exact ih ((i+j) / 2+1) j (by omega) (by omega) h2 h3
     · have hc:=of_decide_eq_false hc
       exact ih i ((i+j) / 2) (by omega) h1 (by omega) (by omega)
   · exact ih i j (by omega) h1 h2 h3
 exact c5_ (f:=fun n N=>ad_.loop4 n _ N ns x (ns.length:Int) 0 (ns.length:Int)) (key ns.length 0 ns.length (by omega) (Nat.zero_le _) hpl (Nat.le_refl _))
end Go.Pi
end
section
namespace Go.Pi
def nC_:List (Bs × Int)→Prop
 |[]=>True
 |(k,_)::l=>(∀ p ∈ l,k<p.1)∧nC_ l
end Go.Pi
end
section
namespace Go.Pi
end Go.Pi
end
section
namespace Go.Pi
end Go.Pi
end
section
namespace Go.Pi
theorem pj_ {k x:Bs} {ns:List Bs}:f0_ (k::ns) x=if k<x then f0_ ns x+1 else if k=x then 1 else 0:=by
 by_cases h:k<x
 · have hb:Op.bytesLess k x=true:=by rw [fG_];exact decide_eq_true h
   have e1:dI_ (k::ns) x=dI_ ns x+1:=by unfold dI_;rw [List.findIdx_cons];simp [hb]
   unfold f0_
   rw [e1,if_pos h]
   simp only [List.getD_cons_succ,List.length_cons,Nat.add_lt_add_iff_right]
   split<;>rfl
 · have hb:Op.bytesLess k x=false:=by rw [fG_];exact decide_eq_false h
   have e1:dI_ (k::ns) x=0:=by unfold dI_;rw [List.findIdx_cons];simp [hb]
   rw [if_neg h]
   unfold f0_
   rw [e1]
   by_cases h2:k=x
   · simp [h2]
   · simp [h2]
theorem asc_ne {x:Bs}:∀ {l:List (Bs × Int)},nC_ l→∀ i,f0_ (l.map (·.1)) x≤i→i<(l.map (·.1)).length→((l.map (·.1)).getD i [] == x)=false
 |[],_,i,_,hi=>by simp at hi
 |(k,v)::l,h,i,hp,hi=>by
  simp only [List.map_cons,pj_] at hp
  have later:∀ i',i'<(l.map (·.1)).length→k<(l.map (·.1)).getD i' []:=fun i' hi'=>by
   have hm:=cO_ (d:=([]:Bs)) (a:=l.map (·.1)) (i:=i') hi'
   obtain ⟨p,hp,e⟩:=List.mem_map.1 hm
   rw [←e];exact h.1 p hp
  cases i with
  |zero=>
   simp only [List.map_cons,List.getD_cons_zero]
   by_cases h1:k<x
   · rw [if_pos h1] at hp;omega
   · rw [if_neg h1] at hp
     by_cases h2:k=x
     · rw [if_pos h2] at hp;omega
     · exact beq_eq_false_iff_ne.2 h2
  |succ i=>
   have hi':i<(l.map (·.1)).length:=by simpa using hi
   simp only [List.map_cons,List.getD_cons_succ]
   by_cases h1:k<x
   · rw [if_pos h1] at hp
     exact asc_ne h.2 i (by omega) hi'
   · refine beq_eq_false_iff_ne.2 fun e=>h1 ?_
     rw [←e];exact later i hi'
end Go.Pi
end
section
namespace Go.Pi
def ascB:List Bs→Prop
 |[]=>True
 |k::l=>(∀ y ∈ l,k<y)∧ascB l
theorem o6_:∀ {l:List Bs},ascB l→nC_ (l.map fun y=>(y,(0:Int)))
 |[],_=>trivial
 |k::l,h=>⟨fun p hp=>by
   obtain ⟨y,hy,rfl⟩:=List.mem_map.1 hp
   exact h.1 y hy,o6_ h.2⟩
theorem keys_map (l:List Bs):(l.map fun y=>(y,(0:Int))).map (·.1)=l:=by
 rw [List.map_map];exact List.map_id'' (fun _=>rfl) l
theorem ascB_ne {l:List Bs} {x:Bs} (h:ascB l):∀ i,f0_ l x≤i→i<l.length→(l.getD i [] == x)=false:=by
 have:=asc_ne (x:=x) (o6_ h)
 rw [keys_map] at this
 exact this
theorem nw_ {k x:Bs} {ns:List Bs}:dI_ (k::ns) x=if k<x then dI_ ns x+1 else 0:=by
 by_cases h:k<x
 · have hb:Op.bytesLess k x=true:=by rw [fG_];exact decide_eq_true h
   rw [if_pos h];unfold dI_;rw [List.findIdx_cons];simp [hb]
 · have hb:Op.bytesLess k x=false:=by rw [fG_];exact decide_eq_false h
   rw [if_neg h];unfold dI_;rw [List.findIdx_cons];simp [hb]
theorem na_ {x:Bs}:∀ {l:List Bs},ascB l→∀ h,h<l.length→Op.bytesLess (l.getD h []) x=decide (h<dI_ l x)
 |[],_,h,hh=>by simp at hh
 |k::l,ha,h,hh=>by
  rw [fG_]
  simp only [nw_]
  cases h with
  |zero=>
   simp only [List.getD_cons_zero]
   by_cases hk:k<x
   · rw [if_pos hk,decide_eq_true hk];simp
   · rw [if_neg hk,decide_eq_false hk];simp
  |succ h=>
   have hh':h<l.length:=by simpa using hh
   simp only [List.getD_cons_succ]
   by_cases hk:k<x
   · have:=na_ (x:=x) ha.2 h hh'
     rw [fG_] at this
     rw [if_pos hk,this]
     simp
   · rw [if_neg hk]
     have hm:=ha.1 _ (cO_ (d:=([]:Bs)) (a:=l) hh')
     rw [decide_eq_false fun h2=>hk (List.lt_trans hm h2)]
     simp
theorem kV_:∀ {l:List Bs},(∀ i,i+1<l.length→l.getD i []<l.getD (i+1) [])→ascB l
 |[],_=>trivial
 |[k],_=>⟨fun y hy=>(by cases hy),trivial⟩
 |k::k2::l,h=>by
  have h2:ascB (k2::l):=kV_ fun i hi=>h (i+1) (by simpa using hi)
  have h0:k<k2:=h 0 (by simp)
  refine ⟨fun y hy => ?_,h2⟩
  rcases List.mem_cons.1 hy with rfl|hy
  · exact h0
  · exact List.lt_trans h0 (h2.1 y hy)
theorem lj_ {l:List Bs} (h:in_ l=true):ascB l:=by
 refine kV_ fun i hi => ?_
 have:=fy_.1 h (i+1) hi
 simp only [Bool.and_eq_true,Bool.or_eq_true,decide_eq_true_eq,Nat.add_sub_cancel] at this
 rcases this.2 with h|h
 · omega
 · rw [fG_] at h;exact of_decide_eq_true h
end Go.Pi
end
section
namespace Go.Pi
def Ok2 (x:Option aa_) (r:aa_ × Bool):Prop:=r.2=x.isSome∧∀ y,x=some y→r.1=y
theorem ft_ {j:aa_}:Ok2 none (j,false):=⟨rfl,fun y h=>(by cases h)⟩
theorem dU_ {j:aa_}:Ok2 (some j) (j,true):=⟨rfl,fun y h=>(by cases h;rfl)⟩
def jd_ {α:Type} (l:List α) (k:Nat) (v:α):List α:=l.take k++[v]++l.drop k
def addAt (j:aa_) (name:Bs):Int:=cond (name == [45]) (j.list.length:Int) (FPos name)
def FAdd (j:aa_) (name:Bs) (v:aa_):Option aa_ :=
 cond (j.kind == 5) (some (aa_.mk 5 0 [] (mz_ j.names name j.list v) (mz_ j.names name j.names name)))
  (cond (j.kind == 4) (cond (inn (addAt j name) 0 (j.list.length:Int)) (some (aa_.mk j.kind j.n_ j.s (jd_ j.list (addAt j name).toNat v) j.names)) none) none)
theorem size_pos:∀ (d:Nat) (x:aa_),1≤bE_ d x
 |0,_=>by simp [bE_]
 |d+1,x=>by
  simp only [bE_]
  cases FOwn x<;>simp only [cond_true,cond_false]<;>omega
theorem sum_len (d:Nat):∀ l:List aa_,l.length≤ei_ (bE_ d) l
 |[]=>Nat.zero_le _
 |x::l=>by
  have h1:=sum_len d l
  have h2:=size_pos d x
  show l.length+1≤bE_ d x+ei_ (bE_ d) l
  omega
theorem fK_ {d:Nat} {j:aa_} (h:bE_ (d+1) j≤400):j.list.length≤399:=by
 have h1:=(di_ h).2
 have h2:=sum_len d j.list
 omega
theorem jm_ {l:List Bs} {k:Nat} {x:Bs} (h:k≤l.length) (hl:l.length≤10000):Ev (fun n _=>bv_ n l (k:Int) [x]) (jd_ l k x):=by
 refine aI_ ?_
 simp only [bv_,iB_,aE_,ai_,dl_,Int.toNat_natCast,jd_]
 simp;omega
theorem fH_ {l:List aa_} {k:Nat} {x:aa_} (h:k≤l.length) (hl:l.length≤10000):Ev (fun n _=>bA_ n l (k:Int) [x]) (jd_ l k x):=by
 refine aI_ ?_
 simp only [bA_,iB_,aE_,ai_,dl_,Int.toNat_natCast,jd_]
 simp;omega
theorem putL_new {α:Type} {ns:List Bs} {x:Bs} (h:(decide (dI_ ns x<ns.length)&&(ns.getD (dI_ ns x) [] == x))=false) (l:List α) (y:α):mz_ ns x l y=jd_ l (dI_ ns x) y:=by
 unfold mz_ jd_ f0_
 rw [if_neg]
 rintro ⟨h1,h2⟩
 rw [decide_eq_true h2,h1] at h
 simp at h
theorem op_ {α:Type} {ns:List Bs} {x:Bs} (h:(decide (dI_ ns x<ns.length)&&(ns.getD (dI_ ns x) [] == x))=true) (l:List α) (y:α) (hl:dI_ ns x<l.length):mz_ ns x l y=l.set (dI_ ns x) y:=by
 simp only [Bool.and_eq_true,decide_eq_true_eq] at h
 unfold mz_ f0_
 rw [if_pos ⟨eq_of_beq h.2,h.1⟩,List.set_eq_take_append_cons_drop,if_pos hl]
 simp
theorem set_same {l:List Bs} {p:Nat} {x:Bs} (h:p<l.length) (e:l.getD p []=x):l.set p x=l:=by
 rw [List.getD_eq_getElem?_getD,List.getElem?_eq_getElem h,Option.getD_some] at e
 subst e
 exact List.set_getElem_self h
theorem ji_ {d:Nat} {j:aa_} (h:bE_ (d+1) j≤400) {name:Bs} {v:aa_} (hn:name.length≤281474976710656):Ans (fun n _=>cA_ n j name v) (Ok2 (FAdd j name v)):=by
 have ho:=(di_ h).1
 have o2:=ed_ (d0_ h)
 have hl:=fK_ h
 refine c7_ ?_
 simp only [cA_,bh_]
 unfold FAdd
 cases h5:(j.kind == 5)
 · cases h4:(j.kind == 4)
   · simp only [cond_false,br_];exact ft_
   · simp only [cond_false,cond_true,bj_ (gN_ hn),cc_,bj_ gu_,br_]
     have hr:=jQ_ name
     unfold addAt
     refine ⟨fun hq => ?_,fun hq => ?_⟩
     · rw [hq,cond_true]
       have e:inn (j.list.length:Int) 0 (j.list.length:Int)=true:=by simp [inn]
       rw [e]
       simp only [Bool.not_true,cond_true,bj_ (fH_ (l:=j.list) (k:=j.list.length) (x:=v) (Nat.le_refl _) (by omega)),br_,Int.toNat_natCast]
       exact ⟨fun h=>(by cases h),fun _=>dU_⟩
     · rw [hq,cond_false]
       cases e:inn (FPos name) 0 (j.list.length:Int)
       · simp only [Bool.not_false,cond_false]
         exact ⟨fun _=>ft_,fun h=>(by cases h)⟩
       · have hi:=j0_.1 e
         have hi2:((FPos name).toNat:Int)=FPos name:=Int.toNat_of_nonneg hi.1
         have hI:=fH_ (l:=j.list) (k:=(FPos name).toNat) (x:=v) (by omega) (by omega)
         rw [hi2] at hI
         simp only [Bool.not_true,cond_true,bj_ hI,br_]
         exact ⟨fun h=>(by cases h),fun _=>dU_⟩
 · have hk:j.kind=5:=by simpa using h5
   obtain ⟨he,hN⟩:=ho.obj hk
   have hA:=lj_ hN
   have hB:=kq_ (ns:=j.names) (x:=name) (by omega) (na_ hA)
   have hp:dI_ j.names name≤j.names.length:=List.findIdx_le_length
   simp only [cond_true,bj_ hB]
   have n0:=o2.n0 (by omega) (by omega)
   have s0:=o2.s0 (by omega)
   cases hf:(decide (dI_ j.names name<j.names.length)&&(j.names.getD (dI_ j.names name) [] == name))
   · simp only [cond_false,bj_ (jm_ (l:=j.names) (k:=dI_ j.names name) (x:=name) hp (by omega)),bj_ (fH_ (l:=j.list) (k:=dI_ j.names name) (x:=v) (by omega) (by omega)),br_,putL_new hf,hk,n0,s0]
     exact dU_
   · have hlt:dI_ j.names name<j.names.length:=by simp only [Bool.and_eq_true,decide_eq_true_eq] at hf;exact hf.1
     have e2:j.names.set (dI_ j.names name) name=j.names:=by
      have h7:j.names.getD (dI_ j.names name) []=name:=by simp only [Bool.and_eq_true] at hf;exact eq_of_beq hf.2
      exact set_same hlt h7
     simp only [cond_true,dM_,da_ (show dI_ j.names name<j.list.length by omega),true_and,Int.toNat_natCast,br_,op_ hf j.list v (by omega),op_ hf j.names name hlt,hk,n0,s0]
     rw [e2]
     exact dU_
end Go.Pi
end
section
namespace Go.Pi
theorem ks_ {d:Nat} {j:aa_} (h:bE_ (d+1) j≤400) {name:Bs} {o:TOp} (hv:bE_ 6 o.value≤400):Ans (fun n _=>cZ_ n j name o) (Ok2 (FAdd j name o.value)):=by
 have ho:=(di_ h).1
 have hl:=fK_ h
 have hC:=dz_ 6 o.value hv
 refine c7_ ?_
 simp only [cZ_,bh_]
 unfold FAdd
 cases h5:(j.kind == 5)
 · cases h4:(j.kind == 4)
   · have h4':(j.kind != 4)=true:=by rw [bne,h4];rfl
     simp only [h4',cond_false,cond_true,bj_ fc_,cc_,br_]
     exact ⟨fun _=>ft_,fun _=>ft_⟩
   · have h4':(j.kind != 4)=false:=by rw [bne,h4];rfl
     have hr:=jQ_ name
     simp only [h4',cond_false,cond_true,bj_ fc_,cc_,bj_ l1In_ev,br_,bj_ hC,hf_,es_,List.nil_append,List.length_nil,List.drop_zero,List.take_length,Int.toNat_natCast]
     unfold addAt
     refine ⟨fun hq => ?_,fun hq => ?_⟩
     · rw [hq,cond_true]
       have e:inn (j.list.length:Int) 0 (j.list.length:Int)=true:=by simp [inn]
       have e9:jd_ j.list j.list.length o.value=j.list++[o.value]++j.list.drop j.list.length:=by unfold jd_;rw [List.take_length]
       rw [e]
       simp only [Bool.not_true,cond_true,Int.toNat_natCast,e9]
       refine ⟨fun h=>(by cases h),fun _ => ?_⟩
       repeat' (first|exact dU_|apply And.intro)
       all_goals (first|omega|(simp;done)|(simp;omega)|trace_state)
     · rw [hq,cond_false]
       cases e:inn (FPos name) 0 (j.list.length:Int)
       · simp only [Bool.not_false,cond_false]
         exact ⟨fun _=>ft_,fun h=>(by cases h)⟩
       · have hi:=j0_.1 e
         simp only [Bool.not_true,cond_true]
         refine ⟨fun h=>(by cases h),fun _ => ?_⟩
         repeat' (first|exact dU_|apply And.intro)
         all_goals (first|omega|(simp;done)|(simp;omega)|trace_state)
 · have hk:j.kind=5:=by simpa using h5
   obtain ⟨he,hN⟩:=ho.obj hk
   have hA:=lj_ hN
   have hP:=hT_ (o:=j) (j:=o.value) (x:=name) (by omega) he.symm (fun z hz=>by
    rw [fG_] at hz
    exact beq_eq_false_iff_ne.2 fun e=>by subst e;exact List.lt_irrefl z (of_decide_eq_true hz)) (ascB_ne hA)
   simp only [cond_true,bj_ hC,bj_ hP,br_]
   exact dU_
end Go.Pi
end
section
namespace Go.Pi
def i9_ (d:Nat) (j:aa_) (o:TOp):Option aa_:=cond (o.kind == 4) (cond (ef_ d j o.value) (some j) none) (cond (o.kind == 2) none (some o.value))
def lt_ (j:aa_) (i:Nat) (y:aa_):aa_:=aa_.mk j.kind j.n_ j.s (j.list.set i y) j.names
def ld_ (j:aa_) (i:Nat):aa_:=aa_.mk j.kind j.n_ j.s (j.list.take i++j.list.drop (i+1)) (cond (j.kind == 5) (j.names.take i++j.names.drop (i+1)) j.names)
def FPat:Nat→aa_→List Bs→TOp→Option aa_
 |d,j,[],o=>i9_ d j o
 |0,_,_::_,_=>none
 |d+1,j,x::w,o=>cond (w.isEmpty&&(o.kind == 1)) (FAdd j x o.value) (cond (decide (FAt j x<0)) none (cond (w.isEmpty&&(o.kind == 2)) (some (ld_ j (FAt j x).toNat))
   ((FPat d (j.list.getD (FAt j x).toNat aa_.dflt) w o).map (lt_ j (FAt j x).toNat))))
structure n0_ (o:TOp):Prop where
 kind:o.kind=1∨o.kind=2∨o.kind=3∨o.kind=4
 value:bE_ 6 o.value≤400
theorem ky_ {d:Nat} {j:aa_} {o:TOp} (h:bE_ d j≤400) (ho:n0_ o):Ans (fun n _=>c1_ n j o) (Ok2 (i9_ d j o)):=by
 have hC:=dx_ 6 o.value ho.value
 have hA:=f4_ d j o.value (eH_ d j h) (cI_ d j h)
 refine c7_ ?_
 simp only [c1_,bh_]
 unfold i9_
 rcases ho.kind with hk|hk|hk|hk<;>rw [hk]
 · simp only [show ((1:Int) == 1)=true from rfl,show ((1:Int) == 4)=false from rfl,show ((1:Int) == 2)=false from rfl,cond_true,cond_false,bj_ hC,br_];exact dU_
 · simp only [show ((2:Int) == 1)=false from rfl,show ((2:Int) == 3)=false from rfl,show ((2:Int) == 4)=false from rfl,show ((2:Int) == 2)=true from rfl,cond_true,cond_false,br_];exact ft_
 · simp only [show ((3:Int) == 1)=false from rfl,show ((3:Int) == 3)=true from rfl,show ((3:Int) == 4)=false from rfl,show ((3:Int) == 2)=false from rfl,cond_true,cond_false,bj_ hC,br_];exact dU_
 · simp only [show ((4:Int) == 1)=false from rfl,show ((4:Int) == 3)=false from rfl,show ((4:Int) == 4)=true from rfl,cond_true,cond_false,bj_ hA,br_]
   cases ef_ d j o.value
   · exact ft_
   · exact dU_
theorem kr_ {d:Nat} {j:aa_} {o:TOp} (h:bE_ d j≤400) (ho:n0_ o):Ans (fun n _=>cy_ n j o) (Ok2 (i9_ d j o)):=by
 have hC:=dz_ 6 o.value ho.value
 have hA:=eb_ d j o.value (eH_ d j h) (cI_ d j h)
 refine c7_ ?_
 simp only [cy_,bh_]
 unfold i9_
 rcases ho.kind with hk|hk|hk|hk<;>rw [hk]
 · simp only [show ((1:Int) == 4)=false from rfl,show ((1:Int) == 2)=false from rfl,cond_true,cond_false,bj_ hC,br_];exact dU_
 · simp only [show ((2:Int) == 4)=false from rfl,show ((2:Int) == 2)=true from rfl,cond_true,cond_false,br_];exact ft_
 · simp only [show ((3:Int) == 4)=false from rfl,show ((3:Int) == 2)=false from rfl,cond_true,cond_false,bj_ hC,br_];exact dU_
 · simp only [show ((4:Int) == 4)=true from rfl,show ((4:Int) == 2)=false from rfl,cond_true,cond_false,bj_ hA,br_]
   cases ef_ d j o.value
   · exact ft_
   · exact dU_
theorem jh_ {j:aa_} {i:Nat} (hi:i<j.list.length) (hl:j.list.length≤10000) (he:j.kind=5→j.names.length=j.list.length):Ev (fun n _=>ca_ n j (i:Int)) (ld_ j i):=by
 have hW:=W_up hi (show j.list.length≤cY_ by simp only [cY_];omega)
 have e1:((i+1:Nat):Int).toNat=i+1:=Int.toNat_natCast _
 have hD:Ev (fun n _=>bK_ n j.list (i:Int) ((i+1:Nat):Int)) (j.list.take i++j.list.drop (i+1)):=by
  refine aI_ ?_
  simp only [bK_,iC_,aE_,ai_,dl_,Int.toNat_natCast,e1]
  simp;omega
 refine aI_ ?_
 simp only [ca_,hW,ae_ hD,aE_,ai_]
 unfold ld_
 refine ⟨fun h5 => ?_,fun h5 => ?_⟩
 · have hk:=he (by simpa using h5)
   have hS:Ev (fun n _=>bw_ n j.names (i:Int) ((i+1:Nat):Int)) (j.names.take i++j.names.drop (i+1)):=by
    refine aI_ ?_
    simp only [bw_,iC_,aE_,ai_,dl_,Int.toNat_natCast,e1]
    simp;omega
   rw [h5]
   simp only [ae_ hS,ai_,cond_true]
 · rw [h5];rfl
end Go.Pi
end
section
namespace Go.Pi
theorem nx_ {x:Option aa_} {r:aa_ × Bool} (h:Ok2 x r) {f:aa_→aa_} {z:aa_} (hz:r.2=true→z=f r.1):Ok2 (x.map f) (z,r.2):=by
 obtain ⟨h1,h2⟩:=h
 refine ⟨by rw [h1];cases x<;>rfl,fun y hy => ?_⟩
 cases x with
 |none=>cases hy
 |some x0=>
  simp only [Option.map_some,Option.some.injEq] at hy
  rw [←hy,←h2 x0 rfl]
  exact hz (by rw [h1];rfl)
theorem beq_nat (n:Nat):Nat.beq n n=true:=Nat.beq_refl n
theorem gm_:∀ (d:Nat) (j:aa_) (way:List Bs) (o:TOp),bE_ d j≤400→(∀ x ∈ way,x.length≤281474976710656)→way.length≤1000→n0_ o→Ans (fun n _=>bY_ n j way o) (Ok2 (FPat d j way o))
 |0,j,way,o,h,hw,hl,ho=>by simp only [bE_] at h;omega
 |d+1,j,[],o,h,hw,hl,ho=>by
  have hW:=ky_ h ho
  refine c7_ ?_
  simp only [bY_,bh_,ek_,List.length_nil,show (((0:Nat):Int) == 0)=true from rfl,cond_true]
  exact c6_ hW fun r hr=>br_.2 hr
 |d+1,j,x::w,o,h,hw,hl,ho=>by
  have hown:=(di_ h).1
  have hjl:=fK_ h
  have he:j.kind=5→j.list.length=j.names.length:=fun hk=>(hown.obj hk).1.symm
  have hnl:j.names.length≤cY_:=by
   have:=(cI_ (d+1) j h).1.2
   exact this.1
  have hx:=hw x (List.mem_cons_self ..)
  have hC:=dx_ 6 o.value ho.value
  have hP:=j1_ (s:=x) hnl he hx
  have hAdd:=ji_ h (name:=x) (v:=o.value) hx
  have hr:=jv_ j x he
  have hcut:(0:Int)≤1∧(1:Int)≤((x::w).length:Int)∧((x::w).length:Int)≤((x::w).length:Int):=⟨by omega,by simp;omega,by omega⟩
  have hin0:(0:Int)≤0∧(0:Int)<((x::w).length:Int):=⟨by omega,by simp<;>omega⟩
  have e0:(((x::w).length:Int) == 0)=false:=by simp;omega
  have ew:(((x::w).take (((x::w).length:Nat):Int).toNat).drop 1)=w:=by rw [Int.toNat_natCast,List.take_length];rfl
  have fX_:¬ FAt j x<0→Ans (fun n N=>inB (FAt j x) j.list.length (e9_ 1 ((x::w).length:Int) (x::w).length (cond (Nat.beq (FAt j x).toNat (FAt j x).toNat) (cond (Nat.beq (FAt j x).toNat (FAt j x).toNat) ((bY_ n (j.list.getD (FAt j x).toNat aa_.dflt) w o).bind fun xr6=>(cond (!xr6.2) (some ((aa_.mk 0 0 [] ([]:List aa_) ([]:List Bs)),false)) (inB (FAt j x) j.list.length (cond (Nat.beq (FAt j x).toNat (FAt j x).toNat) (let xa7:List aa_:=j.list.set (FAt j x).toNat xr6.1;(some ((aa_.mk j.kind j.n_ j.s xa7 j.names),true))) none)))) none) none)))
    (Ok2 ((FPat d (j.list.getD (FAt j x).toNat aa_.dflt) w o).map (lt_ j (FAt j x).toNat))):=fun hn=>by
   have hlt:(FAt j x).toNat<j.list.length:=by omega
   have ih:=gm_ d (j.list.getD (FAt j x).toNat aa_.dflt) w o (ej_ h (cO_ _ hlt)) (fun y hy=>hw y (List.mem_cons_of_mem _ hy)) (by simp at hl;omega) ho
   simp only [beq_nat,cond_true,dM_,hf_]
   refine ⟨⟨by omega,by omega⟩,hcut,?_⟩
   refine c6_ ih fun r hr => ?_
   simp only [cc_,br_,dM_]
   refine ⟨fun hf => ?_,fun hf=>⟨⟨by omega,by omega⟩,?_⟩⟩
   · have hf:r.2=false:=by simpa using hf
     have:=nx_ hr (f:=lt_ j (FAt j x).toNat) (z:=aa_.mk 0 0 [] ([]:List aa_) ([]:List Bs)) (fun e=>by rw [hf] at e;cases e)
     rwa [hf] at this
   · have hf:r.2=true:=by simpa using hf
     have:=nx_ hr (f:=lt_ j (FAt j x).toNat) (z:=lt_ j (FAt j x).toNat r.1) (fun _=>rfl)
     rwa [hf] at this
  refine c7_ ?_
  simp only [bY_,bh_,ek_,e0,cond_false,ew,List.getD_cons_zero]
  cases w with
  |nil=>
   have e1:(([x]:List Bs).length:Int) == 1:=rfl
   have e1:((([x]:List Bs).length:Int) == 1)=true:=rfl
   simp only [e1,cond_true,FPat,List.isEmpty_nil,Bool.true_and]
   cases hk:(o.kind == 1)
   · simp only [cond_false,dM_,bj_ hP,cc_,br_]
     refine ⟨hin0,fun hn => ?_,fun hn => ?_⟩
     · rw [hn];exact ft_
     · have hn':=of_decide_eq_false hn
       rw [hn]
       refine ⟨fun h2 => ?_,fun h2 => ?_⟩
       · have hi:((FAt j x).toNat:Int)=FAt j x:=Int.toNat_of_nonneg (by omega)
         have hD:=jh_ (j:=j) (i:=(FAt j x).toNat) (by omega) (by omega) (fun hk=>(hown.obj hk).1)
         rw [hi] at hD
         simp only [bj_ hD,br_,h2,cond_true,cond_false]
         exact dU_
       · rw [h2]
         have hq:=dM_.1 (fX_ hn')
         simp only [FPat] at hq
         exact hq
   · simp only [cond_true,dM_,bj_ hC]
     refine ⟨hin0,?_⟩
     exact c6_ hAdd fun r hr=>br_.2 hr
  |cons x2 w=>
   have e1:(((x::x2::w).length:Int) == 1)=false:=by simp<;>omega
   simp only [e1,cond_false,FPat,List.isEmpty_cons,Bool.false_and]
   simp only [dM_,bj_ hP,cc_,br_]
   refine ⟨hin0,fun hn => ?_,fun hn => ?_⟩
   · rw [hn];exact ft_
   · have hn':=of_decide_eq_false hn
     rw [hn]
     exact dM_.1 (fX_ hn')
end Go.Pi
end
section
namespace Go.Pi
theorem pd_ {j:aa_} {i:Nat} (h:i<j.list.length):lt_ j i (j.list.getD i aa_.dflt)=j:=by
 unfold lt_
 rw [List.getD_eq_getElem?_getD,List.getElem?_eq_getElem h,Option.getD_some,List.set_getElem_self]
 exact dj_ j
theorem tail_drop {j:aa_} {i:Nat} (hi:i<j.list.length) (hl:j.list.length≤10000) (he:j.kind=5→j.names.length=j.list.length):Ans (fun n (_:Nat)=>bD_.tail8 n (i:Int) j.names j.kind j.n_ j.s j.list 0 0 []) (Ok2 (some (ld_ j i))):=by
 have hW:=W_up hi (show j.list.length≤cY_ by simp only [cY_];omega)
 have e1:((i+1:Nat):Int).toNat=i+1:=Int.toNat_natCast _
 simp only [bD_.tail8,bD_.tail17,hW,hf_,es_,cc_,br_,Int.toNat_natCast,e1,List.take_length,List.drop_zero,List.nil_append,List.length_nil]
 unfold ld_
 refine ⟨by omega,by simp;omega,by omega,by simp;omega,fun h5 => ?_,fun h5 => ?_⟩
 · have hk:=he (by simpa using h5)
   rw [h5]
   refine ⟨by omega,by simp;omega,by omega,by simp;omega,dU_⟩
 · rw [h5];exact dU_
theorem lr_ {d:Nat} {j:aa_} {x:Bs} {o:TOp} (h:bE_ (d+1) j≤400) (ho:n0_ o):Ans (fun n _=>bD_ n j x o) (Ok2 (FPat (d+1) j [x] o)):=by
 have hown:=(di_ h).1
 have hjl:=fK_ h
 have he:j.kind=5→j.list.length=j.names.length:=fun hk=>(hown.obj hk).1.symm
 have hnl:j.names.length≤cY_:=(cI_ (d+1) j h).1.2.1
 have hP:=iS_ (j:=j) (s:=x) hnl
 have hr:=jv_ j x he
 have hC:=dz_ 6 o.value ho.value
 refine c7_ ?_
 simp only [bD_,bh_,ek_,bj_ hP,cc_,br_,dM_,FPat,List.isEmpty_nil,Bool.true_and]
 have hAdd:=ks_ h (name:=x) ho.value
 refine ⟨fun hk => ?_,fun hk=>⟨fun hn => ?_,fun hn=>⟨fun h4 => ?_,fun h4=>⟨fun h3 => ?_,fun h3 => ?_⟩⟩⟩⟩
 · rw [hk];exact c6_ hAdd fun r hr=>br_.2 hr
 · rw [hk,hn];exact ft_
 · have hn':=of_decide_eq_false hn
   have hlt:(FAt j x).toNat<j.list.length:=by omega
   have hc:=ej_ h (cO_ aa_.dflt hlt)
   have hA:=eb_ d (j.list.getD (FAt j x).toNat aa_.dflt) o.value (eH_ d _ hc) (cI_ d _ hc)
   have h2:(o.kind == 2)=false:=by have:o.kind=4:=by simpa using h4
                                   rw [this];rfl
   rw [hk,hn,h2]
   unfold i9_
   rw [h4]
   refine ⟨⟨by omega,by omega⟩,?_⟩
   simp only [bj_ hA,br_,cond_true,cond_false]
   cases ef_ d (j.list.getD (FAt j x).toNat aa_.dflt) o.value
   · exact ft_
   · simp only [cond_true,Option.map_some,pd_ hlt];exact dU_
 · have hn':=of_decide_eq_false hn
   have h2:(o.kind == 2)=false:=by have:o.kind=3:=by simpa using h3
                                   rw [this];rfl
   rw [hk,hn,h2]
   unfold i9_
   rw [h4,h2]
   simp only [bj_ hC,dM_,br_,cond_false,Option.map_some]
   exact ⟨⟨by omega,by omega⟩,dU_⟩
 · have hn':=of_decide_eq_false hn
   have h2:(o.kind == 2)=true:=by
    rcases ho.kind with e|e|e|e<;>rw [e] at hk h3 h4 ⊢ <;> first|rfl|(cases hk;done)|(cases h3;done)|(cases h4;done)
   have hi:((FAt j x).toNat:Int)=FAt j x:=Int.toNat_of_nonneg (by omega)
   have hD:=tail_drop (j:=j) (i:=(FAt j x).toNat) (by omega) (by omega) (fun hk=>(hown.obj hk).1)
   rw [hi] at hD
   rw [hk,hn,h2]
   exact hD
end Go.Pi
end
section
namespace Go.Pi
theorem gi_:∀ (d:Nat) (j:aa_) (way:List Bs) (o:TOp),bE_ d j≤400→way.length≤1000→n0_ o→Ans (fun n _=>cd_ n j way o) (Ok2 (FPat d j way o))
 |0,j,way,o,h,hl,ho=>by simp only [bE_] at h;omega
 |d+1,j,[],o,h,hl,ho=>by
  have hW:=kr_ h ho
  refine c7_ ?_
  simp only [cd_,bh_,ek_,List.length_nil,show (((0:Nat):Int) == 0)=true from rfl,cond_true]
  exact c6_ hW fun r hr=>br_.2 hr
 |d+1,j,[x],o,h,hl,ho=>by
  have hI:=lr_ h (x:=x) ho
  have e0:((([x]:List Bs).length:Int) == 0)=false:=rfl
  have e1:((([x]:List Bs).length:Int) == 1)=true:=rfl
  refine c7_ ?_
  simp only [cd_,bh_,ek_,e0,e1,cond_false,cond_true,dM_,List.getD_cons_zero]
  exact ⟨⟨by omega,by simp⟩,c6_ hI fun r hr=>br_.2 hr⟩
 |d+1,j,x::x2::w,o,h,hl,ho=>by
  have hown:=(di_ h).1
  have hjl:=fK_ h
  have he:j.kind=5→j.list.length=j.names.length:=fun hk=>(hown.obj hk).1.symm
  have hnl:j.names.length≤cY_:=(cI_ (d+1) j h).1.2.1
  have hP:=iS_ (j:=j) (s:=x) hnl
  have hr:=jv_ j x he
  have e0:(((x::x2::w).length:Int) == 0)=false:=by simp<;>omega
  have e1:(((x::x2::w).length:Int) == 1)=false:=by simp<;>omega
  have ew:(((x::x2::w).take (((x::x2::w).length:Nat):Int).toNat).drop 1)=x2::w:=by rw [Int.toNat_natCast,List.take_length];rfl
  have hcut:(0:Int)≤1∧(1:Int)≤((x::x2::w).length:Int)∧((x::x2::w).length:Int)≤((x::x2::w).length:Int):=⟨by omega,by simp<;>omega,by omega⟩
  refine c7_ ?_
  simp only [cd_,bh_,ek_,e0,e1,ew,cond_false,cond_true,dM_,List.getD_cons_zero,bj_ hP,cc_,br_,FPat,List.isEmpty_cons,Bool.false_and,beq_nat,hf_]
  refine ⟨⟨by omega,by simp<;>omega⟩,fun hn => ?_,fun hn => ?_⟩
  · rw [hn];exact ft_
  · have hn':=of_decide_eq_false hn
    have hlt:(FAt j x).toNat<j.list.length:=by omega
    have ih:=gi_ d (j.list.getD (FAt j x).toNat aa_.dflt) (x2::w) o (ej_ h (cO_ _ hlt)) (by simp at hl ⊢;omega) ho
    rw [hn]
    refine ⟨⟨by omega,by omega⟩,hcut,?_⟩
    refine c6_ ih fun r hr => ?_
    simp only [br_,dM_,cond_false]
    exact ⟨⟨by omega,by omega⟩,nx_ hr (f:=lt_ j (FAt j x).toNat) (fun _=>rfl)⟩
end Go.Pi
end
section
namespace Go.Pi
theorem nB_ {e:Nat} {v:aa_} (h:fg_ e v):∀ {k d:Nat},d+k=e→fg_ d v
 |0,d,hd=>by
  have:d=e:=by omega
  rw [this];exact h
 |k+1,d,hd=>lN_ d v (nB_ h (k:=k) (by omega))
theorem oq_ {α:Type} {ns:List Bs} {x:Bs} {l:List α} {y z:α} (h:z ∈ mz_ ns x l y):z=y∨z ∈ l:=by
 unfold mz_ at h
 rcases List.mem_append.1 h with h|h
 · rcases List.mem_append.1 h with h|h
   · exact .inr (List.mem_of_mem_take h)
   · exact .inl (List.mem_singleton.1 h)
 · exact .inr (List.mem_of_mem_drop h)
theorem os_ {α:Type} {ns:List Bs} {x:Bs} {l:List α} {y:α}:(mz_ ns x l y).length≤l.length+1:=by
 have:dI_ ns x≤f0_ ns x:=by unfold f0_;split<;>omega
 unfold mz_
 simp;omega
theorem putIn_mem {α:Type} {k:Nat} {l:List α} {y z:α} (h:z ∈ jd_ l k y):z=y∨z ∈ l:=by
 unfold jd_ at h
 rcases List.mem_append.1 h with h|h
 · rcases List.mem_append.1 h with h|h
   · exact .inr (List.mem_of_mem_take h)
   · exact .inl (List.mem_singleton.1 h)
 · exact .inr (List.mem_of_mem_drop h)
theorem cut_mem {α:Type} {k m:Nat} {l:List α} {z:α} (h:z ∈ l.take k++l.drop m):z ∈ l:=by
 rcases List.mem_append.1 h with h|h
 · exact List.mem_of_mem_take h
 · exact List.mem_of_mem_drop h
theorem mb_:∀ (d:Nat) (j:aa_) (way:List Bs) (o:TOp) (y:aa_),d≤6→bE_ d j≤400→(∀ x ∈ way,x.length≤1000)→n0_ o→FPat d j way o=some y→fg_ d y
 |0,j,way,o,y,hd,h,hw,ho,e=>by simp only [bE_] at h;omega
 |d+1,j,[],o,y,hd,h,hw,ho,e=>by
  have hj:=cI_ (d+1) j h
  have hv:=nB_ (cI_ 6 _ ho.value) (d:=d+1) (k:=5 - d) (by omega)
  simp only [FPat,i9_] at e
  cases h4:(o.kind == 4)<;>rw [h4] at e
  · cases h2:(o.kind == 2)<;>rw [h2] at e
    · cases e;exact hv
    · cases e
  · cases ha:ef_ (d+1) j o.value<;>rw [ha] at e
    · cases e
    · cases e;exact hj
 |d+1,j,x::w,o,y,hd,h,hw,ho,e=>by
  have hj:=cI_ (d+1) j h
  obtain ⟨⟨hs,hn,hns⟩,hl,hk⟩:=hj
  have hjl:=fK_ h
  have hv:=nB_ (cI_ 6 _ ho.value) (d:=d) (k:=6 - d) (by omega)
  have hx:=hw x (List.mem_cons_self ..)
  have hown:=(di_ h).1
  have ht:(1000000:Nat)≤cY_:=by simp only [cY_];omega
  have hnl:j.kind=5→j.names.length≤400:=fun h5=>by have:=(hown.obj h5).1;omega
  simp only [FPat] at e
  cases c1:(w.isEmpty&&(o.kind == 1))<;>rw [c1] at e
  · cases c2:decide (FAt j x<0)<;>rw [c2] at e
    · cases c3:(w.isEmpty&&(o.kind == 2))<;>rw [c3] at e
      · simp only [cond_false] at e
        cases hf:FPat d (j.list.getD (FAt j x).toNat aa_.dflt) w o with
        |none=>rw [hf] at e;cases e
        |some z=>
         rw [hf] at e
         simp only [Option.map_some,Option.some.injEq] at e
         subst e
         have hr:=jv_ j x fun h5=>(hown.obj h5).1.symm
         have c2':=of_decide_eq_false c2
         have hlt:(FAt j x).toNat<j.list.length:=by omega
         have ih:=mb_ d _ w o z (by omega) (ej_ h (cO_ _ hlt)) (fun y hy=>hw y (List.mem_cons_of_mem _ hy)) ho hf
         refine ⟨⟨hs,hn,hns⟩,by simp only [lt_,List.length_set];exact hl,fun q hq => ?_⟩
         rcases List.mem_or_eq_of_mem_set hq with hq|rfl
         · exact hk q hq
         · exact ih
      · simp only [cond_true,cond_false,Option.some.injEq] at e
        subst e
        refine ⟨⟨hs,?_⟩,?_,fun q hq=>hk q (cut_mem hq)⟩
        · show pu_ cY_ (cond (j.kind == 5) _ _)
          cases h5:(j.kind == 5)
          · exact ⟨hn,hns⟩
          · have:=hnl (by simpa using h5)
            exact ⟨by simp;omega,fun q hq=>hns q (cut_mem hq)⟩
        · simp only [ld_];simp;omega
    · cases e
  · simp only [cond_true,FAdd] at e
    cases h5:(j.kind == 5)<;>rw [h5] at e
    · cases h4:(j.kind == 4)<;>rw [h4] at e
      · cases e
      · simp only [cond_true,cond_false] at e
        cases hi:inn (addAt j x) 0 (j.list.length:Int)<;>rw [hi] at e
        · cases e
        · cases e
          refine ⟨⟨hs,hn,hns⟩,?_,fun q hq => ?_⟩
          · simp only [jd_];simp;omega
          · rcases putIn_mem hq with rfl|hq
            · exact hv
            · exact hk q hq
    · cases e
      have:=hnl (by simpa using h5)
      have p1:=os_ (ns:=j.names) (x:=x) (l:=j.names) (y:=x)
      have p2:=os_ (ns:=j.names) (x:=x) (l:=j.list) (y:=o.value)
      refine ⟨⟨Nat.zero_le _,(by show (mz_ j.names x j.names x).length≤cY_;omega),fun q hq => ?_⟩,by show (mz_ j.names x j.list o.value).length≤cY_;omega,fun q hq => ?_⟩
      · rcases oq_ hq with rfl|hq
        · omega
        · exact hns q hq
      · rcases oq_ hq with rfl|hq
        · exact hv
        · exact hk q hq
end Go.Pi
end
section
namespace Go.Pi
def gr_ (j:aa_) (o:TOp):aa_ × Bool:=cond (co_ j&&fp_ o) (match FPat 6 j o.way o with
 |some y=>cond (co_ y) (y,true) (e6_,false)
 |none=>(e6_,false)) (e6_,false)
theorem op_fit {o:TOp} (h:fp_ o=true):n0_ o∧o.way.length≤6∧∀ x ∈ o.way,x.length≤60:=by
 unfold fp_ at h
 simp only [Bool.and_eq_true] at h
 obtain ⟨h1,h2,h3,h4,h5⟩:=h
 have h1:=j0_.1 h1
 refine ⟨⟨by omega,of_decide_eq_true h3⟩,of_decide_eq_true h2,fun x hx => ?_⟩
 obtain ⟨i,hi,rfl⟩:=List.mem_iff_getElem.1 hx
 have:=fy_.1 h4 i hi
 rw [List.getD_eq_getElem?_getD,List.getElem?_eq_getElem hi,Option.getD_some] at this
 simp only [hk_,Bool.and_eq_true,decide_eq_true_eq] at this
 omega
theorem lU_ {j:aa_} {o:TOp} (hj:fg_ 6 j) (ho:ex_ o):Ev (fun n _=>c3_ n j o) (gr_ j o):=by
 refine ev_ans (c7_ ?_)
 simp only [c3_,bh_,ek_,bj_ (dq_ hj),cc_,br_,bj_ (fu_ ho)]
 unfold gr_
 cases h1:co_ j
 · exact ⟨fun _=>rfl,fun h=>(by cases h)⟩
 · cases h2:fp_ o
   · exact ⟨fun h=>(by cases h),fun _=>⟨fun _=>rfl,fun h=>(by cases h)⟩⟩
   · refine ⟨fun h=>(by cases h),fun _=>⟨fun h=>(by cases h),fun _ => ?_⟩⟩
     obtain ⟨f1,f2,f3⟩:=op_fit h2
     have hs:bE_ 6 j≤400:=of_decide_eq_true h1
     have hC:=dx_ 6 j hs
     have hP:=gm_ 6 j o.way o hs (fun x hx=>by have:=f3 x hx;omega) (by omega) f1
     rw [bj_ hC]
     refine c6_ hP fun r hr => ?_
     obtain ⟨r1,r2⟩:=hr
     simp only [cc_,br_,Bool.and_self,cond_true]
     cases hf:FPat 6 j o.way o with
     |none=>
      rw [hf] at r1
      rw [r1]
      exact ⟨fun _=>rfl,fun h=>(by cases h)⟩
     |some y=>
      rw [hf] at r1
      rw [r1,r2 y hf]
      refine ⟨fun h=>(by cases h),fun _ => ?_⟩
      have hl:=mb_ 6 j o.way o y (Nat.le_refl _) hs (fun x hx=>by have:=f3 x hx;omega) f1 hf
      rw [bj_ (dq_ hl)]
      simp only [cc_,br_]
      cases co_ y
      · exact ⟨fun _=>rfl,fun h=>(by cases h)⟩
      · exact ⟨fun h=>(by cases h),fun _=>rfl⟩
theorem ls_ {j:aa_} {o:TOp} (hj:fg_ 6 j) (ho:ex_ o):Ev (fun n _=>c0_ n j o) (gr_ j o):=by
 refine ev_ans (c7_ ?_)
 simp only [c0_,bh_,ek_,bj_ (dp_ hj),cc_,br_,bj_ (iU_ ho)]
 unfold gr_
 cases h1:co_ j
 · exact ⟨fun _=>rfl,fun h=>(by cases h)⟩
 · cases h2:fp_ o
   · exact ⟨fun h=>(by cases h),fun _=>⟨fun _=>rfl,fun h=>(by cases h)⟩⟩
   · refine ⟨fun h=>(by cases h),fun _=>⟨fun h=>(by cases h),fun _ => ?_⟩⟩
     obtain ⟨f1,f2,f3⟩:=op_fit h2
     have hs:bE_ 6 j≤400:=of_decide_eq_true h1
     have hC:=dz_ 6 j hs
     have hP:=gi_ 6 j o.way o hs (by omega) f1
     rw [bj_ hC]
     refine c6_ hP fun r hr => ?_
     obtain ⟨r1,r2⟩:=hr
     simp only [cc_,br_,Bool.and_self,cond_true]
     cases hf:FPat 6 j o.way o with
     |none=>
      rw [hf] at r1
      rw [r1]
      exact ⟨fun _=>rfl,fun h=>(by cases h)⟩
     |some y=>
      rw [hf] at r1
      rw [r1,r2 y hf]
      refine ⟨fun h=>(by cases h),fun _ => ?_⟩
      have hl:=mb_ 6 j o.way o y (Nat.le_refl _) hs (fun x hx=>by have:=f3 x hx;omega) f1 hf
      rw [bj_ (dp_ hl)]
      simp only [cc_,br_]
      cases co_ y
      · exact ⟨fun _=>rfl,fun h=>(by cases h)⟩
      · exact ⟨fun h=>(by cases h),fun _=>rfl⟩
end Go.Pi
end
section
namespace Go.Pi
mutual
def aa_.size:aa_→Nat
 |⟨_,_,s,l,ns⟩=>s.length+((l.length+aa_.sizes l)+en_ szB ns)
def aa_.sizes:List aa_→Nat
 |[]=>0
 |x::l=>aa_.size x+aa_.sizes l
end
mutual
def aa_.len:aa_→Prop
 |⟨_,_,s,l,ns⟩=>s.length≤cY_∧(l.length≤cY_∧aa_.lens l)∧lenL lenB ns
def aa_.lens:List aa_→Prop
 |[]=>True
 |x::l=>aa_.len x∧aa_.lens l
end
theorem aa_.sizes_eq:∀ l:List aa_,aa_.sizes l=ei_ aa_.size l
 |[]=>by simp only [aa_.sizes,ei_]
 |x::l=>by simp only [aa_.sizes,ei_,aa_.sizes_eq l]
theorem aa_.lens_iff:∀ l:List aa_,aa_.lens l↔∀ x ∈ l,aa_.len x
 |[]=>by simp [aa_.lens]
 |x::l=>by simp [aa_.lens,aa_.lens_iff l]
theorem aa_.size_eq (j:aa_):aa_.size j=j.s.length+(en_ aa_.size j.list+en_ szB j.names):=by
 cases j;simp only [aa_.size,aa_.sizes_eq,en_]
theorem aa_.len_iff (j:aa_):aa_.len j↔j.s.length≤cY_∧lenL aa_.len j.list∧lenL lenB j.names:=by
 cases j;simp only [aa_.len,aa_.lens_iff,lenL]
theorem aa_.re_eq (j:aa_):aa_.re j=j:=by cases j;rfl
theorem aa_.dec {x:aa_} {a:List aa_} (h:x ∈ a):SizeOf.sizeOf x.list<SizeOf.sizeOf a:=by
 have h1:=List.sizeOf_lt_of_mem h
 have h2:SizeOf.sizeOf x.list<SizeOf.sizeOf x:=by cases x;simp;omega
 omega
def aL_.size (s:aL_):Nat:=aa_.size s.doc
def aL_.len (s:aL_):Prop:=aa_.len s.doc
theorem aL_.eta (x:aL_):aL_.mk x.doc x.version x.began x.bad=x:=rfl
def a1_.size (s:a1_):Nat:=szB s.wait
def a1_.len (s:a1_):Prop:=lenB s.wait
def TOp.size (s:TOp):Nat:=(en_ szB) s.way+aa_.size s.value
def TOp.len (s:TOp):Prop:=(lenL lenB) s.way∧aa_.len s.value
theorem TOp.eta (x:TOp):TOp.mk x.kind x.way x.value=x:=rfl
def aM_.size (s:aM_):Nat:=aa_.size s.doc+(en_ TOp.size) s.ops
def aM_.len (s:aM_):Prop:=aa_.len s.doc∧(lenL TOp.len) s.ops
theorem aM_.eta (x:aM_):aM_.mk x.kind x.version x.base x.doc x.ops=x:=rfl
def bc_.size (s:bc_):Nat:=szB s.s
def bc_.len (s:bc_):Prop:=lenB s.s
def aV_.size (s:aV_):Nat:=szB s.text
def aV_.len (s:aV_):Prop:=lenB s.text
theorem lb_ {a:List aa_} (ha:en_ aa_.size a≤cY_) (ih:∀ x ∈ a,Ev (fun n _=>b6_ n x x) true):Ev (fun n _=>a8_ n a a) true:=by
 refine aI_ ?_
 have hl:=fJ_ aa_.size a
 simp only [a8_,aE_,bne_self_eq_false]
 refine ⟨fun h=>(by cases h),fun _ => ?_⟩
 refine ev_up1 (fun n N i=>a8_.loop6 n (b6_ n) (some true) N a a (i:Int)) (fun _=>true) a.length fun i hi k => ?_
 show Ev (fun n N=>a8_.step6 n (b6_ n) (some true) (a8_.loop6 n (b6_ n) (some true) N) a a (i:Int)) true
 by_cases h:i<a.length
 · simp only [a8_.step6,aa_.re_eq,Int.toNat_natCast,aE_,b7_,ae_ (ih _ (cO_ aa_.dflt h)),bne_self_eq_false,beq_self_eq_true,Bool.not_true,W_up h (show a.length≤cY_ by omega)]
   exact ⟨fun _=>⟨⟨by omega,by omega⟩,⟨by omega,by omega⟩,fun h=>(by cases h),fun _=>k h⟩,fun h'=>absurd h (by simpa using h')⟩
 · simp only [a8_.step6,aE_,ai_]
   exact ⟨fun h'=>absurd (of_decide_eq_true h') (by omega),fun _=>trivial⟩
theorem m4_ {a:List Bs} (ha:(en_ szB) a≤cY_):Ev (fun n _=>aQ_ n a a) true:=by
 refine aI_ ?_
 have hl:=fJ_ szB a
 simp only [aQ_,aE_,bne_self_eq_false]
 refine ⟨fun h=>(by cases h),fun _ => ?_⟩
 refine ev_up1 (fun n N i=>aQ_.loop6 n (some true) N a a (i:Int)) (fun _=>true) a.length fun i hi k => ?_
 show Ev (fun n N=>aQ_.step6 n (some true) (aQ_.loop6 n (some true) N) a a (i:Int)) true
 by_cases h:i<a.length
 · simp only [aQ_.step6,Int.toNat_natCast,aE_,b7_,bne_self_eq_false,beq_self_eq_true,Bool.not_true,W_up h (show a.length≤cY_ by omega)]
   exact ⟨fun _=>⟨⟨by omega,by omega⟩,⟨by omega,by omega⟩,fun h=>(by cases h),fun _=>k h⟩,fun h'=>absurd h (by simpa using h')⟩
 · simp only [aQ_.step6,aE_,ai_]
   exact ⟨fun h'=>absurd (of_decide_eq_true h') (by omega),fun _=>trivial⟩
theorem iL_ (a:aa_) (ha:aa_.size a≤cY_):Ev (fun n _=>b6_ n a a) true:=by
 have hq:=aa_.size_eq a
 refine aI_ ?_
 have h1:=lb_ (a:=a.list) (by omega) fun x hx=>iL_ x (by have:=oi_ aa_.size hx;omega)
 have h2:=m4_ (a:=a.names) (by omega)
 simp only [b6_,ae_ h1,ae_ h2,bne_self_eq_false,beq_self_eq_true,Bool.not_true,cond_false,ai_]
termination_by SizeOf.sizeOf a
decreasing_by
 have:=List.sizeOf_lt_of_mem hx
 cases a
 simp at this ⊢
 omega
theorem eqJson_ev {a:aa_} (ha:aa_.size a≤cY_):Ev (fun n _=>b6_ n a a) true:=iL_ a ha
theorem eqJsonS_ev {a:List aa_} (ha:en_ aa_.size a≤cY_):Ev (fun n _=>a8_ n a a) true:=lb_ ha fun x hx=>iL_ x (by have:=oi_ aa_.size hx;omega)
theorem nL_ {a:aL_} (ha:aL_.size a≤cY_):Ev (fun n _=>b9_ n a a) true:=by
 refine aI_ ?_
 simp only [aL_.size] at ha
 have h0:=eqJson_ev (a:=a.doc) (by omega)
 simp only [b9_,aa_.re_eq,aL_.eta,ae_ h0,bne_self_eq_false,beq_self_eq_true,Bool.not_true,cond_false,ai_]
theorem nK_ {a:a1_} (ha:a1_.size a≤cY_):Ev (fun n _=>b8_ n a a) true:=by
 refine aI_ ?_
 simp only [b8_,bne_self_eq_false,beq_self_eq_true,Bool.not_true,cond_false,ai_]
theorem f2_ (n:Nat) (k0:Bs→Option Bs) (N:Nat) (k:Int) (out:Bs):aK_.loop6 n k0 (N+1) k out=aK_.step6 n k0 (aK_.loop6 n k0 N) k out:=rfl
theorem jT_ (k:Int) (hk:k≤cY_):∃ t,Ev (fun n _=>aK_ n k) t:=by
 by_cases h0:k≤0
 · exact ⟨[109,48],aI_ (by simp only [aK_,aE_,ai_];exact ⟨fun _=>trivial,fun h=>absurd h0 (of_decide_eq_false h)⟩)⟩
 have key:∀ (j:Nat) (k:Int) (out:Bs),k<10 ^ j→k≤cY_→out.length+j≤100→∃ t,Ev (fun n N=>aK_.loop6 n (fun xy2=>(cond (decide ([109].length+xy2.length≤9223372036854775807)) (some (([109]:Bs)++xy2)) none)) N k out) t:=by
  intro j
  induction j with
  |zero=>
   intro k out hj hk ho
   refine ⟨[109]++out,bm_ ?_⟩
   simp only [f2_,aK_.step6,aE_,ai_,dl_]
   exact ⟨fun h=>absurd (of_decide_eq_true h) (by simp at hj;omega),fun _=>⟨fun _=>trivial,fun h=>absurd (of_decide_eq_false h) (by simp;omega)⟩⟩
  |succ j ih=>
   intro k out hj hk ho
   by_cases hp:k > 0
   · have e1:Int.tdiv k 10=k / 10:=Int.tdiv_eq_ediv_of_nonneg (by omega)
     have e2:W (Int.tdiv k 10)=k / 10:=by rw [e1];exact W_id (by omega) (by simp only [cY_] at hk;omega)
     obtain ⟨t,ht⟩:=ih (k / 10) ((fT_ ([(IntKind.u8.wrap ((W (48+(Int.tmod k 10)))))]:List Int))++out) (by rw [Int.pow_succ] at hj;omega) (by simp only [cY_] at hk ⊢;omega) (by simp [fT_];omega)
     refine ⟨t,bm_ ?_⟩
     simp only [f2_,aK_.step6,aE_,dl_,e2]
     exact ⟨fun _=>⟨fun _=>ht,fun h=>absurd (of_decide_eq_false h) (by simp [fT_];omega)⟩,fun h=>absurd hp (of_decide_eq_false h)⟩
   · refine ⟨[109]++out,bm_ ?_⟩
     simp only [f2_,aK_.step6,aE_,ai_,dl_]
     exact ⟨fun h=>absurd (of_decide_eq_true h) hp,fun _=>⟨fun _=>trivial,fun h=>absurd (of_decide_eq_false h) (by simp;omega)⟩⟩
 obtain ⟨t,ht⟩:=key 19 k [] (by simp only [cY_] at hk;omega) hk (by simp)
 refine ⟨t,aI_ ?_⟩
 simp only [aK_,aE_]
 exact ⟨fun h=>absurd (of_decide_eq_true h) h0,fun _=>c5_ (f:=fun n N=>aK_.loop6 n _ N k []) ht⟩
theorem hn_ {a:List Bs} {k:Int} (ha:a.length≤cY_) (hk:0≤k) (hb:k+32*((en_ szB) a:Nat)≤cY_) :
  ∃ k' a',k≤k'∧k'≤k+32*((en_ szB) a:Nat)∧a'.length=a.length∧Ev (fun n _=>au_ n a k) (k',a')∧Ev (fun n _=>av_ n a' k) k':=by
 refine (mark_list [] szB (fun n N k i a=>au_.loop3 n (fun xy3 xy4=>(some (xy3,xy4))) N k (i:Int) a) (fun n N a k i=>av_.loop3 n (fun xy2=>(some xy2)) N a k (i:Int)) (fun i a k hi ha hk hb => ?_) (fun a k => ?_) (fun a k => ?_) a k ha hk hb).elim fun k' ⟨a',h1,h2,h3,h4,h5⟩=>⟨k',a',h1,h2,h3,aI_ h4,aI_ h5⟩
 · generalize hx:a.getD i []=x at *
   simp only [szB] at hb ⊢
   obtain ⟨t0,ht0⟩:=jT_ (k) (by omega)
   refine ⟨k+1,t0,by omega,by omega,fun F hF => ?_,fun b F hi' hb' hxb hF => ?_⟩
   · show Ev (fun n N=>au_.step3 n (fun xy3 xy4=>(some (xy3,xy4))) (au_.loop3 n (fun xy3 xy4=>(some (xy3,xy4))) N) k (i:Int) a) F
     simp only [au_.step3,Int.toNat_natCast,aE_,b7_,List.length_set,List.set_set,oO_ [] hi,hx,ae_ ht0,i7_ (k:=k) (by omega) (by omega),W_up hi ha,decide_eq_true_eq,decide_eq_false_iff_not,Nat.beq_refl]
     refine ⟨fun _ => ?_,fun h=>absurd hi (by simpa using h)⟩
     repeat' (first|exact hF|apply And.intro|intro _|omega)
     all_goals (first|exact hF|(simp_all;done)|omega)
   · show Ev (fun n N=>av_.step3 n (fun xy2=>(some xy2)) (av_.loop3 n (fun xy2=>(some xy2)) N) b k (i:Int)) F
     simp only [av_.step3,Int.toNat_natCast,aE_,b7_,hxb,bne_self_eq_false,beq_self_eq_true,Bool.not_true,cond_false,ae_ ht0,i7_ (k:=k) (by omega) (by omega),W_up hi' hb',decide_eq_true_eq,decide_eq_false_iff_not]
     refine ⟨fun _ => ?_,fun h=>absurd hi' (by simpa using h)⟩
     repeat' (first|exact hF|apply And.intro|intro _|omega)
     all_goals (first|exact hF|(simp_all;done)|omega)
 · show Ev (fun n N=>au_.step3 n (fun xy3 xy4=>(some (xy3,xy4))) (au_.loop3 n (fun xy3 xy4=>(some (xy3,xy4))) N) k (a.length:Int) a) _
   simp only [au_.step3,aE_,ai_]
   exact ⟨fun h=>absurd (of_decide_eq_true h) (by omega),fun _=>trivial⟩
 · show Ev (fun n N=>av_.step3 n (fun xy2=>(some xy2)) (av_.loop3 n (fun xy2=>(some xy2)) N) a k (a.length:Int)) _
   simp only [av_.step3,aE_,ai_]
   exact ⟨fun h=>absurd (of_decide_eq_true h) (by omega),fun _=>trivial⟩
theorem h5_ (a:List aa_) (k:Int) (ha:a.length≤cY_) (hk:0≤k) (hb:k+32*((en_ aa_.size) a:Nat)≤cY_) :
  ∃ k' a',k≤k'∧k'≤k+32*((en_ aa_.size) a:Nat)∧a'.length=a.length∧Ev (fun n _=>ax_ n a k) (k',a')∧Ev (fun n _=>ay_ n a' k) k':=by
 have hq:∀ i,i<a.length→a.getD i aa_.dflt ∈ a:=fun i hi=>cO_ aa_.dflt hi
 obtain ⟨a0,ha0⟩:∃ a0,a0=a:=⟨_,rfl⟩
 refine (kW_ (fun x=>x ∈ a0) aa_.dflt aa_.size (fun n N k i a=>ax_.loop3 n (ax_ n) (fun xy9 xy10=>(some (xy9,xy10))) N k (i:Int) a) (fun n N a k i=>ay_.loop3 n (ay_ n) (fun xy4=>(some xy4)) N a k (i:Int)) (fun i a k hi hxm ha hk hb => ?_) (fun a k => ?_) (fun a k => ?_) a k (by rw [ha0];exact hq) ha hk hb).elim fun k' ⟨a',h1,h2,h3,h4,h5⟩=>⟨k',a',h1,h2,h3,aI_ h4,aI_ h5⟩
 · clear hq
   generalize hx:a.getD i aa_.dflt=x at *
   rw [ha0] at hxm
   have hdec:=aa_.dec hxm
   simp only [aa_.size_eq] at hb ⊢
   obtain ⟨t2,ht2⟩:=jT_ ((k+1)+1) (by omega)
   obtain ⟨k3,y3,u3,v3,l3,e3,g3⟩:=h5_ x.list (((k+1)+1)+1) (by have:=fJ_ aa_.size (x.list);omega) (by omega) (by omega)
   obtain ⟨k4,y4,u4,v4,l4,e4,g4⟩:=hn_ (a:=x.names) (k:=k3) (by have:=fJ_ szB (x.names);omega) (by omega) (by omega)
   refine ⟨k4,(aa_.mk k (k+1) t2 y3 y4),by omega,by omega,fun F hF => ?_,fun b F hi' hb' hxb hF => ?_⟩
   · show Ev (fun n N=>ax_.step3 n (ax_ n) (fun xy9 xy10=>(some (xy9,xy10))) (ax_.loop3 n (ax_ n) (fun xy9 xy10=>(some (xy9,xy10))) N) k (i:Int) a) F
     simp only [ax_.step3,Int.toNat_natCast,aE_,b7_,List.length_set,List.set_set,oO_ aa_.dflt hi,hx,ae_ ht2,ae_ e3,ae_ e4,aa_.re_eq,i7_ (k:=k) (by omega) (by omega),i7_ (k:=k+1) (by omega) (by omega),i7_ (k:=(k+1)+1) (by omega) (by omega),l3,l4,W_up hi ha,decide_eq_true_eq,decide_eq_false_iff_not,Nat.beq_refl]
     refine ⟨fun _ => ?_,fun h=>absurd hi (by simpa using h)⟩
     repeat' (first|exact hF|apply And.intro|intro _|omega)
     all_goals (first|exact hF|(simp_all;done)|omega)
   · show Ev (fun n N=>ay_.step3 n (ay_ n) (fun xy4=>(some xy4)) (ay_.loop3 n (ay_ n) (fun xy4=>(some xy4)) N) b k (i:Int)) F
     simp only [ay_.step3,Int.toNat_natCast,aE_,b7_,hxb,bne_self_eq_false,beq_self_eq_true,Bool.not_true,cond_false,ae_ g3,ae_ g4,ae_ ht2,aa_.re_eq,i7_ (k:=k) (by omega) (by omega),i7_ (k:=k+1) (by omega) (by omega),i7_ (k:=(k+1)+1) (by omega) (by omega),l3,l4,W_up hi' hb',decide_eq_true_eq,decide_eq_false_iff_not]
     refine ⟨fun _ => ?_,fun h=>absurd hi' (by simpa using h)⟩
     repeat' (first|exact hF|apply And.intro|intro _|omega)
     all_goals (first|exact hF|(simp_all;done)|omega)
 · show Ev (fun n N=>ax_.step3 n (ax_ n) (fun xy9 xy10=>(some (xy9,xy10))) (ax_.loop3 n (ax_ n) (fun xy9 xy10=>(some (xy9,xy10))) N) k (a.length:Int) a) _
   simp only [ax_.step3,aE_,ai_]
   exact ⟨fun h=>absurd (of_decide_eq_true h) (by omega),fun _=>trivial⟩
 · show Ev (fun n N=>ay_.step3 n (ay_ n) (fun xy4=>(some xy4)) (ay_.loop3 n (ay_ n) (fun xy4=>(some xy4)) N) a k (a.length:Int)) _
   simp only [ay_.step3,aE_,ai_]
   exact ⟨fun h=>absurd (of_decide_eq_true h) (by omega),fun _=>trivial⟩
termination_by SizeOf.sizeOf a
decreasing_by assumption
theorem mK_ {a:List aa_} {k:Int} (ha:a.length≤cY_) (hk:0≤k) (hb:k+32*(en_ aa_.size a:Nat)≤cY_) :
  ∃ k' a',k≤k'∧k'≤k+32*(en_ aa_.size a:Nat)∧a'.length=a.length∧Ev (fun n _=>ax_ n a k) (k',a')∧Ev (fun n _=>ay_ n a' k) k':=h5_ a k ha hk hb
theorem ny_ {a:aa_} {k:Int} (hk:0≤k) (hb:k+32*(aa_.size a:Nat)≤cY_) :
  ∃ k' y0 y1,k≤k'∧k'≤k+32*(aa_.size a:Nat)∧y0.length=a.list.length∧y1.length=a.names.length∧Ev (fun n _=>cj_ n a k) (k',y0,y1)∧Ev (fun n _=>ck_ n (aa_.mk a.kind a.n_ a.s y0 y1) k) k':=by
 simp only [aa_.size_eq] at hb ⊢
 obtain ⟨k3,y0,u3,v3,ly0,e3,g3⟩:=mK_ (a:=a.list) (k:=k) (by have:=fJ_ aa_.size (a.list);omega) (by omega) (by omega)
 obtain ⟨k4,y1,u4,v4,ly1,e4,g4⟩:=hn_ (a:=a.names) (k:=k3) (by have:=fJ_ szB (a.names);omega) (by omega) (by omega)
 refine ⟨k4,y0,y1,by omega,by omega,ly0,ly1,aI_ ?_,aI_ ?_⟩
 · simp only [cj_,aa_.re_eq,ae_ e3,ae_ e4,ly0,ly1,Nat.beq_refl,List.length_nil,cond_true,ai_]
 · simp only [ck_,aa_.re_eq,ae_ g3,ae_ g4,aE_,ai_,decide_eq_true_eq,decide_eq_false_iff_not]
   repeat' (first|apply And.intro|intro _)
   all_goals (first|trivial|rfl|(exfalso;omega)|omega)
theorem lJ_ {a:aL_} {k:Int} (hk:0≤k) (hb:k+32*(aL_.size a:Nat)≤cY_) :
  ∃ k' y0 y1,k≤k'∧k'≤k+32*(aL_.size a:Nat)∧y0.length=a.doc.list.length∧y1.length=a.doc.names.length∧Ev (fun n _=>bT_ n a k) (k',y0,y1)∧Ev (fun n _=>bO_ n { a with doc:=(aa_.mk a.doc.kind a.doc.n_ a.doc.s y0 y1) } k) k':=by
 simp only [aL_.size] at hb ⊢
 obtain ⟨k0,y0,y1,u0,v0,ly0,ly1,e0,g0⟩:=ny_ (a:=a.doc) (k:=k) (by omega) (by omega)
 refine ⟨k0,y0,y1,by omega,by omega,ly0,ly1,aI_ ?_,aI_ ?_⟩
 · simp only [bT_,aa_.re_eq,aL_.eta,ae_ e0,ly0,ly1,Nat.beq_refl,List.length_nil,cond_true,ai_]
 · simp only [bO_,aa_.re_eq,aL_.eta,ae_ g0,aE_,ai_,decide_eq_true_eq,decide_eq_false_iff_not]
   repeat' (first|apply And.intro|intro _)
   all_goals (first|trivial|rfl|(exfalso;omega)|omega)
end Go.Pi
end
section
namespace Go.Pi
def eS_ (l:List TOp):Nat:=l.findIdx fun o=>(c9_ o).kind == 0
def dK_ (l:List TOp):aa_:=aa_.mk 4 0 [] (l.map c9_) []
def hg_ (l:List TOp):Int:=cond (decide (eS_ l<l.length)) (-1) (cond (bQ_ (dK_ l) == []) (-1) ((bQ_ (dK_ l)).length:Int))
theorem lf_ {l:List TOp} {i:Nat} (hi:i<eS_ l):((c9_ (l.getD i TOp.dflt)).kind == 0)=false:=by
 have hl:eS_ l≤l.length:=List.findIdx_le_length
 rw [List.getD_eq_getElem?_getD,List.getElem?_eq_getElem (by omega),Option.getD_some]
 have:=List.not_of_lt_findIdx (xs:=l) (p:=fun o=>(c9_ o).kind == 0) (i:=i) hi
 simpa using this
theorem bad_at {l:List TOp} (h:eS_ l<l.length):((c9_ (l.getD (eS_ l) TOp.dflt)).kind == 0)=true:=by
 rw [List.getD_eq_getElem?_getD,List.getElem?_eq_getElem h,Option.getD_some]
 exact List.findIdx_getElem (xs:=l) (p:=fun o=>(c9_ o).kind == 0) (w:=h)
theorem ox_ {α β:Type} (f:α→β) (d:α) {a:List α} {i:Nat} (h:i<a.length):(a.take (i+1)).map f=(a.take i).map f++[f (a.getD i d)]:=by
 rw [dg_ d h,List.map_append];rfl
def iX_ (l:List TOp):Prop:=l.length≤4000000∧∀ o ∈ l,ex_ o
theorem jr_ {l:List TOp} (h:iX_ l):fg_ 6 (dK_ l):=by
 refine ⟨⟨Nat.zero_le _,Nat.zero_le _,fun x hx=>(by cases hx)⟩,by have:=h.1;simp [dK_,cY_];omega,fun x hx => ?_⟩
 obtain ⟨o,ho,e⟩:=List.mem_map.1 hx
 rw [←e];exact lN_ 5 _ (hF_ (h.2 o ho))
theorem gK_ {l:List TOp} (h:iX_ l):Ev (fun n _=>a2_ n l) (cond (decide (eS_ l<l.length)) (e6_,false) (dK_ l,true)):=by
 refine aI_ ?_
 have hl:=h.1
 have ht:l.length≤cY_:=by simp only [cY_];omega
 have hb:eS_ l≤l.length:=List.findIdx_le_length
 simp only [a2_]
 have:=eY_ (fun i=>(l.take i).map c9_) (eS_ l) (fun n N i (o:List aa_)=>a2_.loop4 n (fun xy2 xy3 xy4 xy5 xy6 xy7 xy8=>(some ((aa_.mk xy5 xy6 xy7 xy8 ([]:List Bs)),true))) N l (l.length:Int) (i:Int) 0 0 [] 4 0 [] o) (cond (decide (eS_ l<l.length)) (e6_,false) (dK_ l,true)) (fun i hi F hF => ?_) ?_
 · exact this
 · have hi2:i<l.length:=by omega
   have hx:=eM_ (h.2 _ (cO_ TOp.dflt hi2))
   rw [ox_ c9_ TOp.dflt hi2] at hF
   have hol:((l.take i).map c9_).length≤i:=by simp;omega
   generalize (l.take i).map c9_=o at hF hol ⊢
   simp only [a2_.turn4,a2_.step4,bh_,ek_,Int.toNat_natCast,W_up hi2 ht,dm_ hi2,da_ hi2,lf_ hi,cond_true,cond_false,b7_,cu_,ae_ hx]
   exact ⟨trivial,by simp;omega,hF⟩
 · by_cases hp:eS_ l<l.length
   · have hx:=eM_ (h.2 _ (cO_ TOp.dflt hp))
     simp only [a2_.turn4,a2_.step4,bh_,ek_,Int.toNat_natCast,dm_ hp,da_ hp,bad_at hp,cond_true,b7_,ae_ hx,ai_]
     rw [decide_eq_true hp]
     exact ⟨trivial,rfl⟩
   · have e:eS_ l=l.length:=by omega
     rw [decide_eq_false hp,cond_false]
     unfold dK_
     rw [e,List.take_length]
     simp only [a2_.turn4,a2_.step4,dh_,cond_false,ai_]
theorem iH_ {l:List TOp} (h:iX_ l):Ev (fun n _=>b2_ n l) (hg_ l):=by
 refine aI_ ?_
 simp only [b2_,bh_,ae_ (gK_ h)]
 unfold hg_
 cases hp:decide (eS_ l<l.length) with
 |true=>
  simp only [cond_true,ae_ (dF_ (ff_ 6)),aE_,ai_]
  simp
 |false=>
  simp only [cond_false,ae_ (dF_ (jr_ h)),aE_,ai_]
  generalize bQ_ (dK_ l)=s
  cases (s == [])<;>simp
end Go.Pi
end
section
namespace Go.Pi
def ev_:aa_→List TOp→aa_ × Bool
 |j,[]=>(j,true)
 |j,o::l=>cond (gr_ j o).2 (ev_ (gr_ j o).1 l) (e6_,false)
def dN_ (j:aa_) (l:List TOp):aa_ × Bool:=cond (co_ j&&decide (l.length≤40)) (ev_ j l) (e6_,false)
theorem hD_ {j:aa_} {o:TOp} (h:(gr_ j o).2=true):co_ (gr_ j o).1=true:=by
 unfold gr_ at h ⊢
 cases h1:(co_ j&&fp_ o)<;>rw [h1] at h
 · cases h
 · simp only [cond_true] at h ⊢
   cases hf:FPat 6 j o.way o with
   |none=>rw [hf] at h;cases h
   |some y=>
    rw [hf] at h
    simp only at h ⊢
    cases hy:co_ y<;>rw [hy] at h
    · cases h
    · exact hy
theorem h2_:∀ {l:List TOp} {j:aa_},co_ j=true→(ev_ j l).2=true→co_ (ev_ j l).1=true
 |[],j,hj,_=>hj
 |o::l,j,hj,h=>by
  unfold ev_ at h ⊢
  cases hp:(gr_ j o).2<;>rw [hp] at h
  · cases h
  · exact h2_ (hD_ hp) h
theorem kw_ {l:List TOp} {j:aa_} (h:(dN_ j l).2=true):co_ (dN_ j l).1=true:=by
 unfold dN_ at h ⊢
 cases h1:(co_ j&&decide (l.length≤40))<;>rw [h1] at h
 · cases h
 · rw [Bool.and_eq_true] at h1
   exact h2_ h1.1 h
theorem gt40 (n:Nat):decide ((n:Int) > 40) = !decide (n≤40):=by
 by_cases h:n≤40
 · rw [decide_eq_true h,decide_eq_false (by omega)];rfl
 · rw [decide_eq_false h,decide_eq_true (by omega)];rfl
theorem lC_ {j:aa_} (h:co_ j=true):fg_ 6 j:=cI_ 6 j (of_decide_eq_true h)
theorem jj_ {j:aa_} {l:List TOp} (hj:fg_ 6 j) (hl:iX_ l):Ev (fun n _=>aZ_ n j l) (dN_ j l):=by
 refine aI_ ?_
 simp only [aZ_,bh_,gt40,ae_ (dq_ hj),aE_,ai_]
 unfold dN_
 cases h1:co_ j
 · exact ⟨fun _=>rfl,fun h=>(by cases h)⟩
 · refine ⟨fun h=>(by cases h),fun _ => ?_⟩
   cases h2:decide (l.length≤40)
   · exact ⟨fun _=>rfl,fun h=>(by cases h)⟩
   · refine ⟨fun h=>(by cases h),fun _ => ?_⟩
     have hC:=dx_ 6 j (of_decide_eq_true h1)
     simp only [ae_ hC,Bool.and_true,cond_true]
     have key:∀ (m i:Nat) (v:aa_),i+m=l.length→co_ v=true →
       Ev (fun n N=>aZ_.loop7 n (fun xy4 xy5 xy6 xy7 xy8 xy9 xy10 xy11=>(some ((aa_.mk xy7 xy8 xy9 xy10 xy11),true))) N l (l.length:Int) (i:Int) 0 0 [] v.kind v.n_ v.s v.list v.names) (ev_ v (l.drop i)):=by
      intro m
      induction m with
      |zero=>
       intro i v hi hv
       have e:i=l.length:=by omega
       subst e
       refine bm_ ?_
       simp only [aZ_.turn7,aZ_.step7,dh_,cond_false,ai_,List.drop_length,ev_,dj_]
      |succ m ih=>
       intro i v hi hv
       have hlt:i<l.length:=by omega
       have hP:=lU_ (j:=v) (o:=l.getD i TOp.dflt) (lC_ hv) (hl.2 _ (cO_ _ hlt))
       have hW:=W_up hlt (show l.length≤cY_ by have:=hl.1;simp only [cY_];omega)
       rw [dB_ TOp.dflt hlt]
       refine bm_ ?_
       simp only [aZ_.turn7,aZ_.step7,bh_,dj_,ek_,dm_ hlt,cond_true,b7_,da_ hlt,true_and,Int.toNat_natCast,hW,ae_ hP,aE_,ai_,ev_]
       cases hp:(gr_ v (l.getD i TOp.dflt)).2
       · exact ⟨fun _=>rfl,fun h=>(by cases h)⟩
       · exact ⟨fun h=>(by cases h),fun _=>ih (i+1) _ (by omega) (hD_ hp)⟩
     exact c5_ (key l.length 0 j (by omega) h1)
theorem jc_ {j:aa_} {l:List TOp} (hj:fg_ 6 j) (hl:iX_ l):Ev (fun n _=>a0_ n j l) (dN_ j l):=by
 refine aI_ ?_
 simp only [a0_,bh_,gt40,ae_ (dp_ hj),aE_,ai_]
 unfold dN_
 cases h1:co_ j
 · exact ⟨fun _=>rfl,fun h=>(by cases h)⟩
 · refine ⟨fun h=>(by cases h),fun _ => ?_⟩
   cases h2:decide (l.length≤40)
   · exact ⟨fun _=>rfl,fun h=>(by cases h)⟩
   · refine ⟨fun h=>(by cases h),fun _ => ?_⟩
     have hC:=dz_ 6 j (of_decide_eq_true h1)
     simp only [ae_ hC,Bool.and_true,cond_true]
     have key:∀ (m i:Nat) (v:aa_),i+m=l.length→co_ v=true →
       Ev (fun n N=>a0_.loop7 n (fun xy4 xy5 xy6 xy7 xy8 xy9 xy10 xy11=>(some ((aa_.mk xy7 xy8 xy9 xy11 xy10),true))) N l (i:Int) 0 0 [] v.kind v.n_ v.s v.names v.list) (ev_ v (l.drop i)):=by
      intro m
      induction m with
      |zero=>
       intro i v hi hv
       have e:i=l.length:=by omega
       subst e
       refine bm_ ?_
       simp only [a0_.turn7,a0_.step7,dh_,cond_false,ai_,List.drop_length,ev_,dj_]
      |succ m ih=>
       intro i v hi hv
       have hlt:i<l.length:=by omega
       have hP:=ls_ (j:=v) (o:=l.getD i TOp.dflt) (lC_ hv) (hl.2 _ (cO_ _ hlt))
       have hW:=W_up hlt (show l.length≤cY_ by have:=hl.1;simp only [cY_];omega)
       rw [dB_ TOp.dflt hlt]
       refine bm_ ?_
       simp only [a0_.turn7,a0_.step7,bh_,dj_,ek_,dm_ hlt,cond_true,b7_,da_ hlt,true_and,Int.toNat_natCast,hW,ae_ hP,aE_,ai_,ev_]
       cases hp:(gr_ v (l.getD i TOp.dflt)).2
       · exact ⟨fun _=>rfl,fun h=>(by cases h)⟩
       · exact ⟨fun h=>(by cases h),fun _=>ih (i+1) _ (by omega) (hD_ hp)⟩
     exact c5_ (key l.length 0 j (by omega) h1)
end Go.Pi
end
section
namespace Go.Pi
theorem eE_ (j:aa_) (h:aa_.size j≤4000000000):Ev (fun n _=>aq_ n j) j:=by
 have e:=aa_.size_eq j
 have e1:en_ aa_.size j.list=j.list.length+ei_ aa_.size j.list:=rfl
 have e2:en_ szB j.names=j.names.length+ei_ szB j.names:=rfl
 have hx:∀ x ∈ j.list,Ev (fun n _=>aq_ n x) x:=fun x hx=>eE_ x (by have:=gv_ aa_.size hx;omega)
 refine aI_ ?_
 have hc:Ev (fun n _=>bW_ n j.names) j.names:=aI_ (by simp only [bW_,cu_,ai_,List.nil_append,List.length_nil,and_true];omega)
 simp only [aq_,ae_ hc]
 have:=eY_ (fun i=>j.list.take i) j.list.length (fun n N i (o:List aa_)=>aq_.loop4 n (aq_ n) (fun xy3 xy4 xy5 xy6 xy7 xy8 xy9 xy10=>(some (aa_.mk xy6 xy7 xy8 xy9 xy10))) N j.list (j.list.length:Int) (i:Int) 0 0 [] j.kind j.n_ j.s o j.names) j (fun i hi F hF => ?_) ?_
 · exact this
 · have hx:=hx _ (cO_ aa_.dflt hi)
   rw [dg_ aa_.dflt hi] at hF
   simp only [aq_.turn4,aq_.step4,bh_,Int.toNat_natCast,W_up hi (show j.list.length≤cY_ by simp only [cY_];omega),aE_,b7_,cu_,dm_ hi,da_ hi,ae_ hx]
   exact ⟨fun _=>⟨trivial,by simp;omega,hF⟩,fun h=>(by cases h)⟩
 · simp only [aq_.turn4,aq_.step4,dh_,cond_false,List.take_length,ai_,dj_]
termination_by SizeOf.sizeOf j.list
decreasing_by exact aa_.dec hx
theorem fb_ (j:aa_) (h:aa_.size j≤4000000000):Ev (fun n _=>aH_ n j) j:=by
 have e:=aa_.size_eq j
 have e1:en_ aa_.size j.list=j.list.length+ei_ aa_.size j.list:=rfl
 have e2:en_ szB j.names=j.names.length+ei_ szB j.names:=rfl
 have hx:∀ x ∈ j.list,Ev (fun n _=>aH_ n x) x:=fun x hx=>fb_ x (by have:=gv_ aa_.size hx;omega)
 refine aI_ ?_
 simp only [aH_,cu_,List.nil_append,List.length_nil]
 refine ⟨by omega,?_⟩
 have:=eY_ (fun i=>j.list.take i) j.list.length (fun n N i (o:List aa_)=>aH_.loop4 n (aH_ n) (fun xy2 xy3 xy4 xy5 xy6 xy7 xy8 xy9=>(some (aa_.mk xy5 xy6 xy7 xy8 xy9))) N (i:Int) j.kind j.n_ j.s j.list j.names 0 0 [] j.kind j.n_ j.s o j.names) j (fun i hi F hF => ?_) ?_
 · exact this
 · have hx:=hx _ (cO_ aa_.dflt hi)
   rw [dg_ aa_.dflt hi] at hF
   simp only [aH_.turn4,aH_.step4,bh_,Int.toNat_natCast,W_up hi (show j.list.length≤cY_ by simp only [cY_];omega),aE_,b7_,cu_,dm_ hi,da_ hi,ae_ hx]
   exact ⟨fun _=>⟨trivial,by simp;omega,hF⟩,fun h=>(by cases h)⟩
 · simp only [aH_.turn4,aH_.step4,dh_,cond_false,List.take_length,ai_,dj_]
termination_by SizeOf.sizeOf j.list
decreasing_by exact aa_.dec hx
end Go.Pi
end
section
namespace Go.Pi
theorem jb_ {j:aa_}:Ev (fun n _=>aj_ n j (aa_.mk 0 0 [] [] [])) (il_ j):=by
 refine aI_ ?_
 simp only [aj_,aE_,ai_,il_]
 by_cases h1:j.list=[]
 · by_cases h2:j.names=[]
   · have hL:Ev (fun n _=>aj_.loop6 n (aj_ n) (fun xy2 xy3 xy4 xy5 xy6 xy7 xy8 xy9 xy10 xy11=>(aj_.loop14 n (aj_ n) (some true) n 0 xy2 xy3 xy4 xy5 xy6 xy7 xy8 xy9 xy10 xy11)) n 0 j.kind j.n_ j.s [] [] 0 0 [] [] []) true :=
      c5_ (f:=fun n N=>aj_.loop6 n (aj_ n) (fun xy2 xy3 xy4 xy5 xy6 xy7 xy8 xy9 xy10 xy11=>(aj_.loop14 n (aj_ n) (some true) n 0 xy2 xy3 xy4 xy5 xy6 xy7 xy8 xy9 xy10 xy11)) N 0 j.kind j.n_ j.s [] [] 0 0 [] [] []) (bm_ (c5_ (f:=fun n N=>aj_.loop14 n (aj_ n) (some true) N 0 j.kind j.n_ j.s [] [] 0 0 [] [] []) (bm_ ⟨0,fun _ _ _ _=>rfl⟩)))
     rw [h1,h2]
     simp only [eA_ hL,bne]
     cases (j.kind == 0)<;>cases (j.n_ == 0)<;>cases (j.s == [])<;>simp
   · simp only [bne]
     rw [h1]
     have e:((j.names.length:Int) == (([]:List Bs).length:Int))=false:=by
      simp only [List.length_nil]
      rw [beq_eq_false_iff_ne];intro e;exact h2 (List.eq_nil_of_length_eq_zero (by omega))
     have e2:decide (j.names.length=0)=false:=decide_eq_false fun e=>h2 (List.eq_nil_of_length_eq_zero e)
     rw [e,e2]
     cases (j.kind == 0)<;>cases (j.n_ == 0)<;>cases (j.s == [])<;>simp
 · simp only [bne]
   have e:((j.list.length:Int) == (([]:List aa_).length:Int))=false:=by
    simp only [List.length_nil]
    rw [beq_eq_false_iff_ne];intro e;exact h1 (List.eq_nil_of_length_eq_zero (by omega))
   have e2:decide (j.list.length=0)=false:=decide_eq_false fun e=>h1 (List.eq_nil_of_length_eq_zero e)
   rw [e,e2]
   cases (j.kind == 0)<;>cases (j.n_ == 0)<;>cases (j.s == [])<;>simp
theorem hm_ {l:List TOp} (h:iX_ l):Ev (fun n _=>be_ n l) (cond (decide (eS_ l<l.length)) (aa_.mk 4 0 [] ((l.take (eS_ l)).map c9_) [],false) (dK_ l,decide ((l.length:Int)≤40) && !(bQ_ (dK_ l) == []))):=by
 refine aI_ ?_
 have hl:=h.1
 have ht:l.length≤cY_:=by simp only [cY_];omega
 have hb:eS_ l≤l.length:=List.findIdx_le_length
 simp only [be_]
 have:=eY_ (fun i=>(l.take i).map c9_) (eS_ l) (fun n N i (o:List aa_)=>be_.loop4 n (fun xy2 xy3 xy4 xy5 xy6 xy7 xy8 xy9=>(cond (decide ((xy2.length:Int)≤40)) ((cn_ n (aa_.mk xy6 xy7 xy8 xy9 [])).bind fun xr10=>(some ((aa_.mk xy6 xy7 xy8 xy9 ([]:List Bs)),(!(xr10 == []))))) (some ((aa_.mk xy6 xy7 xy8 xy9 ([]:List Bs)),false)))) N l (i:Int) 0 0 [] 4 0 [] o) (cond (decide (eS_ l<l.length)) (aa_.mk 4 0 [] ((l.take (eS_ l)).map c9_) [],false) (dK_ l,decide ((l.length:Int)≤40) && !(bQ_ (dK_ l) == []))) (fun i hi F hF => ?_) ?_
 · exact this
 · have hi2:i<l.length:=by omega
   have hx:=eK_ (h.2 _ (cO_ TOp.dflt hi2))
   rw [ox_ c9_ TOp.dflt hi2] at hF
   have hol:((l.take i).map c9_).length≤i:=by simp;omega
   generalize (l.take i).map c9_=o at hF hol ⊢
   simp only [be_.turn4,be_.step4,bh_,ek_,Int.toNat_natCast,W_up hi2 ht,dm_ hi2,da_ hi2,lf_ hi,cond_true,cond_false,b7_,cu_,ae_ hx]
   exact ⟨trivial,by simp;omega,hF⟩
 · by_cases hp:eS_ l<l.length
   · have hx:=eK_ (h.2 _ (cO_ TOp.dflt hp))
     simp only [be_.turn4,be_.step4,bh_,ek_,Int.toNat_natCast,dm_ hp,da_ hp,bad_at hp,cond_true,b7_,ae_ hx,ai_]
     rw [decide_eq_true hp]
     exact ⟨trivial,rfl⟩
   · have e:eS_ l=l.length:=by omega
     have hE:=dP_ (jr_ h)
     rw [decide_eq_false hp,cond_false]
     unfold dK_ at hE ⊢
     rw [e,List.take_length]
     simp only [be_.turn4,be_.step4,dh_,cond_false,aE_,ae_ hE,ai_]
     cases decide ((l.length:Int)≤40)<;>simp
def nh_ (l:List TOp):Bool:=(!decide (eS_ l<l.length))&&(decide ((l.length:Int)≤40) && !(bQ_ (dK_ l) == []))
def cX_ (e:aM_):Bool:=inn e.version 0 100000&&cond (e.kind == 1) ((e.base == 0)&&(decide (e.ops.length=0) && !(bQ_ e.doc == []))) (cond (e.kind == 2) (nh_ e.ops&&(inn e.base 0 (W (e.version - 1))&&il_ e.doc)) false)
def kx_ (e:aM_):Prop:=fg_ 6 e.doc∧iX_ e.ops
theorem hr_ (e:aM_):aM_.mk e.kind e.version e.base e.doc e.ops=e:=rfl
theorem size_ok (l:List TOp):decide (hg_ l≥0)=((!decide (eS_ l<l.length)) && !(bQ_ (dK_ l) == [])):=by
 unfold hg_
 cases decide (eS_ l<l.length) with
 |true=>rfl
 |false=>
  cases hs:(bQ_ (dK_ l) == []) with
  |true=>rfl
  |false=>simp only [cond_false,Bool.not_false,Bool.and_true];exact decide_eq_true (by omega)
theorem gz_ {e:aM_} (h:kx_ e):Ev (fun n _=>cp_ n e) (cX_ e):=by
 refine aI_ ?_
 simp only [cp_,bh_,l1In_b,aE_,ae_ (dP_ h.1),ae_ (hm_ h.2),ae_ jb_,ai_,lK_,cX_,nh_]
 generalize inn e.version 0 100000=a1
 generalize (e.kind == 1)=a2
 generalize (e.kind == 2)=a3
 generalize (e.base == 0)=a4
 generalize decide (e.ops.length=0)=a5
 generalize decide (eS_ e.ops<e.ops.length)=a6
 generalize decide ((e.ops.length:Int)≤40)=a7
 generalize (bQ_ (dK_ e.ops) == [])=a8
 generalize (bQ_ e.doc == [])=a9
 generalize inn e.base 0 (W (e.version - 1))=b1
 generalize il_ e.doc=b2
 cases a1<;>cases a2<;>cases a3<;>cases a4<;>simp only [cond_true,cond_false,Bool.not_true,Bool.not_false,Bool.false_and,Bool.true_and,reduceCtorEq,false_implies,true_implies,true_and,and_true,implies_true]
 all_goals (cases a5<;>cases a6<;>cases a7<;>cases a8<;>cases a9<;>cases b1<;>cases b2<;>simp)
theorem iG_ {n:Int}:Ev (fun m _=>bX_ m n) (inn n 0 100000):=aI_ (by simp only [bX_,fq_,ai_])
theorem gO_ {e:aM_} (h:kx_ e):Ev (fun n _=>cs_ n e) (cX_ e):=by
 refine aI_ ?_
 simp only [cs_,bh_,fq_,aE_,ae_ iG_,ae_ (dF_ h.1),ae_ hq_,ae_ (iH_ h.2),ai_,lK_,size_ok,cX_,nh_]
 generalize inn e.version 0 100000=a1
 generalize (e.kind == 1)=a2
 generalize (e.kind == 2)=a3
 generalize (e.base == 0)=a4
 generalize decide (e.ops.length=0)=a5
 generalize decide (eS_ e.ops<e.ops.length)=a6
 generalize decide ((e.ops.length:Int)≤40)=a7
 generalize (bQ_ (dK_ e.ops) == [])=a8
 generalize (bQ_ e.doc == [])=a9
 generalize inn e.base 0 (W (e.version - 1))=b1
 generalize il_ e.doc=b2
 cases a1<;>cases a2<;>cases a3<;>cases a4<;>simp only [cond_true,cond_false,Bool.not_true,Bool.not_false,Bool.false_and,Bool.true_and,reduceCtorEq,false_implies,true_implies,true_and,and_true,implies_true]
 all_goals (cases a5<;>cases a6<;>cases a7<;>cases a8<;>cases a9<;>cases b1<;>cases b2<;>simp)
end Go.Pi
end
section
namespace Go.Pi
theorem mk_:∀ {l:List Bs} {c:Nat},(∀ x ∈ l,x.length≤c)→ei_ szB l≤l.length*c
 |[],_,_=>Nat.zero_le _
 |x::l,c,h=>by
  have:=mk_ (l:=l) fun y hy=>h y (List.mem_cons_of_mem _ hy)
  have:=h x (List.mem_cons_self ..)
  simp only [ei_,szB,List.length_cons,Nat.add_mul] at *;omega
theorem lR_:∀ (d:Nat) (j:aa_),bE_ d j≤400→aa_.size j≤50000*bE_ d j
 |0,j,h=>by simp only [bE_] at h;omega
 |d+1,j,h=>by
  obtain ⟨ho,hs⟩:=di_ h
  have hl:=d6_ h
  have hn:=eQ_ h
  have hsum:∀ l:List aa_,(∀ x ∈ l,bE_ d x≤400)→ei_ aa_.size l≤50000*ei_ (bE_ d) l:=by
   intro l
   induction l with
   |nil=>intro _;exact Nat.zero_le _
   |cons x l ih=>
    intro hx
    have h1:=lR_ d x (hx x (List.mem_cons_self ..))
    have h2:=ih fun y hy=>hx y (List.mem_cons_of_mem _ hy)
    simp only [ei_];omega
  have h1:=hsum j.list fun x hx=>by have:=gv_ (bE_ d) hx;omega
  have hF:FOwn j=true:=by
   simp only [bE_] at h
   cases hf:FOwn j with
   |true=>rfl
   |false=>rw [hf,cond_false] at h;omega
  have hsl:j.s.length≤60:=by
   unfold FOwn at hF
   simp only [Bool.and_eq_true,Bool.or_eq_true] at hF
   rcases hF.2.2.2.1 with e|e
   · have:j.s=[]:=by simpa using e
     rw [this];exact Nat.zero_le _
   · exact ho.text (by simpa using e)
  have hnt:ei_ szB j.names≤j.names.length*60:=mk_ fun x hx=>by
   by_cases hk:j.kind=5
   · obtain ⟨i,hi,e⟩:=List.mem_iff_getElem.1 hx
     have:=hh_ (ho.obj hk).2 hi
     rw [List.getD_eq_getElem?_getD,List.getElem?_eq_getElem hi,Option.getD_some,e] at this
     exact this
   · have:j.names.length=0:=by
      unfold FOwn at hF
      simp only [Bool.and_eq_true,Bool.or_eq_true] at hF
      rcases hF.2.1 with e|e
      · exact of_decide_eq_true e
      · exact absurd (by simpa using e) hk
     rw [List.eq_nil_of_length_eq_zero this] at hx;cases hx
  have e:=aa_.size_eq j
  unfold en_ at e
  rw [hs]
  omega
end Go.Pi
end
section
namespace Go.Pi
def badC (c:aL_):aL_:=aL_.mk c.doc c.version c.began true
def eh_ (c:aL_) (e:aM_):aL_:=cond c.bad c (cond (cX_ e) (cond (e.kind == 1) (cond (c.began&&decide (e.version≤c.version)) (badC c) (aL_.mk e.doc e.version true false))
 (cond (c.began&&(e.base == c.version)&&(dN_ c.doc e.ops).2) (aL_.mk (dN_ c.doc e.ops).1 e.version true false) (badC c))) (badC c))
theorem d7_ (c:aL_):aL_.mk c.doc c.version c.began c.bad=c:=rfl
theorem m1_ {e:aM_} (h:cX_ e=true):(e.kind == 1)=false→(e.kind == 2)=true:=by
 intro h1
 unfold cX_ at h
 rw [h1] at h
 cases h2:(e.kind == 2)
 · rw [h2] at h;simp at h
 · rfl
section
variable {c:aL_} {e:aM_} (hc:aa_.size c.doc≤4000000000) (hcl:fg_ 6 c.doc) (he:aa_.size e.doc≤4000000000) (hel:kx_ e)
include hc hcl he hel
theorem hW_:Ev (fun n _=>bS_ n c e) (eh_ c e):=by
 have h0:Ev (fun n _=>cz_ n c) c:=aI_ (by simp only [cz_,bh_,ae_ (fb_ c.doc hc),ai_])
 refine aI_ ?_
 simp only [bS_,bh_,d7_,hr_,ae_ h0,aE_,ai_,ae_ (gz_ hel),ae_ (fb_ e.doc he),ae_ (jc_ hcl hel.2)]
 unfold eh_ badC
 cases c.bad<;>cases h2:cX_ e<;>cases h3:(e.kind == 1)<;>cases c.began<;>cases decide (e.version≤c.version)<;>cases h4:(e.base == c.version)<;>cases (dN_ c.doc e.ops).2<;>simp [bne,h4]
theorem ib_:Ev (fun n _=>bV_ n c e) (eh_ c e):=by
 have h0:Ev (fun n _=>bU_ n c) c:=aI_ (by simp only [bU_,bh_,ae_ (eE_ c.doc hc),ai_])
 have hk:=fun h=>m1_ (e:=e) h
 have hv:decide (e.version > c.version) = !decide (e.version≤c.version):=by
  by_cases h:e.version≤c.version
  · rw [decide_eq_true h,decide_eq_false (by omega)];rfl
  · rw [decide_eq_false h,decide_eq_true (by omega)];rfl
 have hkk:(e.kind == 1)=true→(e.kind == 2)=false:=by
  intro h;rw [eq_of_beq h];rfl
 refine aI_ ?_
 simp only [bV_,bh_,d7_,hr_,hv,ae_ h0,aE_,ai_,ae_ (gO_ hel),ae_ (eE_ e.doc he),ae_ (jj_ hcl hel.2)]
 unfold eh_ badC
 cases hb:c.bad<;>cases h2:cX_ e<;>cases h3:(e.kind == 1)<;>cases hg:c.began<;>cases decide (e.version≤c.version)<;>cases h4:(e.base == c.version)<;>cases (dN_ c.doc e.ops).2<;>simp only [h2,h3,true_implies,reduceCtorEq,false_implies] at hk hkk<;>simp [h3,hk,hkk,hb,hg]
end
end Go.Pi
end
section
namespace Go.Pi
end Go.Pi
end
section
namespace Go.Pi
theorem ix_ {j:aa_} (h:co_ j=true):aa_.size j≤20000000:=by
 have h:=of_decide_eq_true h
 have:=lR_ 6 _ h
 omega
end Go.Pi
end
section
namespace Go.Pi
def fin (w:List Bs):List Bs × Bool:=if w.length > 6 then ([],false) else (w,true)
def wr (out:List Bs) (now:Bs):Bs→List Bs × Bool
 |[]=>fin (out++[now])
 |[c]=>if c=47 then fin (out++[now]++[[]]) else if c=126 then ([],false) else fin (out++[now++[c]])
 |c::e::l=>if c=47 then wr (out++[now]) [] (e::l) else if c=126 then (if e=48 then wr out (now++[126]) l else if e=49 then wr out (now++[47]) l else ([],false)) else wr out (now++[c]) (e::l)
theorem wr_sl (out:List Bs) (now l:Bs):wr out now (47::l)=wr (out++[now]) [] l:=by
 cases l with
 |nil=>rfl
 |cons e l=>rw [wr,if_pos rfl]
theorem wr_c {c:UInt8} (h1:c≠47) (h2:c≠126) (out:List Bs) (now l:Bs):wr out now (c::l)=wr out (now++[c]) l:=by
 cases l with
 |nil=>
  show (if c=47 then fin (out++[now]++[[]]) else if c=126 then ([],false) else fin (out++[now++[c]]))=fin (out++[now++[c]])
  rw [if_neg h1,if_neg h2]
 |cons e l=>rw [wr,if_neg h1,if_neg h2]
theorem wr_t (e:UInt8) (out:List Bs) (now l:Bs):wr out now (126::e::l)=if e=48 then wr out (now++[126]) l else if e=49 then wr out (now++[47]) l else ([],false):=by
 rw [wr,if_neg (by decide),if_pos rfl]
def FWr (s:Bs):List Bs × Bool:=match s with
 |[]=>([],true)
 |c::l=>if c=47 then wr [] [] l else ([],false)
theorem wr_enc:∀ (w:List Bs) (u now:Bs) (out:List Bs),wr out now (u.flatMap fn_++FWay w)=fin (out++[now++u]++w)
 |[],[],now,out=>by simp [FWay,wr]
 |s::w,[],now,out=>by
  have e:([]:Bs).flatMap fn_++FWay (s::w)=47::(s.flatMap fn_++FWay w):=rfl
  rw [e,wr_sl,wr_enc w s [] _];simp
 |w,c::u,now,out=>by
  have ih:=fun x=>wr_enc w u (now++[x]) out
  rw [List.flatMap_cons,List.append_assoc]
  by_cases h1:c=126
  · have e:fn_ c=[126,48]:=if_pos h1
    rw [e]
    show wr out now (126::48::(u.flatMap fn_++FWay w))=_
    rw [wr_t,if_pos rfl,ih 126,h1];simp
  · by_cases h2:c=47
    · have e:fn_ c=[126,49]:=by unfold fn_;rw [if_neg h1,if_pos h2]
      rw [e]
      show wr out now (126::49::(u.flatMap fn_++FWay w))=_
      rw [wr_t,if_neg (by decide),if_pos rfl,ih 47,h2];simp
    · have e:fn_ c=[c]:=by unfold fn_;rw [if_neg h1,if_neg h2]
      rw [e]
      show wr out now (c::(u.flatMap fn_++FWay w))=_
      rw [wr_c h2 h1,ih c];simp
theorem FWr_enc {w:List Bs} (h:w.length≤6):FWr (FWay w)=(w,true):=by
 cases w with
 |nil=>rfl
 |cons s w=>
  have e:FWay (s::w)=47::(s.flatMap fn_++FWay w):=rfl
  rw [e]
  show (if (47:UInt8)=47 then wr [] [] (s.flatMap fn_++FWay w) else ([],false))=_
  rw [if_pos rfl,wr_enc]
  unfold fin
  rw [if_neg (by simp at h ⊢;omega)];simp
def WrOk (B:Nat) (x:List Bs × Bool):Prop:=x.1.length≤6∧∀ y ∈ x.1,y.length≤B
theorem fin_ok {B:Nat} {w:List Bs} (h:∀ y ∈ w,y.length≤B):WrOk B (fin w):=by
 unfold fin
 split
 · exact ⟨Nat.zero_le _,fun y h=>(by cases h)⟩
 · exact ⟨by simp only;omega,h⟩
theorem wr_ok {B:Nat}:∀ (n:Nat) (l now:Bs) (out:List Bs),l.length≤n→(∀ y ∈ out,y.length≤B)→now.length+l.length≤B→WrOk B (wr out now l):=by
 have app:∀ {now:Bs} {out:List Bs},(∀ y ∈ out,y.length≤B)→now.length≤B→∀ y ∈ out++[now],y.length≤B:=by
  intro now out h1 h2 y hy
  rcases List.mem_append.1 hy with hy|hy
  · exact h1 y hy
  · obtain rfl:=List.mem_singleton.1 hy;exact h2
 have bad:WrOk B (([]:List Bs),false):=⟨Nat.zero_le _,fun y h=>(by cases h)⟩
 intro n
 induction n with
 |zero=>
  intro l now out hl h1 h2
  have:l=[]:=List.eq_nil_of_length_eq_zero (by omega)
  subst this
  exact fin_ok (app h1 (by simpa using h2))
 |succ n ih=>
  intro l now out hl h1 h2
  cases l with
  |nil=>exact fin_ok (app h1 (by simpa using h2))
  |cons c l=>
   simp only [List.length_cons] at hl h2
   by_cases hc:c=47
   · subst hc
     rw [wr_sl]
     exact ih l [] _ (by omega) (app h1 (by omega)) (by simp;omega)
   · by_cases ht:c=126
     · subst ht
       cases l with
       |nil=>exact bad
       |cons e l=>
        rw [wr_t]
        simp only [List.length_cons] at hl h2
        split
        · exact ih l _ out (by omega) h1 (by simp;omega)
        · split
          · exact ih l _ out (by omega) h1 (by simp;omega)
          · exact bad
     · rw [wr_c hc ht]
       exact ih l _ out (by omega) h1 (by simp;omega)
theorem FWr_ok (s:Bs):WrOk s.length (FWr s):=by
 unfold FWr
 split
 · exact ⟨Nat.zero_le _,fun y h=>(by cases h)⟩
 · rename_i c l
   split
   · exact wr_ok l.length l [] [] (Nat.le_refl _) (fun y h=>(by cases h)) (by simp)
   · exact ⟨Nat.zero_le _,fun y h=>(by cases h)⟩
theorem gy_ {s:Bs} (hs:s.length≤1000000):Ev (fun n _=>aT_ n s) (FWr s):=by
 have key:∀ (K:Nat→aT_.K6),(∀ out now,out.length≤1000000→s≠[]→Ev (fun n _=>K n s [] out (bi now)) (fin (out++[now]))) →
   ∀ (m i:Nat) (out:List Bs) (now:Bs),s.length - i≤m→1≤i→i≤s.length→out.length≤i→now.length≤i →
   Ev (fun n N=>aT_.loop6 n (K n) N s (i:Int) [] out (bi now)) (wr out now (s.drop i)):=by
  intro K hK m
  induction m with
  |zero=>
   intro i out now hm h1 h2 h3 h4
   have:i=s.length:=by omega
   subst this
   rw [List.drop_length]
   refine bm_ ?_
   simp only [aT_.turn6,aT_.step6,dh_,cond_false]
   exact hK out now (by omega) (fun e=>by rw [e] at h1;simp at h1)
  |succ m ih=>
   intro i out now hm h1 h2 h3 h4
   by_cases hi:i<s.length
   · have hd:=dB_ 0 hi
     have hbl:=i6_ now
     have hW:W ((i:Int)+1)=((i+1:Nat):Int):=by rw [W_id (by omega) (by omega)];omega
     have hW2:W (((i+1:Nat):Int)+1)=((i+2:Nat):Int):=by rw [W_id (by omega) (by omega)];omega
     have hz:((i:Int) == 0)=false:=beq_eq_false_iff_ne.2 (by omega)
     have hg:decide ((i:Int) > 0)=true:=decide_eq_true (by omega)
     refine bm_ ?_
     simp only [aT_.turn6,aT_.step6,dm_ hi,cond_true,b7_,da_ hi,true_and,Int.toNat_natCast,hW,hW2,hz,hg,cond_false,byte47,byte126,ip_,cu_]
     rw [hd]
     generalize hc:s.getD i 0=c
     by_cases c47:c=47
     · subst c47
       rw [wr_sl,decide_eq_true rfl]
       simp only [cond_true,cu_]
       exact ⟨by simp;omega,ih (i+1) (out++[now]) [] (by omega) (by omega) (by omega) (by simp;omega) (by simp)⟩
     · rw [decide_eq_false c47]
       simp only [cond_false]
       by_cases c126:c=126
       · subst c126
         rw [decide_eq_true rfl]
         simp only [cond_true]
         by_cases hi2:i+1<s.length
         · have hd2:=dB_ 0 hi2
           have hne:(((i+1:Nat):Int) == (s.length:Int))=false:=beq_eq_false_iff_ne.2 (by omega)
           rw [hd2,wr_t]
           simp only [hne,cond_false,b7_,da_ hi2,true_and,Int.toNat_natCast]
           generalize s.getD (i+1) 0=e
           have e48:((e.toNat:Int) == 48)=decide (e=48):=i5_ e 48 48 rfl
           have e49:((e.toNat:Int) == 49)=decide (e=49):=i5_ e 49 49 rfl
           have n1:=ih (i+2) out (now++[126]) (by omega) (by omega) (by omega) (by omega) (by simp;omega)
           have n2:=ih (i+2) out (now++[47]) (by omega) (by omega) (by omega) (by omega) (by simp;omega)
           rw [←l5_] at n1 n2
           simp only [bne,e48,e49]
           by_cases d48:e=48
           · subst d48
             simp only [decide_true,Bool.not_true,cond_false,cond_true,b7_,da_ hi,da_ hi2,true_and,cu_,if_true]
             exact ⟨by simp;omega,n1⟩
           · by_cases d49:e=49
             · subst d49
               simp only [d48,decide_true,decide_false,Bool.not_true,Bool.not_false,cond_false,cond_true,b7_,da_ hi,da_ hi2,true_and,cu_,if_true,if_false]
               exact ⟨by simp;omega,n2⟩
             · simp only [d48,d49,decide_false,Bool.not_false,cond_true,b7_,da_ hi,da_ hi2,true_and,ai_,if_false]
         · have hne:(((i+1:Nat):Int) == (s.length:Int))=true:=by simp;omega
           have hde:s.drop (i+1)=[]:=oX_ (by omega)
           rw [hde]
           simp only [hne,cond_true,b7_,da_ hi,true_and,ai_]
           rfl
       · rw [wr_c c47 c126,decide_eq_false c126]
         have n1:=ih (i+1) out (now++[c]) (by omega) (by omega) (by omega) (by omega) (by simp;omega)
         rw [←l5_] at n1
         simp only [cond_false,b7_,da_ hi,true_and,cu_]
         exact ⟨by simp;omega,n1⟩
   · have:i=s.length:=by omega
     subst this
     rw [List.drop_length]
     refine bm_ ?_
     simp only [aT_.turn6,aT_.step6,dh_,cond_false]
     exact hK out now (by omega) (fun e=>by rw [e] at h1;simp at h1)
 refine aI_ ?_
 simp only [aT_]
 cases s with
 |nil=>
  refine c5_ (f:=fun n N=>aT_.loop6 n (fun xy1 xy2 xy3 xy4=>(cond (!(xy1 == [])) (cF_ (xy3.length+([(fT_ xy4)]:List Bs).length) 16 (cond (decide (((xy3++([(fT_ xy4)]:List Bs)).length:Int) > 6)) (some (xy2,false)) (some ((xy3++([(fT_ xy4)]:List Bs)),true)))) (cond (decide ((xy3.length:Int) > 6)) (some (xy2,false)) (some (xy3,true))))) N [] 0 [] [] []) (bm_ ?_)
  exact ⟨0,fun _ _ _ _=>rfl⟩
 |cons c l=>
  have hK:∀ out now,out.length≤1000000→c::l≠[]→Ev (fun n (_:Nat)=>(cond (!(c::l == [])) (cF_ (out.length+([(fT_ (bi now))]:List Bs).length) 16 (cond (decide (((out++([(fT_ (bi now))]:List Bs)).length:Int) > 6)) (some (([]:List Bs),false)) (some ((out++([(fT_ (bi now))]:List Bs)),true)))) (cond (decide ((out.length:Int) > 6)) (some ([],false)) (some (out,true))))) (fin (out++[now])):=by
   intro out now h1 _
   have e:(!(c::l == []))=true:=rfl
   rw [e,ip_]
   simp only [cond_true,cu_,aE_,ai_]
   unfold fin
   refine ⟨by simp;omega,fun h => ?_,fun h => ?_⟩
   · have h:=of_decide_eq_true h;rw [if_pos (by omega)]
   · have h:=of_decide_eq_false h;rw [if_neg (by omega)]
  refine c5_ (f:=fun n N=>aT_.loop6 n (fun xy1 xy2 xy3 xy4=>(cond (!(xy1 == [])) (cF_ (xy3.length+([(fT_ xy4)]:List Bs).length) 16 (cond (decide (((xy3++([(fT_ xy4)]:List Bs)).length:Int) > 6)) (some (xy2,false)) (some ((xy3++([(fT_ xy4)]:List Bs)),true)))) (cond (decide ((xy3.length:Int) > 6)) (some (xy2,false)) (some (xy3,true))))) N (c::l) 0 [] [] []) (bm_ ?_)
  have hk:=key (fun _=>fun xy1 xy2 xy3 xy4=>(cond (!(xy1 == [])) (cF_ (xy3.length+([(fT_ xy4)]:List Bs).length) 16 (cond (decide (((xy3++([(fT_ xy4)]:List Bs)).length:Int) > 6)) (some (xy2,false)) (some ((xy3++([(fT_ xy4)]:List Bs)),true)))) (cond (decide ((xy3.length:Int) > 6)) (some (xy2,false)) (some (xy3,true))))) hK l.length 1 [] [] (by simp) (Nat.le_refl _) (by simp) (by simp) (by simp)
  have c0:decide ((0:Int)<(((c::l).length:Nat):Int))=true:=decide_eq_true (by simp)
  have cg:decide ((0:Int) > 0)=false:=rfl
  have cz:((0:Int) == 0)=true:=rfl
  have hW:W ((0:Int)+1)=((1:Nat):Int):=rfl
  have hg0:(c::l).getD (0:Int).toNat 0=c:=rfl
  simp only [aT_.turn6,aT_.step6,c0,cond_true,b7_,hg0,byte47,cg,cz,cond_false,hW]
  refine ⟨by simp,?_⟩
  unfold FWr
  by_cases c47:c=47
  · rw [decide_eq_true c47]
    simp only [c47,if_true,cond_true]
    rw [c47] at hk
    exact hk
  · rw [decide_eq_false c47]
    simp only [c47,if_false,cond_false,ai_]
def FWi (s:Bs):List Bs × Bool:=if s=[] then ([],true) else
 if (((dZ_ 47 s).drop 1).map fun p=>fC_ 126 48 [126] (fC_ 126 49 [47] p)).length > 6 then ([],false) else
 if FWay (((dZ_ 47 s).drop 1).map fun p=>fC_ 126 48 [126] (fC_ 126 49 [47] p))=s then (((dZ_ 47 s).drop 1).map fun p=>fC_ 126 48 [126] (fC_ 126 49 [47] p),true) else ([],false)
theorem hv_ {a b c:UInt8} {s:Bs} (hs:s.length≤1000000) (hne:([a,b] == [c])=false):Ev (fun n _=>strings_ReplaceAll n s [a,b] [c]) (fC_ a b [c] s):=by
 refine aI_ ?_
 have:=nR_ a b s
 simp only [strings_ReplaceAll,fe_,count2,nv_ a b [c] s hne,aE_,ai_,dl_]
 refine ⟨fun _=>trivial,fun h => ?_⟩
 have e1:decide (s.length<4294967281)=true:=decide_eq_true (by omega)
 have e2:decide (1≤[a,b].length)=true:=rfl
 have e3:decide (s.length+cnt2 a b s*[c].length≤140737488355328)=true:=decide_eq_true (by simp only [List.length_cons,List.length_nil];omega)
 rw [e1,e2,e3] at h;cases h
theorem Split_ev {s:Bs} {b:UInt8} (hs:s.length≤1000000):Ev (fun n _=>strings_Split n s [b]) (dZ_ b s):=by
 refine aI_ ?_
 have e1:decide (s.length<4294967281)=true:=decide_eq_true (by omega)
 have e2:decide (1≤[b].length)=true:=rfl
 simp only [strings_Split,ov_,split_one,e1,e2,Bool.and_self,cond_true,ai_]
theorem gM_ {s:Bs} (hs:s.length≤60):Ev (fun n _=>ba_ n s) (FWi s):=by
 refine aI_ ?_
 simp only [ba_,aE_,ai_,ae_ (Split_ev (s:=s) (b:=47) (by omega))]
 unfold FWi
 by_cases h0:s=[]
 · rw [if_pos h0,h0]
   exact ⟨fun _=>rfl,fun h=>(by cases h)⟩
 · rw [if_neg h0,beq_eq_false_iff_ne.2 h0]
   refine ⟨fun h=>(by cases h),fun _ => ?_⟩
   obtain ⟨hl,hp⟩:=iu_ 47 s
   obtain ⟨p,ps,e⟩:=it_ 47 s
   rw [e] at hl hp ⊢
   have e1:(((p::ps).length:Nat):Int).toNat=ps.length+1:=by simp
   have e2:((p::ps).take (ps.length+1)).drop 1=ps:=by
    rw [List.take_of_length_le (by simp)];rfl
   have e3:(ps.length+1 - 1:Nat)=ps.length:=rfl
   have e4:(p::ps).drop 1=ps:=rfl
   simp only [e1,e2,e3,e4,d4_]
   refine ⟨by simp only [List.length_cons] at hl ⊢;omega,?_⟩
   simp only [List.length_cons] at hl
   have hps:∀ q ∈ ps,q.length≤60:=fun q hq=>by have:=hp q (List.mem_cons_of_mem _ hq);omega
   refine ev_map [] ps (fun p=>fC_ 126 48 [126] (fC_ 126 49 [47] p)) (fun n N i (o:List Bs)=>ba_.loop7 n (fun xy4 xy5=>(cond (decide ((xy5.length:Int) > 6)) (some (([]:List Bs),false)) ((a6_ n xy5).bind fun xr6=>(cond (!(xr6 == xy4)) (some (([]:List Bs),false)) (some (xy5,true)))))) N s ps (ps.length:Int) (i:Int) o) _ (fun i o hi ho F hF => ?_) ?_
   · have hq:=hps _ (cO_ [] hi)
     have r1:=hv_ (a:=126) (b:=49) (c:=47) (s:=ps.getD i []) (by omega) rfl
     have r1l:=fY_ 126 49 47 (ps.getD i [])
     have r2:=hv_ (a:=126) (b:=48) (c:=126) (s:=fC_ 126 49 [47] (ps.getD i [])) (by omega) rfl
     have hW:=W_up hi (show ps.length≤cY_ by simp only [cY_];omega)
     simp only [ba_.turn7,ba_.step7,dm_ hi,cond_true,b7_,da_ hi,true_and,Int.toNat_natCast,hW,ae_ r1,ae_ r2,cu_]
     exact ⟨by simp;omega,hF⟩
   · generalize hw:ps.map (fun p=>fC_ 126 48 [126] (fC_ 126 49 [47] p))=w
     have hwl:∀ q ∈ w,q.length≤60:=by
      intro q hq
      rw [←hw] at hq
      obtain ⟨x,hx,rfl⟩:=List.mem_map.1 hq
      have:=fY_ 126 49 47 x
      have:=fY_ 126 48 126 (fC_ 126 49 [47] x)
      have:=hps x hx
      omega
     simp only [ba_.turn7,ba_.step7,dh_,cond_false,aE_,ai_]
     refine ⟨fun h => ?_,fun h => ?_⟩
     · have h:=of_decide_eq_true h;rw [if_pos (by omega)]
     · have h:=of_decide_eq_false h
       rw [if_neg (by omega)]
       simp only [ae_ (gL_ (w:=w) (by omega) hwl),aE_,ai_]
       by_cases he:FWay w=s
       · rw [he,if_pos rfl];simp
       · rw [if_neg he,beq_eq_false_iff_ne.2 he];simp
theorem FWi_enc {w:List Bs} (h:w.length≤6):FWi (FWay w)=(w,true):=by
 unfold FWi
 cases w with
 |nil=>rfl
 |cons s w=>
  have e:FWay (s::w)≠[]:=by
   show 47::_≠[]
   intro e;cases e
  have e2:((dZ_ 47 (FWay (s::w))).drop 1).map (fun p=>fC_ 126 48 [126] (fC_ 126 49 [47] p))=s::w:=by
   rw [mp_]
   show (((s::w).map fun s=>s.flatMap fn_).map fun p=>fC_ 126 48 [126] (fC_ 126 49 [47] p))=_
   rw [List.map_map]
   refine (List.map_congr_left fun x _ => ?_).trans (List.map_id _)
   show fC_ 126 48 [126] (fC_ 126 49 [47] (x.flatMap fn_))=x
   rw [unesc1,unesc2]
  rw [if_neg e,e2,if_neg (by omega),if_pos rfl]
theorem FWi_ok {s:Bs}:WrOk s.length (FWi s):=by
 unfold FWi
 split
 · exact ⟨Nat.zero_le _,fun y h=>(by cases h)⟩
 · split
   · exact ⟨Nat.zero_le _,fun y h=>(by cases h)⟩
   · rename_i h
     split
     · refine ⟨by simp only;omega,fun y hy => ?_⟩
       obtain ⟨x,hx,rfl⟩:=List.mem_map.1 hy
       have h1:=fY_ 126 49 47 x
       have h2:=fY_ 126 48 126 (fC_ 126 49 [47] x)
       have h3:=(iu_ 47 s).2 x (List.mem_of_mem_drop hx)
       omega
     · exact ⟨Nat.zero_le _,fun y h=>(by cases h)⟩
end Go.Pi
end
section
namespace Go.Pi
theorem lh_:∀ (d:Nat) (j:aa_),ef_ d j j=true
 |0,_=>rfl
 |d+1,j=>by
  simp only [ef_,hM_,beq_self_eq_true,decide_true,Bool.true_and,Bool.and_eq_true]
  exact ⟨fy_.2 fun i _=>by simp,fy_.2 fun i _=>lh_ d _⟩
theorem mu_ {j:aa_} (h:bE_ 6 j≤400):fQ_ j j=true:=by
 unfold fQ_ co_
 rw [decide_eq_true h,lh_];rfl
theorem lo_ {j:aa_} (h:bE_ 6 j≤400):j.s.length≤60:=by
 have ho2:=ed_ (d0_ h)
 by_cases hk:j.kind=3
 · exact g1_ (ho2.text hk)
 · rw [ho2.s0 hk];exact Nat.zero_le _
theorem lM_ {k:Int} {x:List Bs × Bool} {v:aa_} {s:Bs} (hs:s.length≤60) (hw:WrOk s.length x) (hv:bE_ 6 v≤400):ex_ (TOp.mk k x.1 v) :=
 ⟨⟨by have:=hw.1;show x.1.length≤cY_;simp only [cY_];omega,fun y hy=>by have:=hw.2 y hy;simp only [cY_];omega⟩,cI_ 6 v hv⟩
theorem el_:ex_ (TOp.mk 0 [] (aa_.mk 0 0 [] [] [])):=⟨⟨Nat.zero_le _,fun y h=>(by cases h)⟩,ff_ 6⟩
abbrev eo_:List Bs:=[[97,100,100],[114,101,109,111,118,101],[114,101,112,108,97,99,101],[116,101,115,116]]
theorem kT_:Ev (fun n _=>cf_ n ()) eo_:=aI_ (by simp only [cf_,ai_])
theorem kX_:Ev (fun n _=>ce_ n ()) ([]::eo_):=aI_ (by simp only [ce_,ai_])
theorem j4_ {p:aa_} (h:bE_ 6 p≤400):Ans (fun n _=>cH_ n p) fun x=>ex_ x.1:=by
 refine c7_ ?_
 have hs:=lo_ (fh_ h eP_)
 have hv:=fh_ h f1_
 have hw:=FWi_ok (s:=(eZ_ p eP_).1.s)
 have hL:=fun k=>lM_ (k:=k) hs hw hv
 simp only [cH_,bh_,bj_ (h8_ h),bj_ (gM_ hs),bj_ kT_,bj_ (et_ (l:=eo_) (by decide)),cc_,br_]
 refine ⟨fun _=>el_,fun _=>⟨fun _=>el_,fun _=>⟨fun _=>el_,fun _ => ?_⟩⟩⟩
 have hk:=hL (W (1+FIdx eo_ (eZ_ p [111,112]).1.s))
 simp only [bj_ (fu_ hk),bj_ (eM_ hk),bj_ (gn_ (hF_ hk) (cI_ 6 p h)),cc_,br_]
 exact ⟨fun _=>el_,fun _=>⟨fun _=>el_,fun _=>hk⟩⟩
structure OpIn (o:TOp):Prop where
 ok:fp_ o=true
 val:c9_ o=dO_ o
 size:bE_ 6 (dO_ o)≤400
theorem op_in {o:TOp} (h:(c9_ o).kind≠0):OpIn o:=by
 unfold c9_ at h
 cases ho:fp_ o with
 |false=>rw [ho] at h;exact absurd rfl h
 |true=>
  rw [ho,cond_true] at h
  unfold kn_ at h
  cases hj:co_ (dO_ o) with
  |false=>rw [hj] at h;exact absurd rfl h
  |true=>
   refine ⟨ho,?_,of_decide_eq_true hj⟩
   unfold c9_ kn_
   rw [ho,hj];rfl
theorem me_ {j:aa_} (h:il_ j=true):j=e6_:=by
 unfold il_ at h
 simp only [Bool.and_eq_true,beq_iff_eq,decide_eq_true_eq] at h
 obtain ⟨h1,h2,h3,h4,h5⟩:=h
 obtain ⟨k,n,s,l,ns⟩:=j
 simp only at h1 h2 h3 h4 h5
 rw [h1,h2,h3,List.eq_nil_of_length_eq_zero h4,List.eq_nil_of_length_eq_zero h5];rfl
theorem val_of {o:TOp} (h:fp_ o=true) (hk:o.kind=2):o.value=e6_:=by
 unfold fp_ at h
 simp only [Bool.and_eq_true,Bool.or_eq_true] at h
 rcases h.2.2.2.2 with h|h
 · rw [hk] at h;exact absurd h (by decide)
 · exact me_ h
theorem oT_ {o:TOp}:eZ_ (dO_ o) p2_=(pa_ (eX_ o.kind),true):=by
 unfold dO_
 cases (o.kind == 2)<;>rfl
theorem iK_ {o:TOp}:eZ_ (dO_ o) eP_=(pa_ (FWay o.way),true):=by
 unfold dO_
 cases (o.kind == 2)<;>rfl
theorem j7_ {o:TOp} (h:fp_ o=true):(eZ_ (dO_ o) f1_).1=o.value:=by
 unfold dO_
 cases hk:(o.kind == 2) with
 |false=>rfl
 |true=>rw [val_of h (by simpa using hk)];rfl
theorem kind_back {o:TOp} (h:OpIs o):W (1+FIdx eo_ (eX_ o.kind))=o.kind:=by
 rcases h.kind with e|e|e|e<;>rw [e]<;>decide
theorem nk_ {o:TOp} (h:OpIn o):(FWay o.way).length≤60:=by
 have:=lo_ (fh_ h.size eP_)
 rw [iK_] at this
 exact this
theorem j3_ {o:TOp} (h:OpIn o):Ev (fun n _=>cH_ n (dO_ o)) (o,true):=by
 have hi:=pl_ h.ok
 have hL:ex_ o:=lM_ (x:=(o.way,true)) (v:=o.value) (s:=FWay o.way) (nk_ h) ⟨hi.way,fun y hy=>by
  have:y.length≤(y.flatMap fn_).length:=by
   clear hy
   induction y with
   |nil=>exact Nat.le_refl _
   |cons c y ih=>rw [List.flatMap_cons,List.length_append,List.length_cons];have:1≤(fn_ c).length:=by unfold fn_;split<;>(try split)<;>simp
                 omega
  have:∀ w:List Bs,y ∈ w→(y.flatMap fn_).length≤(FWay w).length:=by
   intro w
   induction w with
   |nil=>intro h;cases h
   |cons s w ih=>
    intro h
    have e:FWay (s::w)=(47::s.flatMap fn_)++FWay w:=rfl
    rw [e,List.length_append,List.length_cons]
    rcases List.mem_cons.1 h with rfl|h
    · omega
    · have:=ih h;omega
  have:=this o.way hy
  simp only at hy;omega⟩ hi.val
 have hop:=oT_ (o:=o)
 have hpa:=iK_ (o:=o)
 have hva:=j7_ h.ok
 have hs:=nk_ h
 have hW:=kind_back hi
 have hw:Ev (fun n _=>ba_ n (FWay o.way)) (o.way,true):=by rw [←FWi_enc hi.way];exact gM_ hs
 have hS:=gn_ (a:=dO_ o) (b:=dO_ o) (cI_ 6 _ h.size) (cI_ 6 _ h.size)
 rw [mu_ h.size] at hS
 have hJ:=eM_ hL
 rw [h.val] at hJ
 have hK:=fu_ hL
 rw [h.ok] at hK
 unfold p2_ at hop
 unfold eP_ at hpa
 refine aI_ ?_
 simp only [cH_,bh_,ae_ (h8_ h.size),hop,hpa,hva,pa_,ae_ hw,ae_ kT_,ae_ (et_ (l:=eo_) (by decide)),hW,Bool.not_true,cond_false,ek_,ae_ hK,ae_ hJ,ae_ hS,ai_]
def FK (k:Int) (s:Bs):Nat→Nat→Int→Int
 |0,_,t=>t
 |j+1,i,t=>FK k s j (i+1) (cond (k == 3) (cond (s == ([]::eo_).getD i []) (i:Int) t) t)
theorem jS_ {K:Nat→aO_.K7} {F:TOp × Bool} {a0 a1:Int} {a2:Bs} {a3:List aa_} {a4:List Bs} {b1 b2 b3:Int} {b4:Bs} {c2 c3:Int} {c4:Bs} {k d1:Int} {s:Bs} {e0 e1:Int} {e2:Bs} {f3:List aa_} {f4:List Bs} {g3:List aa_} {g4:List Bs} :
  ∀ (j i:Nat) (t:Int),i+j=5→Ev (fun n _=>K n a0 a1 a2 a3 a4 b1 b2 b3 b4 (FK k s j i t) c2 c3 c4 e0 e1 e2 g3 g4) F →
    Ev (fun n N=>aO_.loop7 n (K n) N (i:Int) a0 a1 a2 a3 a4 b1 b2 b3 b4 t c2 c3 c4 k d1 s e0 e1 e2 ([]::eo_) f3 f4 g3 g4) F:=by
 have hlen:(([]:Bs)::eo_).length=5:=rfl
 intro j
 induction j with
 |zero=>
  intro i t hi hK
  obtain rfl:i=5:=by omega
  refine bm_ ?_
  have:decide (((5:Nat):Int)<(((([]:Bs)::eo_).length:Nat):Int))=false:=by rw [hlen];exact decide_eq_false (by omega)
  simp only [aO_.turn7,aO_.step7,this,cond_false]
  exact hK
 |succ j ih=>
  intro i t hi hK
  have hlt:i<(([]:Bs)::eo_).length:=by rw [hlen];omega
  have hW:W ((i:Int)+1)=((i+1:Nat):Int):=by rw [W_id (by omega) (by omega)];omega
  refine bm_ ?_
  simp only [aO_.turn7,aO_.step7,dm_ hlt,cond_true,Int.toNat_natCast,hW,aE_,b7_,da_ hlt,true_and]
  unfold FK at hK
  refine ⟨fun h3 => ?_,fun h3 => ?_⟩
  · rw [h3,cond_true] at hK
    exact ⟨fun he=>by rw [he,cond_true] at hK;exact ih (i+1) _ (by omega) hK,fun he=>by rw [he,cond_false] at hK;exact ih (i+1) _ (by omega) hK⟩
  · rw [h3,cond_false] at hK
    exact ih (i+1) _ (by omega) hK
theorem tail_any {p:aa_} (h:bE_ 6 p≤400) {t:Bool} {k:Int} {w:List Bs} {v:aa_} {b1 b2 b3:Int} {b4:Bs} (hk:ex_ (TOp.mk k w v)) :
  Ans (fun n (_:Nat)=>aO_.tail15 n t p.kind p.n_ p.s p.list p.names b1 b2 b3 b4 k w v.kind v.n_ v.s v.list v.names) fun x=>ex_ x.1:=by
 simp only [aO_.tail15,bh_,dj_,cc_,br_,bj_ (eK_ hk),bj_ (gl_ (hF_ hk) (cI_ 6 p h))]
 exact ⟨fun _=>el_,fun _=>⟨fun _=>el_,fun _=>⟨fun _=>el_,fun _=>hk⟩⟩⟩
theorem jF_ {p:aa_} (h:bE_ 6 p≤400):Ans (fun n _=>aO_ n p) fun x=>ex_ x.1:=by
 have hs:=lo_ (fh_ h eP_)
 have hv:=fh_ h f1_
 have hw:=FWr_ok (eZ_ p eP_).1.s
 have hL:=fun k=>lM_ (k:=k) hs hw hv
 refine c7_ ?_
 simp only [aO_,bh_,bj_ (e1_ h),bj_ kX_]
 obtain ⟨v,h1,h2⟩:=tail_any h (t:=(FWr (eZ_ p eP_).1.s).2) (b1:=0) (b2:=0) (b3:=0) (b4:=[]) (hL (FK (eZ_ p p2_).1.kind (eZ_ p p2_).1.s 4 1 0))
 refine ⟨v,?_,h2⟩
 refine c5_ (jS_ (K:=fun n=>fun xy4 xy5 xy6 xy7 xy8 xy9 xy10 xy11 xy12 xy13 xy14 xy15 xy16 xy17 xy18 xy19 xy20 xy21=>((aT_ n xy19).bind fun xr22=>((cP_ n (aa_.mk xy4 xy5 xy6 xy7 xy8) [118,97,108,117,101]).bind fun xr23=>(aO_.tail15 n xr22.2 xy4 xy5 xy6 xy7 xy8 xy9 xy10 xy11 xy12 xy13 xr22.1 xr23.1.kind xr23.1.n_ xr23.1.s xr23.1.list xr23.1.names)))) 4 1 0 rfl ?_)
 simp only [dj_,ae_ (gy_ (s:=(eZ_ p eP_).1.s) (by omega)),ae_ (e1_ h)]
 exact h1
theorem pv_ {o:TOp} (h:OpIs o):FK 3 (eX_ o.kind) 4 1 0=o.kind:=by
 rcases h.kind with e|e|e|e<;>rw [e]<;>decide
theorem oE_ {o:TOp} (h:OpIn o):ex_ o:=by
 have hi:=pl_ h.ok
 exact ⟨⟨by have:=hi.way;simp only [cY_];omega,fun y hy=>by have:=hi.text y hy;simp only [cY_];omega⟩,cI_ 6 _ hi.val⟩
theorem jE_ {o:TOp} (h:OpIn o):Ev (fun n _=>aO_ n (dO_ o)) (o,true):=by
 have hi:=pl_ h.ok
 have hL:=oE_ h
 have hop:=oT_ (o:=o)
 have hpa:=iK_ (o:=o)
 have hva:=j7_ h.ok
 have hs:=nk_ h
 have hW:=pv_ hi
 have hw:Ev (fun n _=>aT_ n (FWay o.way)) (o.way,true):=by rw [←FWr_enc hi.way];exact gy_ (by omega)
 have hS:=gl_ (a:=dO_ o) (b:=dO_ o) (cI_ 6 _ h.size) (cI_ 6 _ h.size)
 rw [mu_ h.size] at hS
 have hJ:=eK_ hL
 rw [h.val] at hJ
 have hk0:(o.kind == 0)=false:=beq_eq_false_iff_ne.2 (by rcases hi.kind with e|e|e|e<;>omega)
 unfold p2_ at hop
 unfold eP_ at hpa
 refine aI_ ?_
 simp only [aO_,bh_,ae_ (e1_ h.size),ae_ kX_,hop,hpa,pa_]
 refine c5_ (jS_ (K:=fun n=>fun xy4 xy5 xy6 xy7 xy8 xy9 xy10 xy11 xy12 xy13 xy14 xy15 xy16 xy17 xy18 xy19 xy20 xy21=>((aT_ n xy19).bind fun xr22=>((cP_ n (aa_.mk xy4 xy5 xy6 xy7 xy8) [118,97,108,117,101]).bind fun xr23=>(aO_.tail15 n xr22.2 xy4 xy5 xy6 xy7 xy8 xy9 xy10 xy11 xy12 xy13 xr22.1 xr23.1.kind xr23.1.n_ xr23.1.s xr23.1.list xr23.1.names)))) 4 1 0 rfl ?_)
 simp only [dj_,hW,ae_ hw,ae_ (e1_ h.size),hva,aO_.tail15,bh_,Bool.not_true,hk0,cond_false,ek_,ae_ hJ,ae_ hS,ai_]
end Go.Pi
end
section
namespace Go.Pi
theorem fF_ {x:Int} (h0 : -9223372036854775808≤x) (h1:x≤9223372036854775807):Ev (fun n _=>cL_ n x) (Lib.itoa x):=by
 refine aI_ ?_
 have:=l9_ h0 h1
 simp only [cL_,ae_ this,ai_]
end Go.Pi
end
section
namespace Go.Pi
def kF_ (v:Int):Bs:=([105,100,58,32]++Lib.itoa v)++[10]
def eu_ (v:Int) (d:Bs):Bs:=((([101,118,101,110,116,58,32,115,110,97,112,10]++kF_ v)++[100,97,116,97,58,32])++d)++[10,10]
def d8_ (v b:Int) (d:Bs):Bs:=((((([101,118,101,110,116,58,32,112,97,116,99,104,10]++kF_ v)++[98,97,115,101,58,32])++Lib.itoa b)++[10,100,97,116,97,58,32])++d)++[10,10]
def db_ (e:aM_):Bs:=cond (cX_ e) (cond (e.kind == 1) (eu_ e.version (bQ_ e.doc)) (d8_ e.version e.base (bQ_ (dK_ e.ops)))) []
theorem eI_ (j:aa_):(bQ_ j).length≤6000:=by
 unfold bQ_
 cases co_ j with
 |false=>exact Nat.zero_le _
 |true=>
  simp only [cond_true]
  cases h:decide (((FEnc 6 j).length:Int) > 6000) with
  |true=>exact Nat.zero_le _
  |false=>have:=of_decide_eq_false h;simp only [cond_false];omega
structure EvIs (e:aM_):Prop where
 ver:0≤e.version∧e.version≤100000
 base:(e.kind == 1)=false→0≤e.base∧e.base≤100000
 ops:(e.kind == 1)=false→decide (eS_ e.ops<e.ops.length)=false
theorem ev_is {e:aM_} (h:cX_ e=true):EvIs e:=by
 unfold cX_ at h
 rw [Bool.and_eq_true] at h
 have hv:=g6_ h.1
 refine ⟨by omega,fun hk => ?_,fun hk => ?_⟩
 all_goals (
  have h2:=h.2
  rw [hk,cond_false] at h2
  cases hk2:(e.kind == 2) with
  |false=>rw [hk2] at h2;cases h2
  |true=>
   rw [hk2,cond_true,Bool.and_eq_true,Bool.and_eq_true] at h2
   have hb:=g6_ h2.2.1
   rw [W_id (by omega) (by omega)] at hb
   unfold nh_ at h2
   rw [Bool.and_eq_true] at h2
   first|(have:=h2.1.1;simpa using this)|omega)
theorem fI_ {e:aM_} (h:kx_ e):Ev (fun n _=>b1_ n e) (db_ e):=by
 refine aI_ ?_
 simp only [b1_,bh_,hr_,ae_ (gz_ h),aE_,ai_,db_]
 cases ho:cX_ e with
 |false=>exact ⟨fun _=>rfl,fun h=>(by cases h)⟩
 |true=>
  refine ⟨fun h=>(by cases h),fun _ => ?_⟩
  have hi:=ev_is ho
  have hd:=hi.ver
  have hdl:=Lib.itoa_length_le e.version (by omega) (by omega)
  cases hk:(e.kind == 1) with
  |true=>
   have hE:=dP_ h.1
   have hEl:=eI_ e.doc
   simp only [ae_ (dv_ (x:=e.version) (by omega) (by omega)),cond_true,aE_,dl_,ae_ hE,ai_,eu_,kF_]
   generalize Lib.itoa e.version=a at hdl ⊢
   generalize bQ_ e.doc=b at hEl ⊢
   repeat' (first|apply And.intro|intro _)
   all_goals (first|trivial|rfl|(rename_i hc;have hc:=of_decide_eq_false hc;simp only [List.length_append,List.length_cons,List.length_nil] at hc;omega))
  |false=>
   have hb:=hi.base hk
   have hbl:=Lib.itoa_length_le e.base (by omega) (by omega)
   have hO:=hm_ h.2
   rw [hi.ops hk,cond_false] at hO
   have hE:=dP_ (jr_ h.2)
   have hEl:=eI_ (dK_ e.ops)
   simp only [ae_ (dv_ (x:=e.version) (by omega) (by omega)),ae_ (dv_ (x:=e.base) (by omega) (by omega)),ae_ hO,cond_true,cond_false,aE_,dl_,ae_ hE,ai_,d8_,kF_]
   generalize Lib.itoa e.version=a at hdl ⊢
   generalize Lib.itoa e.base=c at hbl ⊢
   generalize bQ_ (dK_ e.ops)=b at hEl ⊢
   repeat' (first|apply And.intro|intro _)
   all_goals (first|trivial|rfl|(rename_i hc;have hc:=of_decide_eq_false hc;simp only [List.length_append,List.length_cons,List.length_nil] at hc;omega))
theorem fN_ {e:aM_} (h:kx_ e):Ev (fun n _=>b3_ n e) (db_ e):=by
 refine aI_ ?_
 simp only [b3_,bh_,hr_,ae_ (gO_ h),aE_,ai_,db_]
 cases ho:cX_ e with
 |false=>exact ⟨fun _=>rfl,fun h=>(by cases h)⟩
 |true=>
  refine ⟨fun h=>(by cases h),fun _ => ?_⟩
  have hi:=ev_is ho
  have hd:=hi.ver
  have hdl:=Lib.itoa_length_le e.version (by omega) (by omega)
  cases hk:(e.kind == 1) with
  |true=>
   have hE:=dF_ h.1
   have hEl:=eI_ e.doc
   simp only [ae_ (fF_ (x:=e.version) (by omega) (by omega)),cond_true,aE_,dl_,ae_ hE,ai_,eu_,kF_]
   generalize Lib.itoa e.version=a at hdl ⊢
   generalize bQ_ e.doc=b at hEl ⊢
   repeat' (first|apply And.intro|intro _)
   all_goals (first|trivial|rfl|(rename_i hc;have hc:=of_decide_eq_false hc;simp only [List.length_append,List.length_cons,List.length_nil] at hc;omega))
  |false=>
   have hb:=hi.base hk
   have hbl:=Lib.itoa_length_le e.base (by omega) (by omega)
   have hO:=gK_ h.2
   rw [hi.ops hk,cond_false] at hO
   have hE:=dF_ (jr_ h.2)
   have hEl:=eI_ (dK_ e.ops)
   simp only [ae_ (fF_ (x:=e.version) (by omega) (by omega)),ae_ (fF_ (x:=e.base) (by omega) (by omega)),ae_ hO,cond_true,cond_false,aE_,dl_,ae_ hE,ai_,d8_,kF_]
   generalize Lib.itoa e.version=a at hdl ⊢
   generalize Lib.itoa e.base=c at hbl ⊢
   generalize bQ_ (dK_ e.ops)=b at hEl ⊢
   repeat' (first|apply And.intro|intro _)
   all_goals (first|trivial|rfl|(rename_i hc;have hc:=of_decide_eq_false hc;simp only [List.length_append,List.length_cons,List.length_nil] at hc;omega))
end Go.Pi
end
section
namespace Go.Pi
theorem ou_ {l:List TOp} {o:TOp} (h:∀ x ∈ l,ex_ x) (ho:ex_ o):∀ x ∈ l++[o],ex_ x:=by
 intro x hx
 rcases List.mem_append.1 hx with hx|hx
 · exact h x hx
 · obtain rfl:=List.mem_singleton.1 hx;exact ho
theorem kA_ {j:aa_} (h:bE_ 6 j≤400):Ans (fun n _=>bo_ n j) fun x=>iX_ x.1:=by
 have hll:=d6_ h
 refine c7_ ?_
 simp only [bo_]
 refine fx_ (σ:=Nat × List TOp) (fun n N st=>bo_.loop4 n (fun xy2 xy3 xy4 xy5 xy6 xy7=>(some (xy7,(xy2 == 4)))) N j.list (j.list.length:Int) (st.1:Int) j.kind j.n_ j.s j.list j.names st.2) (fun st=>j.list.length - st.1) (fun st=>st.1≤j.list.length∧st.2.length≤st.1∧∀ o ∈ st.2,ex_ o) _ (fun st hI ih => ?_) (0,[]) ⟨Nat.zero_le _,Nat.zero_le _,fun y h=>(by cases h)⟩
 obtain ⟨i,ops⟩:=st
 simp only at hI ih ⊢
 obtain ⟨h1,h2,h3⟩:=hI
 simp only [bo_.turn4,bo_.step4,bh_,Int.toNat_natCast]
 by_cases hi:i<j.list.length
 · have hx:bE_ 6 (j.list.getD i aa_.dflt)≤400:=by
    have:=ej_ h (cO_ aa_.dflt hi)
    rw [jw_ 5 _ this];exact this
   simp only [dm_ hi,cond_true,dM_,da_ hi,true_and,W_up hi (show j.list.length≤cY_ by simp only [cY_];omega)]
   refine c6_ (j4_ hx) fun v hv => ?_
   simp only [cc_,br_,es_]
   exact ⟨fun _=>⟨Nat.zero_le _,fun y h=>(by cases h)⟩,fun _=>⟨by simp;omega,ih (i+1,_) ⟨hi,by simp;omega,ou_ h3 hv⟩ (by simp only;omega)⟩⟩
 · have e:i=j.list.length:=by omega
   subst e
   simp only [dh_,cond_false,br_]
   exact ⟨by show ops.length≤4000000;omega,h3⟩
theorem ops_right {l:List TOp} (h:bE_ 6 (dK_ l)≤400):l.length≤400:=by
 have:=d6_ h
 simpa [dK_] using this
theorem kz_ {l:List TOp} (h:∀ o ∈ l,OpIn o) (hl:l.length≤400):Ev (fun n _=>bo_ n (dK_ l)) (l,true):=by
 refine aI_ ?_
 simp only [bo_,dK_]
 have:=eY_ (fun i=>l.take i) l.length (fun n N i (o:List TOp)=>bo_.loop4 n (fun xy2 xy3 xy4 xy5 xy6 xy7=>(some (xy7,(xy2 == 4)))) N (l.map c9_) ((l.map c9_).length:Int) (i:Int) 4 0 [] (l.map c9_) [] o) (l,true) (fun i hi F hF => ?_) ?_
 · exact this
 · have ho:=h _ (cO_ TOp.dflt hi)
   have hi2:i<(l.map c9_).length:=by simpa using hi
   have e:(l.map c9_).getD i aa_.dflt=dO_ (l.getD i TOp.dflt):=by
    rw [←ho.val,List.getD_eq_getElem?_getD,List.getElem?_map,List.getD_eq_getElem?_getD,List.getElem?_eq_getElem hi];rfl
   rw [dg_ TOp.dflt hi] at hF
   simp only [bo_.turn4,bo_.step4,bh_,Int.toNat_natCast,dm_ hi2,cond_true,b7_,da_ hi2,true_and,e,ae_ (j3_ ho),Bool.not_true,cond_false,cu_,W_up hi (show l.length≤cY_ by simp only [cY_];omega)]
   exact ⟨by simp;omega,hF⟩
 · have e:decide ((l.length:Int)<((l.map c9_).length:Int))=false:=by simp
   simp only [List.take_length,bo_.turn4,bo_.step4,e,cond_false,ai_]
   rfl
def FCut (s:Bs):Bs × Bs:=if Lib.indexByte s 10<0 then (s,[]) else (s.take (Lib.indexByte s 10).toNat,s.drop ((Lib.indexByte s 10).toNat+1))
theorem idx_le:∀ (s:Bs),Lib.indexByte s 10<(s.length:Int)∨s=[]
 |[]=>.inr rfl
 |b::l=>by
  left
  unfold Lib.indexByte
  split
  · simp only [List.length_cons];omega
  · split
    · simp only [List.length_cons];omega
    · rcases idx_le l with h|h
      · simp only [List.length_cons];omega
      · subst h;rename_i h1 h2;exact absurd (by rfl) h2
theorem Cut_ev {s:Bs} (hs:s.length≤4194304):Ev (fun n _=>(cR_ n s [10])) ((FCut s).1,(FCut s).2,decide (0≤Lib.indexByte s 10)):=by
 have hge:=Lib.indexByte_ge s 10
 have hX:Ev (fun n _=>bb_ n s [10]) (Lib.indexByte s 10):=aI_ (by simp only [bb_,ow_,ai_])
 have hC:Ev (fun n _=>a3_ n s [10]) ((FCut s).1,(FCut s).2,decide (0≤Lib.indexByte s 10)):=by
  refine aI_ ?_
  simp only [a3_,ae_ hX,aE_,d4_,ai_]
  unfold FCut
  refine ⟨fun h => ?_,fun h => ?_⟩
  · have h:=of_decide_eq_true h
    have hlt:Lib.indexByte s 10<(s.length:Int):=by
     rcases idx_le s with h|h
     · exact h
     · subst h;rename_i h0;exact absurd h0 (by decide)
    have hW:W (Lib.indexByte s 10+(([10]:Bs).length:Int))=Lib.indexByte s 10+1:=W_id (by show _≤Lib.indexByte s 10+1;omega) (by show Lib.indexByte s 10+1<_;omega)
    rw [hW,if_neg (by omega),decide_eq_true (show 0≤Lib.indexByte s 10 by omega)]
    have e1:(Lib.indexByte s 10+1).toNat=(Lib.indexByte s 10).toNat+1:=by omega
    rw [e1]
    simp only [Int.toNat_natCast,List.take_length,List.drop_zero]
    exact ⟨by omega,by omega,trivial⟩
  · have h:=of_decide_eq_false h
    rw [if_pos (by omega),decide_eq_false (show ¬ 0≤Lib.indexByte s 10 by omega)]
 exact aI_ (by simp only [cR_,ae_ hC,ai_])
theorem o0_ (s:Bs):(FCut s).1.length≤s.length∧(FCut s).2.length≤s.length:=by
 unfold FCut
 split
 · exact ⟨Nat.le_refl _,Nat.zero_le _⟩
 · simp;omega
theorem idx_app:∀ {a:Bs} (b:Bs),(∀ c ∈ a,c≠10)→Lib.indexByte (a++10::b) 10=(a.length:Int)
 |[],b,_=>rfl
 |c::a,b,h=>by
  have hc:=h c (List.mem_cons_self ..)
  have ih:=idx_app b fun x hx=>h x (List.mem_cons_of_mem _ hx)
  have e:(c == 10)=false:=beq_eq_false_iff_ne.2 hc
  rw [List.cons_append,Lib.indexByte,e,ih,if_neg (by simp),if_neg (by simp<;>omega),List.length_cons];omega
theorem cut_app {a:Bs} (b:Bs) (h:∀ c ∈ a,c≠10):FCut (a++10::b)=(a,b):=by
 unfold FCut
 rw [idx_app b h,if_neg (by omega),Int.toNat_natCast,List.take_left]
 have:(a++10::b).drop (a.length+1)=b:=by rw [←List.drop_drop,List.drop_left];rfl
 rw [this]
def im_ (p s:Bs):Bs:=cond (pfx p s) (s.drop p.length) s
theorem trim_le (p s:Bs):(im_ p s).length≤s.length:=by
 unfold im_;cases pfx p s<;>simp
theorem oa_ (p s:Bs):im_ p (p++s)=s:=by unfold im_;rw [hC_,List.drop_left];rfl
theorem ha_ {s p:Bs} (hs:s.length≤4194304):Ev (fun n _=>cB_ n s p) (im_ p (FCut s).1,(FCut s).2):=by
 refine aI_ ?_
 simp only [cB_,ae_ (Cut_ev hs),ae_ ge_,ai_,im_]
theorem gU_ {p a b:Bs} (hp:∀ c ∈ p,c≠10) (ha:∀ c ∈ a,c≠10) (hs:(p++(a++10::b)).length≤4194304):Ev (fun n _=>cB_ n (p++(a++10::b)) p) (a,b):=by
 have e:p++(a++10::b)=(p++a)++10::b:=by simp
 have h:=ha_ (p:=p) hs
 rw [e] at h ⊢
 rw [cut_app b (fun c hc=>by rcases List.mem_append.1 hc with h|h;exact hp c h;exact ha c h),oa_] at h
 exact h
abbrev tSnap:Bs:=[101,118,101,110,116,58,32,115,110,97,112,10]
abbrev hR_:Bs:=[101,118,101,110,116,58,32,112,97,116,99,104,10]
abbrev tId:Bs:=[105,100,58,32]
abbrev ja_:Bs:=[98,97,115,101,58,32]
abbrev eB_:Bs:=[100,97,116,97,58,32]
theorem jH_ (v:Int) (d:Bs):eu_ v d=tSnap++(tId++(Lib.itoa v++10::(eB_++(d++10::[10])))):=by
 simp [eu_,kF_]
theorem iz_ (v b:Int) (d:Bs):d8_ v b d=hR_++(tId++(Lib.itoa v++10::(ja_++(Lib.itoa b++10::(eB_++(d++10::[10])))))):=by
 simp [d8_,kF_]
theorem jg_ {s:Bs} (hs:s.length≤4194304):Ans (fun n _=>cg_ n s) fun e=>kx_ e:=by
 have hA:∀ {t:Bs},t.length≤4194304→Ev (fun n _=>b4_ n t) (pL_ t (Lib.atoiAll t)):=fun h=>iP_ (by omega)
 have fl:∀ (p t:Bs),(im_ p (FCut t).1).length≤t.length:=fun p t=>Nat.le_trans (trim_le _ _) (o0_ t).1
 refine c7_ ?_
 simp only [cg_,bh_,bj_ fz_]
 cases hp:pfx [101,118,101,110,116,58,32,115,110,97,112,10] s with
 |true=>
  simp only [cond_true]
  have h1:(s.drop tSnap.length).length≤s.length:=by simp
  generalize s.drop tSnap.length=t at h1 ⊢
  have h2:=(o0_ t).2
  have h3:=fl [100,97,116,97,58,32] (FCut t).2
  have h4:=fl [105,100,58,32] t
  simp only [bj_ (ha_ (s:=t) (p:=[105,100,58,32]) (by omega)),bj_ (ha_ (s:=(FCut t).2) (p:=[100,97,116,97,58,32]) (by omega)),bj_ (hA (t:=im_ [105,100,58,32] (FCut t).1) (by omega))]
  refine c6_ (gQ_ (s:=im_ [100,97,116,97,58,32] (FCut (FCut t).2).1) (by omega)) fun v hv => ?_
  simp only [br_]
  exact ⟨cI_ 6 _ hv,Nat.zero_le _,fun o h=>(by cases h)⟩
 |false=>
  simp only [cond_false,bj_ ge_]
  have h1:=trim_le hR_ s
  show Ans (fun n N=>(cB_ n (im_ hR_ s) [105,100,58,32]).bind _) _
  generalize im_ hR_ s=t at h1 ⊢
  have h2:=(o0_ t).2
  have h3:=(o0_ (FCut t).2).2
  have h4:=fl [105,100,58,32] t
  have h5:=fl [98,97,115,101,58,32] (FCut t).2
  have h6:=fl [100,97,116,97,58,32] (FCut (FCut t).2).2
  simp only [bj_ (ha_ (s:=t) (p:=[105,100,58,32]) (by omega)),bj_ (ha_ (s:=(FCut t).2) (p:=[98,97,115,101,58,32]) (by omega)),bj_ (ha_ (s:=(FCut (FCut t).2).2) (p:=[100,97,116,97,58,32]) (by omega)),bj_ (hA (t:=im_ [105,100,58,32] (FCut t).1) (by omega)),bj_ (hA (t:=im_ [98,97,115,101,58,32] (FCut (FCut t).2).1) (by omega))]
  refine c6_ (gQ_ (s:=im_ [100,97,116,97,58,32] (FCut (FCut (FCut t).2).2).1) (by omega)) fun v hv => ?_
  refine c6_ (kA_ hv) fun w hw => ?_
  simp only [br_]
  exact ⟨ff_ 6,hw⟩
structure SnapIs (e:aM_):Prop where
 ver:0≤e.version∧e.version≤100000
 base:e.base=0
 ops:e.ops=[]
 doc:bQ_ e.doc≠[]
structure PatchIs (e:aM_):Prop where
 ver:0≤e.version∧e.version≤100000
 base:0≤e.base∧e.base≤100000
 doc:e.doc=e6_
 ops:∀ o ∈ e.ops,OpIn o
 enc:bQ_ (dK_ e.ops)≠[]
 len:e.ops.length≤400
theorem f6_ {e:aM_} (h:cX_ e=true):(e.kind=1∧SnapIs e)∨(e.kind=2∧PatchIs e):=by
 have hi:=ev_is h
 unfold cX_ at h
 rw [Bool.and_eq_true] at h
 have h2:=h.2
 cases hk:(e.kind == 1) with
 |true=>
  rw [hk,cond_true] at h2
  simp only [Bool.and_eq_true,Bool.not_eq_true',beq_iff_eq,decide_eq_true_eq,beq_eq_false_iff_ne] at h2
  exact .inl ⟨by simpa using hk,hi.ver,h2.1,List.eq_nil_of_length_eq_zero h2.2.1,h2.2.2⟩
 |false=>
  rw [hk,cond_false] at h2
  cases hk2:(e.kind == 2) with
  |false=>rw [hk2] at h2;cases h2
  |true=>
   rw [hk2,cond_true] at h2
   unfold nh_ at h2
   simp only [Bool.and_eq_true,Bool.not_eq_true',decide_eq_true_eq,decide_eq_false_iff_not,beq_eq_false_iff_ne] at h2
   obtain ⟨⟨b1,b2,b3⟩,b4,b5⟩:=h2
   have henc:=ht_ b3
   refine .inr ⟨by simpa using hk2,hi.ver,hi.base hk,me_ b5,fun o ho=>op_in ?_,b3,ops_right henc.1⟩
   intro hz
   have:e.ops.findIdx (fun o=>(c9_ o).kind == 0)<e.ops.length:=List.findIdx_lt_length_of_exists ⟨o,ho,by rw [hz];rfl⟩
   exact b1 this
theorem f7_ {e:aM_} (h:cX_ e=true) (hk:e.kind=1):db_ e=eu_ e.version (bQ_ e.doc):=by
 unfold db_;rw [h,hk];rfl
theorem fv_ {e:aM_} (h:cX_ e=true) (hk:e.kind=2):db_ e=d8_ e.version e.base (bQ_ (dK_ e.ops)):=by
 unfold db_;rw [h,hk];rfl
theorem l0_ {j:aa_} (h:bQ_ j≠[]):∀ c ∈ bQ_ j,c≠10:=by
 obtain ⟨h1,h2,_⟩:=ht_ h
 rw [h2];exact enc_nl 6 j h1
theorem la_ {e:aM_} (h:cX_ e=true):(db_ e).length≤10000:=by
 rcases f6_ h with ⟨hk,hs⟩|⟨hk,hs⟩
 · rw [f7_ h hk,jH_]
   have:=eI_ e.doc
   have:=Lib.itoa_length_le e.version (by have:=hs.ver;omega) (by have:=hs.ver;omega)
   simp only [List.length_append,List.length_cons,List.length_nil];omega
 · rw [fv_ h hk,iz_]
   have:=eI_ (dK_ e.ops)
   have:=Lib.itoa_length_le e.version (by have:=hs.ver;omega) (by have:=hs.ver;omega)
   have:=Lib.itoa_length_le e.base (by have:=hs.base;omega) (by have:=hs.base;omega)
   simp only [List.length_append,List.length_cons,List.length_nil];omega
theorem m3_ {e:aM_} (h:cX_ e=true):db_ e≠[]:=by
 rcases f6_ h with ⟨hk,hs⟩|⟨hk,hs⟩
 · rw [f7_ h hk,jH_];intro e;cases e
 · rw [fv_ h hk,iz_];intro e;cases e
theorem l6_ {n:Int} (h0:0≤n) (h1:n≤100000):Ev (fun m _=>b4_ m (Lib.itoa n)) (n,true):=by
 have hl:=Lib.itoa_length_le n (by omega) (by omega)
 have:=iP_ (s:=Lib.itoa n) (by omega)
 rw [gX_ (by omega) (by omega)] at this
 exact this
theorem jf_ {e:aM_} (h:cX_ e=true):Ev (fun n _=>cg_ n (db_ e)) e:=by
 have hlen:=la_ h
 refine aI_ ?_
 rcases f6_ h with ⟨hk,hs⟩|⟨hk,hs⟩
 · rw [f7_ h hk,jH_] at hlen ⊢
   simp only [List.length_append] at hlen
   have hv:=hs.ver
   have f1:=gU_ (p:=tId) (a:=Lib.itoa e.version) (b:=eB_++(bQ_ e.doc++10::[10])) (by decide) (hG_ _) (by simp only [List.length_append];omega)
   have f2:=gU_ (p:=eB_) (a:=bQ_ e.doc) (b:=[10]) (by decide) (l0_ hs.doc) (by simp only [List.length_append,List.length_cons] at hlen ⊢;omega)
   simp only [cg_,bh_,ae_ fz_,hC_,cond_true,List.drop_left,ae_ f1,ae_ f2,ae_ (l6_ hv.1 hv.2),ae_ (gP_ hs.doc),ai_]
   obtain ⟨k,v,b,d,o⟩:=e
   have e1:=hs.base
   have e2:=hs.ops
   simp only at e1 e2 hk
   rw [e1,e2,hk]
 · rw [fv_ h hk,iz_] at hlen ⊢
   simp only [List.length_append] at hlen
   have hv:=hs.ver
   have hb:=hs.base
   have f1:=gU_ (p:=tId) (a:=Lib.itoa e.version) (b:=ja_++(Lib.itoa e.base++10::(eB_++(bQ_ (dK_ e.ops)++10::[10])))) (by decide) (hG_ _) (by simp only [List.length_append];omega)
   have f2:=gU_ (p:=ja_) (a:=Lib.itoa e.base) (b:=eB_++(bQ_ (dK_ e.ops)++10::[10])) (by decide) (hG_ _) (by simp only [List.length_append,List.length_cons] at hlen ⊢;omega)
   have f3:=gU_ (p:=eB_) (a:=bQ_ (dK_ e.ops)) (b:=[10]) (by decide) (l0_ hs.enc) (by simp only [List.length_append,List.length_cons] at hlen ⊢;omega)
   have hp:∀ t,pfx [101,118,101,110,116,58,32,115,110,97,112,10] (hR_++t)=false:=fun t=>rfl
   have ht:∀ t,cond (pfx [101,118,101,110,116,58,32,112,97,116,99,104,10] (hR_++t)) ((hR_++t).drop ([101,118,101,110,116,58,32,112,97,116,99,104,10]:Bs).length) (hR_++t)=t:=fun t=>oa_ hR_ t
   simp only [cg_,bh_,ae_ fz_,hp,cond_false,ae_ ge_,ht,ae_ f1,ae_ f2,ae_ f3,ae_ (l6_ hv.1 hv.2),ae_ (l6_ hb.1 hb.2),ae_ (gP_ hs.enc),ae_ (kz_ hs.ops hs.len),ai_]
   obtain ⟨k,v,b,d,o⟩:=e
   have e1:=hs.doc
   simp only at e1 hk
   rw [e1,hk];rfl
abbrev zeroE:aM_:=aM_.mk 0 0 0 (aa_.mk 0 0 [] [] []) []
def ReadAs (s:Bs) (x:aM_ × Bool):Prop:=x=(zeroE,false)∨(x.2=true∧cX_ x.1=true∧db_ x.1=s)
theorem text_ok {e:aM_} (h:db_ e≠[]):cX_ e=true:=by
 unfold db_ at h
 cases ho:cX_ e with
 |true=>rfl
 |false=>rw [ho] at h;exact absurd rfl h
theorem ia_ {s:Bs} (hs:s.length≤4194304):Ans (fun n _=>bP_ n s) (ReadAs s):=by
 refine c7_ ?_
 simp only [bP_,bh_,hr_]
 refine c6_ (jg_ hs) fun e he => ?_
 simp only [bj_ (fN_ he),cc_,br_]
 refine ⟨fun _=>.inl rfl,fun h1=>⟨fun _=>.inl rfl,fun h2=>.inr ⟨rfl,text_ok ?_,by simpa using h2⟩⟩⟩
 exact fun e=>by rw [e] at h1;cases h1
theorem lO_ {e:aM_} (h:cX_ e=true):kx_ e:=by
 rcases f6_ h with ⟨hk,hs⟩|⟨hk,hs⟩
 · refine ⟨cI_ 6 _ (ht_ hs.doc).1,?_⟩
   rw [hs.ops];exact ⟨Nat.zero_le _,fun o h=>(by cases h)⟩
 · refine ⟨?_,by have:=hs.len;omega,fun o ho=>oE_ (hs.ops o ho)⟩
   rw [hs.doc];exact ff_ 6
theorem h9_ {e:aM_} (h:cX_ e=true):Ev (fun n _=>bP_ n (db_ e)) (e,true):=by
 have hne:(db_ e == [])=false:=beq_eq_false_iff_ne.2 (m3_ h)
 refine aI_ ?_
 simp only [bP_,bh_,hr_,ae_ (jf_ h),ae_ (fN_ (lO_ h)),hne,beq_self_eq_true,Bool.not_true,cond_false,ai_]
end Go.Pi
end
section
namespace Go.Pi
def je_:aL_:=aL_.mk e6_ 0 false false
def du_ (c:aL_) (l:List aM_):aL_:=l.foldl eh_ c
theorem gH_:co_ e6_=true:=by decide
theorem ir_ {c:aL_} {e:aM_} (hc:co_ c.doc=true):co_ (eh_ c e).doc=true:=by
 unfold eh_ badC
 cases c.bad
 · cases hev:cX_ e
   · exact hc
   · cases hk:(e.kind == 1)
     · cases h:(c.began&&(e.base == c.version)&&(dN_ c.doc e.ops).2)
       · exact hc
       · rw [Bool.and_eq_true] at h
         exact kw_ h.2
     · cases (c.began&&decide (e.version≤c.version))
       · rcases f6_ hev with ⟨_,hs⟩|⟨h2,_⟩
         · exact decide_eq_true (ht_ hs.doc).1
         · rw [h2] at hk;cases hk
       · exact hc
 · exact hc
theorem nc_:∀ {l:List aM_} {c:aL_},co_ c.doc=true→co_ (du_ c l).doc=true
 |[],_,h=>h
 |_::l,_,h=>nc_ (l:=l) (ir_ h)
section
variable {l:List aM_} (hn:l.length≤1000000000) (hl:∀ e ∈ l,aa_.size e.doc≤4000000000∧kx_ e)
include hn hl
theorem iw_:Ev (fun n _=>aP_ n l) (du_ je_ l):=by
 refine aI_ ?_
 simp only [aP_]
 have key:∀ (m i:Nat) (c:aL_),i+m=l.length→co_ c.doc=true →
   Ev (fun n N=>aP_.loop4 n (fun xy2 xy3 xy4 xy5 xy6 xy7 xy8 xy9 xy10 xy11 xy12 xy13 xy14 xy15=>(some (aL_.mk (aa_.mk xy8 xy9 xy10 xy15 xy11) xy12 xy13 xy14))) N l (i:Int) 0 0 [] 0 false false c.doc.kind c.doc.n_ c.doc.s c.doc.names c.version c.began c.bad c.doc.list) (du_ c (l.drop i)):=by
  intro m
  induction m with
  |zero=>
   intro i c hi hc
   have e:i=l.length:=by omega
   subst e
   refine bm_ ?_
   simp only [aP_.turn4,aP_.step4,dh_,cond_false,ai_,List.drop_length,du_,List.foldl_nil,dj_,d7_]
  |succ m ih=>
   intro i c hi hc
   have hlt:i<l.length:=by omega
   have hx:=hl _ (cO_ aM_.dflt hlt)
   have hT:=hW_ (c:=c) (e:=l.getD i aM_.dflt) (by have:=ix_ hc;omega) (lC_ hc) hx.1 hx.2
   have hW:=W_up hlt (show l.length≤cY_ by simp only [cY_];omega)
   have hI:=ih (i+1) _ (by omega) (ir_ (e:=l.getD i aM_.dflt) hc)
   rw [dB_ aM_.dflt hlt]
   refine bm_ ?_
   simp only [aP_.turn4,aP_.step4,bh_,dj_,d7_,hr_,dm_ hlt,cond_true,b7_,da_ hlt,true_and,Int.toNat_natCast,hW,ae_ hT]
   exact hI
 exact c5_ (key l.length 0 je_ (by omega) gH_)
theorem iI_:Ev (fun n _=>aR_ n l) (du_ je_ l):=by
 refine aI_ ?_
 simp only [aR_]
 have key:∀ (m i:Nat) (c:aL_),i+m=l.length→co_ c.doc=true →
   Ev (fun n N=>aR_.loop4 n (fun xy2 xy3 xy4 xy5 xy6 xy7 xy8 xy9 xy10 xy11 xy12 xy13 xy14 xy15=>(some (aL_.mk (aa_.mk xy8 xy9 xy10 xy14 xy15) xy11 xy12 xy13))) N l (l.length:Int) (i:Int) 0 0 [] 0 false false c.doc.kind c.doc.n_ c.doc.s c.version c.began c.bad c.doc.list c.doc.names) (du_ c (l.drop i)):=by
  intro m
  induction m with
  |zero=>
   intro i c hi hc
   have e:i=l.length:=by omega
   subst e
   refine bm_ ?_
   simp only [aR_.turn4,aR_.step4,dh_,cond_false,ai_,List.drop_length,du_,List.foldl_nil,dj_,d7_]
  |succ m ih=>
   intro i c hi hc
   have hlt:i<l.length:=by omega
   have hx:=hl _ (cO_ aM_.dflt hlt)
   have hT:=ib_ (c:=c) (e:=l.getD i aM_.dflt) (by have:=ix_ hc;omega) (lC_ hc) hx.1 hx.2
   have hW:=W_up hlt (show l.length≤cY_ by simp only [cY_];omega)
   have hI:=ih (i+1) _ (by omega) (ir_ (e:=l.getD i aM_.dflt) hc)
   rw [dB_ aM_.dflt hlt]
   refine bm_ ?_
   simp only [aR_.turn4,aR_.step4,bh_,dj_,d7_,hr_,dm_ hlt,cond_true,b7_,da_ hlt,true_and,Int.toNat_natCast,hW,ae_ hT]
   exact hI
 exact c5_ (key l.length 0 je_ (by omega) gH_)
end
end Go.Pi
end
section
namespace Go.Pi
def d9_ (cur:Bs):Bs→List Bs
 |[]=>[]
 |c::l=>if c=10 then cur::d9_ [] l else d9_ (cur++[c]) l
theorem eq_ (cur b:Bs):∀ (a:Bs),(∀ c ∈ a,c≠10)→d9_ cur (a++10::b)=(cur++a)::d9_ [] b:=by
 intro a
 induction a generalizing cur with
 |nil=>intro _;rw [List.nil_append,d9_,if_pos rfl,List.append_nil]
 |cons c a ih=>
  intro h
  rw [List.cons_append,d9_,if_neg (h c (List.mem_cons_self ..)),ih _ fun x hx=>h x (List.mem_cons_of_mem _ hx)]
  simp
theorem jV_:∀ (s cur:Bs) (B:Nat),cur.length+s.length≤B→(d9_ cur s).length≤s.length∧∀ y ∈ d9_ cur s,y.length≤B
 |[],_,_,_=>⟨Nat.le_refl _,fun y h=>(by cases h)⟩
 |c::l,cur,B,h=>by
  unfold d9_
  simp only [List.length_cons] at h
  split
  · obtain ⟨h1,h2⟩:=jV_ l [] B (by simp;omega)
    refine ⟨by simp;omega,fun y hy => ?_⟩
    rcases List.mem_cons.1 hy with rfl|hy
    · omega
    · exact h2 y hy
  · obtain ⟨h1,h2⟩:=jV_ l (cur++[c]) B (by simp;omega)
    exact ⟨by simp;omega,h2⟩
theorem gk_ {s:Bs} (hs:s.length≤4194304):Ev (fun n _=>aY_ n s) (d9_ [] s):=by
 refine aI_ ?_
 simp only [aY_]
 have key:∀ (m i f:Nat) (out:List Bs),i+m=s.length→f≤i→out.length≤i→Ev (fun n N=>aY_.loop5 n (fun xy1=>(some xy1)) N s (f:Int) (i:Int) out) (out++d9_ ((s.take i).drop f) (s.drop i)):=by
  intro m
  induction m with
  |zero=>
   intro i f out hi _ _
   have:i=s.length:=by omega
   subst this
   refine bm_ ?_
   simp only [aY_.turn5,aY_.step5,dh_,cond_false,List.drop_length,d9_,List.append_nil,ai_]
  |succ m ih=>
   intro i f out hi hf ho
   have hlt:i<s.length:=by omega
   have hW:=W_up hlt (show s.length≤cY_ by simp only [cY_];omega)
   have hd:=dB_ 0 hlt
   refine bm_ ?_
   simp only [aY_.turn5,aY_.step5,dm_ hlt,cond_true,b7_,da_ hlt,true_and,Int.toNat_natCast,hW,aE_,d4_,cu_]
   have e10:((s.getD i 0).toNat:Int)=10↔s.getD i 0=10:=by
    have:=i5_ (s.getD i 0) 10 10 rfl
    constructor
    · intro h;rw [show (((s.getD i 0).toNat:Nat):Int)=((10:Nat):Int) from h] at this;simpa using this
    · intro h;rw [h];rfl
   rw [hd]
   refine ⟨fun h => ?_,fun h => ?_⟩
   · have h:s.getD i 0=10:=e10.1 (by simpa using h)
     have hn:=ih (i+1) (i+1) (out++[(s.take i).drop f]) (by omega) (Nat.le_refl _) (by simp;omega)
     rw [oX_ (show (s.take (i+1)).length≤i+1 by simp;omega)] at hn
     rw [d9_,if_pos h]
     rw [List.append_assoc] at hn
     exact ⟨by omega,by simp;omega,hn⟩
   · have h:¬ s.getD i 0=10:=fun e=>by rw [e10.2 e] at h;cases h
     have hn:=ih (i+1) f out (by omega) (by omega) (by omega)
     rw [dg_ 0 hlt,List.drop_append_of_le_length (by simp;omega)] at hn
     rw [d9_,if_neg h]
     exact hn
 have:=key s.length 0 0 [] (by omega) (Nat.le_refl _) (Nat.le_refl _)
 rw [List.nil_append] at this
 exact c5_ (f:=fun n N=>aY_.loop5 n (fun xy1=>(some xy1)) N s 0 0 []) this
def dV_ (l h:Bs):Bs:=cond (pfx h l) (l.drop h.length) []
theorem fP_ {l h:Bs}:Ev (fun n _=>bJ_ n l h) (dV_ l h):=by
 refine aI_ ?_
 simp only [bJ_,aE_,d4_,ai_,Int.toNat_natCast,List.take_length,dV_,jp_]
 refine ⟨fun hc => ?_,fun hc => ?_⟩
 · have hc:=of_decide_eq_true hc
   cases e:((l.take h.length).drop 0 == h) with
   |false=>rfl
   |true=>rw [←jp_] at e;have:=hB_ e;omega
 · have hc:=of_decide_eq_false hc
   refine ⟨by omega,?_⟩
   cases ((l.take h.length).drop 0 == h) with
   |false=>exact ⟨fun _=>rfl,fun h=>(by cases h)⟩
   |true=>exact ⟨fun h=>(by cases h),fun _=>⟨by omega,rfl⟩⟩
theorem kf_ (l h:Bs):(dV_ l h).length≤l.length:=by
 unfold dV_;cases pfx h l<;>simp
theorem he_ (h l:Bs):dV_ (h++l) h=l:=by unfold dV_;rw [hC_,List.drop_left];rfl
theorem kZ_ {s:Bs} (hs:s.length≤4194304):Ans (fun n _=>cw_ n s) fun _=>True:=by
 refine c7_ ?_
 simp only [cw_]
 refine c6_ (i1_ (s:=s) (p:=0) (ok:=true) (left:=0) hs (Nat.zero_le _)) fun v hv => ?_
 obtain ⟨p',ok',e1,e2,e3,e4,e5⟩:=hv
 simp only [cc_,br_,bj_ (dv_ (x:=v.1) e4 e5),implies_true,and_self]
theorem kY_ {n:Int} (h0:0≤n) (h1:n≤100000):Ev (fun m _=>cw_ m (Lib.itoa n)) (n,true):=by
 have hl:=Lib.itoa_length_le n (by omega) (by omega)
 have hN:=i0_ (s:=Lib.itoa n) (p:=0) (left:=0) (r:=[]) (n:=n) (by simp only [ih_];omega) (by omega) (by omega) lq_ ⟨Nat.zero_le _,by simp⟩
 have hN:Ev (fun m _=>az_ m ⟨Lib.itoa n,0,true,0⟩) (n,⟨Lib.itoa n,((0+(Lib.itoa n).length:Nat):Int),true,0⟩):=hN
 refine aI_ ?_
 simp only [cw_,ae_ hN,cond_true,ae_ (dv_ (x:=n) (by omega) (by omega)),beq_self_eq_true,ai_]
end Go.Pi
end
section
namespace Go.Pi
section
variable {n6:Int}
theorem pr_ {j:aa_} (h:bE_ 6 j≤400) {i:Nat} (hi:i<j.list.length):bE_ 6 (j.list.getD i aa_.dflt)≤400:=by
 have:=ej_ h (cO_ aa_.dflt hi)
 rw [jw_ 5 _ this];exact this
theorem ops_uni {s:Bs} {t6 a b c d e:Int} {f:Bs} {t40 t41 t42 t43 t44:Int} {t45:Bs} {t5:List Bs} {t46:List aa_} {t47:List Bs} {j:aa_} (hj:bE_ 6 j≤400) :
  ∀ (m i:Nat) (o:List TOp),i+m=j.list.length→(∀ x ∈ o,ex_ x)→o.length≤4000+i→∃ M,
    (∀ n R,M≤n→M≤R→∀ k,ac_.loop20 n k R s t6 (i:Int) a b c d e f t40 t41 t42 t43 t44 t45 t5 j.kind j.n_ j.s t46 t47 o j.list j.names=some (zeroE,false)) ∨
    ∃ o',o'.length≤o.length+m∧(∀ x ∈ o',ex_ x)∧∀ n R,M≤n→M≤R→∀ k,ac_.loop20 n k R s t6 (i:Int) a b c d e f t40 t41 t42 t43 t44 t45 t5 j.kind j.n_ j.s t46 t47 o j.list j.names=k s t6 a b c d e f t40 t41 t42 t43 t44 t45 t5 t46 t47 o':=by
 have hll:=d6_ hj
 intro m
 induction m with
 |zero=>
  intro i o hi ho _
  have e:i=j.list.length:=by omega
  subst e
  refine ⟨1,.inr ⟨o,Nat.le_refl _,ho,fun n R _ hR k => ?_⟩⟩
  obtain ⟨R,rfl⟩:∃ m,R=m+1:=⟨R - 1,by omega⟩
  simp only [ac_.turn20,ac_.step20,dh_,cond_false]
 |succ m ih=>
  intro i o hi ho hol
  have hlt:i<j.list.length:=by omega
  obtain ⟨v,⟨M1,hM1⟩,hv⟩:=jF_ (pr_ hj hlt)
  have hW:=W_up hlt (show j.list.length≤cY_ by simp only [cY_];omega)
  have hr:(o.length+1)*112≤140737488355328:=by omega
  cases hq:v.2 with
  |false=>
   refine ⟨max M1 1,.inl fun n R hn hR k => ?_⟩
   obtain ⟨R,rfl⟩:∃ m,R=m+1:=⟨R - 1,by omega⟩
   simp only [ac_.turn20,ac_.step20,bh_,Int.toNat_natCast,dm_ hlt,cond_true,h7_ hlt,hM1 n n (by omega) (by omega),Option.bind_some,hq,Bool.not_false]
  |true=>
   obtain ⟨M2,h2⟩:=ih (i+1) (o++[v.1]) (by omega) (ou_ ho hv) (by simp;omega)
   refine ⟨max M1 (M2+1),?_⟩
   have step:∀ n R,max M1 (M2+1)≤n→max M1 (M2+1)≤R→∀ k,∃ R',M2≤R'∧ac_.loop20 n k R s t6 (i:Int) a b c d e f t40 t41 t42 t43 t44 t45 t5 j.kind j.n_ j.s t46 t47 o j.list j.names=ac_.loop20 n k R' s t6 ((i+1:Nat):Int) a b c d e f t40 t41 t42 t43 t44 t45 t5 j.kind j.n_ j.s t46 t47 (o++[v.1]) j.list j.names:=by
    intro n R hn hR k
    obtain ⟨R,rfl⟩:∃ m,R=m+1:=⟨R - 1,by omega⟩
    refine ⟨R,by omega,?_⟩
    have hr2:(o.length+[v.1].length)*112≤140737488355328:=hr
    simp only [ac_.turn20,ac_.step20,bh_,ek_,Int.toNat_natCast,dm_ hlt,cond_true,h7_ hlt,hM1 n n (by omega) (by omega),Option.bind_some,hq,Bool.not_true,cond_false,hY_ hr2,hW]
   rcases h2 with h2|⟨o',g1,g2,g3⟩
   · refine .inl fun n R hn hR k => ?_
     obtain ⟨R',h1,e⟩:=step n R hn hR k
     rw [e];exact h2 n R' (by omega) h1 k
   · refine .inr ⟨o',by simp at g1;omega,g2,fun n R hn hR k => ?_⟩
     obtain ⟨R',h1,e⟩:=step n R hn hR k
     rw [e];exact g3 n R' (by omega) h1 k
theorem ops_any {K:Nat→Nat→ac_.K20} {Q:aM_ × Bool→Prop} {s:Bs} {t6 a b c d e:Int} {f:Bs} {t40 t41 t42 t43 t44:Int} {t45:Bs} {t5:List Bs} {t46:List aa_} {t47:List Bs} {j:aa_} (hj:bE_ 6 j≤400) {o:List TOp} (ho:∀ x ∈ o,ex_ x) (hol:o.length≤4000)
  (hz:Q (zeroE,false)) (hK:∀ o',o'.length≤o.length+400→(∀ x ∈ o',ex_ x)→Ans (fun n N=>K n N s t6 a b c d e f t40 t41 t42 t43 t44 t45 t5 t46 t47 o') Q) :
  Ans (fun n N=>ac_.loop20 n (K n N) n s t6 0 a b c d e f t40 t41 t42 t43 t44 t45 t5 j.kind j.n_ j.s t46 t47 o j.list j.names) Q:=by
 have hll:=d6_ hj
 obtain ⟨M,h|⟨o',g1,g2,g3⟩⟩:=ops_uni (s:=s) (t6:=t6) (a:=a) (b:=b) (c:=c) (d:=d) (e:=e) (f:=f) (t40:=t40) (t41:=t41) (t42:=t42) (t43:=t43) (t44:=t44) (t45:=t45) (t5:=t5) (t46:=t46) (t47:=t47) hj j.list.length 0 o (by omega) ho (by omega)
 · exact ⟨_,⟨M,fun n N hn _=>h n n hn hn _⟩,hz⟩
 · obtain ⟨v,hv,hq⟩:=hK o' (by omega) g2
   exact ⟨v,lZ_ M (fun n N hn=>g3 n n hn hn _) hv,hq⟩
theorem ops_exact {s:Bs} {t6 a b c d e:Int} {f:Bs} {t40 t41 t42 t43 t44:Int} {t45:Bs} {t5:List Bs} {t46:List aa_} {t47:List Bs} {l:List TOp} (hl:l.length≤400) (h:∀ o ∈ l,OpIn o) :
  ∀ (m i:Nat),i+m=l.length→∃ M,∀ n R,M≤n→M≤R→∀ k,ac_.loop20 n k R s t6 (i:Int) a b c d e f t40 t41 t42 t43 t44 t45 t5 4 0 [] t46 t47 (l.take i) (l.map c9_) []=k s t6 a b c d e f t40 t41 t42 t43 t44 t45 t5 t46 t47 l:=by
 intro m
 induction m with
 |zero=>
  intro i hi
  have e:i=l.length:=by omega
  subst e
  have e:decide ((l.length:Int)<((l.map c9_).length:Int))=false:=by simp
  refine ⟨1,fun n R _ hR k => ?_⟩
  obtain ⟨R,rfl⟩:∃ m,R=m+1:=⟨R - 1,by omega⟩
  simp only [List.take_length,ac_.turn20,ac_.step20,e,cond_false]
 |succ m ih=>
  intro i hi
  have hlt:i<l.length:=by omega
  have ho:=h _ (cO_ TOp.dflt hlt)
  have hi2:i<(l.map c9_).length:=by simpa using hlt
  have e:(l.map c9_).getD i aa_.dflt=dO_ (l.getD i TOp.dflt):=by
   rw [←ho.val,List.getD_eq_getElem?_getD,List.getElem?_map,List.getD_eq_getElem?_getD,List.getElem?_eq_getElem hlt];rfl
  obtain ⟨M1,hM1⟩:=jE_ ho
  obtain ⟨M2,h2⟩:=ih (i+1) (by omega)
  have hW:=W_up hlt (show l.length≤cY_ by simp only [cY_];omega)
  refine ⟨max M1 (M2+1),fun n R hn hR k => ?_⟩
  obtain ⟨R,rfl⟩:∃ m,R=m+1:=⟨R - 1,by omega⟩
  have hr2:((l.take i).length+[l.getD i TOp.dflt].length)*112≤140737488355328:=by simp;omega
  rw [dg_ TOp.dflt hlt] at h2
  simp only [ac_.turn20,ac_.step20,bh_,ek_,Int.toNat_natCast,dm_ hi2,cond_true,h7_ hi2,e,hM1 n n (by omega) (by omega),Option.bind_some,Bool.not_true,cond_false,hY_ hr2,hW]
  exact h2 n R (by omega) (by omega) k
theorem ops_enc {K:Nat→Nat→ac_.K20} {F:aM_ × Bool} {s:Bs} {t6 a b c d e:Int} {f:Bs} {t40 t41 t42 t43 t44:Int} {t45:Bs} {t5:List Bs} {t46:List aa_} {t47:List Bs} {l:List TOp} (hl:l.length≤400) (h:∀ o ∈ l,OpIn o)
  (hK:Ev (fun n N=>K n N s t6 a b c d e f t40 t41 t42 t43 t44 t45 t5 t46 t47 l) F) :
  Ev (fun n N=>ac_.loop20 n (K n N) n s t6 0 a b c d e f t40 t41 t42 t43 t44 t45 t5 4 0 [] t46 t47 [] (l.map c9_) []) F:=by
 obtain ⟨M,hM⟩:=ops_exact (s:=s) (t6:=t6) (a:=a) (b:=b) (c:=c) (d:=d) (e:=e) (f:=f) (t40:=t40) (t41:=t41) (t42:=t42) (t43:=t43) (t44:=t44) (t45:=t45) (t5:=t5) (t46:=t46) (t47:=t47) hl h l.length 0 (by omega)
 exact lZ_ M (fun n N hn=>hM n n hn hn _) hK
end
section
variable {K:Nat→ac_.K5} {s:Bs} {a b c d e:Int} {f:Bs}
theorem lines_any {Q:aM_ × Bool→Prop} {L:List Bs} (hL:L.length≤4194304) (hLl:∀ y ∈ L,y.length≤4194304) (hz:Q (zeroE,false))
  (hK:∀ t40 t41 t42 (j:aa_) o,fg_ 6 j→o.length≤4000→(∀ x ∈ o,ex_ x)→Ans (fun n _=>K n s a b c d e f t40 t41 t42 j.kind j.n_ j.s j.list j.names o) Q) :
  Ans (fun n _=>ac_.loop5 n (K n) n s 0 a b c d e f 0 0 0 0 0 [] L [] [] []) Q:=by
 refine fx_ (σ:=Nat × Int × Int × Int × aa_ × List TOp) (fun n N st=>ac_.loop5 n (K n) N s (st.1:Int) a b c d e f st.2.1 st.2.2.1 st.2.2.2.1 st.2.2.2.2.1.kind st.2.2.2.2.1.n_ st.2.2.2.2.1.s L st.2.2.2.2.1.list st.2.2.2.2.1.names st.2.2.2.2.2) (fun st=>6 - st.1)
  (fun st=>st.1≤6∧fg_ 6 st.2.2.2.2.1∧st.2.2.2.2.2.length≤400*st.1∧∀ x ∈ st.2.2.2.2.2,ex_ x) _ (fun st hI ih => ?_) (0,0,0,0,e6_,[]) ⟨Nat.zero_le _,ff_ 6,Nat.zero_le _,fun y h=>(by cases h)⟩
 obtain ⟨i,t40,t41,t42,j,o⟩:=st
 simp only at hI ih ⊢
 obtain ⟨h1,h2,h3,h4⟩:=hI
 have hend:=hK t40 t41 t42 j o h2 (by omega) h4
 simp only [ac_.turn5,ac_.step5,bh_,Int.toNat_natCast,cc_]
 refine ⟨fun hlt=>⟨fun h6 => ?_,fun _=>hend⟩,fun _=>hend⟩
 have hlt:=of_decide_eq_true hlt
 have h6:=of_decide_eq_true h6
 have hi:i<L.length:=by omega
 have hW:W ((i:Int)+1)=((i+1:Nat):Int):=by rw [W_id (by omega) (by omega)];omega
 have hy:=hLl _ (cO_ [] hi)
 have b1:=kf_ (L.getD i []) [105,100,58,32]
 have b2:=kf_ (L.getD i []) [98,97,115,101,58,32]
 have b3:=kf_ (L.getD i []) [100,97,116,97,58,32]
 simp only [dM_,da_ hi,true_and,hW,cc_,bj_ fP_]
 have next:∀ t40 t41 t42 j o',fg_ 6 j→o'.length≤o.length+400→(∀ x ∈ o',ex_ x)→Ans (fun n N=>ac_.loop5 n (K n) N s ((i+1:Nat):Int) a b c d e f t40 t41 t42 j.kind j.n_ j.s L j.list j.names o') Q :=
  fun t40 t41 t42 j o' g1 g2 g3=>ih (i+1,t40,t41,t42,j,o') ⟨by simp only;omega,g1,by simp only;omega,g3⟩ (by simp only;omega)
 refine ⟨fun _=>next _ _ _ j o h2 (by omega) h4,fun _=>⟨fun _=>next _ _ _ j o h2 (by omega) h4,fun _=>⟨fun _ => ?_,fun _=>⟨fun _ => ?_,fun _=>⟨fun _ => ?_,fun _=>next _ _ _ j o h2 (by omega) h4⟩⟩⟩⟩⟩
 · exact c6_ (kZ_ (by omega)) fun v _=>next _ _ _ j o h2 (by omega) h4
 · exact c6_ (kZ_ (by omega)) fun v _=>next _ _ _ j o h2 (by omega) h4
 · refine c6_ (jG_ (by omega)) fun v hv => ?_
   simp only [cc_]
   refine ⟨fun _=>next _ _ _ v.1 o (cI_ 6 _ hv) (by omega) h4,fun _ => ?_⟩
   exact ops_any hv h4 (by omega) hz fun o' g1 g2=>by simp only [hW];exact next _ _ _ j o' h2 g1 g2
end
theorem hV_ {s:Bs} (hs:s.length≤4194304):Ans (fun n _=>ac_ n s) (ReadAs s):=by
 obtain ⟨l1,l2⟩:=jV_ s [] 4194304 (by simpa using hs)
 refine c7_ ?_
 simp only [ac_,bj_ (gk_ hs)]
 refine lines_any (by omega) l2 (.inl rfl) fun t40 t41 t42 j o g1 g2 g3 => ?_
 have he:kx_ (aM_.mk t40 t41 t42 j o):=⟨g1,by show o.length≤4000000;omega,g3⟩
 simp only [dj_,cc_,br_,bj_ (fI_ he)]
 refine ⟨fun _=>.inl rfl,fun h1=>⟨fun _=>.inl rfl,fun h2=>.inr ⟨rfl,text_ok ?_,by simpa using h2⟩⟩⟩
 have h2:db_ (aM_.mk t40 t41 t42 j o)=s:=by simpa using h2
 rw [h2]
 exact fun e=>by rw [e] at h1;cases h1
section
variable {K:Nat→ac_.K5} {s:Bs} {a b c d e:Int} {f:Bs} {F:aM_ × Bool} {t40 t41 t42 t43 t44:Int} {t45:Bs} {L:List Bs} {t46:List aa_} {t47:List Bs} {t48:List TOp} {i:Nat}
theorem h1_ {a c:UInt8} (h:c≠a) (p t:Bs):dV_ (c::t) (a::p)=[]:=by unfold dV_;rw [mB_ h];rfl
theorem line_snap (hi:i<L.length) (h6:i<6) (hl:L.getD i []=[101,118,101,110,116,58,32,115,110,97,112])
  (h:Ev (fun n N=>ac_.loop5 n (K n) N s ((i+1:Nat):Int) a b c d e f 1 t41 t42 t43 t44 t45 L t46 t47 t48) F) :
  Ev (fun n N=>ac_.loop5 n (K n) N s (i:Int) a b c d e f t40 t41 t42 t43 t44 t45 L t46 t47 t48) F:=by
 have hW:W ((i:Int)+1)=((i+1:Nat):Int):=by rw [W_id (by omega) (by omega)];omega
 have h6':decide ((i:Int)<6)=true:=decide_eq_true (by omega)
 refine bm_ ?_
 simp only [ac_.turn5,ac_.step5,Int.toNat_natCast,dm_ hi,h6',cond_true,b7_,da_ hi,true_and,hW,hl,beq_self_eq_true]
 exact h
theorem pt_ (hi:i<L.length) (h6:i<6) (hl:L.getD i []=[101,118,101,110,116,58,32,112,97,116,99,104])
  (h:Ev (fun n N=>ac_.loop5 n (K n) N s ((i+1:Nat):Int) a b c d e f 2 t41 t42 t43 t44 t45 L t46 t47 t48) F) :
  Ev (fun n N=>ac_.loop5 n (K n) N s (i:Int) a b c d e f t40 t41 t42 t43 t44 t45 L t46 t47 t48) F:=by
 have hW:W ((i:Int)+1)=((i+1:Nat):Int):=by rw [W_id (by omega) (by omega)];omega
 have h6':decide ((i:Int)<6)=true:=decide_eq_true (by omega)
 have c1:(([101,118,101,110,116,58,32,112,97,116,99,104]:Bs) == [101,118,101,110,116,58,32,115,110,97,112])=false:=rfl
 refine bm_ ?_
 simp only [ac_.turn5,ac_.step5,Int.toNat_natCast,dm_ hi,h6',cond_true,cond_false,b7_,da_ hi,true_and,hW,hl,c1,beq_self_eq_true]
 exact h
theorem lG_ {c a:UInt8} (h:c≠a) (p t:Bs):((c::t:Bs) == (a::p))=false:=beq_eq_false_iff_ne.2 fun e=>h (List.cons.inj e).1
theorem itoa_ne (n:Int):(Lib.itoa n == [])=false:=by
 obtain ⟨c,t,e,_⟩:=fM_ n
 rw [e];rfl
theorem line_id {v:Int} (hv0:0≤v) (hv1:v≤100000) (hi:i<L.length) (h6:i<6) (hl:L.getD i []=tId++Lib.itoa v)
  (h:Ev (fun n N=>ac_.loop5 n (K n) N s ((i+1:Nat):Int) a b c d e f t40 v t42 t43 t44 t45 L t46 t47 t48) F) :
  Ev (fun n N=>ac_.loop5 n (K n) N s (i:Int) a b c d e f t40 t41 t42 t43 t44 t45 L t46 t47 t48) F:=by
 have hW:W ((i:Int)+1)=((i+1:Nat):Int):=by rw [W_id (by omega) (by omega)];omega
 have h6':decide ((i:Int)<6)=true:=decide_eq_true (by omega)
 have c1:∀ p,(tId++Lib.itoa v == (101::p))=false:=fun p=>lG_ (by decide) p _
 have c3:dV_ (tId++Lib.itoa v) [105,100,58,32]=Lib.itoa v:=he_ tId _
 have c4:=itoa_ne v
 refine bm_ ?_
 simp only [ac_.turn5,ac_.step5,Int.toNat_natCast,dm_ hi,h6',cond_true,cond_false,b7_,da_ hi,true_and,hW,hl,c1,ae_ fP_,c3,c4,Bool.not_false,ae_ (kY_ hv0 hv1)]
 exact h
theorem line_base {v:Int} (hv0:0≤v) (hv1:v≤100000) (hi:i<L.length) (h6:i<6) (hl:L.getD i []=ja_++Lib.itoa v)
  (h:Ev (fun n N=>ac_.loop5 n (K n) N s ((i+1:Nat):Int) a b c d e f t40 t41 v t43 t44 t45 L t46 t47 t48) F) :
  Ev (fun n N=>ac_.loop5 n (K n) N s (i:Int) a b c d e f t40 t41 t42 t43 t44 t45 L t46 t47 t48) F:=by
 have hW:W ((i:Int)+1)=((i+1:Nat):Int):=by rw [W_id (by omega) (by omega)];omega
 have h6':decide ((i:Int)<6)=true:=decide_eq_true (by omega)
 have c1:∀ p,(ja_++Lib.itoa v == (101::p))=false:=fun p=>lG_ (by decide) p _
 have c2:dV_ (ja_++Lib.itoa v) [105,100,58,32]=[]:=h1_ (by decide) _ _
 have c3:dV_ (ja_++Lib.itoa v) [98,97,115,101,58,32]=Lib.itoa v:=he_ ja_ _
 have c4:=itoa_ne v
 have c5:(!(([]:Bs) == []))=false:=rfl
 refine bm_ ?_
 simp only [ac_.turn5,ac_.step5,Int.toNat_natCast,dm_ hi,h6',cond_true,cond_false,b7_,da_ hi,true_and,hW,hl,c1,ae_ fP_,c2,c3,c4,c5,Bool.not_false,ae_ (kY_ hv0 hv1)]
 exact h
theorem line_data {j:aa_} (hj:bQ_ j≠[]) (hi:i<L.length) (h6:i<6) (hl:L.getD i []=eB_++bQ_ j)
  (h:Ev (fun n N=>ac_.loop5 n (K n) N s ((i+1:Nat):Int) a b c d e f 1 t41 t42 j.kind j.n_ j.s L j.list j.names t48) F) :
  Ev (fun n N=>ac_.loop5 n (K n) N s (i:Int) a b c d e f 1 t41 t42 t43 t44 t45 L t46 t47 t48) F:=by
 have hW:W ((i:Int)+1)=((i+1:Nat):Int):=by rw [W_id (by omega) (by omega)];omega
 have h6':decide ((i:Int)<6)=true:=decide_eq_true (by omega)
 have c1:∀ p,(eB_++bQ_ j == (101::p))=false:=fun p=>lG_ (by decide) p _
 have c2:dV_ (eB_++bQ_ j) [105,100,58,32]=[]:=h1_ (by decide) _ _
 have c6:dV_ (eB_++bQ_ j) [98,97,115,101,58,32]=[]:=h1_ (by decide) _ _
 have c3:dV_ (eB_++bQ_ j) [100,97,116,97,58,32]=bQ_ j:=he_ eB_ _
 have c4:(bQ_ j == [])=false:=beq_eq_false_iff_ne.2 hj
 have c5:(!(([]:Bs) == []))=false:=rfl
 have c7:((1:Int) == 1)=true:=rfl
 refine bm_ ?_
 simp only [ac_.turn5,ac_.step5,Int.toNat_natCast,dm_ hi,h6',cond_true,cond_false,b7_,da_ hi,true_and,hW,hl,c1,ae_ fP_,c2,c3,c4,c5,c6,c7,Bool.not_false,ae_ (gA_ hj)]
 exact h
theorem line_ops {l:List TOp} (hj:bQ_ (dK_ l)≠[]) (hn:l.length≤400) (ho:∀ o ∈ l,OpIn o) (hi:i<L.length) (h6:i<6) (hl:L.getD i []=eB_++bQ_ (dK_ l))
  (h:Ev (fun n N=>ac_.loop5 n (K n) N s ((i+1:Nat):Int) a b c d e f 2 t41 t42 t43 t44 t45 L t46 t47 l) F) :
  Ev (fun n N=>ac_.loop5 n (K n) N s (i:Int) a b c d e f 2 t41 t42 t43 t44 t45 L t46 t47 []) F:=by
 have hW:W ((i:Int)+1)=((i+1:Nat):Int):=by rw [W_id (by omega) (by omega)];omega
 have h6':decide ((i:Int)<6)=true:=decide_eq_true (by omega)
 have c1:∀ p,(eB_++bQ_ (dK_ l) == (101::p))=false:=fun p=>lG_ (by decide) p _
 have c2:dV_ (eB_++bQ_ (dK_ l)) [105,100,58,32]=[]:=h1_ (by decide) _ _
 have c6:dV_ (eB_++bQ_ (dK_ l)) [98,97,115,101,58,32]=[]:=h1_ (by decide) _ _
 have c3:dV_ (eB_++bQ_ (dK_ l)) [100,97,116,97,58,32]=bQ_ (dK_ l):=he_ eB_ _
 have c4:(bQ_ (dK_ l) == [])=false:=beq_eq_false_iff_ne.2 hj
 have c5:(!(([]:Bs) == []))=false:=rfl
 have c7:((2:Int) == 1)=false:=rfl
 refine bm_ ?_
 simp only [ac_.turn5,ac_.step5,Int.toNat_natCast,dm_ hi,h6',cond_true,cond_false,b7_,da_ hi,true_and,hW,hl,c1,ae_ fP_,c2,c3,c4,c5,c6,c7,Bool.not_false,ae_ (gA_ hj)]
 exact ops_enc hn ho (by simp only [hW];exact h)
theorem oB_ (hi:i<L.length) (h6:i<6) (hl:L.getD i []=[])
  (h:Ev (fun n N=>ac_.loop5 n (K n) N s ((i+1:Nat):Int) a b c d e f t40 t41 t42 t43 t44 t45 L t46 t47 t48) F) :
  Ev (fun n N=>ac_.loop5 n (K n) N s (i:Int) a b c d e f t40 t41 t42 t43 t44 t45 L t46 t47 t48) F:=by
 have hW:W ((i:Int)+1)=((i+1:Nat):Int):=by rw [W_id (by omega) (by omega)];omega
 have h6':decide ((i:Int)<6)=true:=decide_eq_true (by omega)
 have c1:∀ (a:UInt8) p,(([]:Bs) == (a::p))=false:=fun a p=>rfl
 have c2:∀ (a:UInt8) p,dV_ [] (a::p)=[]:=fun a p=>rfl
 have c5:(!(([]:Bs) == []))=false:=rfl
 refine bm_ ?_
 simp only [ac_.turn5,ac_.step5,Int.toNat_natCast,dm_ hi,h6',cond_true,cond_false,b7_,da_ hi,true_and,hW,hl,c1,ae_ fP_,c2,c5]
 exact h
theorem oC_ (hi:i=L.length) (h:Ev (fun n _=>K n s a b c d e f t40 t41 t42 t43 t44 t45 t46 t47 t48) F) :
  Ev (fun n N=>ac_.loop5 n (K n) N s (i:Int) a b c d e f t40 t41 t42 t43 t44 t45 L t46 t47 t48) F:=by
 subst hi
 refine bm_ ?_
 simp only [ac_.turn5,ac_.step5,dh_,cond_false]
 exact h
end
theorem ps_ (v:Int) {d:Bs} (hd:∀ c ∈ d,c≠10):d9_ [] (eu_ v d)=[[101,118,101,110,116,58,32,115,110,97,112],tId++Lib.itoa v,eB_++d,[]]:=by
 have e:eu_ v d=[101,118,101,110,116,58,32,115,110,97,112]++10::((tId++Lib.itoa v)++10::((eB_++d)++10::([]++10::[]))):=by simp [eu_,kF_]
 have h1:∀ c ∈ tId++Lib.itoa v,c≠10:=fun c hc=>by rcases List.mem_append.1 hc with h|h;exact (show ∀ c ∈ tId,c≠10 by decide) c h;exact hG_ v c h
 have h2:∀ c ∈ eB_++d,c≠10:=fun c hc=>by rcases List.mem_append.1 hc with h|h;exact (show ∀ c ∈ eB_,c≠10 by decide) c h;exact hd c h
 rw [e,eq_ [] _ _ (by decide),eq_ [] _ _ h1,eq_ [] _ _ h2,eq_ [] _ _ (by decide)];rfl
theorem nA_ (v b:Int) {d:Bs} (hd:∀ c ∈ d,c≠10):d9_ [] (d8_ v b d)=[[101,118,101,110,116,58,32,112,97,116,99,104],tId++Lib.itoa v,ja_++Lib.itoa b,eB_++d,[]]:=by
 have e:d8_ v b d=[101,118,101,110,116,58,32,112,97,116,99,104]++10::((tId++Lib.itoa v)++10::((ja_++Lib.itoa b)++10::((eB_++d)++10::([]++10::[])))):=by simp [d8_,kF_]
 have h1:∀ c ∈ tId++Lib.itoa v,c≠10:=fun c hc=>by rcases List.mem_append.1 hc with h|h;exact (show ∀ c ∈ tId,c≠10 by decide) c h;exact hG_ v c h
 have h3:∀ c ∈ ja_++Lib.itoa b,c≠10:=fun c hc=>by rcases List.mem_append.1 hc with h|h;exact (show ∀ c ∈ ja_,c≠10 by decide) c h;exact hG_ b c h
 have h2:∀ c ∈ eB_++d,c≠10:=fun c hc=>by rcases List.mem_append.1 hc with h|h;exact (show ∀ c ∈ eB_,c≠10 by decide) c h;exact hd c h
 rw [e,eq_ [] _ _ (by decide),eq_ [] _ _ h1,eq_ [] _ _ h3,eq_ [] _ _ h2,eq_ [] _ _ (by decide)];rfl
theorem hU_ {e:aM_} (h:cX_ e=true):Ev (fun n _=>ac_ n (db_ e)) (e,true):=by
 have hlen:=la_ h
 have hne:(db_ e == [])=false:=beq_eq_false_iff_ne.2 (m3_ h)
 have hT:=fI_ (lO_ h)
 refine aI_ ?_
 simp only [ac_,ae_ (gk_ (s:=db_ e) (by omega))]
 rcases f6_ h with ⟨hk,hs⟩|⟨hk,hs⟩
 · have hl:=ps_ e.version (l0_ hs.doc)
   rw [←f7_ h hk] at hl
   rw [hl]
   refine c5_ (line_snap (i:=0) (by simp only [List.length_cons,List.length_nil];omega) (by decide) rfl (line_id hs.ver.1 hs.ver.2 (by simp only [List.length_cons,List.length_nil];omega) (by decide) rfl (line_data hs.doc (by simp only [List.length_cons,List.length_nil];omega) (by decide) rfl (oB_ (by simp only [List.length_cons,List.length_nil];omega) (by decide) rfl (oC_ rfl ?_)))))
   have ee:aM_.mk 1 e.version 0 e.doc []=e:=by
    obtain ⟨k,v,b,d,o⟩:=e
    have e1:=hs.base
    have e2:=hs.ops
    simp only at e1 e2 hk
    rw [e1,e2,hk]
   simp only [dj_,ee,hne,cond_false,ae_ hT,beq_self_eq_true,Bool.not_true,ai_]
 · have hl:=nA_ e.version e.base (l0_ hs.enc)
   rw [←fv_ h hk] at hl
   rw [hl]
   refine c5_ (pt_ (i:=0) (by simp only [List.length_cons,List.length_nil];omega) (by decide) rfl (line_id hs.ver.1 hs.ver.2 (by simp only [List.length_cons,List.length_nil];omega) (by decide) rfl (line_base hs.base.1 hs.base.2 (by simp only [List.length_cons,List.length_nil];omega) (by decide) rfl (line_ops hs.enc hs.len hs.ops (by simp only [List.length_cons,List.length_nil];omega) (by decide) rfl (oB_ (by simp only [List.length_cons,List.length_nil];omega) (by decide) rfl (oC_ rfl ?_))))))
   have ee:aM_.mk 2 e.version e.base (aa_.mk 0 0 [] [] []) e.ops=e:=by
    obtain ⟨k,v,b,d,o⟩:=e
    have e1:=hs.doc
    simp only at e1 hk
    rw [e1,hk];rfl
   simp only [ee,hne,cond_false,ae_ hT,beq_self_eq_true,Bool.not_true,ai_]
theorem kG_ {s:Bs} (hs:s.length≤4194304):∃ x,ReadAs s x∧Ev (fun n _=>ac_ n s) x∧Ev (fun n _=>bP_ n s) x:=by
 obtain ⟨x,h1,h2⟩:=ia_ hs
 obtain ⟨y,g1,g2⟩:=hV_ hs
 rcases h2 with rfl|⟨a1,a2,a3⟩
 · rcases g2 with rfl|⟨b1,b2,b3⟩
   · exact ⟨_,.inl rfl,g1,h1⟩
   · have:=h9_ b2
     rw [b3] at this
     have e:=congrArg Prod.snd ((eA_ h1).1 this)
     cases e
 · have:=hU_ a2
   rw [a3] at this
   refine ⟨x,.inr ⟨a1,a2,a3⟩,?_,h1⟩
   rw [←a1] at this
   exact this
end Go.Pi
end
section
namespace Go.Pi
end Go.Pi
end
section
namespace Go.Pi
abbrev gR_ (s:Bs):Int:=Lib.index s [10,10]
def FEnd (s:Bs):Int:=if gR_ s = -1 then -1 else gR_ s+2
theorem idx2_nil:gR_ [] = -1:=rfl
theorem oJ_ (x:UInt8):gR_ [x] = -1:=by
 unfold gR_
 rw [i2_,if_neg (by simp)];rfl
theorem mO_ (x y:UInt8) (l:Bs):gR_ (x::y::l)=if x=10∧y=10 then 0 else if gR_ (y::l) = -1 then -1 else gR_ (y::l)+1:=by
 unfold gR_
 rw [i2_]
 by_cases h:x=10∧y=10
 · rw [if_pos h,if_pos (by simpa using h)]
 · rw [if_neg h,if_neg (by simpa using h)]
theorem j5_ (s:Bs) : -1≤gR_ s:=Lib.index_ge s [10,10]
theorem idx2_lt:∀ (s:Bs),gR_ s = -1∨gR_ s+2≤(s.length:Int)
 |[]=>.inl rfl
 |[x]=>.inl (oJ_ x)
 |x::y::l=>by
  rw [mO_]
  by_cases h:x=10∧y=10
  · rw [if_pos h];right;simp only [List.length_cons];omega
  · rw [if_neg h]
    rcases idx2_lt (y::l) with e|e
    · rw [if_pos e];exact .inl rfl
    · have:=j5_ (y::l)
      by_cases e2:gR_ (y::l) = -1
      · rw [if_pos e2];exact .inl rfl
      · rw [if_neg e2];right;simp only [List.length_cons] at e ⊢;omega
theorem end_pos {s:Bs} (h:¬ FEnd s<0):2≤FEnd s∧FEnd s≤(s.length:Int):=by
 unfold FEnd at h ⊢
 have:=j5_ s
 by_cases e:gR_ s = -1
 · rw [if_pos e] at h;exact absurd (by decide) h
 · rw [if_neg e]
   rcases idx2_lt s with g|g
   · exact absurd g e
   · omega
theorem hl_ {s:Bs} (hs:s.length≤1000000000):Ev (fun n _=>bd_ n s) (FEnd s):=by
 have b10:∀ c:UInt8,((c.toNat:Int) == 10)=decide (c=10):=fun c=>i5_ c 10 10 rfl
 refine aI_ ?_
 simp only [bd_]
 have key:∀ (m i:Nat),i+m=s.length→1≤i→Ev (fun n N=>bd_.loop3 n (some (-1)) N s (i:Int)) (if gR_ (s.drop (i - 1)) = -1 then -1 else gR_ (s.drop (i - 1))+(i:Int)+1):=by
  intro m
  induction m with
  |zero=>
   intro i hi h1
   have e:i=s.length:=by omega
   subst e
   have hd:=dB_ 0 (show s.length - 1<s.length by omega)
   rw [show s.length - 1+1=s.length by omega,List.drop_length] at hd
   refine bm_ ?_
   simp only [bd_.turn3,bd_.step3,dh_,cond_false,ai_]
   rw [hd,oJ_,if_pos rfl]
  |succ m ih=>
   intro i hi h1
   have hlt:i<s.length:=by omega
   have hd:=dB_ 0 (show i - 1<s.length by omega)
   have hd2:=dB_ 0 hlt
   rw [show i - 1+1=i by omega,hd2] at hd
   have hn:=ih (i+1) (by omega) (by omega)
   rw [show i+1 - 1=i by omega,hd2] at hn
   have hW:W ((i:Int)+1)=((i+1:Nat):Int):=by rw [W_id (by omega) (by omega)];omega
   have hW2:W ((i:Int) - 1)=((i - 1:Nat):Int):=by rw [W_id (by omega) (by omega)];omega
   refine bm_ ?_
   simp only [bd_.turn3,bd_.step3,dm_ hlt,cond_true,b7_,da_ hlt,da_ (show i - 1<s.length by omega),true_and,Int.toNat_natCast,hW,hW2,b10,aE_,ai_]
   rw [hd,mO_]
   generalize s.getD i 0=y at hn ⊢
   generalize s.getD (i - 1) 0=x at hn ⊢
   generalize s.drop (i+1)=l at hn ⊢
   have hge:=j5_ (y::l)
   have hrest:¬ (x=10∧y=10)→Ev (fun n N=>bd_.loop3 n (some (-1)) N s ((i+1:Nat):Int)) (if (if x=10∧y=10 then (0:Int) else if gR_ (y::l) = -1 then -1 else gR_ (y::l)+1) = -1 then -1 else (if x=10∧y=10 then (0:Int) else if gR_ (y::l) = -1 then -1 else gR_ (y::l)+1)+(i:Int)+1):=by
    intro hc
    rw [if_neg hc]
    by_cases e:gR_ (y::l) = -1
    · rw [if_pos e] at hn ⊢;rw [if_pos rfl];exact hn
    · rw [if_neg e] at hn ⊢
      rw [if_neg (by omega),show gR_ (y::l)+1+(i:Int)+1=gR_ (y::l)+((i+1:Nat):Int)+1 by omega];exact hn
   refine ⟨fun hy=>⟨fun hx => ?_,fun hx=>hrest fun h => ?_⟩,fun hy=>hrest fun h => ?_⟩
   · have hx:=of_decide_eq_true hx
     have hy:=of_decide_eq_true hy
     rw [if_pos (show x=10∧y=10 from ⟨hx,hy⟩),if_neg (by decide)];omega
   · exact of_decide_eq_false hx h.1
   · exact of_decide_eq_false hy h.2
 cases s with
 |nil=>exact c5_ (f:=fun n N=>bd_.loop3 n (some (-1)) N [] 1) (bm_ ⟨0,fun _ _ _ _=>rfl⟩)
 |cons c l=>
  have:=key l.length 1 (by simp;omega) (Nat.le_refl _)
  have e:(if gR_ ((c::l).drop (1 - 1)) = -1 then -1 else gR_ ((c::l).drop (1 - 1))+((1:Nat):Int)+1)=FEnd (c::l):=by
   show (if gR_ (c::l) = -1 then -1 else gR_ (c::l)+((1:Nat):Int)+1)=_
   unfold FEnd
   split
   · rfl
   · omega
  rw [e] at this
  exact c5_ (f:=fun n N=>bd_.loop3 n (some (-1)) N (c::l) ((1:Nat):Int)) this
theorem gg_ {s:Bs} (hs:s.length≤1000000000):Ev (fun n _=>strings_Index n s [10,10]) (gR_ s):=aI_ (by
 simp only [strings_Index,lI_,decide_eq_true (show s.length<4294967281 by omega),cond_true,ai_])
theorem pK_:∀ (m:Nat) (wait:Bs) (out:List aM_),wait.length≤m→wait.length≤4194304→out.length+wait.length≤4194304→(∀ e ∈ out,cX_ e=true)→∃ x:a1_ × List aM_,
  (x.1.wait.length+x.2.length≤out.length+wait.length∧∀ e ∈ x.2,cX_ e=true) ∧
  Ev (fun n N=>by_.loop8 n (fun xy3 xy4 xy5 xy6 xy7 xy8=>(cond (decide ((xy3.length:Int) > 14000)) (some ((a1_.mk xy7 xy8),xy6)) (some ((a1_.mk xy3 false),xy6)))) N wait [] false out [] true) x ∧
  Ev (fun n N=>bt_.loop5 n (fun xy3 xy4 xy5 xy6 xy7=>(cond xy4 (some ((a1_.mk [] true),xy7)) (some ((a1_.mk xy3 false),xy7)))) N wait false [] false out) x:=by
 intro m
 induction m with
 |zero=>
  intro wait out hm _ ho hok
  have:wait=[]:=List.eq_nil_of_length_eq_zero (by omega)
  subst this
  have hE:=hl_ (s:=[]) (by simp)
  have hI:=gg_ (s:=[]) (by simp)
  rw [idx2_nil] at hI
  have hF:FEnd [] = -1:=rfl
  rw [hF] at hE
  have c1:decide ((-1:Int)<0)=true:=rfl
  have c2:decide ((([]:Bs).length:Int) > 14000)=false:=rfl
  refine ⟨(a1_.mk [] false,out),⟨by simp,hok⟩,bm_ ?_,bm_ ?_⟩
  · simp only [by_.turn8,by_.step8,ae_ hE,c1,c2,cond_true,cond_false,ai_]
  · simp only [bt_.turn5,bt_.step5,Bool.not_false,ae_ hI,c1,c2,cond_true,cond_false,ai_]
 |succ m ih=>
  intro wait out hm hw ho hok
  have hE:=hl_ (s:=wait) (by omega)
  have hI:=gg_ (s:=wait) (by omega)
  by_cases hneg:FEnd wait<0
  · have hn:gR_ wait = -1:=by
     unfold FEnd at hneg
     by_cases e:gR_ wait = -1
     · exact e
     · rw [if_neg e] at hneg;have:=j5_ wait;omega
    have c1:decide (FEnd wait<0)=true:=decide_eq_true hneg
    have c3:decide (gR_ wait<0)=true:=by rw [hn];rfl
    refine ⟨cond (decide ((wait.length:Int) > 14000)) (a1_.mk [] true,out) (a1_.mk wait false,out),?_,bm_ ?_,bm_ ?_⟩
    · cases decide ((wait.length:Int) > 14000) with
      |true=>exact ⟨by simp,hok⟩
      |false=>exact ⟨by simp;omega,hok⟩
    · simp only [by_.turn8,by_.step8,ae_ hE,c1,cond_true,aE_,ai_]
      cases decide ((wait.length:Int) > 14000)<;>simp
    · simp only [bt_.turn5,bt_.step5,Bool.not_false,ae_ hI,c3,cond_true,aE_,ai_]
      cases decide ((wait.length:Int) > 14000)<;>simp
  · have hp:=end_pos hneg
    have hne:gR_ wait ≠ -1:=by
     intro e;unfold FEnd at hneg;rw [if_pos e] at hneg;exact hneg (by decide)
    have hFE:FEnd wait=gR_ wait+2:=by unfold FEnd;rw [if_neg hne]
    have hge:=j5_ wait
    obtain ⟨k,hk⟩:∃ k:Nat,FEnd wait=(k:Int):=⟨(FEnd wait).toNat,by omega⟩
    have hW:W (gR_ wait+2)=(k:Int):=by rw [W_id (by omega) (by omega)];omega
    rw [hk] at hE
    have c1:decide ((k:Int)<0)=false:=decide_eq_false (by omega)
    have c3:decide (gR_ wait<0)=false:=decide_eq_false (by omega)
    obtain ⟨x,hx,hs,hi⟩:=kG_ (s:=(wait.take k).drop 0) (by simp;omega)
    cases hq:x.2 with
    |false=>
     refine ⟨(a1_.mk [] true,out),⟨by simp,hok⟩,bm_ ?_,bm_ ?_⟩
     · simp only [by_.turn8,by_.step8,ae_ hE,c1,cond_false,d4_,Int.toNat_natCast,ae_ hs,hq,Bool.not_false,cond_true,ai_]
       exact ⟨by omega,trivial⟩
     · simp only [bt_.turn5,bt_.step5,Bool.not_false,ae_ hI,c3,hW,cond_true,cond_false,d4_,Int.toNat_natCast,ae_ hi,hq,ai_]
       exact ⟨by omega,trivial⟩
    |true=>
     have hok':cX_ x.1=true:=by
      rcases hx with rfl|⟨_,h,_⟩
      · cases hq
      · exact h
     have hall:∀ e ∈ out++[x.1],cX_ e=true:=by
      intro e he
      rcases List.mem_append.1 he with he|he
      · exact hok e he
      · obtain rfl:=List.mem_singleton.1 he;exact hok'
     have hdl:(wait.drop k).length=wait.length - k:=List.length_drop
     obtain ⟨y,⟨y1,y3⟩,hs2,hi2⟩:=ih (wait.drop k) (out++[x.1]) (by omega) (by omega) (by simp;omega) hall
     refine ⟨y,⟨by simp at y1;omega,y3⟩,bm_ ?_,bm_ ?_⟩
     · simp only [by_.turn8,by_.step8,bh_,hr_,ae_ hE,c1,cond_false,d4_,Int.toNat_natCast,ae_ hs,hq,Bool.not_true,cu_,List.take_length]
       exact ⟨by omega,by simp;omega,by omega,hs2⟩
     · simp only [bt_.turn5,bt_.step5,bh_,hr_,Bool.not_false,ae_ hI,c3,hW,cond_true,cond_false,d4_,Int.toNat_natCast,ae_ hi,hq,Bool.not_true,cu_,List.take_length]
       exact ⟨by omega,by simp;omega,by omega,hi2⟩
theorem Feed_both {s:a1_} {p:Bs} (h:s.wait.length+p.length≤4194304):∃ x:a1_ × List aM_,(x.1.wait.length+x.2.length≤s.wait.length+p.length∧∀ e ∈ x.2,cX_ e=true) ∧
  Ev (fun n _=>by_ n s p) x∧Ev (fun n _=>bt_ n s p) x:=by
 have hroom:decide (s.wait.length+p.length≤9223372036854775807)=true:=decide_eq_true (by omega)
 cases hb:s.bad with
 |true=>
  refine ⟨(a1_.mk [] true,[]),⟨Nat.zero_le _,fun e h=>(by cases h)⟩,aI_ ?_,aI_ ?_⟩
  · simp only [by_,hb,cond_true,ai_]
  · simp only [bt_,hb,hroom,cond_true]
    refine c5_ (f:=fun n N=>bt_.loop5 n (fun xy3 xy4 xy5 xy6 xy7=>(cond xy4 (some ((a1_.mk [] true),xy7)) (some ((a1_.mk xy3 false),xy7)))) N (s.wait++p) true [] false []) (bm_ ?_)
    simp only [bt_.turn5,bt_.step5,Bool.not_true,cond_false,cond_true,ai_]
 |false=>
  obtain ⟨x,⟨h1,h3⟩,h4,h5⟩:=pK_ (s.wait++p).length (s.wait++p) [] (Nat.le_refl _) (by simp;omega) (by simp;omega) (fun e h=>(by cases h))
  rw [List.length_append] at h1
  refine ⟨x,⟨by simpa using h1,h3⟩,aI_ ?_,aI_ ?_⟩
  · simp only [by_,hb,hroom,cond_true,cond_false]
    exact c5_ h4
  · simp only [bt_,hb,hroom,cond_true]
    exact c5_ h5
end Go.Pi
end
section
namespace Go.Pi
def ee_ (x:a1_ × List aM_):aL_ × a1_:=(aL_.mk (du_ je_ x.2).doc (du_ je_ x.2).version (du_ je_ x.2).began ((du_ je_ x.2).bad||x.1.bad),x.1)
theorem ev_docs {l:List aM_} (h:∀ e ∈ l,cX_ e=true):∀ e ∈ l,aa_.size e.doc≤4000000000∧kx_ e:=fun e he=>by
 refine ⟨?_,lO_ (h e he)⟩
 rcases f6_ (h e he) with ⟨_,hs⟩|⟨_,hs⟩
 · have:=lR_ 6 _ (ht_ hs.doc).1
   have:=(ht_ hs.doc).1
   omega
 · rw [hs.doc];decide
theorem mc_ {s:Bs} (h:s.length≤1048576):∃ x:a1_ × List aM_,(x.1.wait.length≤1048576)∧Ev (fun n _=>ci_ n s) (ee_ x)∧Ev (fun n _=>cb_ n s) (ee_ x):=by
 obtain ⟨x,⟨x1,x2⟩,h3,h4⟩:=Feed_both (s:=a1_.mk [] false) (p:=s) (by simp;omega)
 have x1:x.1.wait.length+x.2.length≤s.length:=by simpa using x1
 have g3:=iw_ (l:=x.2) (by omega) (ev_docs x2)
 have g4:=iI_ (l:=x.2) (by omega) (ev_docs x2)
 refine ⟨x,by omega,aI_ ?_,aI_ ?_⟩
 · simp only [ci_,bh_,d7_,ae_ h3,ae_ g3,aE_,ai_]
   unfold ee_
   cases (du_ je_ x.2).bad<;>simp
 · simp only [cb_,bh_,d7_,ae_ h4,ae_ g4,aE_,ai_]
   unfold ee_
   cases (du_ je_ x.2).bad<;>simp
theorem ni_ {s:Bs} (hl:lenB s):∃ n,laws_FnExactClientOf n s=some true:=by
 refine ev_ex (aI_ ?_)
 simp only [laws_FnExactClientOf,aE_,ai_]
 refine ⟨fun _=>trivial,fun h => ?_⟩
 have hs:s.length≤1048576:=by have:=of_decide_eq_false h;omega
 obtain ⟨x,x1,h3,h4⟩:=mc_ hs
 have hr:=ix_ (nc_ (l:=x.2) (c:=je_) gH_)
 have e3:aL_.size (ee_ x).1=aa_.size (du_ je_ x.2).doc:=rfl
 have e4:a1_.size (ee_ x).2=x.1.wait.length:=rfl
 have t3:aL_.size (ee_ x).1≤cY_:=by simp only [cY_];omega
 have t4:a1_.size (ee_ x).2≤cY_:=by simp only [cY_];omega
 obtain ⟨m3,z0,z1,f1,f2,g0,g1,f3,f4⟩:=lJ_ (a:=(ee_ x).1) (k:=1) (by omega) (by simp only [cY_];omega)
 generalize ee_ x=r at *
 simp only [bh_,d7_,ae_ h3,ae_ h4,ae_ (nL_ t3),ae_ (nK_ t4),ae_ f3,ae_ f4,g0,g1,Nat.beq_refl,beq_self_eq_true,bne_self_eq_false,Bool.not_true,cond_true,cond_false,aE_,ai_,decide_eq_true_eq,decide_eq_false_iff_not]
 repeat' (first|apply And.intro|intro _)
 all_goals (first|trivial|rfl|(exfalso;omega)|omega)
end Go.Pi
end
section
namespace Go.Pi
end Go.Pi
end
section
namespace Go.Pi
theorem good_str {l:Bs} (h:Good (.s l)):lenB l:=by
 cases h with
 |s l h=>exact h
end Go.Pi
end
section
namespace Go.Pi
open Go.Proofs Go.Proofs.YtccdklkcfjmchaaGreatDoor
namespace laws_FnExactClientOf
theorem pure_law:Pure:=fun s h0=>ni_ (good_str (h0 _ (by simp)))
theorem proved:Rows.FnExactClientOfCardSaid:=card pure_law
end laws_FnExactClientOf
end Go.Pi
end
namespace Go.Proofs.YtccdklkcfjmchaaGreatDoor
theorem fnExactClientOf_holds:Rows.FnExactClientOfCardSaid:=Go.Pi.laws_FnExactClientOf.proved
#print axioms fnExactClientOf_holds
end Go.Proofs.YtccdklkcfjmchaaGreatDoor
