/- FnTaken: who asked of a drawn store and takes what is due has nothing due then; what was ek_ leads from what was sent to what is true. No condition. Text 7 of 7. -/
import Derived.Test.YtmgcfhlcdhlafabGreatDoorTkF
import Derived.Lib.AtoiAllCases
set_option linter.unusedVariables false
set_option maxRecDepth 100000
set_option linter.unusedSimpArgs false
section
namespace Go.Pi
theorem sA_ {k x:Bs} {ns:List Bs}:dg_ (k::ns) x=if k<x then dg_ ns x+1 else 0:=by
 by_cases h:k<x
 · have hb:Op.bytesLess k x=true:=by rw [eS_];exact decide_eq_true h
   rw [if_pos h];unfold dg_;rw [List.findIdx_cons];simp [hb]
 · have hb:Op.bytesLess k x=false:=by rw [eS_];exact decide_eq_false h
   rw [if_neg h];unfold dg_;rw [List.findIdx_cons];simp [hb]
theorem sa_ {x:Bs}:∀ {l:List (Bs × Int)},e9_ l→∀ h,h<(l.map (·.1)).length→Op.bytesLess ((l.map (·.1)).getD h []) x=decide (h<dg_ (l.map (·.1)) x)
 |[],_,h,hh=>by simp at hh
 |(k,v)::l,ha,h,hh=>by
  rw [eS_]
  simp only [List.map_cons,sA_]
  cases h with
  |zero=>
   simp only [List.getD_cons_zero]
   by_cases hk:k<x
   · rw [if_pos hk,decide_eq_true hk];simp
   · rw [if_neg hk,decide_eq_false hk];simp
  |succ h=>
   have hh':h<(l.map (·.1)).length:=by simpa using hh
   simp only [List.getD_cons_succ]
   by_cases hk:k<x
   · have:=sa_ (x:=x) ha.2 h hh'
     rw [eS_] at this
     rw [if_pos hk,this]
     simp
   · rw [if_neg hk]
     have hm:=aZ_ (d:=([]:Bs)) (a:=l.map (·.1)) hh'
     obtain ⟨p,hp,e⟩:=List.mem_map.1 hm
     have:¬ (l.map (·.1)).getD h []<x:=fun h2=>by
      rw [←e] at h2
      exact hk (List.lt_trans (ha.1 p hp) h2)
     rw [decide_eq_false this];simp
theorem rw_ {ns:List Bs} {x:Bs} (h:x ∉ ns):gp_ ns x=dg_ ns x:=by
 unfold gp_
 rw [if_neg]
 rintro ⟨h1,h2⟩
 exact h (h1 ▸ aZ_ [] h2)
theorem sD_ {α:Type} (d:α) {l:List α} (h:l.Nodup) {i:Nat} (hi:i<l.length):l.getD i d ∉ l.take i:=fun hm=>by
 have:=(List.take_sublist (i+1) l).nodup h
 rw [cS_ d hi,List.nodup_append] at this
 exact this.2.2 _ hm _ (List.mem_singleton.2 rfl) rfl
theorem fD_ {α β:Type} (f:α→β) (d:α) (e:β) {l:List α} {i:Nat} (h:i<l.length):(l.map f).getD i e=f (l.getD i d):=by
 rw [List.getD_eq_getElem?_getD,List.getD_eq_getElem?_getD,List.getElem?_map,List.getElem?_eq_getElem h];rfl
theorem ol_ {ps:List (Bs × Int)} (hl:ps.length≤2000000) (hnd:(ps.map (·.1)).Nodup):Ev (fun n _=>bT_ n (ps.map (·.1)) (ps.map (·.2))) (nb_ (dd_ ps [])):=by
 refine aq_ ?_
 simp only [bT_]
 let S:Nat→List aa_ × List Bs:=fun i=>((dd_ (ps.take i) []).map (fun p=>hf_ p.2),(dd_ (ps.take i) []).map (·.1))
 have:=eC_ S ps.length (fun n N i (s:List aa_ × List Bs)=>bT_.loop4 n (fun xy4 xy5 xy6 xy7 xy8 xy9 xy10 xy11=>(some (aa_.mk xy7 xy8 xy9 xy10 xy11))) N (ps.map (·.2)) (ps.map (·.1)) ((ps.map (·.1)).length:Int) (i:Int) 0 0 [] 5 0 [] s.1 s.2) (nb_ (dd_ ps [])) (fun i hi F hF => ?_) ?_
 · exact this
 · obtain ⟨l,hlv⟩:∃ l,l=dd_ (ps.take i) []:=⟨_,rfl⟩
   obtain ⟨p,hp⟩:∃ p,p=ps.getD i ([],0):=⟨_,rfl⟩
   have e2:dd_ (ps.take (i+1)) []=ins p.1 p.2 l:=by rw [cS_ ([],0) hi,hy_,hlv,hp]
   have ha:e9_ l:=by rw [hlv];exact fS_ _ trivial
   have hll:l.length≤i:=by
    have:=gy_ (ps:=ps.take i) (l:=[])
    rw [←hlv] at this;simp at this;omega
   have hi1:i<(ps.map (·.1)).length:=by simpa using hi
   have hi2:i<(ps.map (·.2)).length:=by simpa using hi
   have hx:p.1 ∉ l.map (·.1):=fun hm=>by
    obtain ⟨q,hq,e⟩:=List.mem_map.1 hm
    rw [hlv] at hq
    have hq:=(gx_ hq).resolve_right (by simp)
    have:=sD_ [] hnd hi1
    rw [fD_ (·.1) ([],0) [] hi,←hp,←List.map_take] at this
    exact this (e ▸ List.mem_map_of_mem hq)
   have hps:((l.map (·.1)).length:Nat)=l.length:=by simp
   have hB:=iH_ (ns:=l.map (·.1)) (x:=p.1) (by simp;omega) (sa_ ha)
   have hA:dg_ (l.map (·.1)) p.1≤l.length:=by have:=List.findIdx_le_length (xs:=l.map (·.1)) (p:=fun y => !Op.bytesLess y p.1);simpa [dg_] using this
   have hN:Ev (fun n _=>b5_ n (l.map (·.1)) (dg_ (l.map (·.1)) p.1:Int) [p.1]) ((ins p.1 p.2 l).map (·.1)):=by
    refine aq_ ?_
    have e:=jH_ (fun p=>p.1) p.1 p.2 l
    unfold j4_ at e
    rw [rw_ hx] at e
    simp only [b5_,g6_,an_,ac_,c1_,Int.toNat_natCast,e]
    simp;omega
   have hJ:Ev (fun n _=>b0_ n (l.map fun p=>hf_ p.2) (dg_ (l.map (·.1)) p.1:Int) [hf_ p.2]) ((ins p.1 p.2 l).map fun p=>hf_ p.2):=by
    refine aq_ ?_
    have e:=jH_ (fun p=>hf_ p.2) p.1 p.2 l
    unfold j4_ at e
    rw [rw_ hx] at e
    simp only [b0_,g6_,an_,ac_,c1_,Int.toNat_natCast,e]
    simp;omega
   have g1:(ps.map (·.1)).getD i []=p.1:=by rw [fD_ (·.1) ([],0) [] hi,hp]
   have g2:(ps.map (·.2)).getD i 0=p.2:=by rw [fD_ (·.2) ([],0) 0 hi,hp]
   simp only [S,e2,←hlv] at hF ⊢
   unfold hf_ at hJ
   simp only [bT_.turn4,bT_.step4,Int.toNat_natCast,W_up hi1 (show (ps.map (·.1)).length≤bO_ by simp [bO_];omega),cy_ hi1,cc_ hi1,cc_ hi2,g1,g2,an_,bk_,ab_ hB,ab_ hN]
   refine ⟨fun _=>⟨trivial,trivial,?_⟩,fun h=>(by cases h)⟩
   unfold hf_ at hF ⊢
   simp only [ab_ hJ]
   exact hF
 · have e:((ps.map (·.1)).length:Int)=(ps.length:Int):=by simp
   simp only [bT_.turn4,bT_.step4,e,b8_,cond_false,ac_,S,List.take_length]
   rfl
end Go.Pi
end
section
namespace Go.Pi
abbrev to_:Bs:=[105,100]
abbrev nd_:Bs:=[107,105,100,115]
abbrev i64 (x:Int):Prop:=-9223372036854775808≤x∧x≤9223372036854775807
def ke_ (q:ap_) (kids:Int):List (Bs × Int):=cond q.kids [(nd_,kids)] []
def mX_ (q:ap_) (r:TRow) (kids:Int):List (Bs × Int):=dd_ (ke_ q kids) (ins to_ r.id_ (dd_ (q.show_.map (fI_ r)) []))
def gK_ (q:ap_) (r:TRow) (kids:Int):aa_:=nb_ (mX_ q r kids)
theorem FRowL_asc {q:ap_} {r:TRow} {kids:Int}:e9_ (mX_ q r kids):=fS_ _ (oj_ (fS_ _ trivial))
theorem pp_ {q:ap_} {kids:Int}:(ke_ q kids).length≤1:=by unfold ke_;cases q.kids<;>simp
theorem p3_ {q:ap_} {r:TRow} {kids:Int}:(mX_ q r kids).length≤q.show_.length+2:=by
 have h1:=gy_ (ps:=q.show_.map (fI_ r)) (l:=[])
 have h2:=oi_ (x:=to_) (y:=r.id_) (l:=dd_ (q.show_.map (fI_ r)) [])
 have h3:=gy_ (ps:=ke_ q kids) (l:=ins to_ r.id_ (dd_ (q.show_.map (fI_ r)) []))
 have h4:=pp_ (q:=q) (kids:=kids)
 simp at h1
 unfold mX_;omega
theorem qW_ {c:Int} (h:i64 c):(eL_ c).length≤22:=by
 have:=Lib.itoa_length_le c h.1 h.2
 simp only [eL_,List.length_cons];omega
theorem rc_ {q:ap_} {r:TRow} {kids:Int} (hs:∀ c ∈ q.show_,i64 c):∀ p ∈ mX_ q r kids,p.1.length≤22:=fun p hp=>by
 rcases gx_ hp with h|h
 · unfold ke_ at h
   cases hq:q.kids<;>rw [hq] at h
   · cases h
   · rw [List.mem_singleton.1 h];show nd_.length≤22;decide
 · rcases lX_ h with h|h
   · rw [h];show to_.length≤22;decide
   · rcases gx_ h with h|h
     · obtain ⟨c,hc,e⟩:=List.mem_map.1 h
       rw [←e];exact qW_ (hs c hc)
     · cases h
theorem pO_ {c:Int}:eL_ c≠to_:=fun h=>by cases h
theorem qV_ {c:Int}:eL_ c≠nd_:=fun h=>by cases h
def l8_ (q:ap_) (r:TRow) (kids:Int):List (Bs × Int):=(to_,r.id_)::(eB_ q.show_ q.show_.length).map (fI_ r)++ke_ q kids
theorem implL_eq {q:ap_} {r:TRow} {kids:Int}:dd_ (l8_ q r kids) []=mX_ q r kids:=by
 have e:dd_ (l8_ q r kids) []=dd_ (ke_ q kids) (dd_ ((eB_ q.show_ q.show_.length).map (fI_ r)) (ins to_ r.id_ [])):=by
  show List.foldl _ _ _=_
  unfold l8_ dd_
  rw [List.foldl_append];rfl
 rw [e]
 unfold mX_
 rw [nl_ (fun p hp=>by obtain ⟨c,_,e⟩:=List.mem_map.1 hp;rw [←e];exact pO_),jS_ (l0:=[]) trivial (Nat.le_refl _),List.take_length]
theorem qE_ {q:ap_} {r:TRow} {kids:Int}:((l8_ q r kids).map (·.1)).Nodup:=by
 have hm:((eB_ q.show_ q.show_.length).map (fI_ r)).map (·.1)=(eB_ q.show_ q.show_.length).map eL_:=by rw [List.map_map];rfl
 have hc:((eB_ q.show_ q.show_.length).map eL_).Nodup:=by
  have:=it_ (l:=q.show_) (Nat.le_refl _)
  unfold List.Nodup at this ⊢
  rw [List.pairwise_map]
  exact this.imp fun h e=>h (me_ e)
 unfold l8_
 rw [List.cons_append,List.map_cons,List.nodup_cons,List.map_append,hm,List.nodup_append]
 refine ⟨fun h => ?_,hc,?_,fun a ha b hb => ?_⟩
 · rcases List.mem_append.1 h with h|h
   · obtain ⟨c,_,e⟩:=List.mem_map.1 h
     exact pO_ e
   · unfold ke_ at h;cases hq:q.kids<;>rw [hq] at h
     · cases h
     · have:=List.mem_singleton.1 h
       change to_=nd_ at this
       revert this;decide
 · unfold ke_;cases q.kids<;>simp
 · obtain ⟨c,_,e⟩:=List.mem_map.1 ha
   unfold ke_ at hb;cases hq:q.kids<;>rw [hq] at hb
   · cases hb
   · have hb:=List.mem_singleton.1 hb
     rw [←e,hb];exact qV_
theorem implL_len {q:ap_} {r:TRow} {kids:Int}:(l8_ q r kids).length≤q.show_.length+2:=by
 have h1:=iR_ (l:=q.show_) (i:=q.show_.length)
 have h4:=pp_ (q:=q) (kids:=kids)
 unfold l8_;simp;omega
theorem FOwn_num {n:Int} (d:Nat):cd_ (d+1) (hf_ n)=cd_ 1 (hf_ n):=rfl
theorem FSize_obj (l:List (Bs × Int)) (d:Nat):cd_ (d+2) (nb_ l)=cd_ 2 (nb_ l):=by
 simp only [cd_]
 have:∀ m:List (Bs × Int),hP_ (cd_ (d+1)) (m.map fun p=>hf_ p.2)=hP_ (cd_ 1) (m.map fun p=>hf_ p.2):=by
  intro m
  induction m with
  |nil=>rfl
  |cons p m ih=>simp only [List.map_cons,hP_,FOwn_num d,ih]
 show cond (FOwn (nb_ l)) (min 401 (1+hP_ (cd_ (d+1)) (l.map fun p=>hf_ p.2))) 401=cond (FOwn (nb_ l)) (min 401 (1+hP_ (cd_ 1) (l.map fun p=>hf_ p.2))) 401
 rw [this]
theorem jN_ {n:Int}:∀ d,gh_ d (hf_ n)
 |0=>trivial
 |d+1=>⟨⟨Nat.zero_le _,Nat.zero_le _,fun x hx=>(by cases hx)⟩,Nat.zero_le _,fun x hx=>(by cases hx)⟩
theorem lenJ_obj {l:List (Bs × Int)} (hl:l.length≤2000000) (hn:∀ p ∈ l,p.1.length≤22):∀ d,gh_ d (nb_ l)
 |0=>trivial
 |d+1=>⟨⟨Nat.zero_le _,by simp [nb_,bO_];omega,fun x hx=>by
   obtain ⟨p,hp,e⟩:=List.mem_map.1 hx
   rw [←e];have:=hn p hp;simp only [bO_];omega⟩,by simp [nb_,bO_];omega,fun x hx=>by
   obtain ⟨p,hp,e⟩:=List.mem_map.1 hx
   rw [←e];exact jN_ d⟩
theorem k6_ {q:ap_} {r:TRow} {kids:Int} (hq:q.show_.length≤1100000) (hs:∀ c ∈ q.show_,i64 c) (d:Nat):gh_ d (gK_ q r kids) :=
 lenJ_obj (by have:=p3_ (q:=q) (r:=r) (kids:=kids);omega) (rc_ hs) d
end Go.Pi
end
section
namespace Go.Pi
theorem mQ_ {x:Int} (h0 : -9223372036854775808≤x) (h1:x≤9223372036854775807):Ev (fun n _=>es_ n x) (Lib.itoa x):=by
 refine aq_ ?_
 have:=mq_ h0 h1
 simp only [es_,ab_ this,ac_]
end Go.Pi
end
section
namespace Go.Pi
theorem iG_ {l:List Int} {x:Int} (hl:l.length≤bO_):Ev (fun n _=>ch_ n l x) (decide (x ∈ l)):=by
 have h:Ev (fun n _=>a2_ n l x) (if l.findIdx (fun y=>x == y)<l.length then ((l.findIdx (fun y=>x == y):Nat):Int) else -1):=by
  refine aq_ ?_
  rw [←fr_ 0]
  simp only [a2_]
  refine iu_ (fun n N i=>a2_.loop3 n (some (-1)) N l x (l.length:Int) (i:Int)) _ (fun i u hi ih => ?_) ?_
  · simp only [a2_.turn3,a2_.step3,Int.toNat_natCast,W_up hi hl,an_,bk_,ac_,c2_ ih,cy_ hi,cc_ hi]
    clear ih
    cases (x == l.getD i 0)<;>simp
  · simp only [a2_.turn3,a2_.step3,b8_,cond_false,ac_]
 refine aq_ ?_
 simp only [ch_,ab_ h,ac_]
 have e:(l.findIdx (fun y=>x == y)<l.length)↔x ∈ l:=by
  rw [List.findIdx_lt_length];simp
 by_cases hm:x ∈ l
 · rw [if_pos (e.2 hm),decide_eq_true hm,decide_eq_true (by omega)]
 · rw [if_neg (fun h=>hm (e.1 h)),decide_eq_false hm];rfl
theorem lR_ {j:aa_} (h:gh_ 6 j):Ev (fun n _=>c7_ n j) (cV_ j):=by
 refine aq_ ?_
 simp only [c7_,bp_,ab_ (dM_ h),an_,ac_,cV_,gr_]
 cases bw_ j<;>simp
theorem lS_ {x:Int}:Ev (fun n _=>cY_ n x) (hf_ x):=aq_ (by simp only [cY_,ac_,hf_])
section
variable {q:ap_} {r:TRow} {kids:Int} (hq:q.show_.length≤1100000) (hs:∀ c ∈ q.show_,i64 c) (hr:r.cells.length≤bO_)
include hq hs hr
theorem i2_:Ev (fun n _=>bE_ n q r kids) (gK_ q r kids):=by
 refine aq_ ?_
 simp only [bE_]
 let S:Nat→aa_:=fun i=>nb_ (dd_ ((q.show_.take i).map (fI_ r)) [])
 have:=eC_ S q.show_.length (fun n N i (s:aa_)=>bE_.loop4 n (fun xy5 xy6 xy7 xy8 xy9 xy10 xy11 xy12 xy13 xy14 xy15 xy16 xy17 xy18 xy19 xy20 xy21 xy22 xy23 xy24=>((cY_ n xy15).bind fun xr25=>((bG_ n (aa_.mk xy20 xy21 xy22 xy23 xy24) [105,100] (aa_.re xr25)).bind fun xr26=>(cond xy12 ((cY_ n xy5).bind fun xr27=>((bG_ n (aa_.re xr26) [107,105,100,115] (aa_.re xr27)).bind fun xr28=>(some (aa_.re xr28)))) (some (aa_.re xr26)))))) N kids (i:Int) q.table q.where_ q.order q.down q.first q.show_ q.kids q.kidTable q.kidCol r.id_ r.cells 0 0 [] s.kind s.n_ s.s s.list s.names) (gK_ q r kids) (fun i hi F hF => ?_) ?_
 · exact this
 · have e2:dd_ ((q.show_.take (i+1)).map (fI_ r)) []=ins (eL_ (q.show_.getD i 0)) (fu_ r (q.show_.getD i 0)) (dd_ ((q.show_.take i).map (fI_ r)) []):=by
    rw [cS_ 0 hi,List.map_append];exact hy_ _ _ _
   have ha:e9_ (dd_ ((q.show_.take i).map (fI_ r)) []):=fS_ _ trivial
   have hll:=gy_ (ps:=(q.show_.take i).map (fI_ r)) (l:=[])
   simp only [S,e2] at hF ⊢
   generalize dd_ ((q.show_.take i).map (fI_ r)) []=l at hF ha hll ⊢
   have hl2:l.length≤2000000:=by simp at hll;omega
   have hc:=hs _ (aZ_ 0 hi)
   have hd:=Lib.itoa_length_le _ hc.1 hc.2
   have e0:TRow.mk r.id_ r.cells=r:=rfl
   have e3:([99]:Bs)++Lib.itoa (q.show_.getD i 0)=eL_ (q.show_.getD i 0):=rfl
   simp only [bE_.turn4,bE_.step4,Int.toNat_natCast,W_up hi (show q.show_.length≤bO_ by simp only [bO_];omega),cy_ hi,cc_ hi,eM_,bp_,e0,e3,an_,bk_,c1_,ab_ (ez_ hc.1 hc.2),ab_ (fc_ hr),ab_ lS_,ab_ (lQ_ ha hl2)]
   simp only [bp_] at hF
   refine ⟨fun _=>⟨trivial,fun _=>⟨trivial,hF⟩,fun h => ?_⟩,fun h=>(by cases h)⟩
   have h:=of_decide_eq_false h
   simp only [List.length_singleton] at h;omega
 · have ha:e9_ (dd_ (q.show_.map (fI_ r)) []):=fS_ _ trivial
   have hll:=gy_ (ps:=q.show_.map (fI_ r)) (l:=[])
   have h2:=oi_ (x:=to_) (y:=r.id_) (l:=dd_ (q.show_.map (fI_ r)) [])
   simp at hll
   simp only [bE_.turn4,bE_.step4,b8_,cond_false,S,List.take_length,eM_,bp_,ab_ lS_,ab_ (lQ_ ha (show _≤2000000 by omega)),ab_ (lQ_ (x:=nd_) (y:=kids) (oj_ (x:=to_) (y:=r.id_) ha) (show _≤2000000 by omega)),an_,ac_]
   unfold gK_ mX_ ke_
   exact ⟨fun h=>by rw [h];rfl,fun h=>by rw [h];rfl⟩
theorem mR_:Ev (fun n _=>bJ_ n q r kids) (cV_ (gK_ q r kids)):=by
 refine aq_ ?_
 simp only [bJ_]
 have hO:Ev (fun n _=>bT_ n ((l8_ q r kids).map (·.1)) ((l8_ q r kids).map (·.2))) (gK_ q r kids):=by
  have:=ol_ (ps:=l8_ q r kids) (by have:=implL_len (q:=q) (r:=r) (kids:=kids);omega) qE_
  rw [implL_eq] at this;exact this
 have hR:=jJ_ (k6_ (r:=r) (kids:=kids) hq hs 6)
 have e1:∀ i,((eB_ q.show_ i).map (fI_ r)).map (·.1)=(eB_ q.show_ i).map eL_:=fun i=>by rw [List.map_map];rfl
 have e2:∀ i,((eB_ q.show_ i).map (fI_ r)).map (·.2)=(eB_ q.show_ i).map (fu_ r):=fun i=>by rw [List.map_map];rfl
 let S:Nat→List Bs × List Int:=fun i=>(to_::(eB_ q.show_ i).map eL_,r.id_::(eB_ q.show_ i).map (fu_ r))
 have:=eC_ S q.show_.length (fun n N i (s:List Bs × List Int)=>bJ_.loop4 n (fun xy4 xy5 xy6 xy7 xy8 xy9 xy10 xy11 xy12 xy13 xy14 xy15 xy16 xy17 xy18=>(cond xy11 (bv_ (xy17.length+([[107,105,100,115]]:List Bs).length) 16 (bv_ (xy18.length+([xy4]:List Int).length) 8 ((bT_ n (xy17++([[107,105,100,115]]:List Bs)) (xy18++([xy4]:List Int))).bind fun xr19=>((cT_ n (aa_.re xr19)).bind fun xr20=>(some (aa_.re xr20)))))) ((bT_ n xy17 xy18).bind fun xr21=>((cT_ n (aa_.re xr21)).bind fun xr22=>(some (aa_.re xr22)))))) N kids q.show_ (q.show_.length:Int) (i:Int) q.table q.where_ q.order q.down q.first q.show_ q.kids q.kidTable q.kidCol r.id_ r.cells 0 0 [] s.1 s.2) (cV_ (gK_ q r kids)) (fun i hi F hF => ?_) ?_
 · exact this
 · have hc:=hs _ (aZ_ 0 hi)
   have hd:=Lib.itoa_length_le _ hc.1 hc.2
   have hf:=iR_ (l:=q.show_) (i:=i)
   have e0:TRow.mk r.id_ r.cells=r:=rfl
   have e3:([99]:Bs)++Lib.itoa (q.show_.getD i 0)=eL_ (q.show_.getD i 0):=rfl
   have hI:Ev (fun n _=>ch_ n (q.show_.take i) (q.show_.getD i 0)) (decide (q.show_.getD i 0 ∈ q.show_.take i)):=iG_ (by simp [bO_];omega)
   simp only [bJ_.turn4,bJ_.step4,Int.toNat_natCast,W_up hi (show q.show_.length≤bO_ by simp only [bO_];omega),cy_ hi,cc_ hi,e0,e3,List.drop_zero,an_,bk_,g9_,c1_,bi_,ab_ hI,ab_ (mQ_ hc.1 hc.2),ab_ (cellOf_ev hr)]
   refine ⟨fun _=>⟨trivial,⟨by omega,by omega,by omega⟩,fun hm => ?_,fun hm=>⟨fun _=>⟨by simp [S];omega,by simp [S];omega,?_⟩,fun h => ?_⟩⟩,fun h=>(by cases h)⟩
   · have hm:=of_decide_eq_true hm
     simp only [S,eB_,if_pos hm] at hF ⊢
     exact hF
   · have hm:=of_decide_eq_false hm
     simp only [S,eB_,if_neg hm,List.map_append,List.map_cons,List.map_nil] at hF ⊢
     exact hF
   · have h:=of_decide_eq_false h
     simp only [List.length_singleton] at h;omega
 · have hf:=iR_ (l:=q.show_) (i:=q.show_.length)
   simp only [bJ_.turn4,bJ_.step4,b8_,cond_false,S,bp_,an_,bi_]
   unfold l8_ ke_ at hO
   refine ⟨fun h=>⟨by simp;omega,by simp;omega,?_⟩,fun h => ?_⟩
   · rw [h] at hO
     simp only [cond_true,List.cons_append,List.map_cons,List.map_append,e1,e2,List.map_nil] at hO
     simp only [List.cons_append,ab_ hO,ab_ hR,ac_]
   · rw [h] at hO
     simp only [cond_false,List.append_nil,List.map_cons,e1,e2] at hO
     simp only [ab_ hO,ab_ hR,ac_]
end
end Go.Pi
end
section
namespace Go.Pi
theorem ev_allS {α γ:Type} (S:Nat→α) (p:Nat→Bool) (len:Nat) (L:Nat→Nat→Nat→α→Option γ) (v bad:γ)
  (h1:∀ i,i<len→∀ F,(p i=true→Ev (fun n N=>L n N (i+1) (S (i+1))) F)→(p i=false→F=bad)→Ev (fun n N=>L n (N+1) i (S i)) F)
  (h2:Ev (fun n N=>L n (N+1) len (S len)) v):Ev (fun n _=>L n n 0 (S 0)) (cond (h0_ p len) v bad):=by
 have key:∀ d i,d+i=len→Ev (fun n N=>L n N i (S i)) (cond (gI_ p d i) v bad):=by
  intro d
  induction d with
  |zero=>intro i hd;obtain rfl:i=len:=by omega
         exact cx_ (f:=fun n N=>L n N i (S i)) h2
  |succ d ih=>intro i hd
              refine cx_ (f:=fun n N=>L n N i (S i)) (h1 i (by omega) _ (fun hp => ?_) (fun hp => ?_))
              · have:=ih (i+1) (by omega)
                simp only [gI_,hp,Bool.true_and];exact this
              · simp only [gI_,hp,Bool.false_and,cond_false]
 exact fb_ (f:=fun n N=>L n N 0 (S 0)) (key len 0 (by omega))
def aX_ (l:List ao_):List Int:=l.map (·.key)
def kAt (ks:List Int) (k:Int):Int:=if ks.findIdx (fun y=>y == k)<ks.length then ((ks.findIdx (fun y=>y == k):Nat):Int) else -1
theorem og_ {ks:List Int} {k:Int}:kAt ks k<0↔k ∉ ks:=by
 have e:(ks.findIdx (fun y=>y == k)<ks.length)↔k ∈ ks:=by rw [List.findIdx_lt_length];simp
 unfold kAt
 by_cases h:k ∈ ks
 · rw [if_pos (e.2 h)];simp [h]
 · rw [if_neg (fun h'=>h (e.1 h'))];simp [h]
theorem nj_ {ks:List Int} {k:Int} (h:k ∈ ks):∃ p:Nat,kAt ks k=p∧p<ks.length∧ks.getD p 0=k:=by
 have e:ks.findIdx (fun y=>y == k)<ks.length:=by rw [List.findIdx_lt_length];simp [h]
 refine ⟨_,by unfold kAt;rw [if_pos e],e,?_⟩
 rw [List.getD_eq_getElem?_getD,List.getElem?_eq_getElem e,Option.getD_some]
 have:=List.findIdx_getElem (xs:=ks) (p:=fun y=>y == k) (w:=e)
 simpa using this
theorem jQ_ {ks:List Int} {k:Int} {p:Nat} (h:kAt ks k=p):p<ks.length∧ks.getD p 0=k:=by
 have hm:k ∈ ks:=Classical.byContradiction fun hn=>by have:=og_.2 hn;omega
 obtain ⟨q,e,h1,h2⟩:=nj_ hm
 have:q=p:=by omega
 subst this;exact ⟨h1,h2⟩
theorem gQ_ {ks:List Int} {k:Int} (hl:ks.length≤bO_):Ev (fun n _=>cn_ n ks k) (kAt ks k):=by
 refine aq_ ?_
 unfold kAt
 rw [←fr_ 0]
 simp only [cn_]
 refine iu_ (fun n N i=>cn_.loop3 n (some (-1)) N ks k (i:Int)) _ (fun i u hi ih => ?_) ?_
 · simp only [cn_.turn3,cn_.step3,Int.toNat_natCast,W_up hi hl,an_,bk_,ac_,c2_ ih,cy_ hi,cc_ hi]
   clear ih
   cases (ks.getD i 0 == k)<;>simp
 · simp only [cn_.turn3,cn_.step3,b8_,cond_false,ac_]
theorem kD_ (k:Int):∀ l:List ao_,(aX_ l).findIdx (fun y=>y == k)=l.findIdx (fun x=>x.key == k)
 |[]=>rfl
 |x::l=>by
  have ih:=kD_ k l
  unfold aX_ at ih ⊢
  simp only [List.map_cons,List.findIdx_cons,ih]
theorem bK_ (l:List ao_):(aX_ l).length=l.length:=List.length_map _
theorem pr_ (x:ao_):ao_.mk x.key x.value=x:=rfl
theorem jU_ {l:List ao_} {k:Int} (hl:l.length≤bO_):Ev (fun n _=>eJ_ n l k) (kAt (aX_ l) k):=by
 have hf:∀ x:ao_,Ev (fun n _=>dE_ n x k) (x.key == k):=fun x=>aq_ (by simp only [dE_,ac_])
 have h:Ev (fun n _=>af_ n l k) (kAt (aX_ l) k):=by
  refine aq_ ?_
  unfold kAt
  rw [kD_,bK_,←fr_ ao_.dflt]
  simp only [af_]
  refine iu_ (fun n N i=>af_.loop3 n (some (-1)) N l k (l.length:Int) (i:Int)) _ (fun i u hi ih => ?_) ?_
  · simp only [af_.turn3,af_.step3,bp_,pr_,Int.toNat_natCast,W_up hi hl,an_,bk_,ab_ (hf _),ac_,c2_ ih,cy_ hi,cc_ hi]
    clear ih
    cases ((l.getD i ao_.dflt).key == k)<;>simp
  · simp only [af_.turn3,af_.step3,b8_,cond_false,ac_]
 exact aq_ (by simp only [eJ_,ab_ h,ac_])
def kOk (docs:List aa_) (keys:List Int):Bool:=decide (docs.length=keys.length)&&h0_ (fun i=>bw_ (docs.getD i aa_.dflt) && !decide (keys.getD i 0 ∈ keys.take i)) docs.length
def iW_ (docs:List aa_) (keys:List Int) (m:Nat):List ao_:=(List.range m).map fun i=>ao_.mk (keys.getD i 0) (docs.getD i aa_.dflt)
theorem zipK_succ {docs:List aa_} {keys:List Int} {m:Nat}:iW_ docs keys (m+1)=iW_ docs keys m++[ao_.mk (keys.getD m 0) (docs.getD m aa_.dflt)]:=by
 unfold iW_;rw [List.range_succ,List.map_append];rfl
theorem gk_ {docs:List aa_} {keys:List Int} {m:Nat}:(iW_ docs keys m).length=m:=by unfold iW_;simp
theorem k0_ {l:List Int} {i:Nat} {x:Int} (hl:l.length≤bO_):Ev (fun n _=>ch_ n (l.take i) x) (decide (x ∈ l.take i)):=iG_ (by simp;omega)
theorem ir_ {docs:List aa_} {keys:List Int} (hd:docs.length≤2000000) (hJ:∀ j ∈ docs,gh_ 6 j):Ev (fun n _=>bu_ n docs keys) (cond (kOk docs keys) (iW_ docs keys docs.length,true) ([],false)):=by
 refine aq_ ?_
 have ht:docs.length≤bO_:=by simp only [bO_];omega
 simp only [bu_,ne_,an_,ac_,kOk]
 by_cases hl:docs.length=keys.length
 · rw [decide_eq_true hl,Bool.true_and]
   refine ⟨fun h=>(by cases h),fun _ => ?_⟩
   refine ev_allS (fun i=>iW_ docs keys i) (fun i=>bw_ (docs.getD i aa_.dflt) && !decide (keys.getD i 0 ∈ keys.take i)) docs.length (fun n N i (o:List ao_)=>bu_.loop7 n (fun xy3=>(some (xy3,true))) N keys docs (docs.length:Int) (i:Int) o) (iW_ docs keys docs.length,true) ([],false) (fun i hi F h1 h2 => ?_) ?_
   · have hk:i<keys.length:=by omega
     rw [zipK_succ] at h1
     have hol:=gk_ (docs:=docs) (keys:=keys) (m:=i)
     generalize iW_ docs keys i=o at h1 hol ⊢
     simp only [bu_.turn7,bu_.step7,bp_,Int.toNat_natCast,List.drop_zero,W_up hi ht,cy_ hi,cc_ hi,cc_ hk,an_,bk_,g9_,bi_,ab_ (dx_ (hJ _ (aZ_ aa_.dflt hi))),ab_ (k0_ (l:=keys) (i:=i) (x:=keys.getD i 0) (by omega)),ac_,cond_true]
     cases hj:bw_ (docs.getD i aa_.dflt) with
     |false=>rw [hj] at h2;exact ⟨trivial,fun _=>(h2 rfl).symm,fun h=>(by cases h)⟩
     |true=>
      rw [hj,Bool.true_and] at h1 h2
      refine ⟨trivial,fun h=>(by cases h),fun _=>⟨⟨by omega,by omega,by omega⟩,trivial,fun hc => ?_,fun hc => ?_⟩⟩
      · exact (h2 (by rw [hc];rfl)).symm
      · exact ⟨trivial,by simp;omega,h1 (by rw [hc];rfl)⟩
   · simp only [bu_.turn7,bu_.step7,b8_,cond_false,ac_]
 · rw [decide_eq_false hl,Bool.false_and]
   exact ⟨fun _=>rfl,fun h=>(by cases h)⟩
theorem allN_and {p q:Nat→Bool} {len:Nat}:h0_ (fun i=>p i&&q i) len=(h0_ p len&&h0_ q len):=by
 rw [Bool.eq_iff_iff,Bool.and_eq_true,cH_,cH_,cH_]
 exact ⟨fun h=>⟨fun i hi=>(Bool.and_eq_true_iff.1 (h i hi)).1,fun i hi=>(Bool.and_eq_true_iff.1 (h i hi)).2⟩,fun h i hi=>by rw [h.1 i hi,h.2 i hi];rfl⟩
theorem i1_ {docs:List aa_} {keys:List Int} (hd:docs.length≤2000000) (hk:keys.length≤2000000) (hJ:∀ j ∈ docs,gh_ 6 j):Ev (fun n _=>aK_ n keys docs) (kOk docs keys):=by
 refine aq_ ?_
 have ht:docs.length≤bO_:=by simp only [bO_];omega
 have htk:keys.length≤bO_:=by simp only [bO_];omega
 have e:kOk docs keys=(h0_ (fun i => !decide (keys.getD i 0 ∈ keys.take i)) keys.length&&(h0_ (fun i=>bw_ (docs.getD i aa_.dflt)) docs.length&&((keys.length:Int) == (docs.length:Int)))):=by
  unfold kOk
  by_cases hl:docs.length=keys.length
  · rw [decide_eq_true hl,allN_and,←hl]
    simp [Bool.and_comm]
  · rw [decide_eq_false hl]
    have:((keys.length:Int) == (docs.length:Int))=false:=by rw [beq_eq_false_iff_ne];omega
    rw [this];simp
 rw [e]
 simp only [aK_]
 have hin:Ev (fun n _=>aK_.loop11 n (fun xy5 xy6=>(some ((xy5.length:Int) == (xy6.length:Int)))) n keys docs 0) (h0_ (fun i=>bw_ (docs.getD i aa_.dflt)) docs.length&&((keys.length:Int) == (docs.length:Int))):=by
  refine eD_ (fun n N i=>aK_.loop11 n (fun xy5 xy6=>(some ((xy5.length:Int) == (xy6.length:Int)))) N keys docs (i:Int)) _ (fun i w hi ih => ?_) ?_
  · simp only [aK_.turn11,aK_.step11,bp_,Int.toNat_natCast,W_up hi ht,an_,bk_,ab_ (dM_ (hJ _ (aZ_ aa_.dflt hi))),ac_,c2_ ih,cy_ hi,cc_ hi]
    cases bw_ (docs.getD i aa_.dflt)<;>simp
  · simp only [aK_.turn11,aK_.step11,b8_,cond_false,ac_]
 refine eD_ (fun n N i=>aK_.loop3 n (fun xy2 xy3=>(aK_.loop11 n (fun xy5 xy6=>(some ((xy5.length:Int) == (xy6.length:Int)))) n xy2 xy3 0)) N keys docs (i:Int)) _ (fun i w hi ih => ?_) ?_
 · have hA:=gQ_ (ks:=keys.take i) (k:=keys.getD i 0) (by simp;omega)
   have hg:decide (kAt (keys.take i) (keys.getD i 0)≥0)=decide (keys.getD i 0 ∈ keys.take i):=by
    have:=og_ (ks:=keys.take i) (k:=keys.getD i 0)
    by_cases hm:keys.getD i 0 ∈ keys.take i
    · rw [decide_eq_true hm,decide_eq_true];exact Int.not_lt.1 fun h=>this.1 h hm
    · rw [decide_eq_false hm,decide_eq_false];intro h;exact absurd (this.2 hm) (by omega)
   simp only [aK_.turn3,aK_.step3,Int.toNat_natCast,List.drop_zero,W_up hi htk,an_,bk_,g9_,ab_ hA,hg,ac_,c2_ ih,cy_ hi,cc_ hi]
   cases decide (keys.getD i 0 ∈ keys.take i)<;>simp<;>omega
 · simp only [aK_.turn3,aK_.step3,b8_,cond_false]
   exact hin
end Go.Pi
end
section
namespace Go.Pi
def del {α:Type} (l:List α) (k:Nat):List α:=l.take k++l.drop (k+1)
def fa_ {α:Type} (l:List α) (k:Nat) (x:α):List α:=l.take k++[x]++l.drop k
def rmOp (k:Nat):TOp:=TOp.mk 2 [Lib.itoa k] (aa_.mk 0 0 [] [] [])
def repOp (k:Nat) (j:aa_):TOp:=TOp.mk 3 [Lib.itoa k] j
def s8_ (k:Nat) (j:aa_):TOp:=TOp.mk 1 [Lib.itoa k] j
theorem gE_ {α:Type} {l:List α} {k:Nat} (h:k<l.length):(del l k).length+1=l.length:=by
 simp only [del,List.length_append,List.length_take,List.length_drop];omega
theorem lZ_ {α:Type} {l:List α} {k:Nat} {x:α} (h:k≤l.length):(fa_ l k x).length=l.length+1:=by
 simp only [fa_,List.length_append,List.length_take,List.length_drop,List.length_cons,List.length_nil];omega
theorem qO_ {α:Type} {l:List α} {k:Nat} {x:α} (h:x ∈ del l k):x ∈ l:=by
 rcases List.mem_append.1 h with h|h
 · exact List.mem_of_mem_take h
 · exact List.mem_of_mem_drop h
theorem jR_ {α:Type} {l:List α} {k:Nat} {x y:α} (h:y ∈ fa_ l k x):y=x∨y ∈ l:=by
 rcases List.mem_append.1 h with h|h
 · rcases List.mem_append.1 h with h|h
   · exact .inr (List.mem_of_mem_take h)
   · exact .inl (List.mem_singleton.1 h)
 · exact .inr (List.mem_of_mem_drop h)
theorem km_ {α β:Type} (f:α→β) (l:List α) (k:Nat):(del l k).map f=del (l.map f) k:=by
 simp only [del,List.map_append,List.map_take,List.map_drop]
theorem lY_ {α β:Type} (f:α→β) (l:List α) (k:Nat) (x:α):(fa_ l k x).map f=fa_ (l.map f) k (f x):=by
 simp only [fa_,List.map_append,List.map_take,List.map_drop,List.map_cons,List.map_nil]
theorem r2_ {α:Type} {l:List α} {k:Nat} (h:k≤l.length):(del l k).take k=l.take k:=by
 unfold del
 rw [List.take_append_of_le_length (by simp;omega),List.take_of_length_le (by simp;omega)]
theorem np_ {α:Type} (d:α) {l m:List α} {k:Nat} (h:l.take (k+1)=m.take (k+1)):l.getD k d=m.getD k d:=by
 have:=congrArg (fun z=>z[k]?) h
 simp only [List.getElem?_take_of_lt (Nat.lt_succ_self k)] at this
 rw [List.getD_eq_getElem?_getD,List.getD_eq_getElem?_getD,this]
theorem jw_ {α:Type} {l m:List α} {k:Nat} (h:l.take (k+1)=m.take (k+1)):l.take k=m.take k:=by
 have:=congrArg (List.take k) h
 rwa [List.take_take,List.take_take,Nat.min_eq_left (Nat.le_succ k)] at this
theorem nL_ {k:Nat} (h:k≤4000000):Ev (fun n _=>dS_ n (k:Int)) [Lib.itoa k]:=aq_ (by simp only [dS_,ab_ (mq_ (x:=(k:Int)) (by omega) (by omega)),ac_])
theorem iF_ {l:List ao_} {k:Nat} (h:k<l.length):Ev (fun n _=>b7_ n l (k:Int) ((k+1:Nat):Int)) (del l k):=by
 refine aq_ ?_
 simp only [b7_,ij_,an_,ac_,c1_,Int.toNat_natCast,del]
 refine ⟨fun _=>trivial,fun hc => ?_⟩
 rw [decide_eq_true (show (0:Int)≤(k:Int) by omega),decide_eq_true (show (k:Int)≤((k+1:Nat):Int) by omega),decide_eq_true (show ((k+1:Nat):Int)≤(l.length:Int) by omega)] at hc
 cases hc
theorem iz_ {l:List ao_} {k:Nat} {x:ao_} (h:k≤l.length) (hl:l.length≤10000000):Ev (fun n _=>b6_ n l (k:Int) [x]) (fa_ l k x):=by
 refine aq_ ?_
 simp only [b6_,g6_,an_,ac_,c1_,Int.toNat_natCast,fa_]
 refine ⟨fun _=>⟨fun _=>trivial,fun hc => ?_⟩,fun hc => ?_⟩
 · have hc:=of_decide_eq_false hc
   simp only [List.length_cons,List.length_nil] at hc;omega
 · rw [decide_eq_true (show (0:Int)≤(k:Int) by omega),decide_eq_true (show (k:Int)≤(l.length:Int) by omega)] at hc
   cases hc
theorem mY_ {ks:List Int} {k:Nat} (h:k<ks.length) (hl:ks.length≤10000000):Ev (fun n _=>c4_ n ks (k:Int)) (del ks k):=by
 refine aq_ ?_
 have hw:=W_up h (show ks.length≤bO_ by simp only [bO_];omega)
 simp only [c4_,hw,g9_,bi_,ac_,Int.toNat_natCast,List.drop_zero,List.nil_append,List.take_length,del,List.length_nil,List.length_take,List.length_drop]
 repeat' (first|apply And.intro)
 all_goals (first|trivial|rfl|omega)
theorem pt_ {ks:List Int} {k:Nat} {x:Int} (h:k≤ks.length) (hl:ks.length≤10000000):Ev (fun n _=>dp_ n ks (k:Int) x) (fa_ ks k x):=by
 refine aq_ ?_
 simp only [dp_,g9_,bi_,ac_,Int.toNat_natCast,List.drop_zero,List.nil_append,List.take_length,fa_,List.length_nil,List.length_append,List.length_cons,List.length_take,List.length_drop]
 repeat' (first|apply And.intro)
 all_goals (first|trivial|rfl|omega)
def kM_ (nk:List Int) (old:List ao_):Nat→List ao_→List TOp→List ao_ × List TOp
 |0,l,ops=>(l,ops)
 |k+1,l,ops=>if (old.getD k ao_.dflt).key ∈ nk then kM_ nk old k l ops else kM_ nk old k (del l k) (ops++[rmOp k])
theorem jD_ (nk:List Int) (old:List ao_):∀ k l ops,∀ x ∈ (kM_ nk old k l ops).1,x ∈ l
 |0,l,ops,x,h=>h
 |k+1,l,ops,x,h=>by
  simp only [kM_] at h
  split at h
  · exact jD_ nk old k l ops x h
  · exact qO_ (jD_ nk old k (del l k) _ x h)
theorem jE_ (nk:List Int) (old:List ao_):∀ k l ops,k≤l.length→(kM_ nk old k l ops).1.length≤l.length∧(kM_ nk old k l ops).2.length≤ops.length+k
 |0,l,ops,_=>⟨Nat.le_refl _,Nat.le_refl _⟩
 |k+1,l,ops,h=>by
  simp only [kM_]
  split
  · have:=jE_ nk old k l ops (by omega);omega
  · have hd:=gE_ (l:=l) (k:=k) (by omega)
    have:=jE_ nk old k (del l k) (ops++[rmOp k]) (by omega)
    simp only [List.length_append,List.length_cons,List.length_nil] at this;omega
theorem dn_ge {k:Nat}:decide ((k:Int)≥0)=true:=decide_eq_true (by omega)
theorem dn_eq {k:Nat}:(((k+1:Nat):Int) - 1)=(k:Int):=by omega
theorem neg_dec {ks:List Int} {k:Int}:decide (kAt ks k<0) = !decide (k ∈ ks):=by
 have:=og_ (ks:=ks) (k:=k)
 by_cases h:k ∈ ks
 · rw [decide_eq_true h,decide_eq_false (fun h'=>this.1 h' h)];rfl
 · rw [decide_eq_false h,decide_eq_true (this.2 h)];rfl
theorem qD_ {old now:List ao_} (hn:now.length≤2000000) (K:Nat→List ao_→List ao_→List TOp→Option (List TOp)) (F:List TOp):∀ k l ops,l.take k=old.take k→k≤l.length→l.length≤2000000→ops.length+k≤2000000 →
  Ev (fun n N=>K n (kM_ (aX_ now) old k l ops).1 now (kM_ (aX_ now) old k l ops).2) F→Ev (fun n N=>a7_.loop9 n (K n) N ((k:Int) - 1) l now ops) F
 |0,l,ops,_,_,_,_,hF=>by
  refine cx_ ?_
  have e:decide ((((0:Nat):Int) - 1)≥0)=false:=rfl
  simp only [a7_.turn9,a7_.step9,e,cond_false]
  exact hF
 |k+1,l,ops,ht,hk,hl,ho,hF=>by
  refine cx_ ?_
  have hg:=np_ ao_.dflt ht
  have hkl:k<l.length:=by omega
  have hA:=jU_ (l:=now) (k:=(old.getD k ao_.dflt).key) (by simp only [bO_];omega)
  simp only [kM_] at hF
  simp only [a7_.turn9,a7_.step9,dn_ge,dn_eq,cond_true,bk_,cc_ hkl,Int.toNat_natCast,hg,ab_ hA,neg_dec,an_,W_dn (i:=k) (by simp only [bO_];omega),ab_ (nL_ (k:=k) (by omega)),bi_,W_up hkl (show l.length≤bO_ by simp only [bO_];omega),ab_ (iF_ hkl)]
  refine ⟨trivial,fun hc => ?_,fun hc => ?_⟩
  · have hc:¬ (old.getD k ao_.dflt).key ∈ aX_ now:=by simpa using hc
    rw [if_neg hc] at hF
    have hd:=gE_ hkl
    refine ⟨by simp only [List.length_cons,List.length_nil];omega,qD_ hn K F k (del l k) _ ?_ (by omega) (by omega) (by simp only [List.length_append,List.length_cons,List.length_nil];omega) hF⟩
    rw [r2_ (by omega)];exact jw_ ht
  · have hc:(old.getD k ao_.dflt).key ∈ aX_ now:=by simpa using hc
    rw [if_pos hc] at hF
    exact qD_ hn K F k l ops (jw_ ht) (by omega) hl (by omega) hF
theorem dk_ {l:List ao_} {k:Nat} (h:k<l.length):(aX_ l).getD k 0=(l.getD k ao_.dflt).key:=fD_ (fun x:ao_=>x.key) ao_.dflt 0 h
theorem qe_ {old now:List ao_} (hn:now.length≤2000000) (hold:old.length≤2000000) (o t2:List aa_) (K:Nat→List aa_→List Int→List aa_→List Int→List TOp→List Int→Option (List TOp)) (F:List TOp):∀ k l ops,k≤old.length→k≤l.length→l.length≤2000000→ops.length+k≤2000000 →
  Ev (fun n N=>K n o (aX_ old) t2 (aX_ now) (kM_ (aX_ now) old k l ops).2 (aX_ (kM_ (aX_ now) old k l ops).1)) F→Ev (fun n N=>aF_.loop5 n (K n) N o (aX_ old) t2 (aX_ now) ((k:Int) - 1) ops (aX_ l)) F
 |0,l,ops,_,_,_,_,hF=>by
  refine cx_ ?_
  have e:decide ((((0:Nat):Int) - 1)≥0)=false:=rfl
  simp only [aF_.turn5,aF_.step5,e,cond_false]
  exact hF
 |k+1,l,ops,hko,hk,hl,ho,hF=>by
  refine cx_ ?_
  have hko':k<(aX_ old).length:=by rw [bK_];omega
  have hkl:k<l.length:=by omega
  have hkl':k<(aX_ l).length:=by rw [bK_];omega
  have hg:=dk_ (l:=old) (k:=k) (by omega)
  have hA:=gQ_ (ks:=aX_ now) (k:=(old.getD k ao_.dflt).key) (by rw [bK_];simp only [bO_];omega)
  have hW:=mY_ hkl' (by rw [bK_];omega)
  have hm:del (aX_ l) k=aX_ (del l k):=(km_ (fun x:ao_=>x.key) l k).symm
  rw [hm] at hW
  simp only [kM_] at hF
  simp only [aF_.turn5,aF_.step5,dn_ge,dn_eq,cond_true,bk_,cc_ hko',Int.toNat_natCast,hg,ab_ hA,neg_dec,an_,W_dn (i:=k) (by simp only [bO_];omega),ab_ (ez_ (x:=(k:Int)) (by omega) (by omega)),bi_,ab_ hW]
  refine ⟨trivial,fun hc => ?_,fun hc => ?_⟩
  · have hc:¬ (old.getD k ao_.dflt).key ∈ aX_ now:=by simpa using hc
    rw [if_neg hc] at hF
    have hd:=gE_ hkl
    exact ⟨by simp only [List.length_cons,List.length_nil];omega,qe_ hn hold o t2 K F k (del l k) _ (by omega) (by omega) (by omega) (by simp only [List.length_append,List.length_cons,List.length_nil];omega) hF⟩
  · have hc:(old.getD k ao_.dflt).key ∈ aX_ now:=by simpa using hc
    rw [if_pos hc] at hF
    exact qe_ hn hold o t2 K F k l ops (by omega) (by omega) hl (by omega) hF
end Go.Pi
end
section
namespace Go.Pi
def f4_ (l:List ao_) (i:Nat) (x:ao_):List ao_ × List TOp :=
 if kAt (aX_ l) x.key=(i:Int) then (l,cond (ef_ 6 (l.getD i ao_.dflt).value x.value) [] [repOp i x.value])
 else if (i:Int)<kAt (aX_ l) x.key then (fa_ (del l (kAt (aX_ l) x.key).toNat) i x,[rmOp (kAt (aX_ l) x.key).toNat,s8_ i x.value])
 else (fa_ l i x,[s8_ i x.value])
def fW_ (now:List ao_) (s:List ao_ × List TOp):Nat→List ao_ × List TOp
 |0=>s
 |i+1=>((f4_ (fW_ now s i).1 i (now.getD i ao_.dflt)).1,(fW_ now s i).2++(f4_ (fW_ now s i).1 i (now.getD i ao_.dflt)).2)
theorem lW_ {l:List ao_} {k:Int} {i:Nat} (h:(i:Int)<kAt (aX_ l) k):∃ p:Nat,kAt (aX_ l) k=p∧i<p∧p<l.length:=by
 obtain ⟨p,hp⟩:∃ p:Nat,kAt (aX_ l) k=p:=⟨(kAt (aX_ l) k).toNat,by omega⟩
 have:=(jQ_ hp).1
 rw [bK_] at this
 exact ⟨p,hp,by omega,this⟩
theorem nG_ {l:List ao_} {i:Nat} {x:ao_} (h:i≤l.length):i+1≤(f4_ l i x).1.length∧(f4_ l i x).1.length≤l.length+1∧(f4_ l i x).2.length≤2:=by
 unfold f4_
 by_cases h1:kAt (aX_ l) x.key=(i:Int)
 · rw [if_pos h1]
   have:=(jQ_ h1).1
   rw [bK_] at this
   refine ⟨by dsimp only;omega,by dsimp only;omega,?_⟩
   dsimp only
   cases ef_ 6 (l.getD i ao_.dflt).value x.value<;>simp
 · rw [if_neg h1]
   by_cases h2:(i:Int)<kAt (aX_ l) x.key
   · rw [if_pos h2]
     obtain ⟨p,hp,h3,h4⟩:=lW_ h2
     rw [hp,Int.toNat_natCast]
     have:=gE_ h4
     have:=lZ_ (l:=del l p) (k:=i) (x:=x) (by omega)
     exact ⟨by dsimp only;omega,by dsimp only;omega,Nat.le_refl _⟩
   · rw [if_neg h2]
     have:=lZ_ (l:=l) (k:=i) (x:=x) h
     exact ⟨by dsimp only;omega,by dsimp only;omega,by simp⟩
theorem nF_ {l:List ao_} {i:Nat} {x y:ao_} (h:y ∈ (f4_ l i x).1):y=x∨y ∈ l:=by
 unfold f4_ at h
 split at h
 · exact .inr h
 · split at h
   · rcases jR_ h with h|h
     · exact .inl h
     · exact .inr (qO_ h)
   · exact jR_ h
theorem hl_ (now:List ao_) (s:List ao_ × List TOp):∀ i,i≤(fW_ now s i).1.length∧(fW_ now s i).1.length≤s.1.length+i∧(fW_ now s i).2.length≤s.2.length+2*i
 |0=>⟨Nat.zero_le _,Nat.le_refl _,Nat.le_refl _⟩
 |i+1=>by
  have h:=hl_ now s i
  have k:=nG_ (x:=now.getD i ao_.dflt) h.1
  simp only [fW_,List.length_append];omega
def okK (x:ao_):Prop:=bw_ x.value=true∧gh_ 6 x.value
theorem sg_ {now:List ao_} {s:List ao_ × List TOp} (hn:∀ x ∈ now,okK x) (hs:∀ x ∈ s.1,okK x):∀ i,i≤now.length→∀ x ∈ (fW_ now s i).1,okK x
 |0,_,x,h=>hs x h
 |i+1,hi,x,h=>by
  rcases nF_ h with h|h
  · rw [h];exact hn _ (aZ_ ao_.dflt (by omega))
  · exact sg_ hn hs i (by omega) x h
theorem iK_ {x:ao_} (h:okK x):cd_ 6 x.value≤400:=of_decide_eq_true h.1
theorem impl_add {now:List ao_} {s:List ao_ × List TOp} (hnl:now.length≤2000000) (hsl:s.1.length≤2000000) (hol:s.2.length≤2000000) (hn:∀ x ∈ now,okK x) (hs:∀ x ∈ s.1,okK x) :
  Ev (fun n _=>a7_.loop17 n (fun xy21=>(some xy21)) n (now.length:Int) 0 s.1 s.2 now) (fW_ now s now.length).2:=by
 refine eC_ (fW_ now s) now.length (fun n N i (z:List ao_ × List TOp)=>a7_.loop17 n (fun xy21=>(some xy21)) N (now.length:Int) (i:Int) z.1 z.2 now) _ (fun i hi F hF => ?_) ?_
 · have hL:=hl_ now s i
   have hO:=sg_ hn hs i (by omega)
   simp only [fW_] at hF
   obtain ⟨x,hx⟩:∃ x,x=now.getD i ao_.dflt:=⟨_,rfl⟩
   have hxo:okK x:=by rw [hx];exact hn _ (aZ_ ao_.dflt hi)
   rw [←hx] at hF
   generalize fW_ now s i=z at hF hL hO ⊢
   obtain ⟨l,ops⟩:=z
   dsimp only at hF hL hO ⊢
   have hA:=jU_ (l:=l) (k:=x.key) (by simp only [bO_];omega)
   have hC:=de_ 6 x.value (iK_ hxo)
   have hWi:=nL_ (k:=i) (by omega)
   simp only [a7_.turn17,a7_.step17,bp_,pr_,Int.toNat_natCast,←hx,W_up hi (show now.length≤bO_ by simp only [bO_];omega),cy_ hi,cc_ hi,cond_true,bk_,ab_ hA]
   refine ⟨trivial,?_⟩
   unfold f4_ at hF
   by_cases h1:kAt (aX_ l) x.key=(i:Int)
   · rw [if_pos h1] at hF
     have hil:=(jQ_ h1).1
     rw [bK_] at hil
     have ho:=hO _ (aZ_ ao_.dflt hil)
     have hK:=gt_ 6 (l.getD i ao_.dflt).value x.value (fs_ 6 _ (iK_ ho)) ho.2
     simp only [h1,beq_self_eq_true,cond_true,bk_,cc_ hil,Int.toNat_natCast,ab_ hK,an_,ab_ hWi,ab_ hC,bi_]
     refine ⟨trivial,fun hc => ?_,fun hc => ?_⟩
     · have hc:ef_ 6 (l.getD i ao_.dflt).value x.value=false:=by simpa using hc
       rw [hc] at hF
       exact ⟨by simp only [List.length_cons,List.length_nil];omega,hF⟩
     · have hc:ef_ 6 (l.getD i ao_.dflt).value x.value=true:=by simpa using hc
       rw [hc] at hF
       simp only [cond_true,List.append_nil] at hF
       exact hF
   · rw [if_neg h1] at hF
     have hne:(kAt (aX_ l) x.key == (i:Int))=false:=beq_eq_false_iff_ne.2 h1
     by_cases h2:(i:Int)<kAt (aX_ l) x.key
     · rw [if_pos h2] at hF
       obtain ⟨p,hp,h3,h4⟩:=lW_ h2
       rw [hp,Int.toNat_natCast] at hF
       rw [hp] at h2 hne
       have hdl:=gE_ h4
       have hI:=iz_ (l:=del l p) (k:=i) (x:=x) (by omega) (by omega)
       simp only [hp,hne,decide_eq_true (show (p:Int) > (i:Int) by omega),cond_true,cond_false,ab_ (nL_ (k:=p) (by omega)),bi_,W_up h4 (show l.length≤bO_ by simp only [bO_];omega),ab_ (iF_ h4),ab_ hWi,ab_ hC,ab_ hI]
       refine ⟨by simp only [List.length_cons,List.length_nil];omega,by simp only [List.length_append,List.length_cons,List.length_nil];omega,?_⟩
       rw [List.append_assoc]
       exact hF
     · rw [if_neg h2] at hF
       have hI:=iz_ (l:=l) (k:=i) (x:=x) (by omega) (by omega)
       simp only [hne,decide_eq_false (show ¬ kAt (aX_ l) x.key > (i:Int) from h2),cond_false,ab_ hWi,ab_ hC,bi_,ab_ hI]
       exact ⟨by simp only [List.length_cons,List.length_nil];omega,hF⟩
 · simp only [a7_.turn17,a7_.step17,b8_,cond_false,ac_]
structure sm_ (old now:List ao_) (l:List ao_) (i:Nat):Prop where
 len:i≤l.length
 front:∀ j,j<i→(l.getD j ao_.dflt).key=(now.getD j ao_.dflt).key
 from_:∀ x ∈ l,x ∈ old∨∃ j,j<i∧x.key=(now.getD j ao_.dflt).key
def gV_ (now:List ao_):Prop:=∀ i j,i<j→j<now.length→(now.getD i ao_.dflt).key≠(now.getD j ao_.dflt).key
theorem pC_ {α:Type} (d:α) {a b:List α} {j:Nat} (h:j<a.length):(a++b).getD j d=a.getD j d:=by
 rw [List.getD_eq_getElem?_getD,List.getD_eq_getElem?_getD,List.getElem?_append_left h]
theorem l0_ {l:List ao_} {i j:Nat} {x:ao_} (hi:i≤l.length) (h:j<i):(fa_ l i x).getD j ao_.dflt=l.getD j ao_.dflt:=by
 have hl:(l.take i).length=i:=by simp;omega
 unfold fa_
 rw [List.append_assoc,pC_ _ (by omega),List.getD_eq_getElem?_getD,List.getD_eq_getElem?_getD,List.getElem?_take_of_lt h]
theorem rN_ {l:List ao_} {i:Nat} {x:ao_} (hi:i≤l.length):(fa_ l i x).getD i ao_.dflt=x:=by
 have hl:(l.take i).length=i:=by simp;omega
 unfold fa_
 rw [List.append_assoc,List.getD_eq_getElem?_getD,List.getElem?_append_right (by omega),hl,Nat.sub_self];rfl
theorem del_front {l:List ao_} {p j:Nat} (hp:p≤l.length) (h:j<p):(del l p).getD j ao_.dflt=l.getD j ao_.dflt:=by
 have hl:(l.take p).length=p:=by simp;omega
 unfold del
 rw [pC_ _ (by omega),List.getD_eq_getElem?_getD,List.getD_eq_getElem?_getD,List.getElem?_take_of_lt h]
theorem mn_ {old now l:List ao_} {i:Nat} (h:sm_ old now l i) (hi:i<now.length):sm_ old now (f4_ l i (now.getD i ao_.dflt)).1 (i+1):=by
 refine ⟨(nG_ h.len).1,fun j hj => ?_,fun x hx => ?_⟩
 · unfold f4_
   by_cases h1:kAt (aX_ l) (now.getD i ao_.dflt).key=(i:Int)
   · rw [if_pos h1]
     by_cases e:j=i
     · subst e
       obtain ⟨a,b⟩:=jQ_ h1
       rw [bK_] at a
       rw [←b,dk_ a]
     · exact h.front j (by omega)
   · rw [if_neg h1]
     by_cases h2:(i:Int)<kAt (aX_ l) (now.getD i ao_.dflt).key
     · rw [if_pos h2]
       obtain ⟨p,hp,h3,h4⟩:=lW_ h2
       rw [hp,Int.toNat_natCast]
       have hdl:=gE_ h4
       by_cases e:j=i
       · subst e;rw [rN_ (by omega)]
       · rw [l0_ (by omega) (by omega),del_front (by omega) (by omega)];exact h.front j (by omega)
     · rw [if_neg h2]
       by_cases e:j=i
       · subst e;rw [rN_ h.len]
       · rw [l0_ h.len (by omega)];exact h.front j (by omega)
 · rcases nF_ hx with e|hx
   · exact .inr ⟨i,by omega,by rw [e]⟩
   · rcases h.from_ x hx with h' | ⟨j,hj,e⟩
     · exact .inl h'
     · exact .inr ⟨j,by omega,e⟩
theorem nH_ {old now:List ao_} {s:List ao_ × List TOp} (h0:∀ x ∈ s.1,x ∈ old):∀ i,i≤now.length→sm_ old now (fW_ now s i).1 i
 |0,_=>⟨Nat.zero_le _,fun j hj=>by omega,fun x hx=>.inl (h0 x hx)⟩
 |i+1,hi=>mn_ (nH_ h0 i (by omega)) (by omega)
theorem le_ {l:List ao_} {k:Nat} (h:k<l.length):(l.map (·.value)).getD k aa_.dflt=(l.getD k ao_.dflt).value:=fD_ (fun x:ao_=>x.value) ao_.dflt aa_.dflt h
theorem spec_add {old now:List ao_} {s:List ao_ × List TOp} (hnl:now.length≤2000000) (hold:old.length≤2000000) (hsl:s.1.length≤2000000) (hol:s.2.length≤2000000) (hn:∀ x ∈ now,okK x) (ho:∀ x ∈ old,okK x) (h0:∀ x ∈ s.1,x ∈ old)
  (hd:gV_ now) (hod:∀ x ∈ old,∀ y ∈ old,x.key=y.key→x=y) :
  Ev (fun n _=>aF_.loop13 n (fun xy21=>(some xy21)) n (old.map (·.value)) (aX_ old) (now.map (·.value)) (aX_ now) 0 s.2 (aX_ s.1)) (fW_ now s now.length).2:=by
 refine eC_ (fW_ now s) now.length (fun n N i (z:List ao_ × List TOp)=>aF_.loop13 n (fun xy21=>(some xy21)) N (old.map (·.value)) (aX_ old) (now.map (·.value)) (aX_ now) (i:Int) z.2 (aX_ z.1)) _ (fun i hi F hF => ?_) ?_
 · have hL:=hl_ now s i
   have hI:=nH_ (now:=now) h0 i (by omega)
   simp only [fW_] at hF
   obtain ⟨x,hx⟩:∃ x,x=now.getD i ao_.dflt:=⟨_,rfl⟩
   have hxo:okK x:=by rw [hx];exact hn _ (aZ_ ao_.dflt hi)
   have hik:i<(aX_ now).length:=by rw [bK_];exact hi
   have hiv:i<(now.map (·.value)).length:=by simpa using hi
   have hkey:(aX_ now).getD i 0=x.key:=by rw [dk_ hi,hx]
   have hval:(now.map (·.value)).getD i aa_.dflt=x.value:=by rw [le_ hi,hx]
   rw [←hx] at hF
   generalize fW_ now s i=z at hF hL hI ⊢
   obtain ⟨l,ops⟩:=z
   dsimp only at hF hL hI ⊢
   have hA:=gQ_ (ks:=aX_ l) (k:=x.key) (by rw [bK_];simp only [bO_];omega)
   have hC:=fY_ 6 x.value (iK_ hxo)
   have hWi:=ez_ (x:=(i:Int)) (by omega) (by omega)
   simp only [aF_.turn13,aF_.step13,bp_,Int.toNat_natCast,hkey,hval,W_up hik (show (aX_ now).length≤bO_ by rw [bK_];simp only [bO_];omega),cy_ hik,cc_ hik,cc_ hiv,cond_true,bk_,ab_ hA,ab_ hWi]
   refine ⟨trivial,?_⟩
   unfold f4_ at hF
   by_cases h1:kAt (aX_ l) x.key=(i:Int)
   · rw [if_pos h1] at hF
     obtain ⟨hil,hke⟩:=jQ_ h1
     rw [bK_] at hil
     rw [dk_ hil] at hke
     have hmem:l.getD i ao_.dflt ∈ old:=by
      rcases hI.from_ _ (aZ_ ao_.dflt hil) with h' | ⟨j,hj,e⟩
      · exact h'
      · exact absurd (by rw [←e,hke,hx]) (hd j i hj hi)
     have hin:x.key ∈ aX_ old:=List.mem_map.2 ⟨_,hmem,hke⟩
     obtain ⟨q,hq,hql,hqk⟩:=nj_ hin
     have hqo:q<old.length:=by rwa [bK_] at hql
     have hqe:old.getD q ao_.dflt=l.getD i ao_.dflt:=hod _ (aZ_ ao_.dflt hqo) _ hmem (by rw [←dk_ hqo,hqk,hke])
     have hqv:(old.map (·.value)).getD q aa_.dflt=(l.getD i ao_.dflt).value:=by rw [le_ hqo,hqe]
     have hqi:q<(old.map (·.value)).length:=by simpa using hqo
     have hB:=gQ_ (ks:=aX_ old) (k:=x.key) (by rw [bK_];simp only [bO_];omega)
     rw [hq] at hB
     have hoo:=ho _ hmem
     have hK:=fX_ 6 (l.getD i ao_.dflt).value x.value (fs_ 6 _ (iK_ hoo)) hoo.2
     simp only [h1,beq_self_eq_true,cond_true,bk_,ab_ hB,cc_ hqi,cc_ hik,cc_ hiv,Int.toNat_natCast,hqv,ab_ hK,an_,ab_ hC,bi_]
     refine ⟨trivial,trivial,trivial,fun hc => ?_,fun hc => ?_⟩
     · have hc:ef_ 6 (l.getD i ao_.dflt).value x.value=false:=by simpa using hc
       rw [hc] at hF
       exact ⟨trivial,by simp only [List.length_cons,List.length_nil];omega,hF⟩
     · have hc:ef_ 6 (l.getD i ao_.dflt).value x.value=true:=by simpa using hc
       rw [hc] at hF
       simp only [cond_true,List.append_nil] at hF
       exact hF
   · rw [if_neg h1] at hF
     have hne:(kAt (aX_ l) x.key == (i:Int))=false:=beq_eq_false_iff_ne.2 h1
     by_cases h2:(i:Int)<kAt (aX_ l) x.key
     · rw [if_pos h2] at hF
       obtain ⟨p,hp,h3,h4⟩:=lW_ h2
       rw [hp,Int.toNat_natCast] at hF
       rw [hp] at h2 hne
       have hdl:=gE_ h4
       have hpk:p<(aX_ l).length:=by rw [bK_];exact h4
       have hW:=mY_ hpk (by rw [bK_];omega)
       have hm:del (aX_ l) p=aX_ (del l p):=(km_ (fun x:ao_=>x.key) l p).symm
       rw [hm] at hW
       have hN:=pt_ (ks:=aX_ (del l p)) (k:=i) (x:=x.key) (by rw [bK_];omega) (by rw [bK_];omega)
       have hm2:fa_ (aX_ (del l p)) i x.key=aX_ (fa_ (del l p) i x):=(lY_ (fun x:ao_=>x.key) (del l p) i x).symm
       rw [hm2] at hN
       simp only [hp,hne,decide_eq_true (show (p:Int)≥0 by omega),cond_true,cond_false,ab_ (ez_ (x:=(p:Int)) (by omega) (by omega)),bi_,ab_ hW,bk_,cc_ hik,cc_ hiv,ab_ hC,ab_ hN]
       refine ⟨by simp only [List.length_cons,List.length_nil];omega,trivial,by simp only [List.length_append,List.length_cons,List.length_nil];omega,trivial,?_⟩
       rw [List.append_assoc]
       exact hF
     · rw [if_neg h2] at hF
       have hlt:kAt (aX_ l) x.key<0:=Classical.byContradiction fun hc=>by
        obtain ⟨q,hq⟩:∃ q:Nat,kAt (aX_ l) x.key=q:=⟨(kAt (aX_ l) x.key).toNat,by omega⟩
        have hqi:q<i:=by omega
        obtain ⟨a,b⟩:=jQ_ hq
        rw [bK_] at a
        rw [dk_ a,hI.front q hqi,hx] at b
        exact hd q i hqi hi b
       have hN:=pt_ (ks:=aX_ l) (k:=i) (x:=x.key) (by rw [bK_];omega) (by rw [bK_];omega)
       have hm2:fa_ (aX_ l) i x.key=aX_ (fa_ l i x):=(lY_ (fun x:ao_=>x.key) l i x).symm
       rw [hm2] at hN
       simp only [hne,decide_eq_false (show ¬ kAt (aX_ l) x.key≥0 by omega),cond_false,bk_,cc_ hik,cc_ hiv,ab_ hC,bi_,ab_ hN]
       exact ⟨trivial,by simp only [List.length_cons,List.length_nil];omega,trivial,hF⟩
 · have e:((aX_ now).length:Int)=(now.length:Int):=by rw [bK_]
   simp only [aF_.turn13,aF_.step13,e,b8_,cond_false,ac_]
end Go.Pi
end
section
namespace Go.Pi
def fJ_ (kids:List TKid) (id:Int):Int:=fl_ (fun i x=>cond ((kids.getD i TKid.dflt).id_ == id) (kids.getD i TKid.dflt).n_ x) 0 kids.length 0
theorem i4_ {v:aJ_} {id:Int} (h:v.kids.length≤bO_):Ev (fun n _=>bY_ n v id) (fJ_ v.kids id):=by
 refine aq_ ?_
 simp only [bY_]
 refine iu_ (fun n N i=>bY_.loop3 n (some 0) N id (i:Int) v.q.table v.q.where_ v.q.order v.q.down v.q.first v.q.show_ v.q.kids v.q.kidTable v.q.kidCol v.rows v.kids) _ (fun i u hi ih => ?_) ?_
 · simp only [bY_.turn3,bY_.step3,Int.toNat_natCast,W_up hi h,an_,bk_,ac_,c2_ ih,cy_ hi,cc_ hi]
   cases ((v.kids.getD i TKid.dflt).id_ == id)<;>simp
 · simp only [bY_.turn3,bY_.step3,b8_,cond_false,ac_]
theorem mS_ {v:aJ_} {id:Int} (h:v.kids.length≤bO_):Ev (fun n _=>b3_ n v id) (fJ_ v.kids id):=by
 refine aq_ ?_
 simp only [b3_]
 refine iu_ (fun n N i=>b3_.loop3 n (some 0) N id v.kids (v.kids.length:Int) (i:Int)) _ (fun i u hi ih => ?_) ?_
 · simp only [b3_.turn3,b3_.step3,Int.toNat_natCast,W_up hi h,an_,bk_,ac_,c2_ ih,cy_ hi,cc_ hi]
   cases ((v.kids.getD i TKid.dflt).id_ == id)<;>simp
 · simp only [b3_.turn3,b3_.step3,b8_,cond_false,ac_]
def dZ_ (v:aJ_):List Int:=v.rows.map fun r=>fJ_ v.kids r.id_
theorem rk_ (v:aJ_):aJ_.mk (ap_.mk v.q.table v.q.where_ v.q.order v.q.down v.q.first v.q.show_ v.q.kids v.q.kidTable v.q.kidCol) v.rows v.kids=v:=rfl
theorem j6_ {v:aJ_} (h:v.kids.length≤bO_) (hr:v.rows.length≤ey_):Ev (fun n _=>a8_ n v) (dZ_ v):=by
 refine aq_ ?_
 have hl:=hr
 simp only [ey_] at hl
 simp only [a8_]
 refine mb_ TRow.dflt v.rows (fun r=>fJ_ v.kids r.id_) (fun n N i s=>a8_.loop4 n (fun xy2=>(some xy2)) N (i:Int) v.q.table v.q.where_ v.q.order v.q.down v.q.first v.q.show_ v.q.kids v.q.kidTable v.q.kidCol v.rows v.kids s) (dZ_ v) (fun i s hi hs F hF => ?_) ?_
 · simp only [a8_.turn4,a8_.step4,rk_,Int.toNat_natCast,W_up hi (show v.rows.length≤bO_ by simp only [bO_];omega),an_,bk_,ab_ (i4_ (v:=v) (id:=(v.rows.getD i TRow.dflt).id_) h),bi_,cy_ hi,cc_ hi]
   exact ⟨fun _=>⟨trivial,by simp;omega,hF⟩,fun h=>by cases h⟩
 · simp only [a8_.turn4,a8_.step4,b8_,cond_false,ac_];rfl
theorem gU_ {v:aJ_} (h:v.kids.length≤bO_) (hr:v.rows.length≤ey_):Ev (fun n _=>aW_ n v) (dZ_ v):=by
 refine aq_ ?_
 have hl:=hr
 simp only [ey_] at hl
 simp only [aW_]
 refine mb_ TRow.dflt v.rows (fun r=>fJ_ v.kids r.id_) (fun n N i s=>aW_.loop4 n (fun xy2=>(some xy2)) N v.rows (v.rows.length:Int) (i:Int) v.q.table v.q.where_ v.q.order v.q.down v.q.first v.q.show_ v.q.kids v.q.kidTable v.q.kidCol v.rows v.kids s) (dZ_ v) (fun i s hi hs F hF => ?_) ?_
 · simp only [aW_.turn4,aW_.step4,rk_,Int.toNat_natCast,W_up hi (show v.rows.length≤bO_ by simp only [bO_];omega),an_,bk_,ab_ (mS_ (v:=v) (id:=(v.rows.getD i TRow.dflt).id_) h),bi_,cy_ hi,cc_ hi]
   exact ⟨fun _=>⟨trivial,by simp;omega,hF⟩,fun h=>by cases h⟩
 · simp only [aW_.turn4,aW_.step4,b8_,cond_false,ac_];rfl
def fg_ (q:ap_) (n:Nat):Nat:=if q.first=0 then n else min n q.first.toNat
theorem l4_ {q:ap_} {n:Nat}:Ev (fun m _=>ea_ m q (n:Int)) (fg_ q n:Int):=by
 refine aq_ ?_
 simp only [ea_,an_,ac_,fg_]
 refine ⟨fun h=>by rw [if_pos (by simpa using h)],fun h => ?_⟩
 rw [if_neg (by simpa using h)]
 by_cases h1:(0:Int) > q.first
 · rw [decide_eq_true h1,cond_true]
   rw [decide_eq_false (by omega),cond_false];omega
 · rw [decide_eq_false h1,cond_false]
   by_cases h2:(n:Int)<q.first
   · rw [decide_eq_true h2,cond_true];omega
   · rw [decide_eq_false h2,cond_false];omega
theorem fh_ {q:ap_} {n:Nat}:Ev (fun m _=>dq_ m q (n:Int)) (fg_ q n:Int):=by
 refine aq_ ?_
 have hmin:∀ a b:Int,Ev (fun m _=>eW_ m a b) (min a b):=fun a b=>aq_ (by simp only [eW_,an_,ac_,decide_eq_true_eq,decide_eq_false_iff_not];constructor<;>intro h<;>omega)
 have hmax:∀ a b:Int,Ev (fun m _=>cz_ m a b) (max a b):=fun a b=>aq_ (by simp only [cz_,an_,ac_,decide_eq_true_eq,decide_eq_false_iff_not];constructor<;>intro h<;>omega)
 simp only [dq_,an_,ac_,ab_ (hmin _ _),ab_ (hmax _ _),fg_]
 refine ⟨fun h=>by rw [if_pos (by simpa using h)],fun h => ?_⟩
 rw [if_neg (by simpa using h)]
 omega
end Go.Pi
end
section
namespace Go.Pi
def gg_ (g:aa_→aa_) (q:ap_) (rows:List TRow) (kids:List Int) (m:Nat):List aa_:=(List.range m).map fun i=>g (gK_ q (rows.getD i TRow.dflt) (kids.getD i 0))
theorem ku_ {g:aa_→aa_} {q:ap_} {rows:List TRow} {kids:List Int} {m:Nat}:gg_ g q rows kids (m+1)=gg_ g q rows kids m++[g (gK_ q (rows.getD m TRow.dflt) (kids.getD m 0))]:=by
 unfold gg_;rw [List.range_succ,List.map_append];rfl
theorem f8_ {g:aa_→aa_} {q:ap_} {rows:List TRow} {kids:List Int} {m:Nat}:(gg_ g q rows kids m).length=m:=by unfold gg_;simp
abbrev nmCount:Bs:=[99,111,117,110,116]
abbrev cZ_:Bs:=[114,111,119,115]
def dX_ (n:Nat) (docs:List aa_):aa_:=aa_.mk 5 0 [] [hf_ n,aa_.mk 4 0 [] docs []] [nmCount,cZ_]
theorem fK_ {q:ap_} {n:Nat}:fg_ q n≤n:=by unfold fg_;split<;>omega
def FDoc (q:ap_) (rows:List TRow) (kids:List Int):aa_:=cV_ (dX_ rows.length (gg_ id q rows kids (fg_ q rows.length)))
theorem sH_ {n:Nat} {docs:List aa_} (hl:docs.length≤bO_) (hd:∀ j ∈ docs,gh_ 4 j):gh_ 6 (dX_ n docs):=by
 refine ⟨⟨Nat.zero_le _,by show 2≤bO_;decide,fun x hx => ?_⟩,by show 2≤bO_;decide,fun x hx => ?_⟩
 · rcases List.mem_cons.1 hx with e|hx
   · rw [e];show 5≤bO_;decide
   · rw [List.mem_singleton.1 hx];show 4≤bO_;decide
 · rcases List.mem_cons.1 hx with e|hx
   · rw [e];exact jN_ 5
   · rw [List.mem_singleton.1 hx]
     exact ⟨⟨Nat.zero_le _,Nat.zero_le _,fun x hx=>(by cases hx)⟩,hl,hd⟩
theorem whole_bad {n:Nat} {docs:List aa_} {j:aa_} (hj:j ∈ docs) (hb:cd_ 4 j=401):bw_ (dX_ n docs)=false:=by
 refine decide_eq_false fun h => ?_
 have h1:=lh_ (cd_ 4) hj
 have h2:cd_ 5 (aa_.mk 4 0 [] docs [])=401:=by
  show cond (FOwn _) (min 401 (1+hP_ (cd_ 4) docs)) 401=401
  cases FOwn (aa_.mk 4 0 [] docs [])<;>simp only [cond_true,cond_false]
  omega
 have h3:cd_ 6 (dX_ n docs)=401:=by
  show cond (FOwn _) (min 401 (1+(cd_ 5 (hf_ n)+(cd_ 5 (aa_.mk 4 0 [] docs [])+0)))) 401=401
  rw [h2]
  cases FOwn (dX_ n docs)<;>simp only [cond_true,cond_false]
  omega
 omega
theorem nK_ {q:ap_} {r:TRow} {kids:Int} (d:Nat):cd_ (d+2) (gK_ q r kids)=cd_ 2 (gK_ q r kids):=FSize_obj _ d
theorem lN_ {q:ap_} {rows:List TRow} {kids:List Int} (hq:q.show_.length≤1100000) (hs:∀ c ∈ q.show_,i64 c) (hl:rows.length≤2000000) {m:Nat} (hm:m≤rows.length):gh_ 6 (dX_ rows.length (gg_ id q rows kids m)):=by
 refine sH_ (by rw [f8_];simp only [bO_];omega) fun j hj => ?_
 obtain ⟨i,_,e⟩:=List.mem_map.1 hj
 rw [←e];exact k6_ hq hs 4
theorem mD_ {l:List aa_} (hl:l.length≤bO_):Ev (fun n _=>a5_ n l) (decide (∃ j ∈ l,j.kind=0)):=by
 have hf:∀ j:aa_,Ev (fun n _=>dH_ n j) (j.kind == 0):=fun j=>aq_ (by simp only [dH_,ac_])
 have h:Ev (fun n _=>ag_ n l) (if l.findIdx (fun j=>j.kind == 0)<l.length then ((l.findIdx (fun j=>j.kind == 0):Nat):Int) else -1):=by
  refine aq_ ?_
  rw [←fr_ aa_.dflt]
  simp only [ag_]
  refine iu_ (fun n N i=>ag_.loop3 n (some (-1)) N l (l.length:Int) (i:Int)) _ (fun i u hi ih => ?_) ?_
  · simp only [ag_.turn3,ag_.step3,bp_,Int.toNat_natCast,W_up hi hl,an_,bk_,ab_ (hf _),ac_,c2_ ih,cy_ hi,cc_ hi]
    clear ih
    cases ((l.getD i aa_.dflt).kind == 0)<;>simp
  · simp only [ag_.turn3,ag_.step3,b8_,cond_false,ac_]
 refine aq_ ?_
 simp only [a5_,ab_ h,ac_]
 have e:(l.findIdx (fun j=>j.kind == 0)<l.length)↔∃ j ∈ l,j.kind=0:=by
  rw [List.findIdx_lt_length];simp
 by_cases hm:∃ j ∈ l,j.kind=0
 · rw [if_pos (e.2 hm),decide_eq_true hm,decide_eq_true (by omega)]
 · rw [if_neg (fun h=>hm (e.1 h)),decide_eq_false hm];rfl
section
variable {q:ap_} {rows:List TRow} {kids:List Int} (hq:q.show_.length≤1100000) (hs:∀ c ∈ q.show_,i64 c) (hr:hg_ bO_ rows) (hl:rows.length≤2000000)
include hq hs hr hl
theorem nR_ (hk:kids.length≤bO_):Ev (fun n _=>cb_ n q rows kids) (FDoc q rows kids):=by
 refine aq_ ?_
 simp only [cb_]
 have hF:=fK_ (q:=q) (n:=rows.length)
 have eq0:ap_.mk q.table q.where_ q.order q.down q.first q.show_ q.kids q.kidTable q.kidCol=q:=rfl
 have:=eC_ (gg_ id q rows kids) (fg_ q rows.length) (fun n N i (s:List aa_)=>cb_.loop4 n (fun xy4 xy5 xy6 xy7 xy8 xy9 xy10 xy11=>((cY_ n (xy4.length:Int)).bind fun xr12=>((c7_ n (aa_.mk 5 0 [] ([(aa_.re xr12),(aa_.mk xy8 xy9 xy10 xy11 [])]:List aa_) ([[99,111,117,110,116],[114,111,119,115]]:List Bs))).bind fun xr13=>(some (aa_.re xr13))))) N rows kids (i:Int) q.table q.where_ q.order q.down q.first q.show_ q.kids q.kidTable q.kidCol 0 0 [] 4 0 [] s) (FDoc q rows kids) (fun i hi F hF => ?_) ?_
 · exact this
 · have hir:i<rows.length:=by omega
   have hR:∀ k,Ev (fun n _=>bE_ n q (rows.getD i TRow.dflt) k) (gK_ q (rows.getD i TRow.dflt) k):=fun k=>i2_ hq hs (gz_ hr i)
   rw [ku_] at hF
   simp only [bp_] at hF
   have hlen:=f8_ (g:=id) (q:=q) (rows:=rows) (kids:=kids) (m:=i)
   generalize gg_ id q rows kids i=s at hF hlen
   simp only [cb_.turn4,cb_.step4,eq0,Int.toNat_natCast,bp_,W_up hir (show rows.length≤bO_ by simp only [bO_];omega),ab_ fh_,ab_ (hR _),decide_eq_true (show ((i:Int)<(fg_ q rows.length:Int)) by omega),cc_ hir,cond_true,an_,bk_,bi_]
   refine ⟨fun h=>⟨⟨by omega,by have:=of_decide_eq_true h;omega⟩,trivial,by simp;omega,hF⟩,fun h=>⟨trivial,by simp;omega,?_⟩⟩
   have h:=of_decide_eq_false h
   have e:kids.getD i 0=0:=by rw [List.getD_eq_getElem?_getD,List.getElem?_eq_none (by omega)];rfl
   rw [e] at hF;exact hF
 · have hw:=lR_ (lN_ hq hs hl (kids:=kids) hF)
   unfold dX_ at hw
   simp only [cb_.turn4,cb_.step4,eq0,bp_,ab_ fh_,b8_,cond_false,ab_ lS_,ab_ hw,ac_]
   rfl
theorem iq_ (hk:kids.length≤bO_):Ev (fun n _=>bm_ n q rows kids) (gg_ cV_ q rows kids (fg_ q rows.length)):=by
 refine aq_ ?_
 have hF:=fK_ (q:=q) (n:=rows.length)
 simp only [bm_,ab_ l4_,g9_,Int.toNat_natCast,List.drop_zero]
 refine ⟨⟨by omega,by omega,by omega⟩,?_⟩
 have eq0:ap_.mk q.table q.where_ q.order q.down q.first q.show_ q.kids q.kidTable q.kidCol=q:=rfl
 generalize hm:fg_ q rows.length=m at hF
 have hml:(rows.take m).length=m:=by simp;omega
 have:=eC_ (gg_ cV_ q rows kids) m (fun n N i (s:List aa_)=>bm_.loop4 n (fun xy4=>(some xy4)) N kids (rows.take m) ((rows.take m).length:Int) (i:Int) q.table q.where_ q.order q.down q.first q.show_ q.kids q.kidTable q.kidCol s) (gg_ cV_ q rows kids m) (fun i hi F hF' => ?_) ?_
 · exact this
 · have hR:∀ k,Ev (fun n _=>bJ_ n q (rows.getD i TRow.dflt) k) (cV_ (gK_ q (rows.getD i TRow.dflt) k)):=fun k=>mR_ hq hs (gz_ hr i)
   rw [ku_] at hF'
   have hlen:=f8_ (g:=cV_) (q:=q) (rows:=rows) (kids:=kids) (m:=i)
   generalize gg_ cV_ q rows kids i=s at hF' hlen
   have hil:i<(rows.take m).length:=by omega
   have eg:(rows.take m).getD i TRow.dflt=rows.getD i TRow.dflt:=by rw [List.getD_eq_getElem?_getD,List.getD_eq_getElem?_getD,List.getElem?_take_of_lt hi]
   simp only [bm_.turn4,bm_.step4,eq0,Int.toNat_natCast,bp_,eg,W_up hil (show (rows.take m).length≤bO_ by simp only [bO_];omega),cy_ hil,cc_ hil,ab_ (hR _),cond_true,an_,bk_,bi_]
   refine ⟨trivial,fun h=>⟨⟨by omega,by have:=of_decide_eq_true h;omega⟩,by simp;omega,hF'⟩,fun h=>⟨by simp;omega,?_⟩⟩
   have h:=of_decide_eq_false h
   have e:kids.getD i 0=0:=by rw [List.getD_eq_getElem?_getD,List.getElem?_eq_none (by omega)];rfl
   rw [e] at hF';exact hF'
 · have e:(((rows.take m).length:Nat):Int)=(m:Int):=by rw [hml]
   simp only [bm_.turn4,bm_.step4,e,b8_,cond_false,ac_]
theorem op_ (hk:kids.length≤bO_):Ev (fun n _=>e5_ n q rows kids) (FDoc q rows kids):=by
 refine aq_ ?_
 have hF:=fK_ (q:=q) (n:=rows.length)
 have hC:=mD_ (l:=gg_ cV_ q rows kids (fg_ q rows.length)) (by rw [f8_];simp only [bO_];omega)
 simp only [e5_,ab_ (iq_ hq hs hr hl hk),ab_ hC,an_,ac_]
 have hbad:∀ i,i<fg_ q rows.length→bw_ (gK_ q (rows.getD i TRow.dflt) (kids.getD i 0))=false→FDoc q rows kids=gr_:=fun i hi hb=>by
  have h4:cd_ 4 (gK_ q (rows.getD i TRow.dflt) (kids.getD i 0))=401:=by
   have h6:¬ cd_ 6 (gK_ q (rows.getD i TRow.dflt) (kids.getD i 0))≤400:=of_decide_eq_false hb
   have:=sj_ 6 (gK_ q (rows.getD i TRow.dflt) (kids.getD i 0))
   rw [nK_ 4] at h6 this
   rw [nK_ 2];omega
  have:bw_ (dX_ rows.length (gg_ id q rows kids (fg_ q rows.length)))=false :=
   whole_bad (List.mem_map.2 ⟨i,List.mem_range.2 hi,rfl⟩) h4
  unfold FDoc cV_;rw [this];rfl
 refine ⟨fun h => ?_,fun h => ?_⟩
 · obtain ⟨j,hj,hk⟩:=of_decide_eq_true h
   obtain ⟨i,hi,e⟩:=List.mem_map.1 hj
   rw [hbad i (List.mem_range.1 hi)];· rfl
   rw [←e] at hk
   cases ho:bw_ (gK_ q (rows.getD i TRow.dflt) (kids.getD i 0)) with
   |false=>rfl
   |true=>unfold cV_ at hk;rw [ho] at hk;cases hk
 · have h:=of_decide_eq_false h
   have e:gg_ cV_ q rows kids (fg_ q rows.length)=gg_ id q rows kids (fg_ q rows.length):=by
    refine List.map_congr_left fun i hi => ?_
    cases ho:bw_ (gK_ q (rows.getD i TRow.dflt) (kids.getD i 0)) with
    |true=>unfold cV_;rw [ho];rfl
    |false=>exact absurd ⟨_,List.mem_map.2 ⟨i,hi,rfl⟩,by unfold cV_;rw [ho];rfl⟩ h
   rw [e]
   have hw:=jJ_ (lN_ hq hs hl (kids:=kids) hF)
   unfold dX_ hf_ at hw
   simp only [bp_,ab_ hw,ac_]
   rfl
end
end Go.Pi
end
section
namespace Go.Pi
def dh_ (v:aJ_):aa_:=FDoc v.q v.rows (dZ_ v)
theorem jq_ {v:aJ_}:(dZ_ v).length=v.rows.length:=by unfold dZ_;simp
theorem hg_.top {r:List TRow} (h:hg_ cap r):hg_ bO_ r:=⟨Nat.le_trans h.1 (by decide),fun x hx=>Nat.le_trans (h.2 x hx) (by decide)⟩
section
variable {v:aJ_} (h:jM_ cap v) (hs:∀ c ∈ v.q.show_,i64 c)
include h hs
theorem fq_:gh_ 6 (dh_ v):=by
 have h1:=h.1.2;have h2:=h.2.1.1
 simp only [cap] at h1 h2
 unfold dh_ FDoc cV_
 have:=lN_ (kids:=dZ_ v) (rows:=v.rows) (show v.q.show_.length≤1100000 by omega) hs (by omega) (fK_ (q:=v.q))
 cases bw_ (dX_ v.rows.length (gg_ id v.q v.rows (dZ_ v) (fg_ v.q v.rows.length))) with
 |true=>exact this
 |false=>exact ⟨⟨Nat.zero_le _,Nat.zero_le _,fun x hx=>(by cases hx)⟩,Nat.zero_le _,fun x hx=>(by cases hx)⟩
theorem fx_:Ev (fun n _=>dc_ n v) (dh_ v):=by
 refine aq_ ?_
 have h1:=h.1.2;have h2:=h.2.1.1;have h3:=h.2.2
 simp only [cap] at h1 h2 h3
 have hc:=jq_ (v:=v)
 have hD:=nR_ (q:=v.q) (rows:=v.rows) (kids:=dZ_ v) (by omega) hs h.2.1.top (by omega) (by simp only [bO_];omega)
 simp only [dc_,bp_,ab_ (j6_ (v:=v) (by simp only [bO_];omega) (by simp only [ey_];omega)),ab_ hD,ac_]
 rfl
theorem dV_:Ev (fun n _=>cL_ n v) (dh_ v):=by
 refine aq_ ?_
 have h1:=h.1.2;have h2:=h.2.1.1;have h3:=h.2.2
 simp only [cap] at h1 h2 h3
 have hc:=jq_ (v:=v)
 have hD:=op_ (q:=v.q) (rows:=v.rows) (kids:=dZ_ v) (by omega) hs h.2.1.top (by omega) (by simp only [bO_];omega)
 simp only [cL_,bp_,ab_ (gU_ (v:=v) (by simp only [bO_];omega) (by simp only [ey_];omega)),ab_ hD,ac_]
 rfl
end
end Go.Pi
end
section
namespace Go.Pi
def iZ_ (l:List TOp):Nat:=l.findIdx fun o=>(en_ o).kind == 0
def oI_ (l:List TOp):aa_:=aa_.mk 4 0 [] (l.map en_) []
def eK_ (l:List TOp):Int:=cond (decide (iZ_ l<l.length)) (-1) (cond (hM_ (oI_ l) == []) (-1) ((hM_ (oI_ l)).length:Int))
theorem nC_ {l:List TOp} {i:Nat} (hi:i<iZ_ l):((en_ (l.getD i TOp.dflt)).kind == 0)=false:=by
 have hl:iZ_ l≤l.length:=List.findIdx_le_length
 rw [List.getD_eq_getElem?_getD,List.getElem?_eq_getElem (by omega),Option.getD_some]
 have:=List.not_of_lt_findIdx (xs:=l) (p:=fun o=>(en_ o).kind == 0) (i:=i) hi
 simpa using this
theorem bad_at {l:List TOp} (h:iZ_ l<l.length):((en_ (l.getD (iZ_ l) TOp.dflt)).kind == 0)=true:=by
 rw [List.getD_eq_getElem?_getD,List.getElem?_eq_getElem h,Option.getD_some]
 exact List.findIdx_getElem (xs:=l) (p:=fun o=>(en_ o).kind == 0) (w:=h)
theorem rC_ {α β:Type} (f:α→β) (d:α) {a:List α} {i:Nat} (h:i<a.length):(a.take (i+1)).map f=(a.take i).map f++[f (a.getD i d)]:=by
 rw [cS_ d h,List.map_append];rfl
def ng_ (l:List TOp):Prop:=l.length≤4000000∧∀ o ∈ l,pj_ o
theorem rI_ {l:List TOp} (h:ng_ l):gh_ 6 (oI_ l):=by
 refine ⟨⟨Nat.zero_le _,Nat.zero_le _,fun x hx=>(by cases hx)⟩,by have:=h.1;simp [oI_,bO_];omega,fun x hx => ?_⟩
 obtain ⟨o,ho,e⟩:=List.mem_map.1 hx
 rw [←e];exact ob_ 5 _ (qy_ (h.2 o ho))
theorem l2_ {l:List TOp} (h:ng_ l):Ev (fun n _=>bn_ n l) (cond (decide (iZ_ l<l.length)) (gr_,false) (oI_ l,true)):=by
 refine aq_ ?_
 have hl:=h.1
 have ht:l.length≤bO_:=by simp only [bO_];omega
 have hb:iZ_ l≤l.length:=List.findIdx_le_length
 simp only [bn_]
 have:=eC_ (fun i=>(l.take i).map en_) (iZ_ l) (fun n N i (o:List aa_)=>bn_.loop4 n (fun xy2 xy3 xy4 xy5 xy6 xy7 xy8=>(some ((aa_.mk xy5 xy6 xy7 xy8 ([]:List Bs)),true))) N l (l.length:Int) (i:Int) 0 0 [] 4 0 [] o) (cond (decide (iZ_ l<l.length)) (gr_,false) (oI_ l,true)) (fun i hi F hF => ?_) ?_
 · exact this
 · have hi2:i<l.length:=by omega
   have hx:=i8_ (h.2 _ (aZ_ TOp.dflt hi2))
   rw [rC_ en_ TOp.dflt hi2] at hF
   have hol:((l.take i).map en_).length≤i:=by simp;omega
   generalize (l.take i).map en_=o at hF hol ⊢
   simp only [bn_.turn4,bn_.step4,bp_,ih_,Int.toNat_natCast,W_up hi2 ht,cy_ hi2,cc_ hi2,nC_ hi,cond_true,cond_false,bk_,bi_,ab_ hx]
   exact ⟨trivial,by simp;omega,hF⟩
 · by_cases hp:iZ_ l<l.length
   · have hx:=i8_ (h.2 _ (aZ_ TOp.dflt hp))
     simp only [bn_.turn4,bn_.step4,bp_,ih_,Int.toNat_natCast,cy_ hp,cc_ hp,bad_at hp,cond_true,bk_,ab_ hx,ac_]
     rw [decide_eq_true hp]
     exact ⟨trivial,rfl⟩
   · have e:iZ_ l=l.length:=by omega
     rw [decide_eq_false hp,cond_false]
     unfold oI_
     rw [e,List.take_length]
     simp only [bn_.turn4,bn_.step4,b8_,cond_false,ac_]
theorem ki_ {l:List TOp} (h:ng_ l):Ev (fun n _=>dw_ n l) (eK_ l):=by
 refine aq_ ?_
 simp only [dw_,bp_,ab_ (l2_ h)]
 unfold eK_
 cases hp:decide (iZ_ l<l.length) with
 |true=>
  simp only [cond_true,ab_ (g8_ (hh_ 6)),an_,ac_]
  simp
 |false=>
  simp only [cond_false,ab_ (g8_ (rI_ h)),an_,ac_]
  generalize hM_ (oI_ l)=s
  cases (s == [])<;>simp
end Go.Pi
end
section
namespace Go.Pi
def hI_ (old now:List ao_):List TOp:=(fW_ now (kM_ (aX_ now) old old.length old []) now.length).2
def fP_ (docs:List aa_) (keys:List Int) (docs':List aa_) (keys':List Int):List TOp:=cond (kOk docs keys) (cond (kOk docs' keys') (hI_ (iW_ docs keys docs.length) (iW_ docs' keys' docs'.length)) []) []
structure KIs (docs:List aa_) (keys:List Int):Prop where
 len:docs.length=keys.length
 ok:∀ i,i<docs.length→bw_ (docs.getD i aa_.dflt)=true
 no:∀ i,i<docs.length→keys.getD i 0 ∉ keys.take i
theorem k_is {docs:List aa_} {keys:List Int} (h:kOk docs keys=true):KIs docs keys:=by
 unfold kOk at h
 rw [Bool.and_eq_true,cH_] at h
 refine ⟨of_decide_eq_true h.1,fun i hi => ?_,fun i hi => ?_⟩
 · have:=h.2 i hi
   rw [Bool.and_eq_true] at this;exact this.1
 · have:=h.2 i hi
   rw [Bool.and_eq_true] at this
   simpa using this.2
theorem ld_ {docs:List aa_} {keys:List Int} {m i:Nat} (h:i<m):(iW_ docs keys m).getD i ao_.dflt=ao_.mk (keys.getD i 0) (docs.getD i aa_.dflt):=by
 unfold iW_
 rw [fD_ (fun i=>ao_.mk (keys.getD i 0) (docs.getD i aa_.dflt)) 0 ao_.dflt (by simpa using h)]
 have:(List.range m).getD i 0=i:=by
  rw [List.getD_eq_getElem?_getD,List.getElem?_range h];rfl
 rw [this]
theorem m7_ {α:Type} (d:α) (l:List α):(List.range l.length).map (fun i=>l.getD i d)=l:=by
 apply List.ext_getElem?
 intro i
 by_cases h:i<l.length
 · rw [List.getElem?_map,List.getElem?_range h,List.getElem?_eq_getElem h]
   simp only [Option.map_some]
   rw [List.getD_eq_getElem?_getD,List.getElem?_eq_getElem h];rfl
 · rw [List.getElem?_eq_none (by simpa using h),List.getElem?_eq_none (by omega)]
theorem ho_ {docs:List aa_} {keys:List Int}:(iW_ docs keys docs.length).map (·.value)=docs:=by
 unfold iW_
 rw [List.map_map]
 exact m7_ aa_.dflt docs
theorem oM_ {docs:List aa_} {keys:List Int} (h:docs.length=keys.length):aX_ (iW_ docs keys docs.length)=keys:=by
 unfold aX_ iW_
 rw [List.map_map,h]
 exact m7_ 0 keys
theorem n9_ {α:Type} (d:α) {l:List α} {x:α} (h:x ∈ l):∃ i,i<l.length∧l.getD i d=x:=by
 obtain ⟨i,hi,e⟩:=List.mem_iff_getElem.1 h
 exact ⟨i,hi,by rw [List.getD_eq_getElem?_getD,List.getElem?_eq_getElem hi];exact e⟩
theorem nN_ {α:Type} (d:α) {l:List α} {i j:Nat} (h:i<j) (hj:j≤l.length):l.getD i d ∈ l.take j:=by
 have e:(l.take j).getD i d=l.getD i d:=by rw [List.getD_eq_getElem?_getD,List.getD_eq_getElem?_getD,List.getElem?_take_of_lt h]
 rw [←e];exact aZ_ d (by simp;omega)
theorem gl_ {docs:List aa_} {keys:List Int} (h:KIs docs keys):gV_ (iW_ docs keys docs.length):=by
 intro i j hij hj
 rw [gk_] at hj
 rw [ld_ (by omega),ld_ hj]
 intro e
 have e:keys.getD i 0=keys.getD j 0:=e
 exact h.no j hj (e ▸ nN_ 0 hij (by have:=h.len;omega))
theorem oy_ {l:List ao_} (h:gV_ l):∀ x ∈ l,∀ y ∈ l,x.key=y.key→x=y:=by
 intro x hx y hy e
 obtain ⟨i,hi,ei⟩:=n9_ ao_.dflt hx
 obtain ⟨j,hj,ej⟩:=n9_ ao_.dflt hy
 rcases Nat.lt_trichotomy i j with hij|hij|hij
 · exact absurd (by rw [ei,ej,e]) (h i j hij hj)
 · subst hij;rw [←ei,←ej]
 · exact absurd (by rw [ei,ej,e]) (h j i hij hi)
theorem lc_ {docs:List aa_} {keys:List Int} (h:KIs docs keys) (hJ:∀ j ∈ docs,gh_ 6 j):∀ x ∈ iW_ docs keys docs.length,okK x:=by
 intro x hx
 obtain ⟨i,hi,e⟩:=n9_ ao_.dflt hx
 rw [gk_] at hi
 rw [ld_ hi] at e
 rw [←e]
 exact ⟨h.ok i hi,hJ _ (aZ_ aa_.dflt hi)⟩
section
variable {docs docs':List aa_} {keys keys':List Int} (hd:docs.length≤1500000) (hd':docs'.length≤1500000) (hJ:∀ j ∈ docs,gh_ 6 j) (hJ':∀ j ∈ docs',gh_ 6 j)
include hd hd' hJ hJ'
theorem pu_:Ev (fun n _=>a7_ n docs keys docs' keys') (fP_ docs keys docs' keys'):=by
 refine aq_ ?_
 simp only [a7_,ab_ (ir_ (keys:=keys) (by omega) hJ),ab_ (ir_ (keys:=keys') (by omega) hJ'),an_,ac_,fP_]
 cases h1:kOk docs keys with
 |false=>exact ⟨fun _=>rfl,fun h=>(by cases h)⟩
 |true=>
  cases h2:kOk docs' keys' with
  |false=>exact ⟨fun h=>(by cases h),fun _=>⟨fun _=>rfl,fun h=>(by cases h)⟩⟩
  |true=>
   refine ⟨fun h=>(by cases h),fun _=>⟨fun h=>(by cases h),fun _ => ?_⟩⟩
   simp only [cond_true]
   have k1:=k_is h1
   have k2:=k_is h2
   have o1:=lc_ k1 hJ
   have o2:=lc_ k2 hJ'
   have l1:=gk_ (docs:=docs) (keys:=keys) (m:=docs.length)
   have l2:=gk_ (docs:=docs') (keys:=keys') (m:=docs'.length)
   generalize iW_ docs keys docs.length=old at o1 l1 ⊢
   generalize iW_ docs' keys' docs'.length=now at o2 l2 ⊢
   have hr:=jE_ (aX_ now) old old.length old [] (Nat.le_refl _)
   have hm:=jD_ (aX_ now) old old.length old []
   rw [W_dn (show old.length≤bO_ by simp only [bO_];omega)]
   simp only [List.length_nil] at hr
   refine fb_ (f:=fun n N=>a7_.loop9 n (fun xy6 xy7 xy8=>(a7_.loop17 n (fun xy21=>(some xy21)) n (xy7.length:Int) 0 xy6 xy8 xy7)) N ((old.length:Int) - 1) old now []) (qD_ (old:=old) (by omega) (fun n xy6 xy7 xy8=>(a7_.loop17 n (fun xy21=>(some xy21)) n (xy7.length:Int) 0 xy6 xy8 xy7)) _ old.length old [] rfl (Nat.le_refl _) (by omega) (by simp only [List.length_nil];omega) ?_)
   exact impl_add (by omega) (by omega) (by omega) o2 fun x hx=>o1 x (hm x hx)
theorem oV_ (hk:keys.length≤1500000) (hk':keys'.length≤1500000):Ev (fun n _=>fd_ n docs keys docs' keys') (fP_ docs keys docs' keys'):=by
 refine aq_ ?_
 simp only [fd_,ab_ (i1_ (docs:=docs) (keys:=keys) (by omega) (by omega) hJ),ab_ (i1_ (docs:=docs') (keys:=keys') (by omega) (by omega) hJ'),an_,ac_,fP_]
 cases h1:kOk docs keys with
 |false=>exact ⟨fun _=>rfl,fun h=>(by cases h)⟩
 |true=>
  cases h2:kOk docs' keys' with
  |false=>exact ⟨fun h=>(by cases h),fun _=>⟨fun _=>rfl,fun h=>(by cases h)⟩⟩
  |true=>
   refine ⟨fun h=>(by cases h),fun _=>⟨fun h=>(by cases h),fun _ => ?_⟩⟩
   simp only [cond_true]
   have k1:=k_is h1
   have k2:=k_is h2
   have o1:=lc_ k1 hJ
   have o2:=lc_ k2 hJ'
   have d1:=oy_ (gl_ k1)
   have d2:=gl_ k2
   have l1:=gk_ (docs:=docs) (keys:=keys) (m:=docs.length)
   have l2:=gk_ (docs:=docs') (keys:=keys') (m:=docs'.length)
   have hR:Ev (fun n _=>aF_ n docs keys docs' keys') (hI_ (iW_ docs keys docs.length) (iW_ docs' keys' docs'.length)):=by
    have v1:=ho_ (docs:=docs) (keys:=keys)
    have v2:=ho_ (docs:=docs') (keys:=keys')
    have e1:=oM_ k1.len
    have e2:=oM_ k2.len
    generalize iW_ docs keys docs.length=old at o1 l1 d1 v1 e1 ⊢
    generalize iW_ docs' keys' docs'.length=now at o2 l2 d2 v2 e2 ⊢
    subst e1 e2 v1 v2
    simp only [List.length_map] at l1 l2 hd hd'
    have hr:=jE_ (aX_ now) old old.length old [] (Nat.le_refl _)
    have hm:=jD_ (aX_ now) old old.length old []
    simp only [List.length_nil] at hr
    refine aq_ ?_
    simp only [aF_,bi_,List.nil_append,List.length_nil,bK_,W_dn (show old.length≤bO_ by simp only [bO_];omega)]
    refine ⟨by omega,?_⟩
    refine fb_ (f:=fun n N=>aF_.loop5 n (fun xy4 xy5 xy6 xy7 xy8 xy9=>(aF_.loop13 n (fun xy21=>(some xy21)) n xy4 xy5 xy6 xy7 0 xy8 xy9)) N (old.map (·.value)) (aX_ old) (now.map (·.value)) (aX_ now) ((old.length:Int) - 1) [] (aX_ old)) (qe_ (old:=old) (by omega) (by omega) _ _ (fun n xy4 xy5 xy6 xy7 xy8 xy9=>(aF_.loop13 n (fun xy21=>(some xy21)) n xy4 xy5 xy6 xy7 0 xy8 xy9)) _ old.length old [] (Nat.le_refl _) (Nat.le_refl _) (by omega) (by simp only [List.length_nil];omega) ?_)
    exact spec_add (by omega) (by omega) (by omega) (by omega) o2 o1 (fun x hx=>hm x hx) d2 d1
   simp only [ab_ hR,ac_]
end
def opK (o:TOp):Prop:=(∃ t:Bs,t.length≤25∧o.way=[t])∧cd_ 6 o.value≤400∧gh_ 6 o.value
theorem null_size:cd_ 6 (aa_.mk 0 0 [] [] [])≤400:=by decide
theorem iN_ {k:Nat} (h:k≤4000000):(Lib.itoa (k:Int)).length≤25:=by
 have:=Lib.itoa_length_le (k:Int) (by omega) (by omega);omega
theorem rmOp_ok {k:Nat} (h:k≤4000000):opK (rmOp k):=⟨⟨_,iN_ h,rfl⟩,null_size,hh_ 6⟩
theorem nZ_ (nk:List Int) (old:List ao_):∀ k l ops,k≤4000000→(∀ o ∈ ops,opK o)→∀ o ∈ (kM_ nk old k l ops).2,opK o
 |0,l,ops,_,h=>h
 |k+1,l,ops,hk,h=>by
  simp only [kM_]
  split
  · exact nZ_ nk old k l ops (by omega) h
  · refine nZ_ nk old k (del l k) _ (by omega) fun o ho => ?_
    rcases List.mem_append.1 ho with ho|ho
    · exact h o ho
    · rw [List.mem_singleton.1 ho];exact rmOp_ok (by omega)
theorem s9_ {l:List ao_} {i:Nat} {x:ao_} (hl:l.length≤4000000) (hi:i≤4000000) (hx:okK x):∀ o ∈ (f4_ l i x).2,opK o:=by
 have ha:∀ k,k≤4000000→opK (s8_ k x.value):=fun k hk=>⟨⟨_,iN_ hk,rfl⟩,iK_ hx,hx.2⟩
 have hr:∀ k,k≤4000000→opK (repOp k x.value):=fun k hk=>⟨⟨_,iN_ hk,rfl⟩,iK_ hx,hx.2⟩
 unfold f4_
 by_cases h1:kAt (aX_ l) x.key=(i:Int)
 · rw [if_pos h1]
   dsimp only
   cases ef_ 6 (l.getD i ao_.dflt).value x.value with
   |true=>intro o ho;cases ho
   |false=>intro o ho;rw [List.mem_singleton.1 ho];exact hr i hi
 · rw [if_neg h1]
   by_cases h2:(i:Int)<kAt (aX_ l) x.key
   · rw [if_pos h2]
     obtain ⟨p,hp,h3,h4⟩:=lW_ h2
     intro o ho
     rw [hp,Int.toNat_natCast] at ho
     rcases List.mem_cons.1 ho with e|ho
     · rw [e];exact rmOp_ok (by omega)
     · rw [List.mem_singleton.1 ho];exact ha i hi
   · rw [if_neg h2]
     intro o ho
     rw [List.mem_singleton.1 ho];exact ha i hi
theorem pZ_ {now:List ao_} {s:List ao_ × List TOp} (hnl:now.length≤1500000) (hsl:s.1.length≤1500000) (hn:∀ x ∈ now,okK x) (h:∀ o ∈ s.2,opK o):∀ i,i≤now.length→∀ o ∈ (fW_ now s i).2,opK o
 |0,_=>h
 |i+1,hi=>by
  intro o ho
  simp only [fW_] at ho
  have hL:=hl_ now s i
  rcases List.mem_append.1 ho with ho|ho
  · exact pZ_ hnl hsl hn h i (by omega) o ho
  · exact s9_ (by omega) (by omega) (hn _ (aZ_ ao_.dflt (by omega))) o ho
theorem th_ {docs docs':List aa_} {keys keys':List Int} (hd:docs.length≤1500000) (hd':docs'.length≤1500000) (hJ:∀ j ∈ docs,gh_ 6 j) (hJ':∀ j ∈ docs',gh_ 6 j):(∀ o ∈ fP_ docs keys docs' keys',opK o)∧(fP_ docs keys docs' keys').length≤docs.length+2*docs'.length:=by
 unfold fP_
 cases h1:kOk docs keys with
 |false=>exact ⟨fun o ho=>(by cases ho),Nat.zero_le _⟩
 |true=>
  cases h2:kOk docs' keys' with
  |false=>exact ⟨fun o ho=>(by cases ho),Nat.zero_le _⟩
  |true=>
   simp only [cond_true,hI_]
   have o2:=lc_ (k_is h2) hJ'
   have l1:=gk_ (docs:=docs) (keys:=keys) (m:=docs.length)
   have l2:=gk_ (docs:=docs') (keys:=keys') (m:=docs'.length)
   generalize iW_ docs keys docs.length=old at l1 ⊢
   generalize iW_ docs' keys' docs'.length=now at o2 l2 ⊢
   have hr:=jE_ (aX_ now) old old.length old [] (Nat.le_refl _)
   have hL:=hl_ now (kM_ (aX_ now) old old.length old []) now.length
   simp only [List.length_nil] at hr
   exact ⟨pZ_ (by omega) (by omega) o2 (nZ_ _ _ _ _ _ (by omega) fun o ho=>(by cases ho)) now.length (Nat.le_refl _),by omega⟩
def fm_ (name:Bs) (o:TOp):TOp:=TOp.mk o.kind (name::o.way) o.value
def eT_ (name:Bs) (l:List TOp):List TOp:=l.map (fm_ name)
def lenO (l:List TOp):Prop:=l.length≤6000000∧∀ o ∈ l,o.way.length≤1000000∧cd_ 6 o.value≤400
theorem nO_ {name:Bs} {l:List TOp} (h:lenO l):Ev (fun n _=>b1_ n name l) (eT_ name l):=by
 refine aq_ ?_
 have hl:=h.1
 have ht:l.length≤bO_:=by simp only [bO_];omega
 simp only [b1_]
 refine mb_ TOp.dflt l (fm_ name) (fun n N i (s:List TOp)=>b1_.loop4 n (fun xy2=>(some xy2)) N name l (i:Int) s) _ (fun i s hi hs F hF => ?_) ?_
 · have ho:=h.2 _ (aZ_ TOp.dflt hi)
   have hC:=fY_ 6 _ ho.2
   have hw:=ho.1
   simp only [b1_.turn4,b1_.step4,bp_,Int.toNat_natCast,W_up hi ht,cy_ hi,cc_ hi,cond_true,bk_,bi_,ab_ hC]
   exact ⟨trivial,trivial,by simp only [List.length_cons,List.length_nil];omega,trivial,by simp only [List.length_cons,List.length_nil];omega,hF⟩
 · simp only [b1_.turn4,b1_.step4,b8_,cond_false,ac_];rfl
theorem om_ {name:Bs} {l:List TOp} (h:lenO l):Ev (fun n _=>b2_ n name l) (eT_ name l):=by
 refine aq_ ?_
 have hl:=h.1
 have ht:l.length≤bO_:=by simp only [bO_];omega
 simp only [b2_]
 refine mb_ TOp.dflt l (fm_ name) (fun n N i (s:List TOp)=>b2_.loop4 n (fun xy2=>(some xy2)) N name l (l.length:Int) (i:Int) s) _ (fun i s hi hs F hF => ?_) ?_
 · have ho:=h.2 _ (aZ_ TOp.dflt hi)
   have hw:=ho.1
   have hT:Ev (fun n _=>cN_ n (l.getD i TOp.dflt).way) (l.getD i TOp.dflt).way:=aq_ (by simp only [cN_,bi_,ac_,List.nil_append,List.length_nil,and_true];omega)
   have hC:Ev (fun n _=>et_ n (l.getD i TOp.dflt)) (l.getD i TOp.dflt):=aq_ (by simp only [et_,bp_,ab_ hT,ab_ (de_ 6 _ ho.2),ac_])
   simp only [b2_.turn4,b2_.step4,bp_,ih_,Int.toNat_natCast,W_up hi ht,cy_ hi,cc_ hi,cond_true,bk_,bi_,ab_ hC]
   exact ⟨trivial,by simp only [List.length_cons,List.length_nil];omega,by simp only [List.length_cons,List.length_nil];omega,hF⟩
 · simp only [b2_.turn4,b2_.step4,b8_,cond_false,ac_];rfl
end Go.Pi
end
section
namespace Go.Pi
def d0_ (v:aJ_):Nat:=fg_ v.q v.rows.length
def cs_ (v:aJ_):List aa_:=gg_ cV_ v.q v.rows (dZ_ v) (d0_ v)
def cM_ (v:aJ_):List Int:=(List.range (d0_ v)).map fun i=>(v.rows.getD i TRow.dflt).id_
theorem f6_ (v:aJ_):d0_ v≤v.rows.length:=fK_
theorem rQ_ (v:aJ_) (i:Nat):((List.range (i+1)).map fun i=>(v.rows.getD i TRow.dflt).id_)=((List.range i).map fun i=>(v.rows.getD i TRow.dflt).id_)++[(v.rows.getD i TRow.dflt).id_]:=by
 rw [List.range_succ,List.map_append];rfl
theorem qS_ {v:aJ_} {i:Nat} (h:i<v.rows.length):(dZ_ v).getD i 0=fJ_ v.kids (v.rows.getD i TRow.dflt).id_:=fD_ (fun r:TRow=>fJ_ v.kids r.id_) TRow.dflt 0 h
section
variable {v:aJ_} (h:jM_ cap v) (hs:∀ c ∈ v.q.show_,i64 c)
include h hs
theorem jT_:Ev (fun n _=>bX_ n v) (cs_ v,cM_ v):=by
 refine aq_ ?_
 have h1:=h.1.2;have h2:=h.2.1.1;have h3:=h.2.2
 simp only [cap] at h1 h2 h3
 have hc:=jq_ (v:=v)
 have hm:=f6_ v
 have hD:=iq_ (q:=v.q) (rows:=v.rows) (kids:=dZ_ v) (by omega) hs h.2.1.top (by omega) (by simp only [bO_];omega)
 have hl:(cs_ v).length=d0_ v:=f8_
 have hD:Ev (fun n _=>bm_ n v.q v.rows (dZ_ v)) (cs_ v):=hD
 simp only [bX_,ab_ (gU_ (v:=v) (by simp only [bO_];omega) (by simp only [ey_];omega)),ab_ hD,g9_,Int.toNat_natCast,List.drop_zero,hl]
 refine ⟨⟨by omega,by omega,by omega⟩,?_⟩
 have htl:(v.rows.take (d0_ v)).length=d0_ v:=by simp;omega
 unfold cM_
 generalize cs_ v=docs at hl ⊢
 have:=eC_ (fun i=>(List.range i).map fun i=>(v.rows.getD i TRow.dflt).id_) (d0_ v) (fun n N i (s:List Int)=>bX_.loop5 n (fun xy3 xy4=>(some (xy3,xy4))) N (v.rows.take (d0_ v)) ((v.rows.take (d0_ v)).length:Int) (i:Int) docs s) (docs,(List.range (d0_ v)).map fun i=>(v.rows.getD i TRow.dflt).id_) (fun i hi F hF => ?_) ?_
 · exact this
 · rw [rQ_] at hF
   have hol:((List.range i).map fun i=>(v.rows.getD i TRow.dflt).id_).length=i:=by simp
   have hil:i<(v.rows.take (d0_ v)).length:=by omega
   have eg:(v.rows.take (d0_ v)).getD i TRow.dflt=v.rows.getD i TRow.dflt:=by rw [List.getD_eq_getElem?_getD,List.getD_eq_getElem?_getD,List.getElem?_take_of_lt hi]
   generalize ((List.range i).map fun i=>(v.rows.getD i TRow.dflt).id_)=s at hF hol ⊢
   simp only [bX_.turn5,bX_.step5,Int.toNat_natCast,eg,W_up hil (show (v.rows.take (d0_ v)).length≤bO_ by simp only [bO_];omega),cy_ hil,cc_ hil,cond_true,bk_,bi_]
   exact ⟨trivial,by simp only [List.length_cons,List.length_nil];omega,hF⟩
 · have e:(((v.rows.take (d0_ v)).length:Nat):Int)=(d0_ v:Int):=by rw [htl]
   simp only [bX_.turn5,bX_.step5,e,b8_,cond_false,ac_]
theorem h6_:Ev (fun n _=>bh_ n v) (cs_ v,cM_ v):=by
 refine aq_ ?_
 have h1:=h.1.2;have h2:=h.2.1.1;have h3:=h.2.2
 simp only [cap] at h1 h2 h3
 have hm:=f6_ v
 simp only [bh_]
 let S:Nat→List aa_ × List Int:=fun i=>(gg_ cV_ v.q v.rows (dZ_ v) i,(List.range i).map fun i=>(v.rows.getD i TRow.dflt).id_)
 have:=eC_ S (d0_ v) (fun n N i (s:List aa_ × List Int)=>bh_.loop5 n (fun xy4 xy5=>(some (xy4,xy5))) N (i:Int) v.q.table v.q.where_ v.q.order v.q.down v.q.first v.q.show_ v.q.kids v.q.kidTable v.q.kidCol v.rows v.kids s.1 s.2) (cs_ v,cM_ v) (fun i hi F hF => ?_) ?_
 · exact this
 · have hir:i<v.rows.length:=by omega
   simp only [S,ku_,rQ_,qS_ hir] at hF ⊢
   have hol:=f8_ (g:=cV_) (q:=v.q) (rows:=v.rows) (kids:=dZ_ v) (m:=i)
   have hol2:((List.range i).map fun i=>(v.rows.getD i TRow.dflt).id_).length=i:=by simp
   generalize ((List.range i).map fun i=>(v.rows.getD i TRow.dflt).id_)=s2 at hF hol2 ⊢
   generalize gg_ cV_ v.q v.rows (dZ_ v) i=s1 at hF hol ⊢
   have e0:ap_.mk v.q.table v.q.where_ v.q.order v.q.down v.q.first v.q.show_ v.q.kids v.q.kidTable v.q.kidCol=v.q:=rfl
   have e1:aJ_.mk v.q v.rows v.kids=v:=rfl
   have hK:=i4_ (v:=v) (id:=(v.rows.getD i TRow.dflt).id_) (by simp only [bO_];omega)
   have hrow:=gz_ h.2.1.top i
   have hRd:Ev (fun n _=>eq_ n v.q (v.rows.getD i TRow.dflt) (fJ_ v.kids (v.rows.getD i TRow.dflt).id_)) (cV_ (gK_ v.q (v.rows.getD i TRow.dflt) (fJ_ v.kids (v.rows.getD i TRow.dflt).id_))) :=
    aq_ (by simp only [eq_,bp_,ab_ (i2_ (q:=v.q) (by omega) hs hrow),ab_ (lR_ (k6_ (q:=v.q) (by omega) hs 6)),ac_])
   have hlt:decide ((i:Int)<(fg_ v.q v.rows.length:Int))=true:=decide_eq_true (by unfold d0_ at hi;omega)
   simp only [bh_.turn5,bh_.step5,e0,e1,bp_,Int.toNat_natCast,W_up hir (show v.rows.length≤bO_ by simp only [bO_];omega),ab_ fh_,hlt,cc_ hir,cond_true,bk_,ab_ hK,ab_ hRd,bi_]
   exact ⟨trivial,trivial,by simp only [List.length_cons,List.length_nil];omega,trivial,by simp only [List.length_cons,List.length_nil];omega,hF⟩
 · have e0:ap_.mk v.q.table v.q.where_ v.q.order v.q.down v.q.first v.q.show_ v.q.kids v.q.kidTable v.q.kidCol=v.q:=rfl
   have hlt:decide ((d0_ v:Int)<(fg_ v.q v.rows.length:Int))=false:=decide_eq_false (by unfold d0_;omega)
   simp only [bh_.turn5,bh_.step5,e0,ab_ fh_,hlt,cond_false,ac_]
   rfl
theorem gw_:∀ j ∈ cs_ v,gh_ 6 j:=by
 have h1:=h.1.2
 simp only [cap] at h1
 intro j hj
 obtain ⟨i,_,e⟩:=List.mem_map.1 hj
 rw [←e]
 unfold cV_
 cases bw_ (gK_ v.q (v.rows.getD i TRow.dflt) ((dZ_ v).getD i 0)) with
 |true=>exact k6_ (by omega) hs 6
 |false=>exact hh_ 6
end
theorem ft_ (v:aJ_):(cs_ v).length=d0_ v:=f8_
theorem nJ_ (v:aJ_):(cM_ v).length=d0_ v:=by unfold cM_;simp
def hN_ (a b:aJ_):List TOp:=cond (!decide (a.rows.length=b.rows.length)) [TOp.mk 3 [nmCount] (cV_ (hf_ b.rows.length))] []
def cR_ (a b:aJ_):List TOp:=cond (fG_ a.q b.q) (hN_ a b++eT_ cZ_ (fP_ (cs_ a) (cM_ a) (cs_ b) (cM_ b))) []
theorem oo_ {n:Nat}:Ev (fun m _=>e4_ m (n:Int)) (cV_ (hf_ n)):=by
 refine aq_ ?_
 have hl:=jN_ (n:=(n:Int)) 6
 unfold hf_ at hl ⊢
 simp only [e4_,bp_,ab_ (jJ_ hl),ac_]
theorem nP_ {n:Nat}:Ev (fun m _=>eX_ m (n:Int)) (cV_ (hf_ n)):=by
 refine aq_ ?_
 have:=dM_ (jN_ (n:=(n:Int)) 6)
 unfold cV_
 unfold hf_ at this ⊢
 simp only [eX_,ab_ this,an_,ac_,gr_]
 cases bw_ (aa_.mk 2 (n:Int) [] [] [])<;>simp
section
variable {a b:aJ_} (ha:jM_ cap a) (hb:jM_ cap b) (hsa:∀ c ∈ a.q.show_,i64 c) (hsb:∀ c ∈ b.q.show_,i64 c)
include ha hb hsa hsb
theorem lz_:lenO (fP_ (cs_ a) (cM_ a) (cs_ b) (cM_ b))∧(∀ o ∈ fP_ (cs_ a) (cM_ a) (cs_ b) (cM_ b),opK o)∧(fP_ (cs_ a) (cM_ a) (cs_ b) (cM_ b)).length≤a.rows.length+2*b.rows.length:=by
 have h1:=ha.2.1.1;have h2:=hb.2.1.1
 simp only [cap] at h1 h2
 have:=f6_ a
 have:=f6_ b
 obtain ⟨k1,k2⟩:=th_ (keys:=cM_ a) (keys':=cM_ b) (by rw [ft_];omega) (by rw [ft_];omega) (gw_ ha hsa) (gw_ hb hsb)
 rw [ft_,ft_] at k2
 refine ⟨⟨by omega,fun o ho=>⟨?_,(k1 o ho).2.1⟩⟩,k1,by omega⟩
 obtain ⟨t,_,e⟩:=(k1 o ho).1
 rw [e];exact (by decide:1≤1000000)
theorem hd_:Ev (fun n _=>c5_ n a b) (cR_ a b):=by
 refine aq_ ?_
 have h1:=ha.2.1.1;have h2:=hb.2.1.1
 simp only [cap] at h1 h2
 have n1:=f6_ a
 have n2:=f6_ b
 obtain ⟨r1,_,r3⟩:=lz_ ha hb hsa hsb
 have hR:=oV_ (docs:=cs_ a) (keys:=cM_ a) (docs':=cs_ b) (keys':=cM_ b) (by rw [ft_];omega) (by rw [ft_];omega) (gw_ ha hsa) (gw_ hb hsb) (by rw [nJ_];omega) (by rw [nJ_];omega)
 have hU:=nO_ (name:=cZ_) r1
 have hq:p9_ bO_ a.q:=⟨Nat.le_trans ha.1.1 (by decide),Nat.le_trans ha.1.2 (by decide)⟩
 have hUl:(eT_ cZ_ (fP_ (cs_ a) (cM_ a) (cs_ b) (cM_ b))).length=(fP_ (cs_ a) (cM_ a) (cs_ b) (cM_ b)).length:=List.length_map _
 simp only [c5_,ab_ (j7_ hq),ne_,an_,bp_,ab_ nP_,ab_ (h6_ ha hsa),ab_ (h6_ hb hsb),ab_ hR,ab_ hU,bi_,ac_,List.nil_append,List.length_nil,cR_,hN_]
 cases fG_ a.q b.q with
 |false=>exact ⟨fun _=>rfl,fun h=>(by cases h)⟩
 |true=>
  refine ⟨fun h=>(by cases h),fun _=>⟨fun hc=>⟨?_,?_,?_⟩,fun hc=>⟨?_,?_⟩⟩⟩
  · simp only [List.length_cons,List.length_nil];omega
  · simp only [List.length_cons,List.length_nil];omega
  · rw [hc];rfl
  · omega
  · rw [hc];rfl
theorem hj_:Ev (fun n _=>c6_ n a b) (cR_ a b):=by
 refine aq_ ?_
 have h1:=ha.2.1.1;have h2:=hb.2.1.1
 simp only [cap] at h1 h2
 have n1:=f6_ a
 have n2:=f6_ b
 obtain ⟨r1,_,r3⟩:=lz_ ha hb hsa hsb
 have hR:=pu_ (docs:=cs_ a) (keys:=cM_ a) (docs':=cs_ b) (keys':=cM_ b) (by rw [ft_];omega) (by rw [ft_];omega) (gw_ ha hsa) (gw_ hb hsb)
 have hU:=om_ (name:=cZ_) r1
 have hq:p9_ bO_ a.q:=⟨Nat.le_trans ha.1.1 (by decide),Nat.le_trans ha.1.2 (by decide)⟩
 have hUl:(eT_ cZ_ (fP_ (cs_ a) (cM_ a) (cs_ b) (cM_ b))).length=(fP_ (cs_ a) (cM_ a) (cs_ b) (cM_ b)).length:=List.length_map _
 simp only [c6_,ab_ (fT_ hq),ne_,an_,bp_,ab_ oo_,ab_ (jT_ ha hsa),ab_ (jT_ hb hsb),ab_ hR,ab_ hU,bi_,ac_,List.nil_append,List.length_nil,cR_,hN_]
 cases fG_ a.q b.q with
 |false=>exact ⟨fun _=>rfl,fun h=>(by cases h)⟩
 |true=>
  refine ⟨fun h=>(by cases h),fun _=>⟨fun hc=>⟨?_,?_,?_⟩,fun hc=>⟨?_,?_⟩⟩⟩
  · simp only [List.length_cons,List.length_nil];omega
  · simp only [List.length_cons,List.length_nil];omega
  · rw [hc];rfl
  · omega
  · rw [hc];rfl
theorem ik_ (hab:a.rows.length+b.rows.length≤1500000):ng_ (cR_ a b):=by
 obtain ⟨r1,r2,r3⟩:=lz_ ha hb hsa hsb
 unfold cR_
 cases fG_ a.q b.q with
 |false=>exact ⟨Nat.zero_le _,fun o ho=>(by cases ho)⟩
 |true=>
  have hUl:(eT_ cZ_ (fP_ (cs_ a) (cM_ a) (cs_ b) (cM_ b))).length=(fP_ (cs_ a) (cM_ a) (cs_ b) (cM_ b)).length:=List.length_map _
  have hcl:(hN_ a b).length≤1:=by unfold hN_;cases (!decide (a.rows.length=b.rows.length))<;>simp
  refine ⟨by simp only [cond_true,List.length_append];omega,fun o ho => ?_⟩
  rw [cond_true] at ho
  rcases List.mem_append.1 ho with ho|ho
  · unfold hN_ at ho
    cases hc:(!decide (a.rows.length=b.rows.length))<;>rw [hc] at ho
    · cases ho
    · rw [List.mem_singleton.1 ho]
      refine ⟨⟨by show 1≤bO_;decide,fun x hx => ?_⟩,?_⟩
      · rw [List.mem_singleton.1 hx];show 5≤bO_;decide
      · show gh_ 6 (cV_ (hf_ b.rows.length))
        unfold cV_
        cases bw_ (hf_ b.rows.length) with
        |true=>exact jN_ 6
        |false=>exact hh_ 6
  · obtain ⟨o',ho',e⟩:=List.mem_map.1 ho
    obtain ⟨⟨t,ht,e2⟩,_,hv⟩:=r2 o' ho'
    rw [←e]
    refine ⟨⟨?_,fun x hx => ?_⟩,hv⟩
    · show (cZ_::o'.way).length≤bO_
      rw [e2];show 2≤bO_;decide
    · have hx:x ∈ cZ_::o'.way:=hx
      rw [e2] at hx
      rcases List.mem_cons.1 hx with e3|hx
      · rw [e3];show 4≤bO_;decide
      · rw [List.mem_singleton.1 hx];simp only [bO_];omega
end
end Go.Pi
end
section
namespace Go.Pi
theorem j8_ {l:List TOp} (h:ng_ l):Ev (fun n _=>a4_ n l) (eK_ l):=by
 refine aq_ ?_
 have hl:=h.1
 have ht:l.length≤bO_:=by simp only [bO_];omega
 have hb:iZ_ l≤l.length:=List.findIdx_le_length
 simp only [a4_]
 have:=eC_ (fun i=>(l.take i).map en_) (iZ_ l) (fun n N i (o:List aa_)=>a4_.loop4 n (fun xy2 xy3 xy4 xy5=>((dU_ n (aa_.mk xy2 xy3 xy4 xy5 [])).bind fun xr6=>(cond (xr6 == []) (some (-1)) (some (xr6.length:Int))))) N l (i:Int) 4 0 [] o) (eK_ l) (fun i hi F hF => ?_) ?_
 · exact this
 · have hi2:i<l.length:=by omega
   have hx:=i3_ (h.2 _ (aZ_ TOp.dflt hi2))
   rw [rC_ en_ TOp.dflt hi2] at hF
   have hol:((l.take i).map en_).length≤i:=by simp;omega
   generalize (l.take i).map en_=o at hF hol ⊢
   simp only [a4_.turn4,a4_.step4,bp_,ih_,Int.toNat_natCast,W_up hi2 ht,cy_ hi2,cc_ hi2,nC_ hi,cond_true,cond_false,bk_,bi_,ab_ hx]
   exact ⟨trivial,by simp;omega,hF⟩
 · by_cases hp:iZ_ l<l.length
   · have hx:=i3_ (h.2 _ (aZ_ TOp.dflt hp))
     simp only [a4_.turn4,a4_.step4,bp_,ih_,Int.toNat_natCast,cy_ hp,cc_ hp,bad_at hp,cond_true,bk_,ab_ hx,ac_]
     unfold eK_
     rw [decide_eq_true hp]
     exact ⟨trivial,rfl⟩
   · have e:iZ_ l=l.length:=by omega
     have hE:=i5_ (rI_ h)
     unfold eK_
     rw [decide_eq_false hp,cond_false]
     unfold oI_ at hE ⊢
     rw [e,List.take_length]
     simp only [a4_.turn4,a4_.step4,b8_,cond_false,ab_ hE,an_,ac_]
     generalize hM_ _=s
     cases (s == [])<;>simp
end Go.Pi
end
section
namespace Go.Pi
end Go.Pi
end
section
namespace Go.Pi
def gX_ (a b:aJ_):Bool:=decide (((cR_ a b).length:Int)≤40)&&(decide (eK_ (cR_ a b)≥0)&&decide (eK_ (cR_ a b)<((hM_ (dh_ b)).length:Int)))
section
variable {a b:aJ_} (ha:jM_ cap a) (hb:jM_ cap b) (hsa:∀ c ∈ a.q.show_,i64 c) (hsb:∀ c ∈ b.q.show_,i64 c) (hab:a.rows.length+b.rows.length≤1500000)
include ha hb hsa hsb hab
theorem lo_:Ev (fun n _=>d6_ n a b) (gX_ a b):=by
 refine aq_ ?_
 have hP:=j8_ (ik_ ha hb hsa hsb hab)
 have hE:=i5_ (fq_ hb hsb)
 simp only [d6_,bp_,ab_ (hd_ ha hb hsa hsb),ab_ hP,an_,ab_ (fx_ hb hsb),ab_ hE,ac_,gX_]
 cases decide (((cR_ a b).length:Int)≤40)<;>cases decide (eK_ (cR_ a b)≥0)<;>simp
theorem l6_:Ev (fun n _=>ed_ n a b) (gX_ a b):=by
 refine aq_ ?_
 have hP:=ki_ (ik_ ha hb hsa hsb hab)
 have hE:=g8_ (fq_ hb hsb)
 simp only [ed_,bp_,ab_ (hj_ ha hb hsa hsb),ab_ hP,an_,ab_ (dV_ hb hsb),ab_ hE,ac_,gX_]
 cases decide (((cR_ a b).length:Int)≤40)<;>cases decide (eK_ (cR_ a b)≥0)<;>simp
end
end Go.Pi
end
section
namespace Go.Pi
def gL_ (a b:aa_):Bool:=bw_ a&&(bw_ b&&ef_ 6 a b)
theorem gc_ {a b:aa_} (ha:gh_ 6 a) (hb:gh_ 6 b):Ev (fun n _=>da_ n a b) (gL_ a b):=by
 refine aq_ ?_
 simp only [da_,bp_,ab_ (dx_ ha),ab_ (dx_ hb),an_,ac_,gL_]
 cases h1:bw_ a with
 |false=>simp
 |true=>
  have hd:kn_ 6 a:=fs_ 6 a (of_decide_eq_true h1)
  simp only [ab_ (gt_ 6 a b hd ha),ac_]
  cases bw_ b<;>simp
theorem kL_ {a b:aa_} (ha:gh_ 6 a) (hb:gh_ 6 b):Ev (fun n _=>dD_ n a b) (gL_ a b):=by
 refine aq_ ?_
 simp only [dD_,bp_,ab_ (dM_ ha),ab_ (dM_ hb),an_,ac_,gL_]
 cases h1:bw_ a with
 |false=>simp
 |true=>
  have hd:kn_ 6 a:=fs_ 6 a (of_decide_eq_true h1)
  simp only [ab_ (fX_ 6 a b hd ha),ac_]
  cases bw_ b<;>simp
end Go.Pi
end
section
namespace Go.Pi
end Go.Pi
end
section
namespace Go.Pi
def FDue (x:bS_):Bool:=!x.began || !gL_ (dh_ x.view) (dh_ x.last)
def intsS (x:bS_):Prop:=(∀ c ∈ x.view.q.show_,i64 c)∧∀ c ∈ x.last.q.show_,i64 c
theorem h7_ {x:bS_} (h:rG_ cap x) (hi:intsS x):Ev (fun n _=>dL_ n x) (FDue x):=by
 refine aq_ ?_
 simp only [dL_,bp_,ab_ (fx_ h.1 hi.1),ab_ (fx_ h.2 hi.2),ab_ (kL_ (fq_ h.1 hi.1) (fq_ h.2 hi.2)),an_,ac_,FDue]
 cases x.began<;>simp
theorem fC_ {x:bS_} (h:rG_ cap x) (hi:intsS x):Ev (fun n _=>df_ n x) (FDue x):=by
 refine aq_ ?_
 simp only [df_,bp_,ab_ (dV_ h.1 hi.1),ab_ (dV_ h.2 hi.2),ab_ (gc_ (fq_ h.1 hi.1) (fq_ h.2 hi.2)),an_,ac_,FDue]
 cases x.began<;>simp
end Go.Pi
end
section
namespace Go.Pi
end Go.Pi
end
section
namespace Go.Pi
def noEv:c0_:=c0_.mk 0 0 0 (aa_.mk 0 0 [] [] []) []
def FEvOf (x:bS_):c0_:=cond (x.began&&gX_ x.last x.view) (c0_.mk 2 x.version x.lastVersion (aa_.mk 0 0 [] [] []) (cR_ x.last x.view)) (c0_.mk 1 x.version 0 (dh_ x.view) [])
def jb_ (x:bS_):bS_:=bS_.mk x.view x.version x.view x.version true
def eE_ (x:bS_):bS_ × c0_ × Bool:=cond (FDue x) (jb_ x,FEvOf x,true) (x,noEv,false)
section
variable {x:bS_} (h:rG_ cap x) (hi:intsS x) (hr:x.last.rows.length+x.view.rows.length≤1500000)
include h hi hr
theorem hS_:Ev (fun n _=>c9_ n x) (eE_ x):=by
 have hR:rG_ ey_ x:=⟨h.1.upto (by decide),h.2.upto (by decide)⟩
 refine aq_ ?_
 simp only [c9_,bp_,po_ hR,ab_ (h7_ h hi),an_,ab_ (fx_ h.1 hi.1),ab_ (lo_ h.2 h.1 hi.2 hi.1 hr),ab_ (hd_ h.2 h.1 hi.2 hi.1),in_ hR.1,ac_,eE_,jb_,FEvOf,noEv]
 cases FDue x<;>cases x.began<;>cases gX_ x.last x.view<;>simp
theorem kU_:Ev (fun n _=>dG_ n x) (eE_ x):=by
 have hR:rG_ ey_ x:=⟨h.1.upto (by decide),h.2.upto (by decide)⟩
 refine aq_ ?_
 simp only [dG_,bp_,s1_ hR,ab_ (fC_ h hi),an_,ab_ (dV_ h.1 hi.1),ab_ (l6_ h.2 h.1 hi.2 hi.1 hr),ab_ (hj_ h.2 h.1 hi.2 hi.1),ko_ hR.1,ac_,eE_,jb_,FEvOf,noEv]
 cases FDue x<;>cases x.began<;>cases gX_ x.last x.view<;>simp
end
end Go.Pi
end
section
namespace Go.Pi
def dI_ (v:aJ_) (l:List aS_):aJ_:=l.foldl gN_ v
theorem rf_ {c:Nat} {v:aJ_} {x:aS_} (h:jM_ c v) (hx:qa_ c x):jM_ (c+2) (gN_ v x):=by
 have hr:hg_ (c+1) (kG_ v x):=by
  have h1:=my_ (id:=x.old.id_) h.2.1
  unfold kG_
  cases (x.table == v.q.table)<;>cases (x.has&&e8_ v.q x.new)<;>cases x.had<;>simp only [cond_true,cond_false]
  all_goals (first|exact la_ h1 hx.2|exact la_ h.2.1 hx.2|exact h1.upto (by omega)|exact h.2.1.upto (by omega))
 have hk:(nI_ v x).length≤c+2:=by
  have h0:=h.2.2
  have h1:=lb_ (kids:=v.kids) (id:=fu_ x.old v.q.kidCol) (by_:=-1)
  have h2:=lb_ (kids:=v.kids) (id:=fu_ x.new v.q.kidCol) (by_:=1)
  have h3:=lb_ (kids:=FKid v.kids (fu_ x.old v.q.kidCol) (-1)) (id:=fu_ x.new v.q.kidCol) (by_:=1)
  unfold nI_
  cases (v.q.kids&&(x.table == v.q.kidTable))<;>cases x.has<;>cases x.had<;>simp only [cond_true,cond_false]<;>omega
 exact ⟨⟨Nat.le_trans h.1.1 (by omega),Nat.le_trans h.1.2 (by omega)⟩,hr.upto (by omega),hk⟩
theorem kI_ {c:Nat} {v:aJ_} {l:List aS_} (h:jM_ c v) (hl:∀ x ∈ l,qa_ c x):jM_ (c+2*l.length) (dI_ v l):=by
 have key:∀ (l:List aS_) (d:Nat) (v:aJ_),c≤d→jM_ d v→(∀ x ∈ l,qa_ c x)→jM_ (d+2*l.length) (dI_ v l):=by
  intro l
  induction l with
  |nil=>intro d v _ h _;exact h
  |cons x l ih=>
   intro d v hd h hl
   have hx:=hl x (List.mem_cons_self ..)
   have:=ih (d+2) (gN_ v x) (by omega) (rf_ h ⟨Nat.le_trans hx.1 hd,Nat.le_trans hx.2 hd⟩) (fun y hy=>hl y (List.mem_cons_of_mem _ hy))
   simp only [List.length_cons]
   rw [show d+2*(l.length+1)=d+2+2*l.length by omega]
   exact this
 exact key l c v (Nat.le_refl _) h hl
section
variable {v:aJ_} {l:List aS_} (h:jM_ cap v) (hl:l.length≤cap) (hx:∀ x ∈ l,qa_ cap x)
include h hl hx
omit hl in
theorem pQ_ {i:Nat} (hi:i<l.length):jM_ (cap+2*i) (dI_ v (l.take i))∧qa_ (cap+2*i) (l.getD i aS_.dflt)∧dI_ v (l.take (i+1))=gN_ (dI_ v (l.take i)) (l.getD i aS_.dflt):=by
 refine ⟨?_,?_,?_⟩
 · have:=kI_ (l:=l.take i) h fun x h=>hx x (List.mem_of_mem_take h)
   rwa [List.length_take,Nat.min_eq_left (by omega)] at this
 · have:=hx _ (aZ_ aS_.dflt hi)
   exact ⟨Nat.le_trans this.1 (by omega),Nat.le_trans this.2 (by omega)⟩
 · rw [cS_ aS_.dflt hi];simp only [dI_,List.foldl_append,List.foldl_cons,List.foldl_nil]
theorem jd_:Ev (fun n _=>aT_ n v l) (dI_ v l):=by
 refine aq_ ?_
 simp only [cap] at hl
 have ht:l.length≤bO_:=by simp only [bO_];omega
 simp only [aT_,in_ (h.upto (show cap≤ey_ by decide))]
 refine eC_ (fun i=>dI_ v (l.take i)) l.length (fun n N i (s:aJ_)=>aT_.loop4 n (fun xy3 xy4 xy5 xy6 xy7 xy8 xy9 xy10 xy11 xy12 xy13 xy14 xy15 xy16 xy17 xy18 xy19 xy20=>(some (aJ_.mk (ap_.mk xy10 xy17 xy11 xy12 xy13 xy18 xy14 xy15 xy16) xy19 xy20))) N l (i:Int) 0 0 false 0 false 0 0 s.q.table s.q.order s.q.down s.q.first s.q.kids s.q.kidTable s.q.kidCol s.q.where_ s.q.show_ s.rows s.kids) _ (fun i hi F hF => ?_) ?_
 · obtain ⟨a,b,e⟩:=pQ_ h hx hi
   have hs:=jy_ a b (by simp only [ey_,cap];omega)
   rw [e] at hF
   simp only [aT_.turn4,aT_.step4,Int.toNat_natCast,W_up hi ht,an_,bk_,cy_ hi,cc_ hi]
   refine ⟨fun _=>⟨trivial,?_⟩,fun h=>by cases h⟩
   exact (ab_ hs).2 hF
 · simp only [aT_.turn4,aT_.step4,b8_,cond_false,ac_,List.take_length]
end
def oG_ (x:bS_) (l:List aS_):bS_:={ x with view:=dI_ x.view l,version:=W (x.version+1) }
section
variable {x:bS_} {l:List aS_} (h:rG_ cap x) (hl:l.length≤cap) (hx:∀ x ∈ l,qa_ cap x)
include h hl hx
omit hl hx in
theorem rG_.toR:rG_ ey_ x:=⟨h.1.upto (by decide),h.2.upto (by decide)⟩
theorem mF_:Ev (fun n _=>dT_ n x l) (oG_ x l):=by
 refine aq_ ?_
 simp only [dT_,po_ (rG_.toR h),ab_ (jd_ h.1 hl hx),ac_]
 rfl
end
end Go.Pi
end
section
namespace Go.Pi
def iU_ (s:ar_) (q:ap_):bS_ × Bool:=cond (fo_ s q).2 (bS_.mk (fo_ s q).1 s.version oN_ 0 false,true) (bS_.mk oN_ 0 oN_ 0 false,false)
theorem lp_ {s:ar_} {q:ap_} {c:Nat} (hl:fR_ c s) (hq:p9_ 100000 q) (hc:c≤100000):Ev (fun n _=>d7_ n s q) (iU_ s q):=by
 refine aq_ ?_
 simp only [d7_,ab_ (g2_ hl hq hc),an_,ac_]
 unfold iU_
 cases (fo_ s q).2<;>simp [oN_,zeroQ]
theorem js_ (c:Nat):jM_ c oN_:=⟨⟨Nat.zero_le _,Nat.zero_le _⟩,⟨Nat.zero_le _,fun x hx=>(by cases hx)⟩,Nat.zero_le _⟩
theorem ms_ {s:ar_} {q:ap_} {c:Nat} (hl:fR_ c s) (hq:p9_ c q):jM_ (c+c) (fo_ s q).1:=by
 have hT:∀ i,hg_ c (s.tables.getD i []):=fun i=>f1_ hl.2.2 i
 unfold fo_
 cases FSQ s q
 · exact js_ _
 · refine ⟨⟨Nat.le_trans hq.1 (Nat.le_add_right _ _),Nat.le_trans hq.2 (Nat.le_add_right _ _)⟩,?_,?_⟩
   · show hg_ (c+c) (e7_ s q)
     unfold e7_
     cases FSQ s q
     · exact ⟨Nat.zero_le _,fun x hx=>(by cases hx)⟩
     · have:=mt_ (c:=c) (q:=q) (rows:=s.tables.getD q.table.toNat []) (o:=[]) (k:=0) ⟨Nat.zero_le _,fun x hx=>(by cases hx)⟩ (hT _).2
       exact this.upto (by have:=(hT q.table.toNat).1;omega)
   · show (hK_ s q).length≤c+c
     unfold hK_
     cases q.kids
     · exact Nat.zero_le _
     · have:=mw_ (q:=q) (rows:=s.tables.getD q.kidTable.toNat []) (k:=[])
       have:=(hT q.kidTable.toNat).1
       simp only [cond_true,List.length_nil] at *
       omega
structure SsIn (c:Nat) (x:bS_):Prop where
 len:rG_ c x
 v:∀ y ∈ x.view.q.show_,0≤y∧y≤1000
 l:∀ y ∈ x.last.q.show_,0≤y∧y≤1000
theorem SsIn.ints {c:Nat} {x:bS_} (h:SsIn c x):intsS x:=⟨fun y hy=>by have:=h.v y hy;unfold i64;omega,fun y hy=>by have:=h.l y hy;unfold i64;omega⟩
theorem SsIn.upto {c d:Nat} {x:bS_} (h:SsIn c x) (hc:c≤d):SsIn d x:=⟨⟨h.len.1.upto hc,h.len.2.upto hc⟩,h.v,h.l⟩
theorem sr_ {s:ar_} {q:ap_} {c:Nat} (hs:fR_ c s) (hq:QIn q) (hc:1010≤c):SsIn (c+c) (iU_ s q).1:=by
 have hV:=ms_ hs (q:=q) ⟨Nat.le_trans hq.len.1 hc,Nat.le_trans hq.len.2 hc⟩
 unfold iU_
 cases h2:(fo_ s q).2
 · exact ⟨⟨js_ _,js_ _⟩,fun y hy=>(by cases hy),fun y hy=>(by cases hy)⟩
 · refine ⟨⟨hV,js_ _⟩,?_,fun y hy=>(by cases hy)⟩
   show ∀ y ∈ (fo_ s q).1.q.show_,_
   unfold fo_ at h2 ⊢
   cases h:FSQ s q<;>rw [h] at h2
   · cases h2
   · exact hq.show_
theorem qh_ {x:bS_} {c:Nat} (h:SsIn c x):SsIn c (eE_ x).1:=by
 unfold eE_
 cases FDue x
 · exact h
 · exact ⟨⟨h.len.1,h.len.1⟩,h.v,h.v⟩
theorem changes_q (l:List aS_) (v:aJ_):(dI_ v l).q=v.q:=by
 unfold dI_
 induction l generalizing v with
 |nil=>rfl
 |cons x l ih=>rw [List.foldl_cons,ih];rfl
theorem sessGo_in {x:bS_} {l:List aS_} {c:Nat} (h:SsIn c x) (hl:∀ y ∈ l,qa_ c y) (h5:l.length≤5):SsIn (c+10) (oG_ x l):=by
 refine ⟨⟨(kI_ h.len.1 hl).upto (by omega),h.len.2.upto (by omega)⟩,?_,h.l⟩
 show ∀ y ∈ (dI_ x.view l).q.show_,_
 rw [changes_q];exact h.v
theorem SsIn.take {c:Nat} {x:bS_} (h:SsIn c x) (hc:c≤700000):Ev (fun n _=>c9_ n x) (eE_ x) :=
 hS_ ⟨h.len.1.upto (by simp only [cap];omega),h.len.2.upto (by simp only [cap];omega)⟩ h.ints (by have:=h.len.1.2.1.1;have:=h.len.2.2.1.1;omega)
theorem SsIn.go {c:Nat} {x:bS_} {l:List aS_} (h:SsIn c x) (hc:c≤700000) (hl:∀ y ∈ l,qa_ c y) (h5:l.length≤5):Ev (fun n _=>dT_ n x l) (oG_ x l) :=
 mF_ ⟨h.len.1.upto (by simp only [cap];omega),h.len.2.upto (by simp only [cap];omega)⟩ (by simp only [cap];omega) fun y hy=>⟨Nat.le_trans (hl y hy).1 (by simp only [cap];omega),Nat.le_trans (hl y hy).2 (by simp only [cap];omega)⟩
theorem sess_etaD (x:bS_):bS_.mk x.view x.version x.last x.lastVersion x.began=x:=rfl
theorem view_etaD (x:aJ_):aJ_.mk x.q x.rows x.kids=x:=rfl
end Go.Pi
end
section
namespace Go.Pi
end Go.Pi
end
section
namespace Go.Pi
end Go.Pi
end
section
namespace Go.Pi
theorem kR_ {c:al_} (hc:DwOk c):Ans (fun n _=>bW_ n c) fun r=>StIn 1100 r.1∧(jM_ 3000 r.2.1∧∀ y ∈ r.2.1.q.show_,0≤y∧y≤1000)∧DwOk r.2.2:=by
 refine cG_ ?_
 simp only [bW_]
 refine aO_ (gD_ hc) fun r hr => ?_
 simp only [bW_.tail1,fn_,eV_,ci_]
 refine aO_ (gC_ hr.2 hr.1.col) fun q hq => ?_
 have hN:=g2_ (s:=r.1) (q:=q.1) hr.1.len ⟨Nat.le_trans hq.1.len.1 (by decide),Nat.le_trans hq.1.len.2 (by decide)⟩ (by decide)
 rw [bC_ hN,bg_]
 refine ⟨hr.1.upto (by decide),⟨(ms_ hr.1.len hq.1.len).upto (by decide),?_⟩,hq.2⟩
 show ∀ y ∈ (fo_ r.1 q.1).1.q.show_,_
 unfold fo_
 cases FSQ r.1 q.1
 · exact fun y hy=>(by cases hy)
 · exact hq.1.show_
end Go.Pi
end
section
namespace Go.Pi
theorem o0_ {s:aI_} (h1:1≤s.cols.length) (h3:s.cols.length≤3) (h:∀ x ∈ s.cols,1≤x∧x≤4):dY_ s=true:=by
 unfold dY_
 rw [Bool.and_eq_true]
 exact ⟨cH_.2 fun i hi=>dl_.2 (h _ (aZ_ 0 hi)),dl_.2 (by omega)⟩
structure ScIs (s:aI_):Prop where
 one:1≤s.cols.length
 three:s.cols.length≤3
 col:∀ x ∈ s.cols,1≤x∧x≤4
theorem fe_ {s:aI_} (h:dY_ s=true):ScIs s:=by
 unfold dY_ at h
 rw [Bool.and_eq_true] at h
 have h2:=e0_ h.2
 refine ⟨by omega,by omega,fun x hx => ?_⟩
 obtain ⟨i,hi,rfl⟩:=List.mem_iff_getElem.1 hx
 have:=e0_ (cH_.1 h.1 i hi)
 rwa [List.getD_eq_getElem?_getD,List.getElem?_eq_getElem hi,Option.getD_some] at this
theorem kN_ {c:al_} (hc:DwOk c):Ans (fun n _=>ay_ n c) fun r=>dY_ r.1=true∧DwOk r.2:=by
 have key:∀ (m i:Nat) (c:al_) (o:List Int),i+m=3→DwOk c→o.length=i→(∀ x ∈ o,1≤x∧x≤4) →
   Ans (fun n N=>ay_.loop4 n (fun xy3 xy4 xy5 xy6=>(some ((aI_.mk xy6),(al_.mk xy3 xy4 xy5)))) N (i:Int) c.b c.i c.h o) fun r=>dY_ r.1=true∧DwOk r.2:=by
  intro m
  induction m with
  |zero=>
   intro i c o hi hc ho hx
   refine cp_ ?_
   simp only [ay_.turn4,ay_.step4,ci_]
   refine aO_ (a9_ hc) fun r hr => ?_
   have h1:=hr.lo;have h2:=hr.hi
   rw [Wn (by omega) (by omega),decide_eq_false (by omega)]
   simp only [cond_false,ci_,bg_]
   exact ⟨o0_ (by show 1≤o.length;omega) (by show o.length≤3;omega) hx,hr.cur⟩
  |succ m ih=>
   intro i c o hi hc ho hx
   refine cp_ ?_
   simp only [ay_.turn4,ay_.step4,ci_]
   refine aO_ (a9_ hc) fun r hr => ?_
   have h1:=hr.lo;have h2:=hr.hi
   simp only [cr_,ci_,bg_]
   refine ⟨fun _=>aO_ (a9_ hr.cur) fun r2 hr2 => ?_,fun hn => ?_⟩
   · have h1:=hr2.lo;have h2:=hr2.hi
     have e1:W ((i:Int)+1)=((i+1:Nat):Int):=by rw [Wn (by omega) (by omega)];rfl
     rw [Wn (x:=1+r2.1) (by omega) (by omega),e1]
     simp only [fF_]
     refine ⟨by simp;omega,ih (i+1) r2.2 _ (by omega) hr2.cur (by simp;omega) fun x hx' => ?_⟩
     rcases List.mem_append.1 hx' with h|h
     · exact hx x h
     · rw [List.mem_singleton.1 h];omega
   · rw [Wn (by omega) (by omega)] at hn
     have hn:=of_decide_eq_false hn
     exact ⟨o0_ (by show 1≤o.length;omega) (by show o.length≤3;omega) hx,hr.cur⟩
 refine cG_ ?_
 simp only [ay_]
 exact ew_ (key 3 0 c [] rfl hc rfl fun x hx=>(by cases hx))
structure RowD (w:Int) (r:TRow):Prop where
 id:1≤r.id_∧r.id_≤999
 len:(r.cells.length:Int)=w
 cells:∀ x ∈ r.cells,-1000000000≤x∧x≤1000000000
theorem row_of {s:aI_} {t:Int} {r:TRow} (hs:dY_ s=true) (h0:0≤t) (h1:t<(s.cols.length:Int)) (h:RowD (s.cols.getD t.toNat 0) r):FRow s t r=true:=by
 have h3:=(fe_ hs).three
 unfold FRow sl_
 rw [hs,Wn (by omega) (by omega),dl_.2 (show 0≤t∧t≤(s.cols.length:Int) - 1 by omega),dl_.2 h.id,decide_eq_true h.len,Bool.true_and,Bool.true_and,Bool.true_and,Bool.true_and]
 exact cH_.2 fun i hi=>dl_.2 (h.cells _ (aZ_ 0 hi))
structure RowIs (s:aI_) (t:Int) (r:TRow):Prop where
 sc:dY_ s=true
 tab:0≤t∧t<(s.cols.length:Int)
 row:RowD (s.cols.getD t.toNat 0) r
theorem row_is {s:aI_} {t:Int} {r:TRow} (h:FRow s t r=true):RowIs s t r:=by
 unfold FRow sl_ at h
 simp only [Bool.and_eq_true] at h
 obtain ⟨h1,h2,h3,h4,h5⟩:=h
 have h6:=(fe_ h1).three
 have h2:=e0_ h2
 rw [Wn (by omega) (by omega)] at h2
 refine ⟨h1,by omega,e0_ h3,of_decide_eq_true h4,fun x hx => ?_⟩
 obtain ⟨i,hi,rfl⟩:=List.mem_iff_getElem.1 hx
 have:=e0_ (cH_.1 h5 i hi)
 rwa [List.getD_eq_getElem?_getD,List.getElem?_eq_getElem hi,Option.getD_some] at this
theorem oe_ {c:al_} {w:Nat} (hc:DwOk c) (hw:w≤4):Ans (fun n _=>aN_ n c (w:Int)) fun r=>RowD w r.1∧DwOk r.2:=by
 have key:∀ (m i:Nat) (c:al_) (id:Int) (o:List Int),i+m=w→DwOk c→o.length=i→1≤id∧id≤999→(∀ x ∈ o,-1000000000≤x∧x≤1000000000) →
   Ans (fun n N=>aN_.loop4 n (fun xy3 xy4 xy5 xy6 xy7 xy8=>(some ((TRow.mk xy7 xy8),(al_.mk xy3 xy4 xy5)))) N (w:Int) (i:Int) c.b c.i c.h 0 id o) fun r=>RowD w r.1∧DwOk r.2:=by
  intro m
  induction m with
  |zero=>
   intro i c id o hi hc ho hid hx
   refine cp_ ?_
   simp only [aN_.turn4,aN_.step4,ci_]
   rw [decide_eq_false (by omega)]
   simp only [cond_false,ci_,bg_]
   exact ⟨⟨hid,by simp only;omega,hx⟩,hc⟩
  |succ m ih=>
   intro i c id o hi hc ho hid hx
   refine cp_ ?_
   simp only [aN_.turn4,aN_.step4,ci_]
   rw [decide_eq_true (by omega)]
   simp only [cond_true]
   refine aO_ (a9_ hc) fun r2 hr2 => ?_
   have h1:=hr2.lo;have h2:=hr2.hi
   have e1:W ((i:Int)+1)=((i+1:Nat):Int):=by rw [Wn (by omega) (by omega)];rfl
   rw [e1]
   refine fF_.2 ⟨by simp;omega,ih (i+1) r2.2 _ _ (by omega) hr2.cur (by simp;omega) hid fun x hx' => ?_⟩
   rcases List.mem_append.1 hx' with h|h
   · exact hx x h
   · rw [List.mem_singleton.1 h];omega
 refine cG_ ?_
 simp only [aN_]
 refine aO_ (a9_ hc) fun r hr => ?_
 have h1:=hr.lo;have h2:=hr.hi
 rw [Wn (by omega) (by omega)]
 exact ew_ (key w 0 r.2 _ [] (by omega) hr.cur rfl (by omega) fun x hx=>(by cases hx))
def c3_ (rows:List TRow):List Int:=rows.map (·.id_)
abbrev Asc (rows:List TRow):Prop:=(c3_ rows).Pairwise (· < ·)
theorem q0_ {rows:List TRow} {id:Int} {p:Nat} (h:dQ_ rows id=(p:Int)):p<rows.length∧(rows.getD p TRow.dflt).id_=id:=by
 rcases q1_ rows id with ⟨q,h1,h2,h3⟩|⟨h1,_⟩
 · have e:q=p:=by omega
   subst e
   refine ⟨h1,?_⟩
   have:=List.findIdx_getElem (xs:=rows) (p:=fun r=>r.id_ == id) (w:=by omega)
   simp only [h3] at this
   rw [List.getD_eq_getElem?_getD,List.getElem?_eq_getElem h1,Option.getD_some]
   exact eq_of_beq this
 · omega
theorem at_neg {rows:List TRow} {id:Int}:dQ_ rows id<0↔id ∉ c3_ rows:=by
 have hm:id ∈ c3_ rows↔rows.findIdx (fun r=>r.id_ == id)<rows.length:=by
  rw [List.findIdx_lt_length]
  unfold c3_
  rw [List.mem_map]
  exact ⟨fun ⟨x,h1,h2⟩=>⟨x,h1,by rw [h2];exact beq_self_eq_true _⟩,fun ⟨x,h1,h2⟩=>⟨x,h1,eq_of_beq h2⟩⟩
 rw [hm,kr_]
 split<;>omega
theorem rR_ {rows:List TRow} {i:Nat} (h:i<rows.length):(c3_ rows).getD i 0=(rows.getD i TRow.dflt).id_:=fD_ (fun r:TRow=>r.id_) TRow.dflt 0 h
theorem lC_ {rows:List TRow} {r:TRow} {p:Nat} (h:dQ_ rows r.id_=(p:Int)):c3_ (rows.set p r)=c3_ rows:=by
 obtain ⟨h1,h2⟩:=q0_ h
 unfold c3_
 rw [List.map_set]
 apply List.ext_getElem?
 intro i
 by_cases e:p=i
 · subst e
   rw [List.getElem?_set_self (by rw [List.length_map];exact h1),List.getElem?_map,List.getElem?_eq_getElem h1]
   rw [List.getD_eq_getElem?_getD,List.getElem?_eq_getElem h1,Option.getD_some] at h2
   simp only [Option.map_some,h2]
 · rw [List.getElem?_set_ne e]
theorem put_mem {rows:List TRow} {r x:TRow} (h:x ∈ eU_ rows r):x=r∨x ∈ rows:=by
 unfold eU_ at h
 cases hd:decide (dQ_ rows r.id_≥0)<;>rw [hd] at h
 · simp only [cond_false] at h
   rcases List.mem_append.1 h with h|h
   · rcases List.mem_append.1 h with h|h
     · exact .inr (List.mem_of_mem_take h)
     · exact .inl (List.mem_singleton.1 h)
   · exact .inr (List.mem_of_mem_drop h)
 · exact (List.mem_or_eq_of_mem_set h).symm
theorem put_ids {rows:List TRow} {r:TRow} {id:Int}:id ∈ c3_ (eU_ rows r)↔id=r.id_∨id ∈ c3_ rows:=by
 unfold eU_
 cases hd:decide (dQ_ rows r.id_≥0)
 · have hd:=of_decide_eq_false hd
   simp only [cond_false]
   unfold c3_
   rw [List.map_append,List.map_append,List.map_singleton,List.map_take,List.map_drop]
   generalize hn:rows.map (·.id_)=l
   conv=>rhs;rw [←List.take_append_drop (eQ_ rows r.id_) l]
   simp only [List.mem_append,List.mem_singleton]
   constructor
   · rintro ((h|h)|h)
     · exact .inr (.inl h)
     · exact .inl h
     · exact .inr (.inr h)
   · rintro (h|h|h)
     · exact .inl (.inr h)
     · exact .inl (.inl h)
     · exact .inr h
 · have hd:=of_decide_eq_true hd
   simp only [cond_true]
   obtain ⟨p,hp⟩:∃ p:Nat,dQ_ rows r.id_=p:=⟨(dQ_ rows r.id_).toNat,by omega⟩
   rw [hp,Int.toNat_natCast,lC_ hp]
   refine ⟨.inr,fun h=>h.elim (fun e => ?_) (fun h=>h)⟩
   obtain ⟨h1,h2⟩:=q0_ hp
   rw [e,←h2,←rR_ h1]
   exact aZ_ 0 (by unfold c3_;rw [List.length_map];exact h1)
theorem pos_split {rows:List TRow} {id:Int} (h:Asc rows):(∀ x ∈ rows.take (eQ_ rows id),x.id_≤id)∧∀ x ∈ rows.drop (eQ_ rows id),id<x.id_:=by
 refine ⟨fun x hx => ?_,fun x hx => ?_⟩
 · obtain ⟨i,hi,rfl⟩:=List.mem_iff_getElem.1 hx
   rw [List.length_take] at hi
   rw [List.getElem_take]
   have:=List.not_of_lt_findIdx (xs:=rows) (p:=fun x=>decide (x.id_ > id)) (i:=i) (by unfold eQ_ at hi;omega)
   simpa using this
 · obtain ⟨i,hi,rfl⟩:=List.mem_iff_getElem.1 hx
   rw [List.length_drop] at hi
   rw [List.getElem_drop]
   have hp:eQ_ rows id<rows.length:=by omega
   have h0:id<(rows[eQ_ rows id]'hp).id_:=by
    have hp':rows.findIdx (fun x=>decide (x.id_ > id))<rows.length:=hp
    have:=List.findIdx_getElem (xs:=rows) (p:=fun x=>decide (x.id_ > id)) (w:=hp')
    exact of_decide_eq_true this
   by_cases e:i=0
   · subst e;exact h0
   · have hw:Asc rows:=h
     have:=List.pairwise_iff_getElem.1 hw (eQ_ rows id) (eQ_ rows id+i) (by unfold c3_;rw [List.length_map];exact hp) (by unfold c3_;rw [List.length_map];omega) (by omega)
     unfold c3_ at this
     rw [List.getElem_map,List.getElem_map] at this
     omega
theorem put_asc {rows:List TRow} {r:TRow} (h:Asc rows):Asc (eU_ rows r):=by
 unfold eU_
 cases hd:decide (dQ_ rows r.id_≥0)
 · have hd:=of_decide_eq_false hd
   simp only [cond_false]
   have hno:=at_neg.1 (show dQ_ rows r.id_<0 by omega)
   obtain ⟨s1,s2⟩:=pos_split (id:=r.id_) h
   have e:c3_ (rows.take (eQ_ rows r.id_)++[r]++rows.drop (eQ_ rows r.id_))=c3_ (rows.take (eQ_ rows r.id_))++r.id_::c3_ (rows.drop (eQ_ rows r.id_)):=by
    unfold c3_;rw [List.map_append,List.map_append,List.append_assoc];rfl
   show (c3_ _).Pairwise _
   rw [e]
   have h1:(c3_ (rows.take (eQ_ rows r.id_))++c3_ (rows.drop (eQ_ rows r.id_))).Pairwise (· < ·):=by
    unfold c3_;rw [←List.map_append,List.take_append_drop];exact h
   rw [List.pairwise_append] at h1 ⊢
   refine ⟨h1.1,List.pairwise_cons.2 ⟨fun x hx => ?_,h1.2.1⟩,fun a ha b hb => ?_⟩
   · obtain ⟨y,hy,rfl⟩:=List.mem_map.1 hx
     exact s2 y hy
   · rcases List.mem_cons.1 hb with rfl|hb
     · obtain ⟨y,hy,rfl⟩:=List.mem_map.1 ha
       have:=s1 y hy
       have:y.id_≠r.id_:=fun e=>hno (e ▸ List.mem_map.2 ⟨y,List.mem_of_mem_take hy,rfl⟩)
       omega
     · exact h1.2.2 a ha b hb
 · have hd:=of_decide_eq_true hd
   simp only [cond_true]
   obtain ⟨p,hp⟩:∃ p:Nat,dQ_ rows r.id_=p:=⟨(dQ_ rows r.id_).toNat,by omega⟩
   show (c3_ _).Pairwise _
   rw [hp,Int.toNat_natCast,lC_ hp];exact h
theorem put_len {rows:List TRow} {r:TRow}:(eU_ rows r).length≤rows.length+1:=by
 unfold eU_
 cases decide (dQ_ rows r.id_≥0)
 · simp;omega
 · simp
structure TabD (w:Int) (rows:List TRow):Prop where
 len:rows.length≤24
 row:∀ r ∈ rows,RowD w r
 asc:Asc rows
theorem mM_ {c:al_} {w:Nat} (hc:DwOk c) (hw:w≤4):Ans (fun n _=>aE_ n c (w:Int)) fun r=>TabD w r.1∧DwOk r.2:=by
 have key:∀ (m i:Nat) (c:al_) (o:List TRow),i+m=9→DwOk c→o.length≤i→(∀ r ∈ o,RowD w r)→Asc o →
   Ans (fun n N=>aE_.loop4 n (fun xy4 xy5 xy6 xy7=>(some (xy7,(al_.mk xy4 xy5 xy6)))) N (w:Int) (i:Int) c.b c.i c.h o) fun r=>TabD w r.1∧DwOk r.2:=by
  intro m
  induction m with
  |zero=>
   intro i c o hi hc ho hr0 ha
   refine cp_ ?_
   simp only [aE_.turn4,aE_.step4,ci_]
   refine aO_ (a9_ hc) fun r hr => ?_
   have h1:=hr.lo;have h2:=hr.hi
   rw [decide_eq_false (by omega)]
   simp only [cond_false,ci_,bg_]
   exact ⟨⟨by show o.length≤24;omega,hr0,ha⟩,hr.cur⟩
  |succ m ih=>
   intro i c o hi hc ho hr0 ha
   refine cp_ ?_
   simp only [aE_.turn4,aE_.step4,ci_]
   refine aO_ (a9_ hc) fun r hr => ?_
   simp only [cr_,ci_,bg_]
   refine ⟨fun _=>aO_ (oe_ hr.cur hw) fun r2 hr2 => ?_,fun _=>⟨⟨by show o.length≤24;omega,hr0,ha⟩,hr.cur⟩⟩
   have e1:W ((i:Int)+1)=((i+1:Nat):Int):=by rw [Wn (by omega) (by omega)];rfl
   have hcell:∀ {r:TRow},RowD w r→r.cells.length≤4:=fun h=>by have:=h.len;omega
   have hP:=g3_ (rows:=o) (r:=r2.1) ⟨by simp only [ey_];omega,fun x hx=>by have:=hcell (hr0 x hx);simp only [ey_];omega⟩ (by have:=hcell hr2.1;simp only [ey_];omega)
   have hpl:=put_len (rows:=o) (r:=r2.1)
   rw [bC_ hP,e1]
   refine ih (i+1) r2.2 _ (by omega) hr2.2 (by omega) (fun x hx => ?_) (put_asc ha)
   rcases put_mem hx with e|hx
   · rw [e];exact hr2.1
   · exact hr0 x hx
 refine cG_ ?_
 simp only [aE_]
 exact ew_ (key 9 0 c [] rfl hc (Nat.zero_le _) (fun x hx=>(by cases hx)) List.Pairwise.nil)
structure StoD (s:ar_):Prop where
 sc:dY_ s.schema=true
 num:s.tables.length=s.schema.cols.length
 tab:∀ i,i<s.tables.length→TabD (s.schema.cols.getD i 0) (s.tables.getD i [])
theorem store_of {s:ar_} (h:StoD s) (hv:0≤s.version∧s.version≤100000):em_ s=true:=by
 have h3:=(fe_ h.sc).three
 unfold em_ rb_
 rw [h.sc,dl_.2 hv,decide_eq_true h.num,Bool.true_and,Bool.true_and,Bool.true_and]
 refine cH_.2 fun i hi => ?_
 have ht:=h.tab i hi
 have hn:=h.num
 unfold oH_
 rw [h.sc,Wn (by omega) (by omega),dl_.2 (show 0≤(i:Int)∧(i:Int)≤(s.schema.cols.length:Int) - 1 by omega),decide_eq_true (show (((s.tables.getD i []).length:Nat):Int)≤24 by have:=ht.len;omega),Bool.true_and,Bool.true_and,Bool.and_true]
 generalize s.tables.getD i []=T at ht
 refine cH_.2 fun j hj => ?_
 rw [Bool.and_eq_true]
 refine ⟨row_of h.sc (by omega) (by omega) (by rw [Int.toNat_natCast];exact ht.row _ (aZ_ TRow.dflt hj)),?_⟩
 by_cases e:j=0
 · rw [decide_eq_true e];rfl
 · rw [Bool.or_eq_true]
   right
   have:=List.pairwise_iff_getElem.1 ht.asc (j - 1) j (by unfold c3_;rw [List.length_map];omega) (by unfold c3_;rw [List.length_map];exact hj) (by omega)
   unfold c3_ at this
   rw [List.getElem_map,List.getElem_map] at this
   rw [List.getD_eq_getElem?_getD,List.getD_eq_getElem?_getD,List.getElem?_eq_getElem (by omega),List.getElem?_eq_getElem hj]
   exact decide_eq_true this
theorem im_ {c:al_} (hc:DwOk c):Ans (fun n _=>az_ n c) fun r=>(StoD r.1∧em_ r.1=true)∧DwOk r.2:=by
 have key:∀ (m i:Nat) (c:al_) (s:ar_),i+m=s.tables.length→DwOk c→StoD s →
   Ans (fun n N=>az_.loop4 n (fun xy5 xy6 xy7 xy8 xy9 xy10 xy11=>((av_ n (al_.mk xy5 xy6 xy7) 5).bind fun xr12=>(some ((ar_.mk (aI_.mk xy10) xr12.1 xy11),xr12.2)))) N (i:Int) c.b c.i c.h 0 s.version s.schema.cols s.tables) fun r=>(StoD r.1∧em_ r.1=true)∧DwOk r.2:=by
  intro m
  induction m with
  |zero=>
   intro i c s hi hc hs
   have e:i=s.tables.length:=by omega
   subst e
   refine cp_ ?_
   simp only [az_.turn4,az_.step4,b8_,cond_false,ci_]
   refine aO_ (a9_ hc) fun r hr=>bg_.2 ?_
   have h1:=hr.lo;have h2:=hr.hi
   have hd:StoD (ar_.mk (aI_.mk s.schema.cols) r.1 s.tables):=⟨hs.sc,hs.num,hs.tab⟩
   exact ⟨⟨hd,store_of hd (by simp only;omega)⟩,hr.cur⟩
  |succ m ih=>
   intro i c s hi hc hs
   have hlt:i<s.tables.length:=by omega
   have h3:=(fe_ hs.sc).three
   have hn:=hs.num
   have hW:=W_up hlt (show s.tables.length≤bO_ by simp only [bO_];omega)
   have hcol:=(fe_ hs.sc).col _ (aZ_ 0 (show i<s.schema.cols.length by omega))
   obtain ⟨w,hw⟩:∃ w:Nat,s.schema.cols.getD i 0=w:=⟨(s.schema.cols.getD i 0).toNat,by omega⟩
   refine cp_ ?_
   simp only [az_.turn4,az_.step4,cy_ hlt,cond_true,ci_,Int.toNat_natCast]
   refine el_.2 ⟨⟨by omega,by omega⟩,?_⟩
   rw [hw]
   refine aO_ (mM_ hc (by omega)) fun r hr => ?_
   rw [hW]
   refine el_.2 ⟨⟨by omega,by omega⟩,?_⟩
   refine ih (i+1) r.2 (ar_.mk s.schema s.version (s.tables.set i r.1)) (by simp;omega) hr.2 ⟨hs.sc,by simp;exact hn,fun j hj => ?_⟩
   simp only [List.length_set] at hj
   by_cases e:i=j
   · subst e
     show TabD (s.schema.cols.getD i 0) ((s.tables.set i r.1).getD i [])
     have e:(s.tables.set i r.1).getD i []=r.1:=by rw [List.getD_eq_getElem?_getD,List.getElem?_set_self hlt,Option.getD_some]
     rw [e,hw]
     exact hr.1
   · show TabD (s.schema.cols.getD j 0) ((s.tables.set i r.1).getD j [])
     have e:(s.tables.set i r.1).getD j []=s.tables.getD j []:=by rw [List.getD_eq_getElem?_getD,List.getElem?_set_ne e,←List.getD_eq_getElem?_getD]
     rw [e]
     exact hs.tab j hj
 refine cG_ ?_
 simp only [az_]
 refine aO_ (kN_ hc) fun r hr => ?_
 have h3:=(fe_ hr.1).three
 have hN:=hR_ (s:=r.1) (by simp only [cap];omega)
 rw [bC_ hN]
 have e:FNew r.1=(fk_ r.1,true):=by unfold FNew;rw [hr.1];rfl
 rw [e]
 refine ew_ (key (fk_ r.1).tables.length 0 r.2 (fk_ r.1) (Nat.zero_add _) hr.2 ⟨hr.1,by simp [fk_],fun i hi => ?_⟩)
 have e2:(fk_ r.1).tables.getD i []=[]:=by
  have hi:i<r.1.cols.length:=by simpa [fk_] using hi
  show (List.replicate r.1.cols.length ([]:List TRow)).getD i []=[]
  rw [List.getD_eq_getElem?_getD,List.getElem?_replicate]
  split<;>rfl
 rw [e2]
 exact ⟨Nat.zero_le _,fun x hx=>(by cases hx),List.Pairwise.nil⟩
end Go.Pi
end
section
namespace Go.Pi
structure CondD (w:Int) (x:br_):Prop where
 col:0≤x.col∧x.col<w
 op:1≤x.op∧x.op≤4
 v : -1000000000≤x.v∧x.v≤1000000000
structure QryD (s:aI_) (q:ap_):Prop where
 sc:dY_ s=true
 tab:0≤q.table∧q.table<(s.cols.length:Int)
 few:q.where_.length≤3
 cond:∀ x ∈ q.where_,CondD (s.cols.getD q.table.toNat 0) x
 show_:∀ x ∈ q.show_,0≤x∧x<s.cols.getD q.table.toNat 0
 asc:q.show_.Pairwise (· < ·)
 order:0≤q.order∧q.order≤s.cols.getD q.table.toNat 0
 first:0≤q.first∧q.first≤24
 down:q.order=0→q.down=false
 kids:(q.kids=true∧(0≤q.kidTable∧q.kidTable<(s.cols.length:Int))∧0≤q.kidCol∧q.kidCol<s.cols.getD q.kidTable.toNat 0)∨(q.kids=false∧q.kidTable=0∧q.kidCol=0)
theorem md_ {s:aI_} (h:dY_ s=true) {t:Int} (h0:0≤t) (h1:t<(s.cols.length:Int)):1≤s.cols.getD t.toNat 0∧s.cols.getD t.toNat 0≤4:=(fe_ h).col _ (aZ_ 0 (by omega))
theorem query_of {s:aI_} {q:ap_} (h:QryD s q):hZ_ s q=true:=by
 have h3:=(fe_ h.sc).three
 have hw:=md_ h.sc h.tab.1 h.tab.2
 have ht:=h.tab
 unfold hZ_
 rw [h.sc,Wn (by omega) (by omega),dl_.2 (show 0≤q.table∧q.table≤(s.cols.length:Int) - 1 by omega),decide_eq_true h.few,dl_.2 h.order,dl_.2 h.first]
 simp only [Bool.true_and,Bool.and_eq_true]
 refine ⟨?_,?_,?_,?_⟩
 · unfold FConds
   refine cH_.2 fun i hi => ?_
   have hc:=h.cond _ (aZ_ br_.dflt hi)
   have hc1:=hc.col
   rw [Wn (by omega) (by omega),dl_.2 (show _∧_≤s.cols.getD q.table.toNat 0 - 1 by omega),dl_.2 hc.op,dl_.2 hc.v];rfl
 · unfold FShow
   refine cH_.2 fun i hi => ?_
   have hc:=h.show_ _ (aZ_ 0 hi)
   rw [Wn (by omega) (by omega),dl_.2 (show _∧_≤s.cols.getD q.table.toNat 0 - 1 by omega),Bool.true_and]
   by_cases e:i=0
   · rw [decide_eq_true e];rfl
   · have:=List.pairwise_iff_getElem.1 h.asc (i - 1) i (by omega) hi (by omega)
     rw [List.getD_eq_getElem?_getD,List.getD_eq_getElem?_getD,List.getElem?_eq_getElem (by omega),List.getElem?_eq_getElem hi,Bool.or_eq_true]
     exact .inr (decide_eq_true this)
 · cases hd:(q.order == 0)
   · rfl
   · rw [h.down (eq_of_beq hd)];rfl
 · unfold tk_
   rcases h.kids with ⟨k0,k1,k2⟩|⟨k0,k1,k2⟩
   · have hk:=md_ h.sc k1.1 k1.2
     rw [k0,cond_true,Wn (by omega) (by omega),dl_.2 (show 0≤q.kidTable∧q.kidTable≤(s.cols.length:Int) - 1 by omega),Wn (by omega) (by omega),dl_.2 (show 0≤q.kidCol∧q.kidCol≤s.cols.getD q.kidTable.toNat 0 - 1 by omega)];rfl
   · rw [k0,k1,k2];rfl
theorem show_few {s:aI_} {q:ap_} (h:QryD s q):q.show_.length≤4:=by
 have hw:=md_ h.sc h.tab.1 h.tab.2
 have key:∀ i,i<q.show_.length→(i:Int)≤q.show_.getD i 0:=by
  intro i
  induction i with
  |zero=>exact fun hi=>(h.show_ _ (aZ_ 0 hi)).1
  |succ i ih=>
   intro hi
   have:=List.pairwise_iff_getElem.1 h.asc i (i+1) (by omega) hi (Nat.lt_succ_self i)
   have h1:=ih (by omega)
   rw [List.getD_eq_getElem?_getD,List.getElem?_eq_getElem (by omega),Option.getD_some] at h1
   rw [List.getD_eq_getElem?_getD,List.getElem?_eq_getElem hi,Option.getD_some]
   omega
 refine Nat.le_of_not_lt fun hl => ?_
 have h1:=key 4 hl
 have h2:=h.show_ _ (aZ_ 0 hl)
 omega
section
variable {P:ap_ × al_→Prop} {w:Nat} (hw:1≤w∧w≤4)
include hw
theorem l9loop7s {K:Nat→ad_.K7} {t30 t40 t42 t43 t44 t46 t47 t48 t50 t52 t53 t54 t56 t57 t58} (hK:∀ c o,DwOk c→o.length≤3→(∀ x ∈ o,CondD w x)→Ans (fun n _=>K n (w:Int) c.b c.i c.h t30 t40 t42 t43 t44 t46 t47 t48 t50 t52 t53 t54 t56 t57 t58 o) P) {c:al_} (hc:DwOk c) :
  Ans (fun n _=>ad_.loop7 n (K n) n (w:Int) 0 c.b c.i c.h t30 t40 t42 t43 t44 t46 t47 t48 t50 t52 t53 t54 t56 t57 t58 []) P:=by
 have key:∀ (m i:Nat) (c:al_) (o:List br_),i+m=3→DwOk c→o.length=i→(∀ x ∈ o,CondD w x)→Ans (fun n N=>ad_.loop7 n (K n) N (w:Int) (i:Int) c.b c.i c.h t30 t40 t42 t43 t44 t46 t47 t48 t50 t52 t53 t54 t56 t57 t58 o) P:=by
  intro m
  induction m with
  |zero=>
   intro i c o hi hc ho hx
   refine cp_ ?_
   simp only [ad_.turn7,ad_.step7,ci_]
   refine aO_ (a9_ hc) fun r hr => ?_
   have h1:=hr.lo;have h2:=hr.hi
   rw [decide_eq_false (by omega)]
   simp only [cond_false]
   exact hK _ _ hr.cur (by omega) hx
  |succ m ih=>
   intro i c o hi hc ho hx
   refine cp_ ?_
   simp only [ad_.turn7,ad_.step7,ci_]
   refine aO_ (a9_ hc) fun r hr => ?_
   simp only [cr_]
   refine ⟨fun _=>aO_ (a9_ hr.cur) fun r2 h2=>aO_ (a9_ h2.cur) fun r3 h3=>aO_ (a9_ h3.cur) fun r4 h4 => ?_,fun _=>hK _ _ hr.cur (by omega) hx⟩
   obtain ⟨a1,a2,_⟩:=h2
   obtain ⟨b1,b2,_⟩:=h3
   obtain ⟨c1,c2,h4⟩:=h4
   simp only [fF_,up1 (show i≤1000000 by omega)]
   rw [Wn (x:=1+r3.1) (by omega) (by omega)]
   refine ⟨by simp;omega,ih (i+1) r4.2 _ (by omega) h4 (by simp;omega) fun x hx' => ?_⟩
   rcases List.mem_append.1 hx' with h|h
   · exact hx x h
   · rw [List.mem_singleton.1 h]
     exact ⟨by show 0≤r2.1∧r2.1<(w:Int);omega,by show 1≤1+r3.1∧1+r3.1≤4;omega,by show _≤r4.1∧r4.1≤_;omega⟩
 exact ew_ (key 3 0 c [] rfl hc rfl fun x hx=>(by cases hx))
theorem pm_ {K:Nat→ad_.K16} {t30 t40 t42 t43 t44 t46 t47 t48 t50 t52 t53 t54 t56 t57 t58 t51} (hK:∀ c o,DwOk c→(∀ x ∈ o,0≤x∧x<(w:Int))→o.Pairwise (· < ·)→Ans (fun n _=>K n c.b c.i c.h t30 t40 t42 t43 t44 t46 t47 t48 t50 t52 t53 t54 t56 t57 t58 t51 o) P) {c:al_} (hc:DwOk c) :
  Ans (fun n _=>ad_.loop16 n (K n) n (w:Int) 0 c.b c.i c.h t30 t40 t42 t43 t44 t46 t47 t48 t50 t52 t53 t54 t56 t57 t58 t51 []) P:=by
 have key:∀ (m i:Nat) (c:al_) (o:List Int),i+m=w→DwOk c→o.length≤i→(∀ x ∈ o,0≤x∧x<(i:Int))→o.Pairwise (· < ·)→Ans (fun n N=>ad_.loop16 n (K n) N (w:Int) (i:Int) c.b c.i c.h t30 t40 t42 t43 t44 t46 t47 t48 t50 t52 t53 t54 t56 t57 t58 t51 o) P:=by
  intro m
  induction m with
  |zero=>
   intro i c o hi hc ho hx hp
   refine cp_ ?_
   simp only [ad_.turn16,ad_.step16,ci_]
   rw [decide_eq_false (by omega)]
   simp only [cond_false]
   exact hK _ _ hc (fun x h=>by have:=hx x h;omega) hp
  |succ m ih=>
   intro i c o hi hc ho hx hp
   refine cp_ ?_
   simp only [ad_.turn16,ad_.step16,ci_]
   rw [decide_eq_true (by omega)]
   simp only [cond_true]
   refine aO_ (eZ_ hc) fun r hr => ?_
   simp only [cr_,fF_,up1 (show i≤1000000 by omega)]
   refine ⟨fun _=>⟨by simp;omega,ih (i+1) r.2 _ (by omega) hr (by simp;omega) (fun x hx' => ?_) ?_⟩,fun _=>ih (i+1) r.2 _ (by omega) hr (by omega) (fun x h=>by have:=hx x h;omega) hp⟩
   · rcases List.mem_append.1 hx' with h|h
     · have:=hx x h;omega
     · rw [List.mem_singleton.1 h];omega
   · refine List.pairwise_append.2 ⟨hp,List.pairwise_singleton _ _,fun a ha b hb => ?_⟩
     rw [List.mem_singleton.1 hb]
     exact (hx a ha).2
 exact ew_ (key w 0 c [] (by omega) hc (Nat.zero_le _) (fun x hx=>(by cases hx)) List.Pairwise.nil)
end
theorem il_ {c:al_} {s:aI_} (hc:DwOk c) (hs:dY_ s=true):Ans (fun n _=>ad_ n c s) fun r=>QryD s r.1∧DwOk r.2:=by
 have hsc:=fe_ hs
 have h1:=hsc.one
 have h3:=hsc.three
 refine cG_ ?_
 simp only [ad_]
 rw [bC_ d4_]
 refine aO_ (a9_ hc) fun t ht => ?_
 obtain ⟨t0,t1,hcu⟩:=ht
 have htab:0≤t.1∧t.1<(s.cols.length:Int):=by omega
 rw [decide_eq_true htab.2]
 simp only [cond_true]
 refine el_.2 ⟨htab,?_⟩
 rw [bC_ d4_]
 have hcol:=md_ hs htab.1 htab.2
 obtain ⟨w,hw⟩:∃ w:Nat,s.cols.getD t.1.toNat 0=w:=⟨(s.cols.getD t.1.toNat 0).toNat,by omega⟩
 have hw4:1≤w∧w≤4:=by omega
 have em:max (s.cols.getD t.1.toNat 0) 1=(w:Int):=by omega
 rw [em]
 refine l9loop7s hw4 (fun c o hc ho hx => ?_) hcu
 simp only [ci_]
 rw [Wn (by omega) (by omega)]
 refine aO_ (a9_ hc) fun od hod => ?_
 obtain ⟨o0,o1,hcu⟩:=hod
 have hord:0≤od.1∧od.1≤(w:Int):=by omega
 have hlen:max (s.cols.length:Int) 1=(s.cols.length:Int):=by omega
 have fin:∀ (fs:Int) (dn:Bool) (o':List Int),fs ∈ ([0,0,1,2,3,5]:List Int)→(od.1=0→dn=false)→(∀ x ∈ o',0≤x∧x<(w:Int))→o'.Pairwise (· < ·)→∀ (k:Bool) (kt kc:Int),
   ((k=true∧(0≤kt∧kt<(s.cols.length:Int))∧0≤kc∧kc<s.cols.getD kt.toNat 0)∨(k=false∧kt=0∧kc=0))→QryD s (ap_.mk t.1 o od.1 dn fs o' k kt kc):=by
  intro fs dn o' hf hd hsh hp k kt kc hk
  refine ⟨hs,htab,ho,?_,?_,hp,?_,?_,hd,hk⟩
  · show ∀ x ∈ o,CondD (s.cols.getD t.1.toNat 0) x
    rw [hw];exact hx
  · show ∀ x ∈ o',0≤x∧x<s.cols.getD t.1.toNat 0
    rw [hw];exact hsh
  · show 0≤od.1∧od.1≤s.cols.getD t.1.toNat 0
    rw [hw];exact hord
  · show 0≤fs∧fs≤24
    simp only [List.mem_cons,List.not_mem_nil,or_false] at hf
    omega
 with_reducible refine cr_.2 ⟨fun hpos => ?_,fun hz => ?_⟩
 · have hpos:=of_decide_eq_true hpos
   refine aO_ (eZ_ hcu) fun dn hdn => ?_
   refine aO_ (fB_ hdn (by simp)) fun fs hfs => ?_
   refine pm_ hw4 (fun c o' hc ho' hp => ?_) hfs.2
   simp only [ci_]
   refine aO_ (eZ_ hc) fun kd hkd => ?_
   have F:=fin fs.1 dn.1 o' hfs.1 (fun e=>by omega) ho' hp
   with_reducible refine cr_.2 ⟨fun _ => ?_,fun _ => ?_⟩
   · rw [bC_ d4_,hlen]
     refine aO_ (a9_ hkd) fun kt hkt => ?_
     obtain ⟨k0,k1,hcu⟩:=hkt
     have hkt:0≤kt.1∧kt.1<(s.cols.length:Int):=by omega
     rw [decide_eq_true hkt.2]
     simp only [cond_true]
     refine el_.2 ⟨hkt,?_⟩
     rw [bC_ d4_]
     have hkc:=md_ hs hkt.1 hkt.2
     refine aO_ (a9_ hcu) fun kc hkc' => ?_
     obtain ⟨c0,c1,hcu⟩:=hkc'
     exact bg_.2 ⟨F true kt.1 kc.1 (.inl ⟨rfl,hkt,by omega⟩),hcu⟩
   · exact bg_.2 ⟨F false 0 0 (.inr ⟨rfl,rfl,rfl⟩),hkd⟩
 · refine aO_ (fB_ hcu (by simp)) fun fs hfs => ?_
   refine pm_ hw4 (fun c o' hc ho' hp => ?_) hfs.2
   simp only [ci_]
   refine aO_ (eZ_ hc) fun kd hkd => ?_
   have F:=fin fs.1 false o' hfs.1 (fun e=>rfl) ho' hp
   with_reducible refine cr_.2 ⟨fun _ => ?_,fun _ => ?_⟩
   · rw [bC_ d4_,hlen]
     refine aO_ (a9_ hkd) fun kt hkt => ?_
     obtain ⟨k0,k1,hcu⟩:=hkt
     have hkt:0≤kt.1∧kt.1<(s.cols.length:Int):=by omega
     rw [decide_eq_true hkt.2]
     simp only [cond_true]
     refine el_.2 ⟨hkt,?_⟩
     rw [bC_ d4_]
     have hkc:=md_ hs hkt.1 hkt.2
     refine aO_ (a9_ hcu) fun kc hkc' => ?_
     obtain ⟨c0,c1,hcu⟩:=hkc'
     exact bg_.2 ⟨F true kt.1 kc.1 (.inl ⟨rfl,hkt,by omega⟩),hcu⟩
   · exact bg_.2 ⟨F false 0 0 (.inr ⟨rfl,rfl,rfl⟩),hkd⟩
end Go.Pi
end
section
namespace Go.Pi
theorem mk_ {α:Type} {f:Nat→Nat→Option α} {P Q:α→Prop} (h:Ans f P) (k:Ans f Q):Ans f fun v=>P v∧Q v:=by
 obtain ⟨v,h1,h2⟩:=h
 obtain ⟨w,k1,k2⟩:=k
 have e:=(c2_ h1).1 k1
 subst e
 exact ⟨v,h1,h2,k2⟩
structure VwS (v:aJ_):Prop where
 few:v.q.show_.length≤4
 show_:∀ x ∈ v.q.show_,0≤x∧x≤4
 row:∀ r ∈ v.rows,(1≤r.id_∧r.id_≤999)∧∀ x ∈ r.cells,-1000000000≤x∧x≤1000000000
 ids:(c3_ v.rows).Nodup
 kids:∀ k ∈ v.kids,-1000000≤k.n_∧k.n_≤1000000
 num:v.rows.length≤900
structure VwR (B:Nat) (s:ar_) (v:aJ_):Prop where
 q:QryD s.schema v.q
 row:∀ r ∈ v.rows,RowD (s.schema.cols.getD v.q.table.toNat 0) r
 ids:(c3_ v.rows).Nodup
 sub:∀ id ∈ c3_ v.rows,id ∈ c3_ (s.tables.getD v.q.table.toNat [])
 kids:∀ k ∈ v.kids,-(B:Int)≤k.n_∧k.n_≤(B:Int)
 num:v.rows.length≤B
theorem VwR.upto {B C:Nat} {s:ar_} {v:aJ_} (h:VwR B s v) (hc:B≤C):VwR C s v:=⟨h.q,h.row,h.ids,h.sub,fun k hk=>by have:=h.kids k hk;omega,Nat.le_trans h.num hc⟩
theorem VwR.s {B:Nat} {s:ar_} {v:aJ_} (h:VwR B s v) (hB:B≤900):VwS v:=by
 have hw:=md_ h.q.sc h.q.tab.1 h.q.tab.2
 exact ⟨show_few h.q,fun x hx=>by have:=h.q.show_ x hx;omega,fun r hr=>⟨(h.row r hr).id,(h.row r hr).cells⟩,h.ids,fun k hk=>by have:=h.kids k hk;omega,by have:=h.num;omega⟩
theorem zeroV_s:VwS oN_:=⟨Nat.zero_le _,fun x hx=>(by cases hx),fun x hx=>(by cases hx),List.Pairwise.nil,fun x hx=>(by cases hx),Nat.zero_le _⟩
theorem lU_ {B:Nat} {kids:List TKid} {id b:Int} (hB:B≤100000) (hb : -1≤b∧b≤1) (h:∀ k ∈ kids,-(B:Int)≤k.n_∧k.n_≤(B:Int)):∀ k ∈ FKid kids id b,-((B+1:Nat):Int)≤k.n_∧k.n_≤((B+1:Nat):Int):=by
 intro k hk
 have up:∀ k ∈ kids,-((B+1:Nat):Int)≤k.n_∧k.n_≤((B+1:Nat):Int):=fun k hk=>by have:=h k hk;omega
 unfold FKid at hk
 cases hp:decide (gj_ kids id<kids.length)<;>rw [hp] at hk
 · simp only [cond_false] at hk
   cases hd:decide (b > 0)<;>rw [hd] at hk
   · exact up k hk
   · rcases List.mem_append.1 hk with hk|hk
     · exact up k hk
     · rw [List.mem_singleton.1 hk];show -((B+1:Nat):Int)≤b∧b≤_;omega
 · simp only [cond_true] at hk
   have hp:=of_decide_eq_true hp
   have hm:=h _ (aZ_ TKid.dflt hp)
   have hm':=up _ (aZ_ TKid.dflt hp)
   rcases List.mem_append.1 hk with hk|hk
   · rcases List.mem_append.1 hk with hk|hk
     · exact up k (List.mem_of_mem_take hk)
     · generalize kids.getD (gj_ kids id) TKid.dflt=y at hm hm' hk
       unfold ni_ at hk
       rw [Wn (by omega) (by omega)] at hk
       cases h1:(y.id_ == id)<;>rw [h1] at hk
       · cases h2:decide (b > 0)<;>rw [h2] at hk
         · rw [List.mem_singleton.1 hk];exact hm'
         · rcases List.mem_cons.1 hk with hk|hk
           · rw [hk];show -((B+1:Nat):Int)≤b∧b≤_;omega
           · rw [List.mem_singleton.1 hk];exact hm'
       · cases h2:decide (y.n_+b > 0)<;>rw [h2] at hk
         · cases hk
         · rw [List.mem_singleton.1 hk];show -((B+1:Nat):Int)≤y.n_+b∧y.n_+b≤_;omega
   · exact up k (List.mem_of_mem_drop hk)
theorem jP_ {q:ap_}:∀ (rows:List TRow) (k:List TKid) (B:Nat),B+rows.length≤100000→(∀ x ∈ k,-(B:Int)≤x.n_∧x.n_≤(B:Int))→∀ x ∈ iC_ q k rows,-((B+rows.length:Nat):Int)≤x.n_∧x.n_≤((B+rows.length:Nat):Int)
 |[],k,B,_,h=>h
 |r::rows,k,B,hB,h=>by
  simp only [List.length_cons] at hB
  have:=jP_ (q:=q) rows (FKid k (r.cells.getD q.kidCol.toNat 0) 1) (B+1) (by omega) (lU_ (by omega) ⟨by decide,by decide⟩ h)
  intro x hx
  have h2:=this x hx
  simp only [List.length_cons];omega
theorem k7_ {q:ap_} {rows:List TRow} {r x:TRow} (h:x ∈ FPut q rows r):x=r∨x ∈ rows:=by
 unfold FPut at h
 rcases List.mem_append.1 h with h|h
 · rcases List.mem_append.1 h with h|h
   · exact .inr (List.mem_of_mem_take h)
   · exact .inl (List.mem_singleton.1 h)
 · exact .inr (List.mem_of_mem_drop h)
theorem pD_ (q:ap_) (rows:List TRow) (r:TRow):(FPut q rows r).Perm (r::rows):=by
 unfold FPut
 rw [List.append_assoc]
 have:=List.perm_middle (a:=r) (l₁:=rows.take (rows.findIdx fun x=>gZ_ q r x)) (l₂:=rows.drop (rows.findIdx fun x=>gZ_ q r x))
 rw [List.take_append_drop] at this
 exact this
theorem nu_ {q:ap_} {rows:List TRow} {r:TRow} (h:(c3_ rows).Nodup) (hr:r.id_ ∉ c3_ rows):(c3_ (FPut q rows r)).Nodup:=by
 have:=(pD_ q rows r).map (·.id_)
 exact this.nodup_iff.2 (List.nodup_cons.2 ⟨hr,h⟩)
theorem rW_ (q:ap_) (rows:List TRow) (r:TRow):(FPut q rows r).length=rows.length+1:=(pD_ q rows r).length_eq
theorem ly_ {q:ap_}:∀ (rows o:List TRow),(c3_ o).Nodup→(c3_ rows).Nodup→(∀ id ∈ c3_ o,id ∉ c3_ rows)→(c3_ (gf_ q o rows)).Nodup∧(∀ x ∈ gf_ q o rows,x ∈ o∨x ∈ rows)∧(gf_ q o rows).length≤o.length+rows.length
 |[],o,h1,_,_=>⟨h1,fun x hx=>.inl hx,Nat.le_refl _⟩
 |r::rows,o,h1,h2,h3=>by
  have h2':=List.nodup_cons.1 h2
  have hro:r.id_ ∉ c3_ o:=fun h=>h3 _ h (List.mem_cons_self ..)
  have e:gf_ q o (r::rows)=gf_ q (cond (e8_ q r) (FPut q o r) o) rows:=rfl
  rw [e]
  cases hm:e8_ q r
  · have ih:=ly_ (q:=q) rows o h1 h2'.2 (fun id hi h=>h3 id hi (List.mem_cons_of_mem _ h))
    exact ⟨ih.1,fun x hx=>(ih.2.1 x hx).imp_right (List.mem_cons_of_mem _),by have:=ih.2.2;simp only [List.length_cons,cond_false];omega⟩
  · have ih:=ly_ (q:=q) rows (FPut q o r) (nu_ h1 hro) h2'.2 (fun id hi h=>by
     obtain ⟨x,hx,rfl⟩:=List.mem_map.1 hi
     rcases k7_ hx with e|hx
     · rw [e] at h;exact h2'.1 h
     · exact h3 _ (List.mem_map.2 ⟨x,hx,rfl⟩) (List.mem_cons_of_mem _ h))
    refine ⟨ih.1,fun x hx => ?_,by have:=ih.2.2;rw [rW_] at this;simp only [List.length_cons,cond_true];omega⟩
    rcases ih.2.1 x hx with h|h
    · rcases k7_ h with e|h
      · exact .inr (e ▸ List.mem_cons_self ..)
      · exact .inl h
    · exact .inr (List.mem_cons_of_mem _ h)
theorem oP_ {s:ar_} {q:ap_} (h:StoD s) (hf:em_ s=true) (hq:QryD s.schema q):∃ v,fo_ s q=(v,true)∧v.q=q∧VwR 24 s v:=by
 have hn:=h.num
 have ht:=hq.tab
 have hT:=h.tab q.table.toNat (by omega)
 have hS:FSQ s q=true:=by unfold FSQ;rw [hf,query_of hq];rfl
 refine ⟨aJ_.mk q (e7_ s q) (hK_ s q),by unfold fo_;rw [hS];rfl,rfl,hq,?_,?_,?_,?_,?_⟩
 all_goals (
  have hG:=ly_ (q:=q) (s.tables.getD q.table.toNat []) [] List.Pairwise.nil (hT.asc.imp (fun h=>Int.ne_of_lt h)) (fun id hi=>by cases hi)
  have eR:e7_ s q=gf_ q [] (s.tables.getD q.table.toNat []):=by unfold e7_;rw [hS];rfl
  have hsub:∀ x ∈ e7_ s q,x ∈ s.tables.getD q.table.toNat []:=fun x hx=>by
   rw [eR] at hx
   rcases hG.2.1 x hx with h|h
   · cases h
   · exact h
  first
  |(intro r hr;exact hT.row r (hsub r hr))
  |(intro id hi;obtain ⟨x,hx,rfl⟩:=List.mem_map.1 hi;exact List.mem_map.2 ⟨x,hsub x hx,rfl⟩)
  |(show (c3_ (e7_ s q)).Nodup;rw [eR];exact hG.1)
  |(show (e7_ s q).length≤24;have h1:=hG.2.2;have h2:=hT.len;rw [eR];simp only [List.length_nil] at h1;omega)
  |skip)
 intro k hk
 have hk:k ∈ hK_ s q:=hk
 unfold hK_ at hk
 rcases hq.kids with ⟨k0,k1,_⟩|⟨k0,_,_⟩
 · rw [k0] at hk
   have hK:=(h.tab q.kidTable.toNat (by omega)).len
   have:=jP_ (q:=q) (s.tables.getD q.kidTable.toNat []) [] 0 (by omega) (fun x hx=>(by cases hx)) k hk
   omega
 · rw [k0] at hk;cases hk
theorem ow_ (rows:List TRow) (id:Int):(gM_ rows id).Sublist rows:=List.eraseIdx_sublist _ _
theorem drop_mem {rows:List TRow} {id:Int} {x:TRow} (h:x ∈ gM_ rows id):x ∈ rows:=(ow_ rows id).mem h
theorem sX_ {rows:List TRow} {id:Int} (h:(c3_ rows).Nodup):(c3_ (gM_ rows id)).Nodup:=List.Pairwise.sublist ((ow_ rows id).map _) h
theorem drop_gone {rows:List TRow} {id:Int} (h:(c3_ rows).Nodup):id ∉ c3_ (gM_ rows id):=by
 intro hm
 unfold gM_ at hm
 by_cases hp:rows.findIdx (fun r=>r.id_ == id)<rows.length
 · have hg:=List.findIdx_getElem (xs:=rows) (p:=fun r=>r.id_ == id) (w:=hp)
   generalize rows.findIdx (fun r=>r.id_ == id)=p at hp hm hg
   have hg:(rows[p]'hp).id_=id:=eq_of_beq hg
   have hsplit:rows=rows.take p++rows[p]'hp::rows.drop (p+1):=by rw [←List.drop_eq_getElem_cons hp,List.take_append_drop]
   rw [List.eraseIdx_eq_take_drop_succ] at hm
   have hn:(c3_ (rows[p]'hp::(rows.take p++rows.drop (p+1)))).Nodup:=by
    have hperm:(rows.take p++rows[p]'hp::rows.drop (p+1)).Perm (rows[p]'hp::(rows.take p++rows.drop (p+1))):=List.perm_middle
    rw [←hsplit] at hperm
    have hm2:=hperm.map (fun r:TRow=>r.id_)
    exact hm2.nodup_iff.1 h
   have hn':(id::c3_ (rows.take p++rows.drop (p+1))).Nodup:=by rw [←hg];exact hn
   exact (List.nodup_cons.1 hn').1 hm
 · rw [List.eraseIdx_of_length_le (by omega)] at hm
   obtain ⟨x,hx,e⟩:=List.mem_map.1 hm
   exact hp (List.findIdx_lt_length.2 ⟨x,hx,beq_iff_eq.2 e⟩)
theorem drop_keep {rows:List TRow} {id id':Int} (h:id' ∈ c3_ rows) (hne:id'≠id):id' ∈ c3_ (gM_ rows id):=by
 obtain ⟨x,hx,rfl⟩:=List.mem_map.1 h
 refine List.mem_map.2 ⟨x,?_,rfl⟩
 unfold gM_
 rw [List.eraseIdx_eq_take_drop_succ]
 by_cases hp:rows.findIdx (fun r=>r.id_ == id)<rows.length
 · have hg:=List.findIdx_getElem (xs:=rows) (p:=fun r=>r.id_ == id) (w:=hp)
   generalize rows.findIdx (fun r=>r.id_ == id)=p at hp hg ⊢
   have hg:(rows[p]'hp).id_=id:=eq_of_beq hg
   have hsplit:rows=rows.take p++rows[p]'hp::rows.drop (p+1):=by rw [←List.drop_eq_getElem_cons hp,List.take_append_drop]
   rw [hsplit] at hx
   rcases List.mem_append.1 hx with hx|hx
   · exact List.mem_append_left _ hx
   · rcases List.mem_cons.1 hx with e|hx
     · rw [e] at hne;exact absurd hg hne
     · exact List.mem_append_right _ hx
 · rw [List.take_of_length_le (by omega)]
   exact List.mem_append_left _ hx
structure MutD (s:ar_) (m:TMut):Prop where
 tab:0≤m.table∧m.table<(s.schema.cols.length:Int)
 row:m.kind≠3→RowD (s.schema.cols.getD m.table.toNat 0) m.row
theorem mut_is {s:ar_} {m:TMut} (h:gY_ s.schema m=true):MutD s m:=by
 unfold gY_ at h
 cases hk:(m.kind == 3)<;>rw [hk] at h
 · rw [cond_false,Bool.and_eq_true] at h
   have:=row_is h.2
   exact ⟨this.tab,fun _=>this.row⟩
 · simp only [cond_true,Bool.and_eq_true] at h
   have h3:=(fe_ h.1).three
   have h1:=e0_ h.2.1
   rw [Wn (by omega) (by omega)] at h1
   exact ⟨by omega,fun hne=>absurd (eq_of_beq hk) hne⟩
theorem mut_view {B:Nat} {s:ar_} {v:aJ_} {m:TMut} (h:VwR B s v) (hB:B≤1000) (hn:s.tables.length=s.schema.cols.length) (hm:gY_ s.schema m=true) (hd:mz_ s m=true):VwR (B+2) (FDo s m) (gN_ v (fO_ s m)):=by
 have hM:=mut_is hm
 have ht:=h.q.tab
 have hmt:=hM.tab
 unfold mz_ at hd
 rw [Bool.and_eq_true] at hd
 have hd:=eq_of_beq hd.1
 have hkid:∀ k ∈ nI_ v (fO_ s m),-((B+2:Nat):Int)≤k.n_∧k.n_≤((B+2:Nat):Int):=by
  intro k hk
  unfold nI_ at hk
  have h0:=h.kids
  have h1:∀ (b:Bool) (id:Int),∀ k ∈ (cond b (FKid v.kids id (-1)) v.kids),-((B+1:Nat):Int)≤k.n_∧k.n_≤((B+1:Nat):Int):=fun b id k hk=>by
   cases b
   · have:=h0 k hk;omega
   · exact lU_ (by omega) ⟨by decide,by decide⟩ h0 k hk
  cases hc:(v.q.kids&&((fO_ s m).table == v.q.kidTable))<;>rw [hc] at hk
  · have:=h0 k hk;omega
  · simp only [cond_true] at hk
    cases hh:(fO_ s m).has<;>rw [hh] at hk
    · have:=h1 _ _ k hk;omega
    · exact lU_ (B:=B+1) (by omega) ⟨by decide,by decide⟩ (h1 _ _) k hk
 have hq:QryD (FDo s m).schema (gN_ v (fO_ s m)).q:=h.q
 by_cases he:m.table=v.q.table
 · have hbeq:((fO_ s m).table == v.q.table)=true:=beq_iff_eq.2 he
   have hT:eN_ s m=s.tables.getD v.q.table.toNat []:=by unfold eN_;rw [he]
   have hT':(FDo s m).tables.getD v.q.table.toNat []=cond (m.kind != 3) (eU_ (eN_ s m) m.row) (gM_ (eN_ s m) m.row.id_):=by
    unfold FDo
    rw [he,List.getD_eq_getElem?_getD,List.getElem?_set_self (by omega),Option.getD_some]
   have base:∃ b,(cond (fO_ s m).had (gM_ v.rows (fO_ s m).old.id_) v.rows)=b∧(c3_ b).Nodup∧m.row.id_ ∉ c3_ b∧(∀ x ∈ b,x ∈ v.rows)∧b.length≤v.rows.length:=by
    refine ⟨_,rfl,?_⟩
    cases hk:(m.kind != 1)
    · have e1:(fO_ s m).had=false:=hk
      rw [e1,cond_false]
      rw [hk] at hd
      have hno:=at_neg.1 (show dQ_ (eN_ s m) m.row.id_<0 by have:=of_decide_eq_false hd;omega)
      exact ⟨h.ids,fun hi=>hno (by rw [hT];exact h.sub _ hi),fun x hx=>hx,Nat.le_refl _⟩
    · have e1:(fO_ s m).had=true:=hk
      rw [hk] at hd
      have hge:=of_decide_eq_true hd
      obtain ⟨p,hp⟩:∃ p:Nat,dQ_ (eN_ s m) m.row.id_=p:=⟨(dQ_ (eN_ s m) m.row.id_).toNat,by omega⟩
      have e2:(fO_ s m).old.id_=m.row.id_:=by
       show (cond (m.kind != 1) ((eN_ s m).getD (dQ_ (eN_ s m) m.row.id_).toNat TRow.dflt) mL_).id_=_
       rw [hk,cond_true,hp,Int.toNat_natCast];exact (q0_ hp).2
      rw [e1,cond_true,e2]
      exact ⟨sX_ h.ids,drop_gone h.ids,fun x hx=>drop_mem hx,(ow_ v.rows m.row.id_).length_le⟩
   obtain ⟨b,hb,b1,b2,b3,b4⟩:=base
   have hrows:(gN_ v (fO_ s m)).rows=cond ((fO_ s m).has&&e8_ v.q (fO_ s m).new) (FPut v.q b (fO_ s m).new) b:=by
    show kG_ v (fO_ s m)=_
    unfold kG_
    rw [hbeq,cond_true,hb]
   have hbs:∀ id ∈ c3_ b,id ∈ c3_ (eN_ s m)∧id≠m.row.id_:=fun id hi=>by
    refine ⟨?_,fun e=>b2 (e ▸ hi)⟩
    obtain ⟨x,hx,rfl⟩:=List.mem_map.1 hi
    rw [hT];exact h.sub _ (List.mem_map.2 ⟨x,b3 x hx,rfl⟩)
   have hbT:∀ id ∈ c3_ b,id ∈ c3_ ((FDo s m).tables.getD v.q.table.toNat []):=fun id hi=>by
    obtain ⟨g1,g2⟩:=hbs id hi
    rw [hT']
    cases hk:(m.kind != 3)
    · exact drop_keep g1 g2
    · exact put_ids.2 (.inr g1)
   cases hc:((fO_ s m).has&&e8_ v.q (fO_ s m).new)<;>rw [hc] at hrows
   · rw [cond_false] at hrows
     refine ⟨hq,fun r hr => ?_,?_,fun id hi => ?_,hkid,?_⟩
     · rw [hrows] at hr;exact h.row r (b3 r hr)
     · rw [hrows];exact b1
     · rw [hrows] at hi;exact hbT id hi
     · rw [hrows];have:=h.num;omega
   · rw [cond_true] at hrows
     rw [Bool.and_eq_true] at hc
     have hk:(m.kind != 3)=true:=hc.1
     have e3:(fO_ s m).new=m.row:=by
      show cond (m.kind != 3) m.row mL_=_
      rw [hk];rfl
     rw [e3] at hrows
     refine ⟨hq,fun r hr => ?_,?_,fun id hi => ?_,hkid,?_⟩
     · rw [hrows] at hr
       rcases k7_ hr with e|hr
       · rw [e]
         show RowD (s.schema.cols.getD v.q.table.toNat 0) m.row
         rw [←he];exact hM.row (bne_iff_ne.1 hk)
       · exact h.row r (b3 r hr)
     · rw [hrows];exact nu_ b1 b2
     · rw [hrows] at hi
       obtain ⟨x,hx,rfl⟩:=List.mem_map.1 hi
       rcases k7_ hx with e|hx
       · show x.id_ ∈ c3_ ((FDo s m).tables.getD v.q.table.toNat [])
         rw [hT',hk,cond_true,e];exact put_ids.2 (.inl rfl)
       · exact hbT _ (List.mem_map.2 ⟨x,hx,rfl⟩)
     · rw [hrows,rW_];have:=h.num;omega
 · have hbeq:((fO_ s m).table == v.q.table)=false:=beq_eq_false_iff_ne.2 he
   have hrows:(gN_ v (fO_ s m)).rows=v.rows:=by
    show kG_ v (fO_ s m)=_
    unfold kG_
    rw [hbeq];rfl
   have hT':(FDo s m).tables.getD v.q.table.toNat []=s.tables.getD v.q.table.toNat []:=by
    unfold FDo
    rw [List.getD_eq_getElem?_getD,List.getElem?_set_ne (by omega),←List.getD_eq_getElem?_getD]
   refine ⟨hq,fun r hr => ?_,?_,fun id hi => ?_,hkid,?_⟩
   · rw [hrows] at hr;exact h.row r hr
   · rw [hrows];exact h.ids
   · rw [hrows] at hi
     show id ∈ c3_ ((FDo s m).tables.getD v.q.table.toNat [])
     rw [hT'];exact h.sub id hi
   · rw [hrows];have:=h.num;omega
theorem pR_ (v:aJ_) (l:List aS_) (c:aS_):dI_ v (l++[c])=gN_ (dI_ v l) c:=by unfold dI_;rw [List.foldl_append];rfl
theorem mi_ {v:aJ_}:∀ (l:List TMut) (s:ar_) (o:List aS_) (B:Nat),VwR B s (dI_ v o)→B+2*l.length≤1000→∀ p,fL_ s l o=some p→VwR (B+2*l.length) p.1 (dI_ v p.2)
 |[],s,o,B,h,_,p,e=>by cases e;exact h
 |m::r,s,o,B,h,hB,p,e=>by
  simp only [List.length_cons] at hB ⊢
  unfold fL_ at e
  cases hq:(f7_ s m).2.2<;>rw [hq] at e
  · cases e
  · simp only [cond_true] at e
    have hms:f7_ s m=(FDo s m,fO_ s m,true)∧em_ s=true∧gY_ s.schema m=true∧mz_ s m=true:=by
     unfold f7_ at hq ⊢
     cases hs:em_ s<;>rw [hs] at hq
     · cases hq
     · cases hk:(gY_ s.schema m&&mz_ s m)<;>rw [hk] at hq
       · cases hq
       · rw [Bool.and_eq_true] at hk
         exact ⟨rfl,rfl,hk.1,hk.2⟩
    obtain ⟨e1,hs,h1,h2⟩:=hms
    have hn:s.tables.length=s.schema.cols.length:=by
     unfold em_ at hs
     simp only [Bool.and_eq_true] at hs
     exact of_decide_eq_true hs.2.2.1
    rw [e1] at e
    have hv:=mut_view h (by omega) hn h1 h2
    rw [←pR_] at hv
    have:=mi_ r (FDo s m) (o++[fO_ s m]) (B+2) hv (by omega) p e
    exact this.upto (by omega)
theorem s4_ {B:Nat} {s:ar_} {v:aJ_} {l:List TMut} (h:VwR B s v) (hB:B+10≤1000) (hok:(ex_ s l).2.2=true):VwR (B+10) (ex_ s l).1 (dI_ v (ex_ s l).2.1):=by
 unfold ex_ at hok ⊢
 cases hs:em_ s<;>rw [hs] at hok
 · cases hok
 · cases hl:(inn (l.length:Int) 1 5 && !(s.version == 100000))<;>rw [hl] at hok
   · cases hok
   · rw [Bool.and_eq_true] at hl
     have hl:=e0_ hl.1
     simp only [cond_true] at hok ⊢
     cases hb:fL_ s l [] with
     |none=>rw [hb] at hok;cases hok
     |some p=>
      have:=mi_ l s [] B h (by omega) p hb
      exact ⟨this.q,this.row,this.ids,this.sub,fun k hk=>by have:=this.kids k hk;omega,by have h1:=this.num;show (dI_ v p.2).rows.length≤B+10;omega⟩
end Go.Pi
end
section
namespace Go.Pi
def ps_ (c:UInt8):Prop:=48≤c.toNat∧c.toNat≤57
theorem jY_ {d:Nat} (h:d<10):(UInt8.ofNat (48+d)).toNat=48+d:=by
 rw [UInt8.toNat_ofNat'];omega
theorem oz_:∀ (u:Nat),∀ c ∈ Lib.decDigits u,ps_ c:=by
 intro u
 induction u using Nat.strongRecOn with
 |ind u ih=>
  intro c hc
  rw [Lib.decDigits] at hc
  by_cases h:u<10
  · rw [dif_pos h] at hc
    obtain rfl:=List.mem_singleton.1 hc
    unfold ps_;rw [jY_ h];omega
  · rw [dif_neg h] at hc
    rcases List.mem_append.1 hc with hc|hc
    · exact ih (u / 10) (by omega) c hc
    · obtain rfl:=List.mem_singleton.1 hc
      unfold ps_;rw [jY_ (by omega)];omega
theorem dec_pos (u:Nat):1≤(Lib.decDigits u).length:=by
 rw [Lib.decDigits]
 by_cases h:u<10
 · rw [dif_pos h];simp
 · rw [dif_neg h];simp
def lf_ (x:Nat) (l:Bs):Nat:=l.foldl (fun x c=>10*x+(c.toNat - 48)) x
theorem val_nil (x:Nat):lf_ x []=x:=rfl
theorem k1_ (x:Nat) (c:UInt8) (l:Bs):lf_ x (c::l)=lf_ (10*x+(c.toNat - 48)) l:=by unfold lf_;rw [List.foldl_cons]
theorem val_app (x:Nat) (a b:Bs):lf_ x (a++b)=lf_ (lf_ x a) b:=List.foldl_append
theorem val_dec:∀ (u:Nat),lf_ 0 (Lib.decDigits u)=u:=by
 intro u
 induction u using Nat.strongRecOn with
 |ind u ih=>
  rw [Lib.decDigits]
  by_cases h:u<10
  · rw [dif_pos h,k1_,val_nil,jY_ h];omega
  · rw [dif_neg h,val_app,ih (u / 10) (by omega)]
    have e:=jY_ (d:=u % 10) (by omega)
    rw [k1_,val_nil,e]
    omega
theorem val_le:∀ (x:Nat) (l:Bs),x≤lf_ x l
 |_,[]=>Nat.le_refl _
 |x,c::l=>by rw [k1_];exact Nat.le_trans (by omega) (val_le _ l)
theorem pu_val:∀ (x:Nat) (l:Bs),(∀ c ∈ l,ps_ c)→lf_ x l≤1000000000000000000→Lib.parseUint10 x l = .ok (lf_ x l)
 |_,[],_,_=>rfl
 |x,c::l,h,hv=>by
  have hc:=h c (List.mem_cons_self ..)
  have h1:=val_le (10*x+(c.toNat - 48)) l
  rw [k1_] at hv ⊢
  unfold ps_ at hc
  rw [Lib.parseUint10,if_pos hc,if_neg (by omega),if_neg (by omega),show x*10+(c.toNat - 48)=10*x+(c.toNat - 48) by omega]
  exact pu_val _ l (fun c hc=>h c (List.mem_cons_of_mem _ hc)) hv
theorem mj_ {n:Int} (h0 : -1000000000≤n) (h1:n≤1000000000):Lib.atoiAll (Lib.itoa n) = .ok n:=by
 unfold Lib.itoa
 have key:∀ u:Nat,u≤1000000000→Lib.parseMag (Lib.decDigits u) = .ok u:=by
  intro u hu
  have:=dec_pos u
  unfold Lib.parseMag
  rw [if_neg (fun e=>by rw [e] at this;simp at this),pu_val 0 _ (oz_ u) (by rw [val_dec];omega),val_dec]
 by_cases hn:n<0
 · rw [if_pos hn,Lib.atoiAll_minus,key n.natAbs (by omega)]
   show (if 9223372036854775808<n.natAbs then Lib.NumEnd.range else .ok (-(n.natAbs:Int)))=_
   rw [if_neg (by omega),show (-(n.natAbs:Int))=n by omega]
 · rw [if_neg hn]
   have e:=key n.toNat (by omega)
   have hp:=dec_pos n.toNat
   have hd:=oz_ n.toNat
   generalize Lib.decDigits n.toNat=l at e hp hd ⊢
   cases l with
   |nil=>simp at hp
   |cons c r=>
    have hc:=hd c (List.mem_cons_self ..)
    unfold ps_ at hc
    rw [Lib.atoiAll_plain c r (by omega) (by omega),e]
    show (if 9223372036854775808≤n.toNat then Lib.NumEnd.range else .ok (n.toNat:Int))=_
    rw [if_neg (by omega),show (n.toNat:Int)=n by omega]
structure Own2 (j:aa_):Prop where
 text:j.kind=3→hm_ j.s=true
 n0:j.kind≠1→j.kind≠2→j.n_=0
 s0:j.kind≠3→j.s=[]
 ns0:j.kind≠5→j.names=[]
theorem p4_ {j:aa_} (h:FOwn j=true):Own2 j:=by
 unfold FOwn rd_ at h
 simp only [Bool.and_eq_true,Bool.or_eq_true] at h
 obtain ⟨h1,h2,h3,h4,h5⟩:=h
 refine ⟨fun hk => ?_,fun k1 k2 => ?_,fun k3 => ?_,fun k5 => ?_⟩
 · simpa only [hk,Int.reduceBEq,cond_true,cond_false] using h5
 · rcases h3 with h|h|h
   · simpa using h
   · exact absurd (by simpa using h) k1
   · exact absurd (by simpa using h) k2
 · rcases h4 with h|h
   · simpa using h
   · exact absurd (by simpa using h) k3
 · rcases h2 with h|h
   · exact List.eq_nil_of_length_eq_zero (of_decide_eq_true h)
   · exact absurd (by simpa using h) k5
theorem o4_ {d:Nat} {j:aa_} (h:cd_ (d+1) j≤400):FOwn j=true:=by
 simp only [cd_] at h
 cases ho:FOwn j with
 |false=>rw [ho,cond_false] at h;omega
 |true=>rfl
end Go.Pi
end
section
namespace Go.Pi
end Go.Pi
end
section
namespace Go.Pi
theorem Atoi_ev {s:Bs} (h:s.length≤281474976710656):Ev (fun n _=>d2_ n s) (endOf s (Lib.atoiAll s)) :=
 aq_ (by simp only [d2_,nAtoi,decide_eq_true h,cond_true,ac_])
end Go.Pi
end
section
namespace Go.Pi
def FPos (s:Bs):Int:=match (List.range 1000).find? (fun x:Nat=>Lib.itoa (x:Int) == s) with
 |some x=>(x:Int)
 |none => -1
theorem sI_ {x y:Nat} (hx:x≤999) (hy:y≤999) (h:Lib.itoa (x:Int)=Lib.itoa (y:Int)):x=y:=by
 have h1:=mj_ (n:=(x:Int)) (by omega) (by omega)
 have h2:=mj_ (n:=(y:Int)) (by omega) (by omega)
 rw [h,h2] at h1
 cases h1;rfl
theorem n1_ {x:Nat} (h:x≤999):FPos (Lib.itoa (x:Int))=x:=by
 unfold FPos
 cases e:(List.range 1000).find? (fun y:Nat=>Lib.itoa (y:Int) == Lib.itoa (x:Int)) with
 |none=>
  have:=List.find?_eq_none.1 e x (List.mem_range.2 (by omega))
  simp at this
 |some y=>
  have h1:=List.find?_some e
  have h3:=List.mem_range.1 (List.mem_of_find?_eq_some e)
  have h2:=sI_ (x:=y) (y:=x) (by omega) h (eq_of_beq h1)
  show ((y:Nat):Int)=(x:Int)
  rw [h2]
theorem pos_none {s:Bs} (h:∀ x:Nat,x≤999→Lib.itoa (x:Int)≠s):FPos s = -1:=by
 unfold FPos
 rw [List.find?_eq_none.2 fun x hx=>by have:=h x (by have:=List.mem_range.1 hx;omega);simp;exact this]
theorem o7_ (s:Bs):(∃ x:Nat,x≤999∧s=Lib.itoa (x:Int)∧FPos s=x)∨((∀ x:Nat,x≤999→Lib.itoa (x:Int)≠s)∧FPos s = -1):=by
 by_cases h:∃ x:Nat,x≤999∧s=Lib.itoa (x:Int)
 · obtain ⟨x,h1,rfl⟩:=h
   exact .inl ⟨x,h1,rfl,n1_ h1⟩
 · have h':∀ x:Nat,x≤999→Lib.itoa (x:Int)≠s:=fun x hx e=>h ⟨x,hx,e.symm⟩
   exact .inr ⟨h',pos_none h'⟩
theorem o6_ (s:Bs) : -1≤FPos s∧FPos s≤999:=by
 rcases o7_ s with ⟨x,h,_,e⟩|⟨_,e⟩<;>rw [e]<;>omega
theorem rK_ (x:Nat):Lib.itoa (x:Int)=Lib.decDigits x:=by
 unfold Lib.itoa
 rw [if_neg (by omega)]
 simp
theorem is_ {s:Bs} (hs:s.length≤281474976710656):Ev (fun n _=>dP_ n s) (FPos s):=by
 refine aq_ ?_
 simp only [dP_,ab_ (Atoi_ev hs)]
 rcases o7_ s with ⟨x,h,rfl,e⟩|⟨h,e⟩
 · rw [mj_ (n:=(x:Int)) (by omega) (by omega),e]
   have e2:endOf (Lib.itoa (x:Int)) (.ok (x:Int))=((x:Int),true):=rfl
   have e3:inn (x:Int) 0 999=true:=by simp [inn];omega
   simp only [e2,e3,Bool.not_true,cond_false,ab_ jt_,ac_,ab_ (mq_ (x:=(x:Int)) (by omega) (by omega)),beq_self_eq_true]
 · rw [e]
   generalize endOf s (Lib.atoiAll s)=v
   obtain ⟨x,ok⟩:=v
   simp only [an_,ac_,ab_ jt_]
   refine ⟨fun _=>trivial,fun _=>⟨fun _=>trivial,fun hw => ?_⟩⟩
   have hw:0≤x∧x≤999:=by simpa [inn] using hw
   have hne:=h x.toNat (by omega)
   rw [Int.toNat_of_nonneg hw.1] at hne
   simp only [ab_ (mq_ (x:=x) (by omega) (by omega)),an_,ac_]
   exact ⟨fun _=>trivial,fun hq=>by simp [hne] at hq⟩
end Go.Pi
end
section
namespace Go.Pi
end Go.Pi
end
section
namespace Go.Pi
end Go.Pi
end
section
namespace Go.Pi
end Go.Pi
end
section
namespace Go.Pi
end Go.Pi
end
section
namespace Go.Pi
theorem j9_ {d:Nat} {j:aa_} (h:cd_ (d+1) j≤400) {x:aa_} (hx:x ∈ j.list):cd_ d x≤400:=by
 have:=(fi_ h).2
 have:=lh_ (cd_ d) hx
 omega
theorem fp_:∀ (d:Nat) (j:aa_),cd_ d j≤400→gh_ d j
 |0,_,_=>trivial
 |d+1,j,h=>by
  have ho:=(fi_ h).1
  have ho2:=p4_ (o4_ h)
  have hll:=iM_ h
  have hnl:=lK_ h
  refine ⟨⟨?_,by simp only [bO_];omega,fun x hx => ?_⟩,by simp only [bO_];omega,fun x hx=>fp_ d x (j9_ h hx)⟩
  · by_cases hk:j.kind=3
    · have:=j2_ (ho2.text hk);simp only [bO_];omega
    · rw [ho2.s0 hk];exact Nat.zero_le _
  · by_cases hk:j.kind=5
    · obtain ⟨i,hi,e⟩:=List.getElem_of_mem hx
      have:=ks_ (ho.obj hk).2 hi
      rw [List.getD_eq_getElem?_getD,List.getElem?_eq_getElem hi,Option.getD_some,e] at this
      simp only [bO_];omega
    · rw [ho2.ns0 hk] at hx;cases hx
def FIdx (l:List Bs) (x:Bs):Int:=if l.findIdx (fun y=>y == x)<l.length then ((l.findIdx (fun y=>y == x):Nat):Int) else -1
theorem mr_ {l:List Bs} {x:Bs} (h:l.length≤bO_):Ev (fun n _=>aG_ n l x) (FIdx l x):=by
 refine aq_ ?_
 unfold FIdx
 rw [←fr_ ([]:Bs) (fun y=>y == x) l]
 simp only [aG_]
 refine iu_ (fun n N i=>aG_.loop3 n (some (-1)) N l x (l.length:Int) (i:Int)) _ (fun i u hi ih => ?_) ?_
 · simp only [aG_.turn3,aG_.step3,Int.toNat_natCast,W_up hi h,an_,bk_,ac_,c2_ ih,cy_ hi,cc_ hi]
   rw [show (x == l.getD i [])=(l.getD i [] == x) from BEq.comm]
   cases (l.getD i [] == x)<;>simp
 · simp only [aG_.turn3,aG_.step3,b8_,cond_false,ac_]
end Go.Pi
end
section
namespace Go.Pi
def FAt (j:aa_) (s:Bs):Int:=cond (j.kind == 5) (FIdx j.names s) (cond (j.kind == 4) (cond (decide (FPos s<(j.list.length:Int))) (FPos s) (-1)) (-1))
theorem idx_low (l:List Bs) (x:Bs) : -1≤FIdx l x∧FIdx l x<(l.length:Int):=by
 unfold FIdx
 split<;>omega
theorem l1_ {j:aa_} {s:Bs} (hn:j.names.length≤bO_) (he:j.kind=5→j.list.length=j.names.length) (hs:s.length≤281474976710656):Ev (fun n _=>dO_ n j s) (FAt j s):=by
 refine aq_ ?_
 simp only [dO_,bp_,an_,ab_ (mr_ (x:=s) hn),ab_ (is_ hs),ac_,FAt]
 have h1:=idx_low j.names s
 refine ⟨fun h5 => ?_,fun h5=>⟨fun h4 => ?_,fun h4 => ?_⟩⟩
 · have hk:j.kind=5:=by simpa using h5
   have:=he hk
   rw [h5]
   exact ⟨fun h=>by have:=of_decide_eq_true h;omega,fun _=>rfl⟩
 · rw [h5,h4]
   refine ⟨fun h => ?_,fun h => ?_⟩
   · have:=of_decide_eq_true h
     rw [decide_eq_false (by omega)];rfl
   · have:=of_decide_eq_false h
     rw [decide_eq_true (by omega)];rfl
 · rw [h5,h4]
   exact ⟨fun _=>rfl,fun _=>rfl⟩
theorem r9_ (j:aa_) (s:Bs) (he:j.kind=5→j.list.length=j.names.length) : -1≤FAt j s∧FAt j s<(j.list.length:Int):=by
 have h1:=idx_low j.names s
 have h2:=o6_ s
 unfold FAt
 cases h5:(j.kind == 5)
 · cases h4:(j.kind == 4)
   · simp;omega
   · simp only [cond_false,cond_true]
     cases hd:decide (FPos s<(j.list.length:Int))
     · simp;omega
     · have:=of_decide_eq_true hd
       simp only [cond_true];omega
 · have hk:j.kind=5:=by simpa using h5
   have:=he hk
   simp only [cond_true];omega
end Go.Pi
end
section
namespace Go.Pi
def ascB:List Bs→Prop
 |[]=>True
 |k::l=>(∀ y ∈ l,k<y)∧ascB l
theorem qq_ {k x:Bs} {ns:List Bs}:dg_ (k::ns) x=if k<x then dg_ ns x+1 else 0:=by
 by_cases h:k<x
 · have hb:Op.bytesLess k x=true:=by rw [eS_];exact decide_eq_true h
   rw [if_pos h];unfold dg_;rw [List.findIdx_cons];simp [hb]
 · have hb:Op.bytesLess k x=false:=by rw [eS_];exact decide_eq_false h
   rw [if_neg h];unfold dg_;rw [List.findIdx_cons];simp [hb]
theorem pU_ {x:Bs}:∀ {l:List Bs},ascB l→∀ h,h<l.length→Op.bytesLess (l.getD h []) x=decide (h<dg_ l x)
 |[],_,h,hh=>by simp at hh
 |k::l,ha,h,hh=>by
  rw [eS_]
  simp only [qq_]
  cases h with
  |zero=>
   simp only [List.getD_cons_zero]
   by_cases hk:k<x
   · rw [if_pos hk,decide_eq_true hk];simp
   · rw [if_neg hk,decide_eq_false hk];simp
  |succ h=>
   have hh':h<l.length:=by simpa using hh
   simp only [List.getD_cons_succ]
   by_cases hk:k<x
   · have:=pU_ (x:=x) ha.2 h hh'
     rw [eS_] at this
     rw [if_pos hk,this]
     simp
   · rw [if_neg hk]
     have hm:=ha.1 _ (aZ_ (d:=([]:Bs)) (a:=l) hh')
     rw [decide_eq_false fun h2=>hk (List.lt_trans hm h2)]
     simp
theorem nf_:∀ {l:List Bs},(∀ i,i+1<l.length→l.getD i []<l.getD (i+1) [])→ascB l
 |[],_=>trivial
 |[k],_=>⟨fun y hy=>(by cases hy),trivial⟩
 |k::k2::l,h=>by
  have h2:ascB (k2::l):=nf_ fun i hi=>h (i+1) (by simpa using hi)
  have h0:k<k2:=h 0 (by simp)
  refine ⟨fun y hy => ?_,h2⟩
  rcases List.mem_cons.1 hy with rfl|hy
  · exact h0
  · exact List.lt_trans h0 (h2.1 y hy)
theorem tj_ {l:List Bs} (h:iB_ l=true):ascB l:=by
 refine nf_ fun i hi => ?_
 have:=cH_.1 h (i+1) hi
 simp only [Bool.and_eq_true,Bool.or_eq_true,decide_eq_true_eq,Nat.add_sub_cancel] at this
 rcases this.2 with h|h
 · omega
 · rw [eS_] at h;exact of_decide_eq_true h
end Go.Pi
end
section
namespace Go.Pi
def Ok2 (x:Option aa_) (r:aa_ × Bool):Prop:=r.2=x.isSome∧∀ y,x=some y→r.1=y
theorem na_ {j:aa_}:Ok2 none (j,false):=⟨rfl,fun y h=>(by cases h)⟩
theorem ii_ {j:aa_}:Ok2 (some j) (j,true):=⟨rfl,fun y h=>(by cases h;rfl)⟩
def lD_ {α:Type} (l:List α) (k:Nat) (v:α):List α:=l.take k++[v]++l.drop k
def p0_ (j:aa_) (name:Bs):Int:=cond (name == [45]) (j.list.length:Int) (FPos name)
def FAdd (j:aa_) (name:Bs) (v:aa_):Option aa_ :=
 cond (j.kind == 5) (some (aa_.mk 5 0 [] (j4_ j.names name j.list v) (j4_ j.names name j.names name)))
  (cond (j.kind == 4) (cond (inn (p0_ j name) 0 (j.list.length:Int)) (some (aa_.mk j.kind j.n_ j.s (lD_ j.list (p0_ j name).toNat v) j.names)) none) none)
theorem size_pos:∀ (d:Nat) (x:aa_),1≤cd_ d x
 |0,_=>by simp [cd_]
 |d+1,x=>by
  simp only [cd_]
  cases FOwn x<;>simp only [cond_true,cond_false]<;>omega
theorem sum_len (d:Nat):∀ l:List aa_,l.length≤hP_ (cd_ d) l
 |[]=>Nat.zero_le _
 |x::l=>by
  have h1:=sum_len d l
  have h2:=size_pos d x
  show l.length+1≤cd_ d x+hP_ (cd_ d) l
  omega
theorem lA_ {d:Nat} {j:aa_} (h:cd_ (d+1) j≤400):j.list.length≤399:=by
 have h1:=(fi_ h).2
 have h2:=sum_len d j.list
 omega
theorem kY_ {l:List Bs} {k:Nat} {x:Bs} (h:k≤l.length) (hl:l.length≤10000):Ev (fun n _=>b5_ n l (k:Int) [x]) (lD_ l k x):=by
 refine aq_ ?_
 simp only [b5_,g6_,an_,ac_,c1_,Int.toNat_natCast,lD_]
 simp;omega
theorem ha_ {l:List aa_} {k:Nat} {x:aa_} (h:k≤l.length) (hl:l.length≤10000):Ev (fun n _=>b0_ n l (k:Int) [x]) (lD_ l k x):=by
 refine aq_ ?_
 simp only [b0_,g6_,an_,ac_,c1_,Int.toNat_natCast,lD_]
 simp;omega
theorem putL_new {α:Type} {ns:List Bs} {x:Bs} (h:(decide (dg_ ns x<ns.length)&&(ns.getD (dg_ ns x) [] == x))=false) (l:List α) (y:α):j4_ ns x l y=lD_ l (dg_ ns x) y:=by
 unfold j4_ lD_ gp_
 rw [if_neg]
 rintro ⟨h1,h2⟩
 rw [decide_eq_true h2,h1] at h
 simp at h
theorem rx_ {α:Type} {ns:List Bs} {x:Bs} (h:(decide (dg_ ns x<ns.length)&&(ns.getD (dg_ ns x) [] == x))=true) (l:List α) (y:α) (hl:dg_ ns x<l.length):j4_ ns x l y=l.set (dg_ ns x) y:=by
 simp only [Bool.and_eq_true,decide_eq_true_eq] at h
 unfold j4_ gp_
 rw [if_pos ⟨eq_of_beq h.2,h.1⟩,List.set_eq_take_append_cons_drop,if_pos hl]
 simp
theorem set_same {l:List Bs} {p:Nat} {x:Bs} (h:p<l.length) (e:l.getD p []=x):l.set p x=l:=by
 rw [List.getD_eq_getElem?_getD,List.getElem?_eq_getElem h,Option.getD_some] at e
 subst e
 exact List.set_getElem_self h
theorem kT_ {d:Nat} {j:aa_} (h:cd_ (d+1) j≤400) {name:Bs} {v:aa_} (hn:name.length≤281474976710656):Ans (fun n _=>ec_ n j name v) (Ok2 (FAdd j name v)):=by
 have ho:=(fi_ h).1
 have o2:=p4_ (o4_ h)
 have hl:=lA_ h
 refine cG_ ?_
 simp only [ec_,bp_]
 unfold FAdd
 cases h5:(j.kind == 5)
 · cases h4:(j.kind == 4)
   · simp only [cond_false,bg_];exact na_
   · simp only [cond_false,cond_true,bC_ (is_ hn),cr_,bC_ jt_,bg_]
     have hr:=o6_ name
     unfold p0_
     refine ⟨fun hq => ?_,fun hq => ?_⟩
     · rw [hq,cond_true]
       have e:inn (j.list.length:Int) 0 (j.list.length:Int)=true:=by simp [inn]
       rw [e]
       simp only [Bool.not_true,cond_true,bC_ (ha_ (l:=j.list) (k:=j.list.length) (x:=v) (Nat.le_refl _) (by omega)),bg_,Int.toNat_natCast]
       exact ⟨fun h=>(by cases h),fun _=>ii_⟩
     · rw [hq,cond_false]
       cases e:inn (FPos name) 0 (j.list.length:Int)
       · simp only [Bool.not_false,cond_false]
         exact ⟨fun _=>na_,fun h=>(by cases h)⟩
       · have hi:=dl_.1 e
         have hi2:((FPos name).toNat:Int)=FPos name:=Int.toNat_of_nonneg hi.1
         have hI:=ha_ (l:=j.list) (k:=(FPos name).toNat) (x:=v) (by omega) (by omega)
         rw [hi2] at hI
         simp only [Bool.not_true,cond_true,bC_ hI,bg_]
         exact ⟨fun h=>(by cases h),fun _=>ii_⟩
 · have hk:j.kind=5:=by simpa using h5
   obtain ⟨he,hN⟩:=ho.obj hk
   have hA:=tj_ hN
   have hB:=iH_ (ns:=j.names) (x:=name) (by omega) (pU_ hA)
   have hp:dg_ j.names name≤j.names.length:=List.findIdx_le_length
   simp only [cond_true,bC_ hB]
   have n0:=o2.n0 (by omega) (by omega)
   have s0:=o2.s0 (by omega)
   cases hf:(decide (dg_ j.names name<j.names.length)&&(j.names.getD (dg_ j.names name) [] == name))
   · simp only [cond_false,bC_ (kY_ (l:=j.names) (k:=dg_ j.names name) (x:=name) hp (by omega)),bC_ (ha_ (l:=j.list) (k:=dg_ j.names name) (x:=v) (by omega) (by omega)),bg_,putL_new hf,hk,n0,s0]
     exact ii_
   · have hlt:dg_ j.names name<j.names.length:=by simp only [Bool.and_eq_true,decide_eq_true_eq] at hf;exact hf.1
     have e2:j.names.set (dg_ j.names name) name=j.names:=by
      have h7:j.names.getD (dg_ j.names name) []=name:=by simp only [Bool.and_eq_true] at hf;exact eq_of_beq hf.2
      exact set_same hlt h7
     simp only [cond_true,el_,cc_ (show dg_ j.names name<j.list.length by omega),true_and,Int.toNat_natCast,bg_,rx_ hf j.list v (by omega),rx_ hf j.names name hlt,hk,n0,s0]
     rw [e2]
     exact ii_
end Go.Pi
end
section
namespace Go.Pi
end Go.Pi
end
section
namespace Go.Pi
def kq_ (d:Nat) (j:aa_) (o:TOp):Option aa_:=cond (o.kind == 4) (cond (ef_ d j o.value) (some j) none) (cond (o.kind == 2) none (some o.value))
def qg_ (j:aa_) (i:Nat) (y:aa_):aa_:=aa_.mk j.kind j.n_ j.s (j.list.set i y) j.names
def pJ_ (j:aa_) (i:Nat):aa_:=aa_.mk j.kind j.n_ j.s (j.list.take i++j.list.drop (i+1)) (cond (j.kind == 5) (j.names.take i++j.names.drop (i+1)) j.names)
def FPat:Nat→aa_→List Bs→TOp→Option aa_
 |d,j,[],o=>kq_ d j o
 |0,_,_::_,_=>none
 |d+1,j,x::w,o=>cond (w.isEmpty&&(o.kind == 1)) (FAdd j x o.value) (cond (decide (FAt j x<0)) none (cond (w.isEmpty&&(o.kind == 2)) (some (pJ_ j (FAt j x).toNat))
   ((FPat d (j.list.getD (FAt j x).toNat aa_.dflt) w o).map (qg_ j (FAt j x).toNat))))
structure OpFit (o:TOp):Prop where
 kind:o.kind=1∨o.kind=2∨o.kind=3∨o.kind=4
 value:cd_ 6 o.value≤400
theorem mO_ {d:Nat} {j:aa_} {o:TOp} (h:cd_ d j≤400) (ho:OpFit o):Ans (fun n _=>e1_ n j o) (Ok2 (kq_ d j o)):=by
 have hC:=de_ 6 o.value ho.value
 have hA:=gt_ d j o.value (fs_ d j h) (fp_ d j h)
 refine cG_ ?_
 simp only [e1_,bp_]
 unfold kq_
 rcases ho.kind with hk|hk|hk|hk<;>rw [hk]
 · simp only [show ((1:Int) == 1)=true from rfl,show ((1:Int) == 4)=false from rfl,show ((1:Int) == 2)=false from rfl,cond_true,cond_false,bC_ hC,bg_];exact ii_
 · simp only [show ((2:Int) == 1)=false from rfl,show ((2:Int) == 3)=false from rfl,show ((2:Int) == 4)=false from rfl,show ((2:Int) == 2)=true from rfl,cond_true,cond_false,bg_];exact na_
 · simp only [show ((3:Int) == 1)=false from rfl,show ((3:Int) == 3)=true from rfl,show ((3:Int) == 4)=false from rfl,show ((3:Int) == 2)=false from rfl,cond_true,cond_false,bC_ hC,bg_];exact ii_
 · simp only [show ((4:Int) == 1)=false from rfl,show ((4:Int) == 3)=false from rfl,show ((4:Int) == 4)=true from rfl,cond_true,cond_false,bC_ hA,bg_]
   cases ef_ d j o.value
   · exact na_
   · exact ii_
theorem kS_ {j:aa_} {i:Nat} (hi:i<j.list.length) (hl:j.list.length≤10000) (he:j.kind=5→j.names.length=j.list.length):Ev (fun n _=>ds_ n j (i:Int)) (pJ_ j i):=by
 have hW:=W_up hi (show j.list.length≤bO_ by simp only [bO_];omega)
 have e1:((i+1:Nat):Int).toNat=i+1:=Int.toNat_natCast _
 have hD:Ev (fun n _=>cE_ n j.list (i:Int) ((i+1:Nat):Int)) (j.list.take i++j.list.drop (i+1)):=by
  refine aq_ ?_
  simp only [cE_,ij_,an_,ac_,c1_,Int.toNat_natCast,e1]
  simp;omega
 refine aq_ ?_
 simp only [ds_,hW,ab_ hD,an_,ac_]
 unfold pJ_
 refine ⟨fun h5 => ?_,fun h5 => ?_⟩
 · have hk:=he (by simpa using h5)
   have hS:Ev (fun n _=>cw_ n j.names (i:Int) ((i+1:Nat):Int)) (j.names.take i++j.names.drop (i+1)):=by
    refine aq_ ?_
    simp only [cw_,ij_,an_,ac_,c1_,Int.toNat_natCast,e1]
    simp;omega
   rw [h5]
   simp only [ab_ hS,ac_,cond_true]
 · rw [h5];rfl
end Go.Pi
end
section
namespace Go.Pi
theorem ok2_map {x:Option aa_} {r:aa_ × Bool} (h:Ok2 x r) {f:aa_→aa_} {z:aa_} (hz:r.2=true→z=f r.1):Ok2 (x.map f) (z,r.2):=by
 obtain ⟨h1,h2⟩:=h
 refine ⟨by rw [h1];cases x<;>rfl,fun y hy => ?_⟩
 cases x with
 |none=>cases hy
 |some x0=>
  simp only [Option.map_some,Option.some.injEq] at hy
  rw [←hy,←h2 x0 rfl]
  exact hz (by rw [h1];rfl)
theorem beq_nat (n:Nat):Nat.beq n n=true:=Nat.beq_refl n
theorem hU_:∀ (d:Nat) (j:aa_) (way:List Bs) (o:TOp),cd_ d j≤400→(∀ x ∈ way,x.length≤281474976710656)→way.length≤1000→OpFit o→Ans (fun n _=>cK_ n j way o) (Ok2 (FPat d j way o))
 |0,j,way,o,h,hw,hl,ho=>by simp only [cd_] at h;omega
 |d+1,j,[],o,h,hw,hl,ho=>by
  have hW:=mO_ h ho
  refine cG_ ?_
  simp only [cK_,bp_,ih_,List.length_nil,show (((0:Nat):Int) == 0)=true from rfl,cond_true]
  exact aO_ hW fun r hr=>bg_.2 hr
 |d+1,j,x::w,o,h,hw,hl,ho=>by
  have hown:=(fi_ h).1
  have hjl:=lA_ h
  have he:j.kind=5→j.list.length=j.names.length:=fun hk=>(hown.obj hk).1.symm
  have hnl:j.names.length≤bO_:=by
   have:=(fp_ (d+1) j h).1.2
   exact this.1
  have hx:=hw x (List.mem_cons_self ..)
  have hC:=de_ 6 o.value ho.value
  have hP:=l1_ (s:=x) hnl he hx
  have hAdd:=kT_ h (name:=x) (v:=o.value) hx
  have hr:=r9_ j x he
  have hcut:(0:Int)≤1∧(1:Int)≤((x::w).length:Int)∧((x::w).length:Int)≤((x::w).length:Int):=⟨by omega,by simp;omega,by omega⟩
  have hin0:(0:Int)≤0∧(0:Int)<((x::w).length:Int):=⟨by omega,by simp<;>omega⟩
  have e0:(((x::w).length:Int) == 0)=false:=by simp;omega
  have ew:(((x::w).take (((x::w).length:Nat):Int).toNat).drop 1)=w:=by rw [Int.toNat_natCast,List.take_length];rfl
  have iX_:¬ FAt j x<0→Ans (fun n N=>inB (FAt j x) j.list.length (iY_ 1 ((x::w).length:Int) (x::w).length (cond (Nat.beq (FAt j x).toNat (FAt j x).toNat) (cond (Nat.beq (FAt j x).toNat (FAt j x).toNat) ((cK_ n (j.list.getD (FAt j x).toNat aa_.dflt) w o).bind fun xr6=>(cond (!xr6.2) (some ((aa_.mk 0 0 [] ([]:List aa_) ([]:List Bs)),false)) (inB (FAt j x) j.list.length (cond (Nat.beq (FAt j x).toNat (FAt j x).toNat) (let xa7:List aa_:=j.list.set (FAt j x).toNat xr6.1;(some ((aa_.mk j.kind j.n_ j.s xa7 j.names),true))) none)))) none) none)))
    (Ok2 ((FPat d (j.list.getD (FAt j x).toNat aa_.dflt) w o).map (qg_ j (FAt j x).toNat))):=fun hn=>by
   have hlt:(FAt j x).toNat<j.list.length:=by omega
   have ih:=hU_ d (j.list.getD (FAt j x).toNat aa_.dflt) w o (j9_ h (aZ_ _ hlt)) (fun y hy=>hw y (List.mem_cons_of_mem _ hy)) (by simp at hl;omega) ho
   simp only [beq_nat,cond_true,el_,ans_cutB]
   refine ⟨⟨by omega,by omega⟩,hcut,?_⟩
   refine aO_ ih fun r hr => ?_
   simp only [cr_,bg_,el_]
   refine ⟨fun hf => ?_,fun hf=>⟨⟨by omega,by omega⟩,?_⟩⟩
   · have hf:r.2=false:=by simpa using hf
     have:=ok2_map hr (f:=qg_ j (FAt j x).toNat) (z:=aa_.mk 0 0 [] ([]:List aa_) ([]:List Bs)) (fun e=>by rw [hf] at e;cases e)
     rwa [hf] at this
   · have hf:r.2=true:=by simpa using hf
     have:=ok2_map hr (f:=qg_ j (FAt j x).toNat) (z:=qg_ j (FAt j x).toNat r.1) (fun _=>rfl)
     rwa [hf] at this
  refine cG_ ?_
  simp only [cK_,bp_,ih_,e0,cond_false,ew,List.getD_cons_zero]
  cases w with
  |nil=>
   have e1:(([x]:List Bs).length:Int) == 1:=rfl
   have e1:((([x]:List Bs).length:Int) == 1)=true:=rfl
   simp only [e1,cond_true,FPat,List.isEmpty_nil,Bool.true_and]
   cases hk:(o.kind == 1)
   · simp only [cond_false,el_,bC_ hP,cr_,bg_]
     refine ⟨hin0,fun hn => ?_,fun hn => ?_⟩
     · rw [hn];exact na_
     · have hn':=of_decide_eq_false hn
       rw [hn]
       refine ⟨fun h2 => ?_,fun h2 => ?_⟩
       · have hi:((FAt j x).toNat:Int)=FAt j x:=Int.toNat_of_nonneg (by omega)
         have hD:=kS_ (j:=j) (i:=(FAt j x).toNat) (by omega) (by omega) (fun hk=>(hown.obj hk).1)
         rw [hi] at hD
         simp only [bC_ hD,bg_,h2,cond_true,cond_false]
         exact ii_
       · rw [h2]
         have hq:=el_.1 (iX_ hn')
         simp only [FPat] at hq
         exact hq
   · simp only [cond_true,el_,bC_ hC]
     refine ⟨hin0,?_⟩
     exact aO_ hAdd fun r hr=>bg_.2 hr
  |cons x2 w=>
   have e1:(((x::x2::w).length:Int) == 1)=false:=by simp<;>omega
   simp only [e1,cond_false,FPat,List.isEmpty_cons,Bool.false_and]
   simp only [el_,bC_ hP,cr_,bg_]
   refine ⟨hin0,fun hn => ?_,fun hn => ?_⟩
   · rw [hn];exact na_
   · have hn':=of_decide_eq_false hn
     rw [hn]
     exact el_.1 (iX_ hn')
end Go.Pi
end
section
namespace Go.Pi
end Go.Pi
end
section
namespace Go.Pi
end Go.Pi
end
section
namespace Go.Pi
theorem qz_ {e:Nat} {v:aa_} (h:gh_ e v):∀ {k d:Nat},d+k=e→gh_ d v
 |0,d,hd=>by
  have:d=e:=by omega
  rw [this];exact h
 |k+1,d,hd=>ob_ d v (qz_ h (k:=k) (by omega))
theorem ry_ {α:Type} {ns:List Bs} {x:Bs} {l:List α} {y z:α} (h:z ∈ j4_ ns x l y):z=y∨z ∈ l:=by
 unfold j4_ at h
 rcases List.mem_append.1 h with h|h
 · rcases List.mem_append.1 h with h|h
   · exact .inr (List.mem_of_mem_take h)
   · exact .inl (List.mem_singleton.1 h)
 · exact .inr (List.mem_of_mem_drop h)
theorem rz_ {α:Type} {ns:List Bs} {x:Bs} {l:List α} {y:α}:(j4_ ns x l y).length≤l.length+1:=by
 have:dg_ ns x≤gp_ ns x:=by unfold gp_;split<;>omega
 unfold j4_
 simp;omega
theorem putIn_mem {α:Type} {k:Nat} {l:List α} {y z:α} (h:z ∈ lD_ l k y):z=y∨z ∈ l:=by
 unfold lD_ at h
 rcases List.mem_append.1 h with h|h
 · rcases List.mem_append.1 h with h|h
   · exact .inr (List.mem_of_mem_take h)
   · exact .inl (List.mem_singleton.1 h)
 · exact .inr (List.mem_of_mem_drop h)
theorem cut_mem {α:Type} {k m:Nat} {l:List α} {z:α} (h:z ∈ l.take k++l.drop m):z ∈ l:=by
 rcases List.mem_append.1 h with h|h
 · exact List.mem_of_mem_take h
 · exact List.mem_of_mem_drop h
theorem sk_:∀ (d:Nat) (j:aa_) (way:List Bs) (o:TOp) (y:aa_),d≤6→cd_ d j≤400→(∀ x ∈ way,x.length≤1000)→OpFit o→FPat d j way o=some y→gh_ d y
 |0,j,way,o,y,hd,h,hw,ho,e=>by simp only [cd_] at h;omega
 |d+1,j,[],o,y,hd,h,hw,ho,e=>by
  have hj:=fp_ (d+1) j h
  have hv:=qz_ (fp_ 6 _ ho.value) (d:=d+1) (k:=5 - d) (by omega)
  simp only [FPat,kq_] at e
  cases h4:(o.kind == 4)<;>rw [h4] at e
  · cases h2:(o.kind == 2)<;>rw [h2] at e
    · cases e;exact hv
    · cases e
  · cases ha:ef_ (d+1) j o.value<;>rw [ha] at e
    · cases e
    · cases e;exact hj
 |d+1,j,x::w,o,y,hd,h,hw,ho,e=>by
  have hj:=fp_ (d+1) j h
  obtain ⟨⟨hs,hn,hns⟩,hl,hk⟩:=hj
  have hjl:=lA_ h
  have hv:=qz_ (fp_ 6 _ ho.value) (d:=d) (k:=6 - d) (by omega)
  have hx:=hw x (List.mem_cons_self ..)
  have hown:=(fi_ h).1
  have ht:(1000000:Nat)≤bO_:=by simp only [bO_];omega
  have hnl:j.kind=5→j.names.length≤400:=fun h5=>by have:=(hown.obj h5).1;omega
  simp only [FPat] at e
  cases c1:(w.isEmpty&&(o.kind == 1))<;>rw [c1] at e
  · cases c2:decide (FAt j x<0)<;>rw [c2] at e
    · cases c3:(w.isEmpty&&(o.kind == 2))<;>rw [c3] at e
      · simp only [cond_false] at e
        cases hf:FPat d (j.list.getD (FAt j x).toNat aa_.dflt) w o with
        |none=>rw [hf] at e;cases e
        |some z=>
         rw [hf] at e
         simp only [Option.map_some,Option.some.injEq] at e
         subst e
         have hr:=r9_ j x fun h5=>(hown.obj h5).1.symm
         have c2':=of_decide_eq_false c2
         have hlt:(FAt j x).toNat<j.list.length:=by omega
         have ih:=sk_ d _ w o z (by omega) (j9_ h (aZ_ _ hlt)) (fun y hy=>hw y (List.mem_cons_of_mem _ hy)) ho hf
         refine ⟨⟨hs,hn,hns⟩,by simp only [qg_,List.length_set];exact hl,fun q hq => ?_⟩
         rcases List.mem_or_eq_of_mem_set hq with hq|rfl
         · exact hk q hq
         · exact ih
      · simp only [cond_true,cond_false,Option.some.injEq] at e
        subst e
        refine ⟨⟨hs,?_⟩,?_,fun q hq=>hk q (cut_mem hq)⟩
        · show sG_ bO_ (cond (j.kind == 5) _ _)
          cases h5:(j.kind == 5)
          · exact ⟨hn,hns⟩
          · have:=hnl (by simpa using h5)
            exact ⟨by simp;omega,fun q hq=>hns q (cut_mem hq)⟩
        · simp only [pJ_];simp;omega
    · cases e
  · simp only [cond_true,FAdd] at e
    cases h5:(j.kind == 5)<;>rw [h5] at e
    · cases h4:(j.kind == 4)<;>rw [h4] at e
      · cases e
      · simp only [cond_true,cond_false] at e
        cases hi:inn (p0_ j x) 0 (j.list.length:Int)<;>rw [hi] at e
        · cases e
        · cases e
          refine ⟨⟨hs,hn,hns⟩,?_,fun q hq => ?_⟩
          · simp only [lD_];simp;omega
          · rcases putIn_mem hq with rfl|hq
            · exact hv
            · exact hk q hq
    · cases e
      have:=hnl (by simpa using h5)
      have p1:=rz_ (ns:=j.names) (x:=x) (l:=j.names) (y:=x)
      have p2:=rz_ (ns:=j.names) (x:=x) (l:=j.list) (y:=o.value)
      refine ⟨⟨Nat.zero_le _,(by show (j4_ j.names x j.names x).length≤bO_;omega),fun q hq => ?_⟩,by show (j4_ j.names x j.list o.value).length≤bO_;omega,fun q hq => ?_⟩
      · rcases ry_ hq with rfl|hq
        · omega
        · exact hns q hq
      · rcases ry_ hq with rfl|hq
        · exact hv
        · exact hk q hq
end Go.Pi
end
section
namespace Go.Pi
def fH_ (j:aa_) (o:TOp):aa_ × Bool:=cond (bw_ j&&h2_ o) (match FPat 6 j o.way o with
 |some y=>cond (bw_ y) (y,true) (gr_,false)
 |none=>(gr_,false)) (gr_,false)
theorem op_fit {o:TOp} (h:h2_ o=true):OpFit o∧o.way.length≤6∧∀ x ∈ o.way,x.length≤60:=by
 unfold h2_ at h
 simp only [Bool.and_eq_true] at h
 obtain ⟨h1,h2,h3,h4,h5⟩:=h
 have h1:=dl_.1 h1
 refine ⟨⟨by omega,of_decide_eq_true h3⟩,of_decide_eq_true h2,fun x hx => ?_⟩
 obtain ⟨i,hi,rfl⟩:=List.mem_iff_getElem.1 hx
 have:=cH_.1 h4 i hi
 rw [List.getD_eq_getElem?_getD,List.getElem?_eq_getElem hi,Option.getD_some] at this
 simp only [hm_,Bool.and_eq_true,decide_eq_true_eq] at this
 omega
theorem on_ {j:aa_} {o:TOp} (hj:gh_ 6 j) (ho:pj_ o):Ev (fun n _=>e3_ n j o) (fH_ j o):=by
 refine ev_ans (cG_ ?_)
 simp only [e3_,bp_,ih_,bC_ (dx_ hj),cr_,bg_,bC_ (kA_ ho)]
 unfold fH_
 cases h1:bw_ j
 · exact ⟨fun _=>rfl,fun h=>(by cases h)⟩
 · cases h2:h2_ o
   · exact ⟨fun h=>(by cases h),fun _=>⟨fun _=>rfl,fun h=>(by cases h)⟩⟩
   · refine ⟨fun h=>(by cases h),fun _=>⟨fun h=>(by cases h),fun _ => ?_⟩⟩
     obtain ⟨f1,f2,f3⟩:=op_fit h2
     have hs:cd_ 6 j≤400:=of_decide_eq_true h1
     have hC:=de_ 6 j hs
     have hP:=hU_ 6 j o.way o hs (fun x hx=>by have:=f3 x hx;omega) (by omega) f1
     rw [bC_ hC]
     refine aO_ hP fun r hr => ?_
     obtain ⟨r1,r2⟩:=hr
     simp only [cr_,bg_,Bool.and_self,cond_true]
     cases hf:FPat 6 j o.way o with
     |none=>
      rw [hf] at r1
      rw [r1]
      exact ⟨fun _=>rfl,fun h=>(by cases h)⟩
     |some y=>
      rw [hf] at r1
      rw [r1,r2 y hf]
      refine ⟨fun h=>(by cases h),fun _ => ?_⟩
      have hl:=sk_ 6 j o.way o y (Nat.le_refl _) hs (fun x hx=>by have:=f3 x hx;omega) f1 hf
      rw [bC_ (dx_ hl)]
      simp only [cr_,bg_]
      cases bw_ y
      · exact ⟨fun _=>rfl,fun h=>(by cases h)⟩
      · exact ⟨fun h=>(by cases h),fun _=>rfl⟩
end Go.Pi
end
section
namespace Go.Pi
def dz_:aa_→List TOp→aa_ × Bool
 |j,[]=>(j,true)
 |j,o::l=>cond (fH_ j o).2 (dz_ (fH_ j o).1 l) (gr_,false)
def ff_ (j:aa_) (l:List TOp):aa_ × Bool:=cond (bw_ j&&decide (l.length≤40)) (dz_ j l) (gr_,false)
theorem lG_ {j:aa_} {o:TOp} (h:(fH_ j o).2=true):bw_ (fH_ j o).1=true:=by
 unfold fH_ at h ⊢
 cases h1:(bw_ j&&h2_ o)<;>rw [h1] at h
 · cases h
 · simp only [cond_true] at h ⊢
   cases hf:FPat 6 j o.way o with
   |none=>rw [hf] at h;cases h
   |some y=>
    rw [hf] at h
    simp only at h ⊢
    cases hy:bw_ y<;>rw [hy] at h
    · cases h
    · exact hy
theorem hu_:∀ {l:List TOp} {j:aa_},bw_ j=true→(dz_ j l).2=true→bw_ (dz_ j l).1=true
 |[],j,hj,_=>hj
 |o::l,j,hj,h=>by
  unfold dz_ at h ⊢
  cases hp:(fH_ j o).2<;>rw [hp] at h
  · cases h
  · exact hu_ (lG_ hp) h
theorem mK_ {l:List TOp} {j:aa_} (h:(ff_ j l).2=true):bw_ (ff_ j l).1=true:=by
 unfold ff_ at h ⊢
 cases h1:(bw_ j&&decide (l.length≤40))<;>rw [h1] at h
 · cases h
 · rw [Bool.and_eq_true] at h1
   exact hu_ h1.1 h
theorem gt40 (n:Nat):decide ((n:Int) > 40) = !decide (n≤40):=by
 by_cases h:n≤40
 · rw [decide_eq_true h,decide_eq_false (by omega)];rfl
 · rw [decide_eq_false h,decide_eq_true (by omega)];rfl
theorem qt_ {j:aa_} (h:bw_ j=true):gh_ 6 j:=fp_ 6 j (of_decide_eq_true h)
theorem kV_ {j:aa_} {l:List TOp} (hj:gh_ 6 j) (hl:ng_ l):Ev (fun n _=>bf_ n j l) (ff_ j l):=by
 refine aq_ ?_
 simp only [bf_,bp_,gt40,ab_ (dx_ hj),an_,ac_]
 unfold ff_
 cases h1:bw_ j
 · exact ⟨fun _=>rfl,fun h=>(by cases h)⟩
 · refine ⟨fun h=>(by cases h),fun _ => ?_⟩
   cases h2:decide (l.length≤40)
   · exact ⟨fun _=>rfl,fun h=>(by cases h)⟩
   · refine ⟨fun h=>(by cases h),fun _ => ?_⟩
     have hC:=de_ 6 j (of_decide_eq_true h1)
     simp only [ab_ hC,Bool.and_true,cond_true]
     have key:∀ (m i:Nat) (v:aa_),i+m=l.length→bw_ v=true →
       Ev (fun n N=>bf_.loop7 n (fun xy4 xy5 xy6 xy7 xy8 xy9 xy10 xy11=>(some ((aa_.mk xy7 xy8 xy9 xy10 xy11),true))) N l (l.length:Int) (i:Int) 0 0 [] v.kind v.n_ v.s v.list v.names) (dz_ v (l.drop i)):=by
      intro m
      induction m with
      |zero=>
       intro i v hi hv
       have e:i=l.length:=by omega
       subst e
       refine cx_ ?_
       simp only [bf_.turn7,bf_.step7,b8_,cond_false,ac_,List.drop_length,dz_,eM_]
      |succ m ih=>
       intro i v hi hv
       have hlt:i<l.length:=by omega
       have hP:=on_ (j:=v) (o:=l.getD i TOp.dflt) (qt_ hv) (hl.2 _ (aZ_ _ hlt))
       have hW:=W_up hlt (show l.length≤bO_ by have:=hl.1;simp only [bO_];omega)
       rw [fE_ TOp.dflt hlt]
       refine cx_ ?_
       simp only [bf_.turn7,bf_.step7,bp_,eM_,ih_,cy_ hlt,cond_true,bk_,cc_ hlt,true_and,Int.toNat_natCast,hW,ab_ hP,an_,ac_,dz_]
       cases hp:(fH_ v (l.getD i TOp.dflt)).2
       · exact ⟨fun _=>rfl,fun h=>(by cases h)⟩
       · exact ⟨fun h=>(by cases h),fun _=>ih (i+1) _ (by omega) (lG_ hp)⟩
     exact fb_ (key l.length 0 j (by omega) h1)
end Go.Pi
end
section
namespace Go.Pi
inductive hH_:List aa_→List TOp→List aa_→Prop
 |nil (vs):hH_ vs [] vs
 |rm {vs k ops us}:k<vs.length→hH_ (del vs k) ops us→hH_ vs (rmOp k::ops) us
 |rep {vs k j ops us}:k<vs.length→hH_ (vs.set k j) ops us→hH_ vs (repOp k j::ops) us
 |add {vs k j ops us}:k≤vs.length→hH_ (fa_ vs k j) ops us→hH_ vs (s8_ k j::ops) us
theorem hH_.append {a b c:List aa_} {o p:List TOp} (h:hH_ a o b) (k:hH_ b p c):hH_ a (o++p) c:=by
 induction h with
 |nil=>exact k
 |rm h _ ih=>exact .rm h (ih k)
 |rep h _ ih=>exact .rep h (ih k)
 |add h _ ih=>exact .add h (ih k)
theorem hH_.none {a b:List aa_} (h:hH_ a [] b):a=b:=by cases h;rfl
abbrev hx_ (vs:List aa_):aa_:=aa_.mk 4 0 [] vs []
theorem itoa_dash (k:Nat):(Lib.itoa (k:Int) == ([45]:Bs))=false:=by
 refine beq_eq_false_iff_ne.2 fun e => ?_
 rw [rK_] at e
 have:=oz_ k 45 (by rw [e];exact List.mem_singleton.2 rfl)
 exact absurd this (by unfold ps_;decide)
theorem at_list {vs:List aa_} {k:Nat} (h:k<vs.length) (h9:k≤999):FAt (hx_ vs) (Lib.itoa (k:Int))=k:=by
 have e:FAt (hx_ vs) (Lib.itoa (k:Int))=cond (decide (FPos (Lib.itoa (k:Int))<(vs.length:Int))) (FPos (Lib.itoa (k:Int))) (-1):=rfl
 rw [e,n1_ h9,decide_eq_true (by omega)];rfl
theorem jW_ (d:Nat) (j:aa_) (x:Bs) (w:List Bs) (o:TOp):FPat (d+1) j (x::w) o=cond (w.isEmpty&&(o.kind == 1)) (FAdd j x o.value) (cond (decide (FAt j x<0)) none (cond (w.isEmpty&&(o.kind == 2)) (some (pJ_ j (FAt j x).toNat))
   ((FPat d (j.list.getD (FAt j x).toNat aa_.dflt) w o).map (qg_ j (FAt j x).toNat)))):=rfl
theorem qs_ {vs:List aa_} {k:Nat} {o:TOp} (h:k<vs.length) (h9:k≤999) (ho:o.kind=2):FPat 5 (hx_ vs) [Lib.itoa (k:Int)] o=some (hx_ (del vs k)):=by
 rw [jW_,at_list h h9,ho,decide_eq_false (by omega)]
 rfl
theorem o8_ {vs:List aa_} {k:Nat} {o:TOp} (h:k<vs.length) (h9:k≤999) (ho:o.kind=3):FPat 5 (hx_ vs) [Lib.itoa (k:Int)] o=some (hx_ (vs.set k o.value)):=by
 rw [jW_,at_list h h9,ho,decide_eq_false (by omega)]
 have e:FPat 4 ((hx_ vs).list.getD ((k:Nat):Int).toNat aa_.dflt) [] o=some o.value:=by
  show kq_ 4 _ o=_
  unfold kq_;rw [ho];rfl
 rw [e];rfl
theorem o9_ {vs:List aa_} {k:Nat} {o:TOp} (h:k≤vs.length) (h9:k≤999) (ho:o.kind=1):FPat 5 (hx_ vs) [Lib.itoa (k:Int)] o=some (hx_ (fa_ vs k o.value)):=by
 rw [jW_,ho]
 have e:p0_ (hx_ vs) (Lib.itoa (k:Int))=(k:Int):=by
  unfold p0_;rw [itoa_dash,cond_false,n1_ h9]
 have e2:FAdd (hx_ vs) (Lib.itoa (k:Int)) o.value=cond (inn (p0_ (hx_ vs) (Lib.itoa (k:Int))) 0 (vs.length:Int)) (some (aa_.mk 4 0 [] (lD_ vs (p0_ (hx_ vs) (Lib.itoa (k:Int))).toNat o.value) [])) none:=rfl
 show FAdd (hx_ vs) (Lib.itoa (k:Int)) o.value=_
 rw [e2,e,dl_.2 ⟨by omega,by omega⟩]
 rfl
theorem pat_rows {n:Nat} {vs us:List aa_} {k:Nat} {o:TOp} (h:FPat 5 (hx_ vs) [Lib.itoa (k:Int)] o=some (hx_ us)):FPat 6 (dX_ n vs) [cZ_,Lib.itoa (k:Int)] o=some (dX_ n us):=by
 have e:FAt (dX_ n vs) cZ_=1:=rfl
 rw [jW_,e]
 have e2:(dX_ n vs).list.getD (1:Int).toNat aa_.dflt=hx_ vs:=rfl
 rw [e2,h]
 cases o.kind == 1<;>cases o.kind == 2<;>rfl
theorem patch_val {j y:aa_} {o:TOp} (h:(fH_ j o).2=true) (hy:FPat 6 j o.way o=some y):(fH_ j o).1=y:=by
 revert h
 unfold fH_
 rw [hy]
 cases (bw_ j&&h2_ o)
 · intro h;cases h
 · simp only [cond_true]
   cases bw_ y
   · intro h;cases h
   · intro _;rfl
theorem sB_ {j:aa_} {o:TOp} (hy:FPat 6 j o.way o=none):(fH_ j o).2=false:=by
 unfold fH_
 rw [hy]
 cases (bw_ j&&h2_ o)<;>rfl
theorem qc_ {n:Nat} {vs us:List aa_} {ops:List TOp} (h:hH_ vs ops us):vs.length+ops.length≤999→(dz_ (dX_ n vs) (eT_ cZ_ ops)).2=true→(dz_ (dX_ n vs) (eT_ cZ_ ops)).1=dX_ n us:=by
 have one:∀ {vs us:List aa_} {o:TOp} {ops:List TOp} {k:Nat},o.way=[Lib.itoa (k:Int)]→FPat 5 (hx_ vs) [Lib.itoa (k:Int)] (fm_ cZ_ o)=some (hx_ us) →
   (dz_ (dX_ n vs) (eT_ cZ_ (o::ops))).2=true→(dz_ (dX_ n us) (eT_ cZ_ ops)).2=true∧(dz_ (dX_ n vs) (eT_ cZ_ (o::ops))).1=(dz_ (dX_ n us) (eT_ cZ_ ops)).1:=by
  intro vs us o ops k hw hp h
  have e:eT_ cZ_ (o::ops)=fm_ cZ_ o::eT_ cZ_ ops:=rfl
  have hv:FPat 6 (dX_ n vs) (fm_ cZ_ o).way (fm_ cZ_ o)=some (dX_ n us):=by
   have:(fm_ cZ_ o).way=[cZ_,Lib.itoa (k:Int)]:=by show cZ_::o.way=_;rw [hw]
   rw [this];exact pat_rows hp
  have e2:dz_ (dX_ n vs) (fm_ cZ_ o::eT_ cZ_ ops)=cond (fH_ (dX_ n vs) (fm_ cZ_ o)).2 (dz_ (fH_ (dX_ n vs) (fm_ cZ_ o)).1 (eT_ cZ_ ops)) (gr_,false):=rfl
  rw [e,e2] at h ⊢
  cases h2:(fH_ (dX_ n vs) (fm_ cZ_ o)).2
  · rw [h2] at h;exact Bool.noConfusion h
  · rw [h2] at h
    rw [cond_true,patch_val h2 hv] at h ⊢
    exact ⟨h,rfl⟩
 induction h with
 |nil vs=>intro _ _;rfl
 | @rm vs k ops us hk _ ih=>
   intro hb h
   simp only [List.length_cons] at hb
   have hd:=gE_ hk
   obtain ⟨h1,h2⟩:=one (o:=rmOp k) rfl (qs_ hk (by omega) rfl) h
   rw [h2];exact ih (by omega) h1
 | @rep vs k j ops us hk _ ih=>
   intro hb h
   simp only [List.length_cons] at hb
   obtain ⟨h1,h2⟩:=one (o:=repOp k j) rfl (o8_ hk (by omega) rfl) h
   rw [h2];exact ih (by rw [List.length_set];omega) h1
 | @add vs k j ops us hk _ ih=>
   intro hb h
   simp only [List.length_cons] at hb
   have hd:=lZ_ (x:=j) hk
   obtain ⟨h1,h2⟩:=one (o:=s8_ k j) rfl (o9_ hk (by omega) rfl) h
   rw [h2];exact ih (by omega) h1
theorem texts_eq {a b:List Bs} (h:hb_ a b=true):a=b:=by
 unfold hb_ at h
 rw [Bool.and_eq_true,cH_] at h
 have hl:=of_decide_eq_true h.1
 apply List.ext_getElem hl
 intro i h1 h2
 have:=eq_of_beq (h.2 i h1)
 rwa [List.getD_eq_getElem?_getD,List.getD_eq_getElem?_getD,List.getElem?_eq_getElem h1,List.getElem?_eq_getElem h2] at this
theorem sf_:∀ (d:Nat) (a b:aa_),kn_ d a→ef_ d a b=true→a=b
 |0,a,b,h,_=>h.elim
 |d+1,a,b,h,he=>by
  simp only [ef_,Bool.and_eq_true,cH_] at he
  obtain ⟨h1,h2,h3,h4,h5,h6⟩:=he
  have hl:=of_decide_eq_true h5
  have e:a.list=b.list:=by
   apply List.ext_getElem hl
   intro i k1 k2
   have:=sf_ d _ _ (h _ (aZ_ aa_.dflt k1)) (h6 i k1)
   rwa [List.getD_eq_getElem?_getD,List.getD_eq_getElem?_getD,List.getElem?_eq_getElem k1,List.getElem?_eq_getElem k2] at this
  rw [←eM_ a,←eM_ b,eq_of_beq h1,eq_of_beq h2,eq_of_beq h3,texts_eq h4,e]
theorem nX_ (nk:List Int) (old:List ao_) (vs:List aa_):∀ k l ops,k≤l.length→hH_ vs ops (l.map (·.value))→hH_ vs (kM_ nk old k l ops).2 ((kM_ nk old k l ops).1.map (·.value))
 |0,l,ops,_,h=>h
 |k+1,l,ops,hk,h=>by
  simp only [kM_]
  split
  · exact nX_ nk old vs k l ops (by omega) h
  · have hd:=gE_ (l:=l) (k:=k) (by omega)
    refine nX_ nk old vs k (del l k) _ (by omega) (h.append (.rm (by simp;omega) ?_))
    rw [←km_];exact .nil _
def n8_ (now l:List ao_) (i:Nat):List aa_:=((now.take i)++(l.drop i)).map (·.value)
theorem drop_cons {α:Type} (d:α) {l:List α} {i:Nat} (h:i<l.length):l.drop i=l.getD i d::l.drop (i+1):=fE_ d h
theorem take_snoc {α:Type} (d:α) {l:List α} {i:Nat} (h:i<l.length):l.take (i+1)=l.take i++[l.getD i d]:=by
 rw [List.take_succ_eq_append_getElem h,List.getD_eq_getElem?_getD,List.getElem?_eq_getElem h];rfl
theorem del_app {α:Type} {a b:List α} {p:Nat} (h:a.length≤p):del (a++b) p=a++del b (p - a.length):=by
 unfold del
 rw [List.take_append,List.take_of_length_le h,List.drop_append,List.drop_eq_nil_of_le (by omega),List.nil_append,List.append_assoc,show p+1 - a.length=p - a.length+1 by omega]
theorem ins_app {α:Type} {a b:List α} (x:α):fa_ (a++b) a.length x=a++[x]++b:=by
 unfold fa_
 rw [List.take_left,List.drop_left]
theorem del_drop {α:Type} {l:List α} {i p:Nat} (h:i≤p) (hp:p<l.length):(del l p).drop i=del (l.drop i) (p - i):=by
 unfold del
 rw [List.drop_append_of_le_length (by simp;omega),List.drop_take,List.drop_drop,show i+(p - i+1)=p+1 by omega]
theorem rL_ {α:Type} {l:List α} {i:Nat} {x:α} (h:i≤l.length):(fa_ l i x).drop (i+1)=l.drop i:=by
 have hl:(l.take i++[x]).length=i+1:=by simp;omega
 unfold fa_
 rw [←hl,List.drop_left]
theorem pY_ {now:List ao_} {s:List ao_ × List TOp} {vs:List aa_} (hd:∀ x ∈ s.1,kn_ 6 x.value) (hn:∀ x ∈ now,kn_ 6 x.value) (h:hH_ vs s.2 (s.1.map (·.value))):∀ i,i≤now.length →
  hH_ vs (fW_ now s i).2 (n8_ now (fW_ now s i).1 i)∧∀ x ∈ (fW_ now s i).1,kn_ 6 x.value
 |0,_=>⟨by unfold n8_;exact h,hd⟩
 |i+1,hi=>by
  obtain ⟨ih,id⟩:=pY_ hd hn h i (by omega)
  have hL:=(hl_ now s i).1
  simp only [fW_]
  have hlt:i<now.length:=by omega
  have ht:=take_snoc ao_.dflt hlt
  have hA:(now.take i).length=i:=by simp;omega
  have hxd:=hn _ (aZ_ ao_.dflt hlt)
  generalize now.getD i ao_.dflt=x at ht hxd ⊢
  generalize (fW_ now s i).1=l at ih id hL ⊢
  unfold f4_
  by_cases h1:kAt (aX_ l) x.key=(i:Int)
  · rw [if_pos h1]
    have hil:=(jQ_ h1).1
    rw [bK_] at hil
    refine ⟨?_,id⟩
    dsimp only
    have eV:n8_ now l i=(now.take i).map (·.value)++(l.getD i ao_.dflt).value::(l.drop (i+1)).map (·.value):=by
     unfold n8_;rw [drop_cons ao_.dflt hil,List.map_append,List.map_cons]
    have eV2:n8_ now l (i+1)=(now.take i).map (·.value)++x.value::(l.drop (i+1)).map (·.value):=by
     unfold n8_;rw [ht,List.append_assoc,List.map_append];rfl
    cases ha:ef_ 6 (l.getD i ao_.dflt).value x.value with
    |true=>
     have e:=sf_ 6 _ _ (id _ (aZ_ ao_.dflt hil)) ha
     simp only [cond_true,List.append_nil]
     rw [eV2,←e,←eV];exact ih
    |false=>
     simp only [cond_false]
     refine ih.append (.rep ?_ ?_)
     · unfold n8_;simp only [List.length_map,List.length_append,List.length_drop,hA];omega
     · have:(n8_ now l i).set i x.value=n8_ now l (i+1):=by
        rw [eV,eV2,List.set_append_right _ _ (by simp;omega)]
        have:i - ((now.take i).map (·.value)).length=0:=by simp;omega
        rw [this];rfl
       rw [this];exact .nil _
  · rw [if_neg h1]
    have e0:n8_ now l i=(now.take i).map (·.value)++(l.drop i).map (·.value):=by unfold n8_;rw [List.map_append]
    have hA':((now.take i).map (·.value)).length=i:=by rw [List.length_map];exact hA
    by_cases h2:(i:Int)<kAt (aX_ l) x.key
    · rw [if_pos h2]
      obtain ⟨p,hp,h3,h4⟩:=lW_ h2
      rw [hp,Int.toNat_natCast]
      dsimp only
      have hdl:=gE_ h4
      have eD:del (n8_ now l i) p=(now.take i).map (·.value)++((del l p).drop i).map (·.value):=by
       rw [e0,del_app (by omega),hA',←km_,del_drop (by omega) h4]
      have eI:fa_ (del (n8_ now l i) p) i x.value=n8_ now (fa_ (del l p) i x) (i+1):=by
       have:=ins_app (a:=(now.take i).map (·.value)) (b:=((del l p).drop i).map (·.value)) x.value
       rw [hA'] at this
       rw [eD,this]
       unfold n8_
       rw [rL_ (by omega),ht,List.map_append,List.map_append];rfl
      refine ⟨ih.append (.rm ?_ (.add ?_ ?_)),fun y hy => ?_⟩
      · rw [e0];simp only [List.length_append,List.length_map,List.length_drop,hA];omega
      · rw [eD];simp only [List.length_append,List.length_map,List.length_drop,hA];omega
      · rw [eI];exact .nil _
      · rcases jR_ hy with e|hy
        · rw [e];exact hxd
        · exact id _ (qO_ hy)
    · rw [if_neg h2]
      dsimp only
      have eI:fa_ (n8_ now l i) i x.value=n8_ now (fa_ l i x) (i+1):=by
       have:=ins_app (a:=(now.take i).map (·.value)) (b:=(l.drop i).map (·.value)) x.value
       rw [hA'] at this
       rw [e0,this]
       unfold n8_
       rw [rL_ hL,ht,List.map_append,List.map_append];rfl
      refine ⟨ih.append (.add ?_ ?_),fun y hy => ?_⟩
      · rw [e0];simp only [List.length_append,List.length_map,List.length_drop,hA];omega
      · rw [eI];exact .nil _
      · rcases jR_ hy with e|hy
        · rw [e];exact hxd
        · exact id _ hy
theorem pg_ {l:List ao_} {k:Nat} (h:(aX_ l).Nodup):(aX_ (del l k)).Nodup:=by
 have e:aX_ (del l k)=del (aX_ l) k:=km_ (fun x:ao_=>x.key) l k
 rw [e]
 have e2:del (aX_ l) k=(aX_ l).eraseIdx k:=(List.eraseIdx_eq_take_drop_succ (aX_ l) k).symm
 rw [e2]
 exact List.Pairwise.sublist (List.eraseIdx_sublist (aX_ l) k) h
theorem pe_ {l:List ao_} {k:Nat} {x:ao_} (h:(aX_ l).Nodup) (hx:x.key ∉ aX_ l):(aX_ (fa_ l k x)).Nodup:=by
 have e:aX_ (fa_ l k x)=(aX_ l).take k++x.key::(aX_ l).drop k:=by
  have:=lY_ (fun x:ao_=>x.key) l k x
  unfold fa_ at this ⊢
  unfold aX_
  rw [this,List.append_assoc];rfl
 rw [e]
 refine (List.perm_middle.nodup_iff).2 ?_
 rw [List.take_append_drop]
 exact List.nodup_cons.2 ⟨hx,h⟩
theorem nY_ (nk:List Int) (old:List ao_):∀ k l ops,(aX_ l).Nodup→(aX_ (kM_ nk old k l ops).1).Nodup
 |0,l,ops,h=>h
 |k+1,l,ops,h=>by
  simp only [kM_]
  split
  · exact nY_ nk old k l ops h
  · exact nY_ nk old k (del l k) _ (pg_ h)
theorem qm_ (nk:List Int) (old:List ao_):∀ k l ops,l.take k=old.take k→k≤l.length→(∀ j,k≤j→j<l.length→(l.getD j ao_.dflt).key ∈ nk)→∀ x ∈ (kM_ nk old k l ops).1,x.key ∈ nk
 |0,l,ops,_,_,h,x,hx=>by
  have hx:x ∈ l:=hx
  obtain ⟨j,hj,rfl⟩:=List.mem_iff_getElem.1 hx
  have:=h j (Nat.zero_le _) hj
  rwa [List.getD_eq_getElem?_getD,List.getElem?_eq_getElem hj] at this
 |k+1,l,ops,ht,hk,h,x,hx=>by
  simp only [kM_] at hx
  have hg:=np_ ao_.dflt ht
  by_cases hm:(old.getD k ao_.dflt).key ∈ nk
  · rw [if_pos hm] at hx
    refine qm_ nk old k l ops (jw_ ht) (by omega) (fun j h1 h2 => ?_) x hx
    by_cases e:j=k
    · rw [e,hg];exact hm
    · exact h j (by omega) h2
  · rw [if_neg hm] at hx
    have hd:=gE_ (l:=l) (k:=k) (by omega)
    refine qm_ nk old k (del l k) _ (by rw [r2_ (by omega)];exact jw_ ht) (by omega) (fun j h1 h2 => ?_) x hx
    have:(del l k).getD j ao_.dflt=l.getD (j+1) ao_.dflt:=by
     unfold del
     have hl:(l.take k).length=k:=by simp;omega
     rw [List.getD_eq_getElem?_getD,List.getElem?_append_right (by omega),hl,List.getElem?_drop,List.getD_eq_getElem?_getD]
     congr 2;omega
    rw [this];exact h (j+1) (by omega) (by omega)
theorem kAt_ge {ks:List Int} {k:Int} (h:kAt ks k<0):k ∉ ks:=og_.1 h
theorem add_nodup {now l:List ao_} {i:Nat} (hd:gV_ now) (hi:i<now.length) (hL:i≤l.length) (hf:∀ j,j<i→(l.getD j ao_.dflt).key=(now.getD j ao_.dflt).key) (h:(aX_ l).Nodup):(aX_ (f4_ l i (now.getD i ao_.dflt)).1).Nodup:=by
 have hne:∀ j,j<i→(now.getD j ao_.dflt).key≠(now.getD i ao_.dflt).key:=fun j hj=>hd j i hj hi
 generalize now.getD i ao_.dflt=x at hne ⊢
 unfold f4_
 by_cases h1:kAt (aX_ l) x.key=(i:Int)
 · rw [if_pos h1];exact h
 · rw [if_neg h1]
   by_cases h2:(i:Int)<kAt (aX_ l) x.key
   · rw [if_pos h2]
     obtain ⟨p,hp,h3,h4⟩:=lW_ h2
     rw [hp,Int.toNat_natCast]
     refine pe_ (pg_ h) fun hm => ?_
     have e:aX_ (del l p)=del (aX_ l) p:=km_ (fun x:ao_=>x.key) l p
     rw [e] at hm
     obtain ⟨q1,q2⟩:=jQ_ hp
     have hsplit:aX_ l=(aX_ l).take p++x.key::(aX_ l).drop (p+1):=by
      have:=List.take_append_drop p (aX_ l)
      rw [fE_ 0 q1,q2] at this
      exact this.symm
     rw [hsplit] at h
     have:=(List.perm_middle.nodup_iff).1 h
     exact (List.nodup_cons.1 this).1 hm
   · rw [if_neg h2]
     refine pe_ h fun hm => ?_
     have hge:¬ kAt (aX_ l) x.key<0:=fun h=>kAt_ge h hm
     obtain ⟨q,hq⟩:∃ q:Nat,kAt (aX_ l) x.key=q:=⟨(kAt (aX_ l) x.key).toNat,by omega⟩
     obtain ⟨q1,q2⟩:=jQ_ hq
     have hqi:q<i:=by omega
     rw [dk_ (by rw [bK_] at q1;exact q1),hf q hqi] at q2
     exact hne q hqi q2
structure AddAll (old now l:List ao_) (i:Nat):Prop where
 inv:sm_ old now l i
 nodup:(aX_ l).Nodup
theorem addAll {old now:List ao_} {s:List ao_ × List TOp} (hd:gV_ now) (hs:∀ x ∈ s.1,x ∈ old) (hn:(aX_ s.1).Nodup):∀ i,i≤now.length→AddAll old now (fW_ now s i).1 i
 |0,_=>⟨⟨Nat.zero_le _,fun j h=>by omega,fun x hx=>.inl (hs x hx)⟩,hn⟩
 |i+1,hi=>by
  have ih:=addAll hd hs hn i (by omega)
  exact ⟨mn_ ih.inv (by omega),add_nodup hd (by omega) ih.inv.len ih.inv.front ih.nodup⟩
theorem nodup_of {now:List ao_} (hd:gV_ now):(aX_ now).Nodup:=by
 refine List.pairwise_iff_getElem.2 fun i j hi hj hij => ?_
 rw [bK_] at hi hj
 have:=hd i j hij hj
 rw [←dk_ hi,←dk_ hj] at this
 rwa [List.getD_eq_getElem?_getD,List.getD_eq_getElem?_getD,List.getElem?_eq_getElem (by rw [bK_];exact hi),List.getElem?_eq_getElem (by rw [bK_];exact hj)] at this
theorem su_ {old now:List ao_} (hod:∀ x ∈ old,kn_ 6 x.value) (hnd:∀ x ∈ now,kn_ 6 x.value) (ho:gV_ old) (hn:gV_ now):hH_ (old.map (·.value)) (hI_ old now) (now.map (·.value)):=by
 have hm:=jD_ (aX_ now) old old.length old []
 have h1:=nX_ (aX_ now) old (old.map (·.value)) old.length old [] (Nat.le_refl _) (.nil _)
 have hk:=qm_ (aX_ now) old old.length old [] rfl (Nat.le_refl _) (fun j h1 h2=>by omega)
 have hnd2:=nY_ (aX_ now) old old.length old [] (nodup_of ho)
 unfold hI_
 generalize kM_ (aX_ now) old old.length old []=s at hm h1 hk hnd2 ⊢
 have h2:=(pY_ (fun x hx=>hod x (hm x hx)) hnd h1 now.length (Nat.le_refl _)).1
 have h3:=addAll (old:=s.1) hn (fun x hx=>hx) hnd2 now.length (Nat.le_refl _)
 generalize (fW_ now s now.length).1=l at h2 h3 ⊢
 have e:l.drop now.length=[]:=by
  refine List.drop_eq_nil_of_le (Nat.le_of_not_lt fun hlt => ?_)
  have hkey:(l.getD now.length ao_.dflt).key ∈ aX_ now:=by
   rcases h3.inv.from_ _ (aZ_ ao_.dflt hlt) with h|⟨j,hj,e⟩
   · exact hk _ h
   · rw [e,←dk_ hj];exact aZ_ 0 (by rw [bK_];exact hj)
  obtain ⟨j,hj,e⟩:=List.mem_iff_getElem.1 hkey
  rw [bK_] at hj
  have e1:(now.getD j ao_.dflt).key=(l.getD now.length ao_.dflt).key:=by
   rw [←dk_ hj,List.getD_eq_getElem?_getD,List.getElem?_eq_getElem (by rw [bK_];exact hj)];exact e
  have e2:=h3.inv.front j hj
  have:=List.pairwise_iff_getElem.1 h3.nodup j now.length (by rw [bK_];omega) (by rw [bK_];exact hlt) hj
  apply this
  have k1:=dk_ (l:=l) (k:=j) (by omega)
  have k2:=dk_ (l:=l) (k:=now.length) hlt
  rw [List.getD_eq_getElem?_getD,List.getElem?_eq_getElem (by rw [bK_];omega)] at k1
  rw [List.getD_eq_getElem?_getD,List.getElem?_eq_getElem (by rw [bK_];exact hlt)] at k2
  simp only [Option.getD_some] at k1 k2
  rw [k1,k2,e2,e1]
 unfold n8_ at h2
 rw [e,List.append_nil,List.take_length] at h2
 exact h2
end Go.Pi
end
section
namespace Go.Pi
structure VIn (c:Nat) (v:aJ_):Prop where
 len:jM_ c v
 show_:∀ y ∈ v.q.show_,0≤y∧y≤1000
theorem VIn.upto {c d:Nat} {v:aJ_} (h:VIn c v) (hc:c≤d):VIn d v:=⟨h.len.upto hc,h.show_⟩
theorem VIn.ints {c:Nat} {v:aJ_} (h:VIn c v):∀ y ∈ v.q.show_,i64 y:=fun y hy=>by have:=h.show_ y hy;unfold i64;omega
end Go.Pi
end
section
namespace Go.Pi
theorem pV_ {p:Nat→Bool} {len:Nat} (h:∀ i,i<len→p i=true):h0_ p len=true:=cH_.2 h
theorem nE_:∀ (d:Nat) (j:aa_),ef_ d j j=true
 |0,_=>rfl
 |d+1,j=>by
  have h1:hb_ j.names j.names=true:=by
   unfold hb_
   rw [decide_eq_true rfl,Bool.true_and]
   exact pV_ fun i _=>beq_self_eq_true _
  simp only [ef_,beq_self_eq_true,h1,decide_true,Bool.true_and]
  exact pV_ fun i _=>nE_ d _
theorem big_evS {fN_:List Int}:Ev (fun n _=>gs_ n fN_) (decide ((fN_.length:Int) > 1048576)):=aq_ (by simp only [gs_,ac_])
end Go.Pi
end
section
namespace Go.Pi
def inM (x:Int):Prop:=-1000000000≤x∧x≤1000000000
theorem num_size {d:Nat} {n:Int} (h:inM n):cd_ (d+1) (hf_ n)=1:=by
 have e:FOwn (hf_ n)=true:=by
  have:FOwn (hf_ n)=(((n == 0)||((2:Int) == 1||(2:Int) == 2))&&inn n (-1000000000) 1000000000):=by
   unfold FOwn rd_ hf_
   cases (n == 0)<;>rfl
  rw [this,dl_.2 h]
  cases (n == 0)<;>rfl
 show cond (FOwn (hf_ n)) (min 401 (1+0)) 401=1
 rw [e];rfl
theorem text_col (c:Int) (hc:0≤c∧c≤4):hm_ (eL_ c)=true:=by
 obtain ⟨k,rfl⟩:∃ k:Nat,c=(k:Int):=⟨c.toNat,by omega⟩
 have hl:=iN_ (k:=k) (by omega)
 have hd:∀ x ∈ eL_ (k:Int),32≤x.toNat∧x.toNat≤126:=by
  intro x hx
  rcases List.mem_cons.1 hx with e|hx
  · rw [e];decide
  · rw [rK_] at hx
    have h:=oz_ k x hx
    unfold ps_ at h;omega
 have hn:(eL_ (k:Int)).length≤60:=by show (Lib.itoa (k:Int)).length+1≤60;omega
 unfold hm_
 rw [decide_eq_true (by omega),Bool.and_true]
 refine cH_.2 fun i hi=>dl_.2 ?_
 have:=hd _ (aZ_ 0 hi)
 omega
theorem obj_right {l:List (Bs × Int)} (ha:e9_ l) (hl:l.length≤300) (ht:∀ p ∈ l,hm_ p.1=true) (hv:∀ p ∈ l,inM p.2):bw_ (nb_ l)=true:=by
 have hnames:iB_ (l.map (·.1))=true:=by
  unfold iB_
  refine cH_.2 fun i hi => ?_
  rw [List.length_map] at hi
  have e:∀ j,j<l.length→(l.map (·.1)).getD j []=(l.getD j ([],0)).1:=fun j hj=>fD_ (fun p:Bs × Int=>p.1) ([],0) [] hj
  rw [e i hi,ht _ (aZ_ _ hi),Bool.true_and]
  by_cases h0:i=0
  · rw [decide_eq_true h0];rfl
  · rw [e (i - 1) (by omega),eS_,Bool.or_eq_true]
    right
    refine decide_eq_true ?_
    have asc:∀ (l:List (Bs × Int)),e9_ l→∀ j,j+1<l.length→(l.getD j ([],0)).1<(l.getD (j+1) ([],0)).1:=by
     intro l
     induction l with
     |nil=>intro _ j hj;simp at hj
     |cons p l ih=>
      intro h j hj
      obtain ⟨k,v⟩:=p
      cases j with
      |zero=>exact h.1 _ (aZ_ _ (by simpa using hj))
      |succ j=>exact ih h.2 j (by simpa using hj)
    have:=asc l ha (i - 1) (by omega)
    rwa [show i - 1+1=i by omega] at this
 have hown:FOwn (nb_ l)=true:=by
  unfold FOwn rd_ nb_
  simp only [List.length_map,hnames]
  cases decide (l.length=0)<;>simp
 have hsum:∀ (l:List (Bs × Int)),(∀ p ∈ l,inM p.2)→hP_ (cd_ 5) (l.map fun p=>hf_ p.2)=l.length:=by
  intro l
  induction l with
  |nil=>intro _;rfl
  |cons p l ih=>
   intro h
   show cd_ 5 (hf_ p.2)+hP_ (cd_ 5) (l.map fun p=>hf_ p.2)=l.length+1
   rw [num_size (h p (List.mem_cons_self ..)),ih fun q hq=>h q (List.mem_cons_of_mem _ hq)];omega
 refine decide_eq_true ?_
 show cond (FOwn (nb_ l)) (min 401 (1+hP_ (cd_ 5) (l.map fun p=>hf_ p.2))) 401≤400
 rw [hown,hsum l hv,cond_true];omega
theorem pq_ {kids:List TKid} {id:Int} (h:∀ k ∈ kids,-1000000≤k.n_∧k.n_≤1000000) : -1000000≤fJ_ kids id∧fJ_ kids id≤1000000:=by
 unfold fJ_
 have key:∀ d i,i+d≤kids.length → -1000000≤fl_ (fun i x=>cond ((kids.getD i TKid.dflt).id_ == id) (kids.getD i TKid.dflt).n_ x) 0 d i∧fl_ (fun i x=>cond ((kids.getD i TKid.dflt).id_ == id) (kids.getD i TKid.dflt).n_ x) 0 d i≤1000000:=by
  intro d
  induction d with
  |zero=>intro i _;simp only [fl_];omega
  |succ d ih=>
   intro i hi
   simp only [fl_]
   have h1:=ih (i+1) (by omega)
   cases ((kids.getD i TKid.dflt).id_ == id)
   · exact h1
   · exact h _ (aZ_ _ (by omega))
 exact key _ _ (by omega)
theorem s3_ {r:TRow} {c:Int} (h:∀ x ∈ r.cells,inM x):inM (fu_ r c):=by
 unfold fu_
 cases hi:inn c 0 (W ((r.cells.length:Int) - 1))
 · show inM 0;exact ⟨by decide,by decide⟩
 · rw [cond_true]
   by_cases hl:c.toNat<r.cells.length
   · exact h _ (aZ_ 0 hl)
   · rw [List.getD_eq_getElem?_getD,List.getElem?_eq_none (by omega)];exact ⟨by decide,by decide⟩
theorem row_right {q:ap_} {r:TRow} {k:Int} (hf:q.show_.length≤4) (hs:∀ x ∈ q.show_,0≤x∧x≤4) (hid:1≤r.id_∧r.id_≤999) (hc:∀ x ∈ r.cells,inM x) (hk:inM k):bw_ (gK_ q r k)=true:=by
 have hmem:∀ p ∈ mX_ q r k,hm_ p.1=true∧inM p.2:=by
  intro p hp
  unfold mX_ at hp
  rcases gx_ hp with h|h
  · unfold ke_ at h
    cases hq:q.kids<;>rw [hq] at h
    · cases h
    · rw [List.mem_singleton.1 h];exact ⟨show hm_ nd_=true by decide,hk⟩
  · rcases lX_ h with e|h
    · rw [e];exact ⟨show hm_ to_=true by decide,by show -1000000000≤r.id_;omega,by show r.id_≤1000000000;omega⟩
    · rcases gx_ h with h|h
      · obtain ⟨c,hc',rfl⟩:=List.mem_map.1 h
        exact ⟨text_col c (hs c hc'),s3_ hc⟩
      · cases h
 have hlen:=p3_ (q:=q) (r:=r) (kids:=k)
 exact obj_right FRowL_asc (by omega) (fun p hp=>(hmem p hp).1) (fun p hp=>(hmem p hp).2)
section
variable {v:aJ_} (h:VwS v)
include h
theorem row_at {i:Nat} (hi:i<v.rows.length):bw_ (gK_ v.q (v.rows.getD i TRow.dflt) ((dZ_ v).getD i 0))=true:=by
 have hr:=h.row _ (aZ_ TRow.dflt hi)
 refine row_right h.few h.show_ hr.1 hr.2 ?_
 have e:(dZ_ v).getD i 0=fJ_ v.kids (v.rows.getD i TRow.dflt).id_:=fD_ (fun r:TRow=>fJ_ v.kids r.id_) TRow.dflt 0 hi
 rw [e]
 have:=pq_ (id:=(v.rows.getD i TRow.dflt).id_) h.kids
 exact ⟨by omega,by omega⟩
theorem sZ_:cs_ v=gg_ id v.q v.rows (dZ_ v) (d0_ v):=by
 unfold cs_ gg_
 refine List.map_congr_left fun i hi => ?_
 have hi:=List.mem_range.1 hi
 have hle:=fK_ (q:=v.q) (n:=v.rows.length)
 have:=row_at h (i:=i) (by unfold d0_ at hi;omega)
 unfold cV_
 rw [this];rfl
omit h in
theorem ox_:(cs_ v).length=d0_ v:=f8_
theorem qN_:∀ j ∈ cs_ v,bw_ j=true:=by
 intro j hj
 unfold cs_ gg_ at hj
 obtain ⟨i,hi,rfl⟩:=List.mem_map.1 hj
 have hi:=List.mem_range.1 hi
 have hle:=fK_ (q:=v.q) (n:=v.rows.length)
 have:=row_at h (i:=i) (by unfold d0_ at hi;omega)
 unfold cV_
 rw [this];exact this
theorem keys_ok:kOk (cs_ v) (cM_ v)=true:=by
 have hle:d0_ v≤v.rows.length:=fK_ (q:=v.q) (n:=v.rows.length)
 have hl:(cM_ v).length=d0_ v:=by unfold cM_;simp
 have hat:∀ i,i<d0_ v→(cM_ v).getD i 0=(c3_ v.rows).getD i 0:=fun i hi=>by
  unfold cM_
  rw [fD_ (fun i=>(v.rows.getD i TRow.dflt).id_) 0 0 (by simpa using hi),rR_ (by omega)]
  have:(List.range (d0_ v)).getD i 0=i:=by rw [List.getD_eq_getElem?_getD,List.getElem?_range hi];rfl
  rw [this]
 unfold kOk
 rw [ox_,hl,decide_eq_true rfl,Bool.true_and]
 refine cH_.2 fun i hi => ?_
 rw [qN_ h _ (aZ_ aa_.dflt (by rw [ox_];exact hi)),Bool.true_and]
 rw [Bool.not_eq_true']
 refine decide_eq_false fun hm => ?_
 obtain ⟨j,hj,e⟩:=List.mem_iff_getElem.1 hm
 rw [List.length_take,hl] at hj
 rw [List.getElem_take] at e
 have e2:(cM_ v).getD j 0=(cM_ v).getD i 0:=by
  rw [←e,List.getD_eq_getElem?_getD,List.getElem?_eq_getElem (by omega)];rfl
 rw [hat j (by omega),hat i hi] at e2
 have hil:(c3_ v.rows).length=v.rows.length:=by unfold c3_;simp
 have:=List.pairwise_iff_getElem.1 h.ids j i (by omega) (by omega) (by omega)
 rw [List.getD_eq_getElem?_getD,List.getD_eq_getElem?_getD,List.getElem?_eq_getElem (by omega),List.getElem?_eq_getElem (by omega)] at e2
 exact this e2
theorem doc_is:dh_ v=cV_ (dX_ v.rows.length (cs_ v)):=by
 rw [sZ_ h];rfl
end
theorem if_ {j:aa_} {o:TOp} {l:List TOp} (h:FPat 6 j o.way o=none):(dz_ j (o::l)).2=false:=by
 show (cond (fH_ j o).2 (dz_ (fH_ j o).1 l) (gr_,false)).2=false
 rw [sB_ h];rfl
theorem qr_ {a b:aJ_} (ha:VwS a) (hb:VwS b) (hq:fG_ a.q b.q=true) (hn:a.rows.length=b.rows.length) (hf:(ff_ (dh_ a) (cR_ a b)).2=true):(ff_ (dh_ a) (cR_ a b)).1=dh_ b:=by
 have ka:=keys_ok ha
 have kb:=keys_ok hb
 have e:cR_ a b=eT_ cZ_ (hI_ (iW_ (cs_ a) (cM_ a) (cs_ a).length) (iW_ (cs_ b) (cM_ b) (cs_ b).length)):=by
  unfold cR_ hN_ fP_
  rw [hq,ka,kb,decide_eq_true hn];rfl
 have va:=ho_ (docs:=cs_ a) (keys:=cM_ a)
 have vb:=ho_ (docs:=cs_ b) (keys:=cM_ b)
 have deep:∀ (l:List ao_) (js:List aa_),l.map (·.value)=js→(∀ j ∈ js,bw_ j=true)→∀ x ∈ l,kn_ 6 x.value:=fun l js el hj x hx=>fs_ 6 _ (of_decide_eq_true (hj _ (el ▸ List.mem_map.2 ⟨x,hx,rfl⟩)))
 have hst:=su_ (old:=iW_ (cs_ a) (cM_ a) (cs_ a).length) (now:=iW_ (cs_ b) (cM_ b) (cs_ b).length) (deep _ _ va (qN_ ha)) (deep _ _ vb (qN_ hb)) (gl_ (k_is ka)) (gl_ (k_is kb))
 rw [va,vb] at hst
 rw [e] at hf ⊢
 generalize hI_ (iW_ (cs_ a) (cM_ a) (cs_ a).length) (iW_ (cs_ b) (cM_ b) (cs_ b).length)=ops at hst hf ⊢
 have hda:=doc_is ha
 have hdb:=doc_is hb
 rw [←hn] at hdb
 have hlen:(cs_ a).length≤900:=by
  have h1:=ox_ (v:=a)
  have h2:d0_ a≤a.rows.length:=fK_ (q:=a.q) (n:=a.rows.length)
  have h3:=ha.num
  omega
 have hP:bw_ (dh_ a)=true∧(eT_ cZ_ ops).length≤40∧(dz_ (dh_ a) (eT_ cZ_ ops)).2=true∧ff_ (dh_ a) (eT_ cZ_ ops)=dz_ (dh_ a) (eT_ cZ_ ops):=by
  unfold ff_ at hf ⊢
  cases h1:(bw_ (dh_ a)&&decide ((eT_ cZ_ ops).length≤40))<;>rw [h1] at hf
  · cases hf
  · rw [Bool.and_eq_true] at h1
    exact ⟨h1.1,of_decide_eq_true h1.2,hf,rfl⟩
 obtain ⟨p1,p2,p3,p4⟩:=hP
 have hol:ops.length≤40:=by unfold eT_ at p2;rwa [List.length_map] at p2
 rw [p4]
 cases hw:bw_ (dX_ a.rows.length (cs_ a)) with
 |true=>
  have hd:dh_ a=dX_ a.rows.length (cs_ a):=by rw [hda];unfold cV_;rw [hw];rfl
  rw [hd] at p1 p3 ⊢
  have hres:=qc_ (n:=a.rows.length) hst (by omega) p3
  have hok:=hu_ p1 p3
  rw [hres] at hok ⊢
  rw [hdb];unfold cV_;rw [hok];rfl
 |false=>
  have hd:dh_ a=gr_:=by rw [hda];unfold cV_;rw [hw];rfl
  rw [hd] at p3 ⊢
  generalize cs_ a=da at hst hda hw
  generalize cs_ b=db at hst hdb
  cases hst with
  |nil=>
   show gr_=_
   rw [hdb];unfold cV_;rw [hw];rfl
  |rm _ _=>exact Bool.noConfusion ((if_ (o:=fm_ cZ_ (rmOp _)) rfl).symm.trans p3)
  |rep _ _=>exact Bool.noConfusion ((if_ (o:=fm_ cZ_ (repOp _ _)) rfl).symm.trans p3)
  |add _ _=>exact Bool.noConfusion ((if_ (o:=fm_ cZ_ (s8_ _ _)) rfl).symm.trans p3)
end Go.Pi
end
section
namespace Go.Pi
theorem take_view {B:Nat} {s:ar_} {x:bS_} (h:VwR B s x.view):VwR B s (eE_ x).1.view:=by
 unfold eE_
 cases FDue x<;>exact h
theorem take_last {x:bS_} (h:VwS x.view) (k:VwS x.last):VwS (eE_ x).1.last:=by
 unfold eE_
 cases FDue x
 · exact k
 · exact h
theorem l16loopS {K:Nat→au_.K5} {P:ar_ × bS_ × al_→Prop} {t21 t30 t32 t33 t34 t36 t37 t38 t311 t312 t314 t315 t316 t318 t319 t320 t323 t324} (hK:∀ c s x,DwOk c→StIn 1100 s→SsIn 6000 x→VwS x.view→VwS x.last→Ans (fun n _=>K n c.b c.i c.h t21 t30 t32 t33 t34 t36 t37 t38 t311 t312 t314 t315 t316 t318 t319 t320 t323 t324 s.schema.cols s.version s.tables x.view.q.table x.view.q.where_ x.view.q.order x.view.q.down x.view.q.first x.view.q.show_ x.view.q.kids x.view.q.kidTable x.view.q.kidCol x.view.rows x.view.kids x.version x.last.q.table x.last.q.where_ x.last.q.order x.last.q.down x.last.q.first x.last.q.show_ x.last.q.kids x.last.q.kidTable x.last.q.kidCol x.last.rows x.last.kids x.lastVersion x.began) P)
  {c:al_} {s:ar_} {x:bS_} (hc:DwOk c) (hs:StIn 1010 s) (hx:SsIn 5000 x) (hv:VwR 24 s x.view) (hw:VwS x.last):Ans (fun n _=>au_.loop5 n (K n) n 0 c.b c.i c.h t21 t30 t32 t33 t34 t36 t37 t38 t311 t312 t314 t315 t316 t318 t319 t320 t323 t324 s.schema.cols s.version s.tables x.view.q.table x.view.q.where_ x.view.q.order x.view.q.down x.view.q.first x.view.q.show_ x.view.q.kids x.view.q.kidTable x.view.q.kidCol x.view.rows x.view.kids x.version x.last.q.table x.last.q.where_ x.last.q.order x.last.q.down x.last.q.first x.last.q.show_ x.last.q.kids x.last.q.kidTable x.last.q.kidCol x.last.rows x.last.kids x.lastVersion x.began) P:=by
 have key:∀ (m i:Nat) (c:al_) (s:ar_) (x:bS_),i+m=6→DwOk c→StIn (1010+3*i) s→SsIn (5000+10*i) x→VwR (24+10*i) s x.view→VwS x.last→Ans (fun n N=>au_.loop5 n (K n) N (i:Int) c.b c.i c.h t21 t30 t32 t33 t34 t36 t37 t38 t311 t312 t314 t315 t316 t318 t319 t320 t323 t324 s.schema.cols s.version s.tables x.view.q.table x.view.q.where_ x.view.q.order x.view.q.down x.view.q.first x.view.q.show_ x.view.q.kids x.view.q.kidTable x.view.q.kidCol x.view.rows x.view.kids x.version x.last.q.table x.last.q.where_ x.last.q.order x.last.q.down x.last.q.first x.last.q.show_ x.last.q.kids x.last.q.kidTable x.last.q.kidCol x.last.rows x.last.kids x.lastVersion x.began) P:=by
  intro m
  induction m with
  |zero=>
   intro i c s x hi hc hs hx hv hw
   refine cp_ ?_
   simp only [au_.turn5,au_.step5,ci_]
   refine aO_ (a9_ hc) fun r hr => ?_
   have h1:=hr.lo;have h2:=hr.hi
   rw [decide_eq_false (by omega)]
   simp only [cond_false]
   exact hK _ _ _ hr.cur (hs.upto (by omega)) (hx.upto (by omega)) (hv.s (by omega)) hw
  |succ m ih=>
   intro i c s x hi hc hs hx hv hw
   refine cp_ ?_
   simp only [au_.turn5,au_.step5,ci_]
   refine aO_ (a9_ hc) fun r hr => ?_
   simp only [cr_]
   refine ⟨fun _ => ?_,fun _=>hK _ _ _ hr.cur (hs.upto (by omega)) (hx.upto (by omega)) (hv.s (by omega)) hw⟩
   refine aO_ (eZ_ hr.cur) fun r2 h2 => ?_
   have hgo:∀ (y:bS_),SsIn (5000+10*i) y→VwR (24+10*i) s y.view→VwS y.last→Ans (fun n N=>(aC_ n r2.2 s).bind fun xr57=>((bt_ n s xr57.1).bind fun xr58=>(cond xr58.2.2 ((dT_ n y xr58.2.1).bind fun xr59=>(au_.loop5 n (K n) N (W ((i:Int)+1)) xr57.2.b xr57.2.i xr57.2.h t21 t30 t32 t33 t34 t36 t37 t38 t311 t312 t314 t315 t316 t318 t319 t320 t323 t324 xr58.1.schema.cols xr58.1.version xr58.1.tables xr59.view.q.table xr59.view.q.where_ xr59.view.q.order xr59.view.q.down xr59.view.q.first xr59.view.q.show_ xr59.view.q.kids xr59.view.q.kidTable xr59.view.q.kidCol xr59.view.rows xr59.view.kids xr59.version xr59.last.q.table xr59.last.q.where_ xr59.last.q.order xr59.last.q.down xr59.last.q.first xr59.last.q.show_ xr59.last.q.kids xr59.last.q.kidTable xr59.last.q.kidCol xr59.last.rows xr59.last.kids xr59.lastVersion xr59.began)) (au_.loop5 n (K n) N (W ((i:Int)+1)) xr57.2.b xr57.2.i xr57.2.h t21 t30 t32 t33 t34 t36 t37 t38 t311 t312 t314 t315 t316 t318 t319 t320 t323 t324 s.schema.cols s.version s.tables y.view.q.table y.view.q.where_ y.view.q.order y.view.q.down y.view.q.first y.view.q.show_ y.view.q.kids y.view.q.kidTable y.view.q.kidCol y.view.rows y.view.kids y.version y.last.q.table y.last.q.where_ y.last.q.order y.last.q.down y.last.q.first y.last.q.show_ y.last.q.kids y.last.q.kidTable y.last.q.kidCol y.last.rows y.last.kids y.lastVersion y.began)))) P:=by
    intro y hy yv yw
    refine aO_ (lO_ h2 hs (by omega) (by omega)) fun b hb => ?_
    have hm:lM_ (1010+3*i) b.1:=fun z hz=>Nat.le_trans (hb.2.1 z hz) (by omega)
    have hB:=lr_ (l:=b.1) hs.len hm (by have:=hb.1;omega)
    have hL:=kJ_ (l:=b.1) hs.len hm
    have hI:=rg_ (l:=b.1) hs hm
    have hC:∀ z ∈ (ex_ s b.1).2.1,qa_ (5000+10*i) z:=fun z hz=>⟨Nat.le_trans (hL.2.2 z hz).1 (by have:=hb.1;omega),Nat.le_trans (hL.2.2 z hz).2 (by have:=hb.1;omega)⟩
    have e1:=up1 (show i≤1000000 by omega)
    rw [bC_ hB]
    simp only [cr_,bC_ (hy.go (by omega) hC hL.2.1),e1]
    refine ⟨fun hok=>ih (i+1) b.2 (ex_ s b.1).1 (oG_ y (ex_ s b.1).2.1) (by omega) hb.2.2 (hI.upto (by have:=hb.1;omega)) ?_ ((s4_ yv (by omega) hok).upto (by omega)) yw,fun _=>ih (i+1) b.2 s y (by omega) hb.2.2 (hs.upto (by omega)) (hy.upto (by omega)) (yv.upto (by omega)) yw⟩
    exact (sessGo_in hy hC hL.2.1).upto (by omega)
   simp only [au_.tail10,fn_,eV_,ka_,view_etaD,sess_etaD,ci_,cr_,bC_ (hx.take (by omega))]
   exact ⟨fun _=>hgo _ (qh_ hx) (take_view hv) (take_last (hv.s (by omega)) hw),fun _=>hgo _ hx hv hw⟩
 exact ew_ (key 6 0 c s x rfl hc hs hx hv hw)
theorem kQ_ {c:al_} (hc:DwOk c):Ans (fun n _=>bW_ n c) fun r=>(jM_ 3000 r.2.1∧∀ y ∈ r.2.1.q.show_,0≤y∧y≤1000)∧VwS r.2.1∧DwOk r.2.2:=by
 refine ans_mono (mk_ (kR_ hc) (Q:=fun r=>VwS r.2.1) ?_) fun v h=>⟨h.1.2.1,h.2,h.1.2.2⟩
 refine cG_ ?_
 simp only [bW_]
 refine aO_ (mk_ (gD_ hc) (im_ hc)) fun r hr => ?_
 obtain ⟨hr,⟨hd,hf⟩,_⟩:=hr
 simp only [bW_.tail1,fn_,eV_,ci_]
 refine aO_ (mk_ (gC_ hr.2 hr.1.col) (il_ hr.2 hd.sc)) fun q hq => ?_
 obtain ⟨hq,hqd,_⟩:=hq
 have hN:=g2_ (s:=r.1) (q:=q.1) hr.1.len ⟨Nat.le_trans hq.1.len.1 (by decide),Nat.le_trans hq.1.len.2 (by decide)⟩ (by decide)
 rw [bC_ hN,bg_]
 obtain ⟨v,e,_,hv⟩:=oP_ hd hf hqd
 show VwS (fo_ r.1 q.1).1
 rw [e];exact hv.s (by decide)
theorem kP_ {c:al_} (hc:DwOk c):Ans (fun n _=>au_ n c) fun r=>(SsIn 6000 r.2.1∧VwS r.2.1.view∧VwS r.2.1.last)∧DwOk r.2.2:=by
 refine cG_ ?_
 simp only [au_]
 refine aO_ (mk_ (gD_ hc) (im_ hc)) fun r hr => ?_
 obtain ⟨hr,⟨hd,hf⟩,_⟩:=hr
 simp only [au_.tail1,fn_,eV_,ci_]
 refine aO_ (mk_ (gC_ hr.2 hr.1.col) (il_ hr.2 hd.sc)) fun q hq => ?_
 obtain ⟨hq,hqd,_⟩:=hq
 have hN:=lp_ (s:=r.1) (q:=q.1) hr.1.len ⟨Nat.le_trans hq.1.len.1 (by decide),Nat.le_trans hq.1.len.2 (by decide)⟩ (by decide)
 rw [bC_ hN]
 obtain ⟨v,e,_,hv⟩:=oP_ hd hf hqd
 have e2:(iU_ r.1 q.1).1=bS_.mk v r.1.version oN_ 0 false:=by unfold iU_;rw [e];rfl
 refine l16loopS (fun c s x h1 h2 h3 h4 h5=>bg_.2 ⟨⟨h3,h4,h5⟩,h1⟩) hq.2 hr.1 ((sr_ hr.1.len hq.1 (Nat.le_refl _)).upto (by decide)) ?_ ?_
 · rw [e2];exact hv
 · rw [e2];exact zeroV_s
structure SsD (x:bS_):Prop where
 len:SsIn 6000 x
 view:VwS x.view
 last:VwS x.last
theorem qA_ {c:al_} (hc:DwOk c):Ans (fun n _=>d5_ n c) fun r=>SsD r.2.1:=by
 refine cG_ ?_
 simp only [d5_]
 refine aO_ (kP_ hc) fun r hr => ?_
 obtain ⟨⟨hx,h1,h2⟩,hcu⟩:=hr
 repeat' (first
  |(refine aO_ (a9_ (by assumption)) fun _ hd => ?_;obtain ⟨_,_,_⟩:=hd)
  |(refine aO_ (fB_ (by assumption) (by simp)) fun _ hd => ?_;obtain ⟨_,_⟩:=hd)
  |(refine aO_ (kQ_ (by assumption)) fun _ hd => ?_;obtain ⟨hv,hvs,_⟩:=hd)
  |(with_reducible refine cr_.2 ⟨fun _ => ?_,fun _ => ?_⟩)
  |((with_reducible refine bg_.2 ?_);refine ⟨?_,?_,?_⟩))
 all_goals (first|exact hx|exact h1|exact h2|exact hvs|exact ⟨hx.len,hx.v,hx.l⟩|exact ⟨⟨hx.len.1,hv.1.upto (by decide)⟩,hx.v,hv.2⟩)
end Go.Pi
end
section
namespace Go.Pi
end Go.Pi
end
section
namespace Go.Pi
end Go.Pi
end
section
namespace Go.Pi
theorem gm_ (v:aJ_):bw_ (dh_ v)=true:=by
 unfold dh_ FDoc cV_
 cases h:bw_ (dX_ v.rows.length (gg_ id v.q v.rows (dZ_ v) (fg_ v.q v.rows.length)))
 · show bw_ gr_=true;decide
 · exact h
theorem lu_ {j:aa_} (h:bw_ j=true):gL_ j j=true:=by
 unfold gL_;rw [h,nE_];rfl
theorem nk_ (a:List Int):iD_ a a=true:=by
 unfold iD_;rw [decide_eq_true rfl,Bool.true_and];exact cH_.2 fun i _=>beq_self_eq_true _
theorem qp_ (q:ap_):fG_ q q=true:=by
 unfold fG_ iE_
 rw [decide_eq_true rfl,nk_]
 simp only [beq_self_eq_true,Bool.true_and,Bool.and_true]
 refine cH_.2 fun i _ => ?_
 unfold st_
 simp
theorem m0_ (v:aJ_):sh_ v v=true:=by
 have h1:mu_ v.rows v.rows=true:=by
  unfold mu_;rw [decide_eq_true rfl,Bool.true_and]
  refine cH_.2 fun i _ => ?_
  unfold ti_;rw [beq_self_eq_true,nk_];rfl
 have h2:mx_ v.kids v.kids=true:=by
  unfold mx_;rw [decide_eq_true rfl,Bool.true_and]
  refine cH_.2 fun i _ => ?_
  rw [beq_self_eq_true,beq_self_eq_true];rfl
 unfold sh_;rw [qp_,h1,h2];rfl
theorem q9_ {fN_:List Int} (hg:(pk_ lenI) fN_):∃ n,laws_FnTaken n fN_=some true:=by
 have key:Ans (fun n _=>laws_FnTaken n fN_) fun b=>b=true:=by
  refine cG_ ?_
  simp only [laws_FnTaken,bC_ big_evS,bp_]
  refine cr_.2 ⟨fun _=>bg_.2 rfl,fun hb => ?_⟩
  have hb:=of_decide_eq_false hb
  have hc:fN_.length≤1048576:=by omega
  have hD:Ans (fun n _=>cO_ n fN_) SsD:=by
   refine cG_ ?_
   simp only [cO_]
   exact aO_ (l1New_ans hc) fun c h=>aO_ (qA_ h) fun r hr=>bg_.2 hr
  refine aO_ hD fun x hx => ?_
  obtain ⟨hl,hv,hw⟩:=hx
  have hS:rG_ cap x:=⟨hl.len.1.upto (by decide),hl.len.2.upto (by decide)⟩
  have hi:=hl.ints
  have hr:x.last.rows.length+x.view.rows.length≤1500000:=by have:=hv.num;have:=hw.num;omega
  have hT:jM_ bO_ x.view:=hl.len.1.upto (by decide)
  have hlj:=fun (v:aJ_)=>qt_ (gm_ v)
  rw [bC_ (kU_ hS hi hr),bC_ (hS_ hS hi hr)]
  simp only [beq_self_eq_true,bne_self_eq_false,Bool.not_true,cond_false]
  rw [bC_ (fC_ hS hi),bC_ (h7_ hS hi)]
  simp only [beq_self_eq_true,Bool.not_true,cond_false]
  rw [bC_ (fC_ hS hi)]
  unfold eE_
  cases hd:FDue x with
  |false=>
   simp only [cond_false,Bool.not_false,cond_true,beq_self_eq_true,Bool.not_true]
   have e:(noEv.kind == 0)=true:=rfl
   rw [e]
   simp only [cond_true]
   rw [bC_ (hV_ hT),m0_]
   exact bg_.2 rfl
  |true=>
   simp only [cond_true,Bool.not_true,cond_false,beq_self_eq_true]
   have hS2:rG_ cap (jb_ x):=⟨hS.1,hS.1⟩
   have hi2:intsS (jb_ x):=⟨hi.1,hi.1⟩
   rw [bC_ (fC_ hS2 hi2)]
   have hno:FDue (jb_ x)=false:=by
    unfold FDue jb_
    simp only [Bool.not_true,Bool.false_or,lu_ (gm_ _)]
   rw [hno]
   have e1:(jb_ x).began=true:=rfl
   have e2:((jb_ x).lastVersion != x.version)=false:=bne_self_eq_false _
   have e3:(jb_ x).last=x.view:=rfl
   rw [e1,e2,e3]
   simp only [cond_false,Bool.not_true]
   rw [bC_ (hV_ hT),m0_]
   simp only [Bool.not_true,cond_false]
   unfold FEvOf
   cases hk:(x.began&&gX_ x.last x.view) with
   |false=>
    simp only [cond_false]
    have e4:((1:Int) == 1)=true:=rfl
    rw [e4]
    simp only [cond_true]
    rw [bC_ (dV_ hS.1 hi.1),bC_ (gc_ (hlj x.view) (hlj x.view)),lu_ (gm_ _)]
    exact bg_.2 rfl
   |true=>
    simp only [cond_true]
    have e4:((2:Int) == 1)=false:=rfl
    rw [e4]
    simp only [cond_false]
    rw [bC_ (dV_ hS.2 hi.2),bC_ (kV_ (hlj x.last) (ik_ hS.2 hS.1 hi.2 hi.1 hr))]
    simp only [beq_self_eq_true,cond_true]
    rw [bC_ (fT_ (show p9_ bO_ x.last.q from ⟨Nat.le_trans hS.2.1.1 (by decide),Nat.le_trans hS.2.1.2 (by decide)⟩))]
    cases hq:fG_ x.last.q x.view.q with
    |false=>exact bg_.2 rfl
    |true=>
     simp only [Bool.not_true,cond_false]
     cases hf:(ff_ (dh_ x.last) (cR_ x.last x.view)).2 with
     |false=>exact bg_.2 rfl
     |true=>
      simp only [Bool.not_true,cond_false]
      rw [bC_ (dV_ hS.1 hi.1),bC_ (gc_ (qt_ (mK_ hf)) (hlj x.view))]
      by_cases hn:x.last.rows.length=x.view.rows.length
      · rw [qr_ hw hv hq hn hf,lu_ (gm_ _)]
        exact bg_.2 rfl
      · refine cr_.2 ⟨fun _=>bg_.2 rfl,fun _=>bg_.2 ?_⟩
        rw [bne_iff_ne];omega
 obtain ⟨v,hv,rfl⟩:=key
 exact ev_ex hv
end Go.Pi
end
section
namespace Go.Pi
theorem good_sl {t:TC} {xs:List (El t)} (h:Good (.sl .v t xs)):xs.length≤bO_∧∀ x ∈ xs,∀ c ∈ ai_.enc .v t x,Good c:=by
 cases h with
 |sl t xs h1 h2=>exact ⟨h1,h2⟩
end Go.Pi
end
section
namespace Go.Pi
theorem good_str {l:Bs} (h:Good (.s l)):lenB l:=by
 cases h with
 |s l h=>exact h
theorem good_IntS {a:List Int} (h:Good (.sl .v .u8 a)):(pk_ lenI) a:=⟨(good_sl (t:=.u8) h).1,fun x0 hx0=>trivial⟩
end Go.Pi
end
section
namespace Go.Pi
open Go.Proofs Go.Proofs.YtmgcfhlcdhlafabGreatDoor
namespace laws_FnTaken
theorem pure_law:Pure:=fun o h0=>q9_ (good_IntS (h0 _ (by simp)))
theorem proved:Rows.FnTakenCardSaid:=card pure_law
end laws_FnTaken
end Go.Pi
end
namespace Go.Proofs.YtmgcfhlcdhlafabGreatDoor
theorem fnTaken_holds:Rows.FnTakenCardSaid:=Go.Pi.laws_FnTaken.proved
#print axioms fnTaken_holds
end Go.Proofs.YtmgcfhlcdhlafabGreatDoor
