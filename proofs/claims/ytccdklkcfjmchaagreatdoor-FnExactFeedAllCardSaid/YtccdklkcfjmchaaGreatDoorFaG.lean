/- FeedAll of the program returns what FeedAll of the reference returns, for all arguments. Text 7 of 7. -/
import Derived.Test.YtccdklkcfjmchaaGreatDoorFaF
set_option linter.unusedVariables false
set_option maxRecDepth 100000
set_option linter.unusedSimpArgs false
section
namespace Go.Pi
theorem mH_ {l:List TOp} {o:TOp} (h:∀ x ∈ l,d7_ x) (ho:d7_ o):∀ x ∈ l++[o],d7_ x:=by
 intro x hx
 rcases List.mem_append.1 hx with hx|hx
 · exact h x hx
 · obtain rfl:=List.mem_singleton.1 hx;exact ho
theorem i6_ {j:aa_} (h:bH_ 6 j≤400):Ans (fun n _=>bl_ n j) fun x=>jq_ x.1:=by
 have hll:=dy_ h
 refine c2_ ?_
 simp only [bl_]
 refine eE_ (σ:=Nat × List TOp) (fun n N st=>bl_.loop4 n (fun xy2 xy3 xy4 xy5 xy6 xy7=>(some (xy7,(xy2 == 4)))) N j.list (j.list.length:Int) (st.1:Int) j.kind j.n_ j.s j.list j.names st.2) (fun st=>j.list.length - st.1) (fun st=>st.1≤j.list.length∧st.2.length≤st.1∧∀ o ∈ st.2,d7_ o) _ (fun st hI ih => ?_) (0,[]) ⟨Nat.zero_le _,Nat.zero_le _,fun y h=>(by cases h)⟩
 obtain ⟨i,ops⟩:=st
 simp only at hI ih ⊢
 obtain ⟨h1,h2,h3⟩:=hI
 simp only [bl_.turn4,bl_.step4,bC_,Int.toNat_natCast]
 by_cases hi:i<j.list.length
 · have hx:bH_ 6 (j.list.getD i aa_.dflt)≤400:=by
    have:=fZ_ h (cG_ aa_.dflt hi)
    rw [h8_ 5 _ this];exact this
   simp only [cV_ hi,cond_true,hB_,cK_ hi,true_and,W_up hi (show j.list.length≤cD_ by simp only [cD_];omega)]
   refine cU_ (iF_ hx) fun v hv => ?_
   simp only [cA_,ct_,eu_]
   exact ⟨fun _=>⟨Nat.zero_le _,fun y h=>(by cases h)⟩,fun _=>⟨by simp;omega,ih (i+1,_) ⟨hi,by simp;omega,mH_ h3 hv⟩ (by simp only;omega)⟩⟩
 · have e:i=j.list.length:=by omega
   subst e
   simp only [cR_,cond_false,ct_]
   exact ⟨by show ops.length≤4000000;omega,h3⟩
theorem ops_right {l:List TOp} (h:bH_ 6 (df_ l)≤400):l.length≤400:=by
 have:=dy_ h
 simpa [df_] using this
theorem i5_ {l:List TOp} (h:∀ o ∈ l,OpIn o) (hl:l.length≤400):Ev (fun n _=>bl_ n (df_ l)) (l,true):=by
 refine aT_ ?_
 simp only [bl_,df_]
 have:=eB_ (fun i=>l.take i) l.length (fun n N i (o:List TOp)=>bl_.loop4 n (fun xy2 xy3 xy4 xy5 xy6 xy7=>(some (xy7,(xy2 == 4)))) N (l.map cC_) ((l.map cC_).length:Int) (i:Int) 4 0 [] (l.map cC_) [] o) (l,true) (fun i hi F hF => ?_) ?_
 · exact this
 · have ho:=h _ (cG_ TOp.dflt hi)
   have hi2:i<(l.map cC_).length:=by simpa using hi
   have e:(l.map cC_).getD i aa_.dflt=dh_ (l.getD i TOp.dflt):=by
    rw [←ho.val,List.getD_eq_getElem?_getD,List.getElem?_map,List.getD_eq_getElem?_getD,List.getElem?_eq_getElem hi];rfl
   rw [cO_ TOp.dflt hi] at hF
   simp only [bl_.turn4,bl_.step4,bC_,Int.toNat_natCast,cV_ hi2,cond_true,bR_,cK_ hi2,true_and,e,ad_ (iE_ ho),Bool.not_true,cond_false,cc_,W_up hi (show l.length≤cD_ by simp only [cD_];omega)]
   exact ⟨by simp;omega,hF⟩
 · have e:decide ((l.length:Int)<((l.map cC_).length:Int))=false:=by simp
   simp only [List.take_length,bl_.turn4,bl_.step4,e,cond_false,ak_]
   rfl
def FCut (s:Bs):Bs × Bs:=if Lib.indexByte s 10<0 then (s,[]) else (s.take (Lib.indexByte s 10).toNat,s.drop ((Lib.indexByte s 10).toNat+1))
theorem idx_le:∀ (s:Bs),Lib.indexByte s 10<(s.length:Int)∨s=[]
 |[]=>.inr rfl
 |b::l=>by
  left
  unfold Lib.indexByte
  split
  · simp only [List.length_cons];omega
  · split
    · simp only [List.length_cons];omega
    · rcases idx_le l with h|h
      · simp only [List.length_cons];omega
      · subst h;rename_i h1 h2;exact absurd (by rfl) h2
theorem Cut_ev {s:Bs} (hs:s.length≤4194304):Ev (fun n _=>(cr_ n s [10])) ((FCut s).1,(FCut s).2,decide (0≤Lib.indexByte s 10)):=by
 have hge:=Lib.indexByte_ge s 10
 have hX:Ev (fun n _=>ba_ n s [10]) (Lib.indexByte s 10):=aT_ (by simp only [ba_,mL_,ak_])
 have hC:Ev (fun n _=>a0_ n s [10]) ((FCut s).1,(FCut s).2,decide (0≤Lib.indexByte s 10)):=by
  refine aT_ ?_
  simp only [a0_,ad_ hX,aI_,dv_,ak_]
  unfold FCut
  refine ⟨fun h => ?_,fun h => ?_⟩
  · have h:=of_decide_eq_true h
    have hlt:Lib.indexByte s 10<(s.length:Int):=by
     rcases idx_le s with h|h
     · exact h
     · subst h;rename_i h0;exact absurd h0 (by decide)
    have hW:W (Lib.indexByte s 10+(([10]:Bs).length:Int))=Lib.indexByte s 10+1:=W_id (by show _≤Lib.indexByte s 10+1;omega) (by show Lib.indexByte s 10+1<_;omega)
    rw [hW,if_neg (by omega),decide_eq_true (show 0≤Lib.indexByte s 10 by omega)]
    have e1:(Lib.indexByte s 10+1).toNat=(Lib.indexByte s 10).toNat+1:=by omega
    rw [e1]
    simp only [Int.toNat_natCast,List.take_length,List.drop_zero]
    exact ⟨by omega,by omega,trivial⟩
  · have h:=of_decide_eq_false h
    rw [if_pos (by omega),decide_eq_false (show ¬ 0≤Lib.indexByte s 10 by omega)]
 exact aT_ (by simp only [cr_,ad_ hC,ak_])
theorem ne_ (s:Bs):(FCut s).1.length≤s.length∧(FCut s).2.length≤s.length:=by
 unfold FCut
 split
 · exact ⟨Nat.le_refl _,Nat.zero_le _⟩
 · simp;omega
theorem idx_app:∀ {a:Bs} (b:Bs),(∀ c ∈ a,c≠10)→Lib.indexByte (a++10::b) 10=(a.length:Int)
 |[],b,_=>rfl
 |c::a,b,h=>by
  have hc:=h c (List.mem_cons_self ..)
  have ih:=idx_app b fun x hx=>h x (List.mem_cons_of_mem _ hx)
  have e:(c == 10)=false:=beq_eq_false_iff_ne.2 hc
  rw [List.cons_append,Lib.indexByte,e,ih,if_neg (by simp),if_neg (by simp<;>omega),List.length_cons];omega
theorem cut_app {a:Bs} (b:Bs) (h:∀ c ∈ a,c≠10):FCut (a++10::b)=(a,b):=by
 unfold FCut
 rw [idx_app b h,if_neg (by omega),Int.toNat_natCast,List.take_left]
 have:(a++10::b).drop (a.length+1)=b:=by rw [←List.drop_drop,List.drop_left];rfl
 rw [this]
def hf_ (p s:Bs):Bs:=cond (pfx p s) (s.drop p.length) s
theorem trim_le (p s:Bs):(hf_ p s).length≤s.length:=by
 unfold hf_;cases pfx p s<;>simp
theorem ms_ (p s:Bs):hf_ p (p++s)=s:=by unfold hf_;rw [gv_,List.drop_left];rfl
theorem f4_ {s p:Bs} (hs:s.length≤4194304):Ev (fun n _=>cd_ n s p) (hf_ p (FCut s).1,(FCut s).2):=by
 refine aT_ ?_
 simp only [cd_,ad_ (Cut_ev hs),ad_ fg_,ak_,hf_]
theorem fN_ {p a b:Bs} (hp:∀ c ∈ p,c≠10) (ha:∀ c ∈ a,c≠10) (hs:(p++(a++10::b)).length≤4194304):Ev (fun n _=>cd_ n (p++(a++10::b)) p) (a,b):=by
 have e:p++(a++10::b)=(p++a)++10::b:=by simp
 have h:=f4_ (p:=p) hs
 rw [e] at h ⊢
 rw [cut_app b (fun c hc=>by rcases List.mem_append.1 hc with h|h;exact hp c h;exact ha c h),ms_] at h
 exact h
abbrev tSnap:Bs:=[101,118,101,110,116,58,32,115,110,97,112,10]
abbrev gJ_:Bs:=[101,118,101,110,116,58,32,112,97,116,99,104,10]
abbrev tId:Bs:=[105,100,58,32]
abbrev hT_:Bs:=[98,97,115,101,58,32]
abbrev dT_:Bs:=[100,97,116,97,58,32]
theorem ik_ (v:Int) (d:Bs):dO_ v d=tSnap++(tId++(Lib.itoa v++10::(dT_++(d++10::[10])))):=by
 simp [dO_,ja_]
theorem hq_ (v b:Int) (d:Bs):dB_ v b d=gJ_++(tId++(Lib.itoa v++10::(hT_++(Lib.itoa b++10::(dT_++(d++10::[10])))))):=by
 simp [dB_,ja_]
theorem hW_ {s:Bs} (hs:s.length≤4194304):Ans (fun n _=>bY_ n s) fun e=>lV_ e:=by
 have hA:∀ {t:Bs},t.length≤4194304→Ev (fun n _=>bU_ n t) (endOf t (Lib.atoiAll t)):=fun h=>i1_ (by omega)
 have fl:∀ (p t:Bs),(hf_ p (FCut t).1).length≤t.length:=fun p t=>Nat.le_trans (trim_le _ _) (ne_ t).1
 refine c2_ ?_
 simp only [bY_,bC_,bV_ eF_]
 cases hp:pfx [101,118,101,110,116,58,32,115,110,97,112,10] s with
 |true=>
  simp only [cond_true]
  have h1:(s.drop tSnap.length).length≤s.length:=by simp
  generalize s.drop tSnap.length=t at h1 ⊢
  have h2:=(ne_ t).2
  have h3:=fl [100,97,116,97,58,32] (FCut t).2
  have h4:=fl [105,100,58,32] t
  simp only [bV_ (f4_ (s:=t) (p:=[105,100,58,32]) (by omega)),bV_ (f4_ (s:=(FCut t).2) (p:=[100,97,116,97,58,32]) (by omega)),bV_ (hA (t:=hf_ [105,100,58,32] (FCut t).1) (by omega))]
  refine cU_ (fJ_ (s:=hf_ [100,97,116,97,58,32] (FCut (FCut t).2).1) (by omega)) fun v hv => ?_
  simp only [ct_]
  exact ⟨cQ_ 6 _ hv,Nat.zero_le _,fun o h=>(by cases h)⟩
 |false=>
  simp only [cond_false,bV_ fg_]
  have h1:=trim_le gJ_ s
  show Ans (fun n N=>(cd_ n (hf_ gJ_ s) [105,100,58,32]).bind _) _
  generalize hf_ gJ_ s=t at h1 ⊢
  have h2:=(ne_ t).2
  have h3:=(ne_ (FCut t).2).2
  have h4:=fl [105,100,58,32] t
  have h5:=fl [98,97,115,101,58,32] (FCut t).2
  have h6:=fl [100,97,116,97,58,32] (FCut (FCut t).2).2
  simp only [bV_ (f4_ (s:=t) (p:=[105,100,58,32]) (by omega)),bV_ (f4_ (s:=(FCut t).2) (p:=[98,97,115,101,58,32]) (by omega)),bV_ (f4_ (s:=(FCut (FCut t).2).2) (p:=[100,97,116,97,58,32]) (by omega)),bV_ (hA (t:=hf_ [105,100,58,32] (FCut t).1) (by omega)),bV_ (hA (t:=hf_ [98,97,115,101,58,32] (FCut (FCut t).2).1) (by omega))]
  refine cU_ (fJ_ (s:=hf_ [100,97,116,97,58,32] (FCut (FCut (FCut t).2).2).1) (by omega)) fun v hv => ?_
  refine cU_ (i6_ hv) fun w hw => ?_
  simp only [ct_]
  exact ⟨eo_ 6,hw⟩
structure SnapIs (e:ah_):Prop where
 ver:0≤e.version∧e.version≤100000
 base:e.base=0
 ops:e.ops=[]
 doc:bG_ e.doc≠[]
structure PatchIs (e:ah_):Prop where
 ver:0≤e.version∧e.version≤100000
 base:0≤e.base∧e.base≤100000
 doc:e.doc=fq_
 ops:∀ o ∈ e.ops,OpIn o
 enc:bG_ (df_ e.ops)≠[]
 len:e.ops.length≤400
theorem f5_ {e:ah_} (h:cx_ e=true):(e.kind=1∧SnapIs e)∨(e.kind=2∧PatchIs e):=by
 have hi:=ev_is h
 unfold cx_ at h
 rw [Bool.and_eq_true] at h
 have h2:=h.2
 cases hk:(e.kind == 1) with
 |true=>
  rw [hk,cond_true] at h2
  simp only [Bool.and_eq_true,Bool.not_eq_true',beq_iff_eq,decide_eq_true_eq,beq_eq_false_iff_ne] at h2
  exact .inl ⟨by simpa using hk,hi.ver,h2.1,List.eq_nil_of_length_eq_zero h2.2.1,h2.2.2⟩
 |false=>
  rw [hk,cond_false] at h2
  cases hk2:(e.kind == 2) with
  |false=>rw [hk2] at h2;cases h2
  |true=>
   rw [hk2,cond_true] at h2
   unfold lB_ at h2
   simp only [Bool.and_eq_true,Bool.not_eq_true',decide_eq_true_eq,decide_eq_false_iff_not,beq_eq_false_iff_ne] at h2
   obtain ⟨⟨b1,b2,b3⟩,b4,b5⟩:=h2
   have henc:=hN_ b3
   refine .inr ⟨by simpa using hk2,hi.ver,hi.base hk,kx_ b5,fun o ho=>op_in ?_,b3,ops_right henc.1⟩
   intro hz
   have:e.ops.findIdx (fun o=>(cC_ o).kind == 0)<e.ops.length:=List.findIdx_lt_length_of_exists ⟨o,ho,by rw [hz];rfl⟩
   exact b1 this
theorem fa_ {e:ah_} (h:cx_ e=true) (hk:e.kind=1):cE_ e=dO_ e.version (bG_ e.doc):=by
 unfold cE_;rw [h,hk];rfl
theorem eC_ {e:ah_} (h:cx_ e=true) (hk:e.kind=2):cE_ e=dB_ e.version e.base (bG_ (df_ e.ops)):=by
 unfold cE_;rw [h,hk];rfl
theorem km_ {j:aa_} (h:bG_ j≠[]):∀ c ∈ bG_ j,c≠10:=by
 obtain ⟨h1,h2,_⟩:=hN_ h
 rw [h2];exact enc_nl 6 j h1
theorem jE_ {e:ah_} (h:cx_ e=true):(cE_ e).length≤10000:=by
 rcases f5_ h with ⟨hk,hs⟩|⟨hk,hs⟩
 · rw [fa_ h hk,ik_]
   have:=dZ_ e.doc
   have:=Lib.itoa_length_le e.version (by have:=hs.ver;omega) (by have:=hs.ver;omega)
   simp only [List.length_append,List.length_cons,List.length_nil];omega
 · rw [eC_ h hk,hq_]
   have:=dZ_ (df_ e.ops)
   have:=Lib.itoa_length_le e.version (by have:=hs.ver;omega) (by have:=hs.ver;omega)
   have:=Lib.itoa_length_le e.base (by have:=hs.base;omega) (by have:=hs.base;omega)
   simp only [List.length_append,List.length_cons,List.length_nil];omega
theorem ln_ {e:ah_} (h:cx_ e=true):cE_ e≠[]:=by
 rcases f5_ h with ⟨hk,hs⟩|⟨hk,hs⟩
 · rw [fa_ h hk,ik_];intro e;cases e
 · rw [eC_ h hk,hq_];intro e;cases e
theorem kr_ {n:Int} (h0:0≤n) (h1:n≤100000):Ev (fun m _=>bU_ m (Lib.itoa n)) (n,true):=by
 have hl:=Lib.itoa_length_le n (by omega) (by omega)
 have:=i1_ (s:=Lib.itoa n) (by omega)
 rw [lt_ (by omega) (by omega)] at this
 exact this
theorem hV_ {e:ah_} (h:cx_ e=true):Ev (fun n _=>bY_ n (cE_ e)) e:=by
 have hlen:=jE_ h
 refine aT_ ?_
 rcases f5_ h with ⟨hk,hs⟩|⟨hk,hs⟩
 · rw [fa_ h hk,ik_] at hlen ⊢
   simp only [List.length_append] at hlen
   have hv:=hs.ver
   have f1:=fN_ (p:=tId) (a:=Lib.itoa e.version) (b:=dT_++(bG_ e.doc++10::[10])) (by decide) (gx_ _) (by simp only [List.length_append];omega)
   have f2:=fN_ (p:=dT_) (a:=bG_ e.doc) (b:=[10]) (by decide) (km_ hs.doc) (by simp only [List.length_append,List.length_cons] at hlen ⊢;omega)
   simp only [bY_,bC_,ad_ eF_,gv_,cond_true,List.drop_left,ad_ f1,ad_ f2,ad_ (kr_ hv.1 hv.2),ad_ (fI_ hs.doc),ak_]
   obtain ⟨k,v,b,d,o⟩:=e
   have e1:=hs.base
   have e2:=hs.ops
   simp only at e1 e2 hk
   rw [e1,e2,hk]
 · rw [eC_ h hk,hq_] at hlen ⊢
   simp only [List.length_append] at hlen
   have hv:=hs.ver
   have hb:=hs.base
   have f1:=fN_ (p:=tId) (a:=Lib.itoa e.version) (b:=hT_++(Lib.itoa e.base++10::(dT_++(bG_ (df_ e.ops)++10::[10])))) (by decide) (gx_ _) (by simp only [List.length_append];omega)
   have f2:=fN_ (p:=hT_) (a:=Lib.itoa e.base) (b:=dT_++(bG_ (df_ e.ops)++10::[10])) (by decide) (gx_ _) (by simp only [List.length_append,List.length_cons] at hlen ⊢;omega)
   have f3:=fN_ (p:=dT_) (a:=bG_ (df_ e.ops)) (b:=[10]) (by decide) (km_ hs.enc) (by simp only [List.length_append,List.length_cons] at hlen ⊢;omega)
   have hp:∀ t,pfx [101,118,101,110,116,58,32,115,110,97,112,10] (gJ_++t)=false:=fun t=>rfl
   have ht:∀ t,cond (pfx [101,118,101,110,116,58,32,112,97,116,99,104,10] (gJ_++t)) ((gJ_++t).drop ([101,118,101,110,116,58,32,112,97,116,99,104,10]:Bs).length) (gJ_++t)=t:=fun t=>ms_ gJ_ t
   simp only [bY_,bC_,ad_ eF_,hp,cond_false,ad_ fg_,ht,ad_ f1,ad_ f2,ad_ f3,ad_ (kr_ hv.1 hv.2),ad_ (kr_ hb.1 hb.2),ad_ (fI_ hs.enc),ad_ (i5_ hs.ops hs.len),ak_]
   obtain ⟨k,v,b,d,o⟩:=e
   have e1:=hs.doc
   simp only at e1 hk
   rw [e1,hk];rfl
abbrev zeroE:ah_:=ah_.mk 0 0 0 (aa_.mk 0 0 [] [] []) []
def nn_ (s:Bs) (x:ah_ × Bool):Prop:=x=(zeroE,false)∨(x.2=true∧cx_ x.1=true∧cE_ x.1=s)
theorem text_ok {e:ah_} (h:cE_ e≠[]):cx_ e=true:=by
 unfold cE_ at h
 cases ho:cx_ e with
 |true=>rfl
 |false=>rw [ho] at h;exact absurd rfl h
theorem g2_ {s:Bs} (hs:s.length≤4194304):Ans (fun n _=>bE_ n s) (nn_ s):=by
 refine c2_ ?_
 simp only [bE_,bC_,jD_]
 refine cU_ (hW_ hs) fun e he => ?_
 simp only [bV_ (eS_ he),cA_,ct_]
 refine ⟨fun _=>.inl rfl,fun h1=>⟨fun _=>.inl rfl,fun h2=>.inr ⟨rfl,text_ok ?_,by simpa using h2⟩⟩⟩
 exact fun e=>by rw [e] at h1;cases h1
theorem mU_ {e:ah_} (h:cx_ e=true):lV_ e:=by
 rcases f5_ h with ⟨hk,hs⟩|⟨hk,hs⟩
 · refine ⟨cQ_ 6 _ (hN_ hs.doc).1,?_⟩
   rw [hs.ops];exact ⟨Nat.zero_le _,fun o h=>(by cases h)⟩
 · refine ⟨?_,by have:=hs.len;omega,fun o ho=>mS_ (hs.ops o ho)⟩
   rw [hs.doc];exact eo_ 6
theorem g1_ {e:ah_} (h:cx_ e=true):Ev (fun n _=>bE_ n (cE_ e)) (e,true):=by
 have hne:(cE_ e == [])=false:=beq_eq_false_iff_ne.2 (ln_ h)
 refine aT_ ?_
 simp only [bE_,bC_,jD_,ad_ (hV_ h),ad_ (eS_ (mU_ h)),hne,beq_self_eq_true,Bool.not_true,cond_false,ak_]
end Go.Pi
end
section
namespace Go.Pi
def dC_ (cur:Bs):Bs→List Bs
 |[]=>[]
 |c::l=>if c=10 then cur::dC_ [] l else dC_ (cur++[c]) l
theorem dM_ (cur b:Bs):∀ (a:Bs),(∀ c ∈ a,c≠10)→dC_ cur (a++10::b)=(cur++a)::dC_ [] b:=by
 intro a
 induction a generalizing cur with
 |nil=>intro _;rw [List.nil_append,dC_,if_pos rfl,List.append_nil]
 |cons c a ih=>
  intro h
  rw [List.cons_append,dC_,if_neg (h c (List.mem_cons_self ..)),ih _ fun x hx=>h x (List.mem_cons_of_mem _ hx)]
  simp
theorem iy_:∀ (s cur:Bs) (B:Nat),cur.length+s.length≤B→(dC_ cur s).length≤s.length∧∀ y ∈ dC_ cur s,y.length≤B
 |[],_,_,_=>⟨Nat.le_refl _,fun y h=>(by cases h)⟩
 |c::l,cur,B,h=>by
  unfold dC_
  simp only [List.length_cons] at h
  split
  · obtain ⟨h1,h2⟩:=iy_ l [] B (by simp;omega)
    refine ⟨by simp;omega,fun y hy => ?_⟩
    rcases List.mem_cons.1 hy with rfl|hy
    · omega
    · exact h2 y hy
  · obtain ⟨h1,h2⟩:=iy_ l (cur++[c]) B (by simp;omega)
    exact ⟨by simp;omega,h2⟩
theorem fj_ {s:Bs} (hs:s.length≤4194304):Ev (fun n _=>aX_ n s) (dC_ [] s):=by
 refine aT_ ?_
 simp only [aX_]
 have key:∀ (m i f:Nat) (out:List Bs),i+m=s.length→f≤i→out.length≤i→Ev (fun n N=>aX_.loop5 n (fun xy1=>(some xy1)) N s (f:Int) (i:Int) out) (out++dC_ ((s.take i).drop f) (s.drop i)):=by
  intro m
  induction m with
  |zero=>
   intro i f out hi _ _
   have:i=s.length:=by omega
   subst this
   refine bo_ ?_
   simp only [aX_.turn5,aX_.step5,cR_,cond_false,List.drop_length,dC_,List.append_nil,ak_]
  |succ m ih=>
   intro i f out hi hf ho
   have hlt:i<s.length:=by omega
   have hW:=W_up hlt (show s.length≤cD_ by simp only [cD_];omega)
   have hd:=dG_ 0 hlt
   refine bo_ ?_
   simp only [aX_.turn5,aX_.step5,cV_ hlt,cond_true,bR_,cK_ hlt,true_and,Int.toNat_natCast,hW,aI_,dv_,cc_]
   have e10:((s.getD i 0).toNat:Int)=10↔s.getD i 0=10:=by
    have:=hP_ (s.getD i 0) 10 10 rfl
    constructor
    · intro h;rw [show (((s.getD i 0).toNat:Nat):Int)=((10:Nat):Int) from h] at this;simpa using this
    · intro h;rw [h];rfl
   rw [hd]
   refine ⟨fun h => ?_,fun h => ?_⟩
   · have h:s.getD i 0=10:=e10.1 (by simpa using h)
     have hn:=ih (i+1) (i+1) (out++[(s.take i).drop f]) (by omega) (Nat.le_refl _) (by simp;omega)
     rw [kn_ (show (s.take (i+1)).length≤i+1 by simp;omega)] at hn
     rw [dC_,if_pos h]
     rw [List.append_assoc] at hn
     exact ⟨by omega,by simp;omega,hn⟩
   · have h:¬ s.getD i 0=10:=fun e=>by rw [e10.2 e] at h;cases h
     have hn:=ih (i+1) f out (by omega) (by omega) (by omega)
     rw [cO_ 0 hlt,List.drop_append_of_le_length (by simp;omega)] at hn
     rw [dC_,if_neg h]
     exact hn
 have:=key s.length 0 0 [] (by omega) (Nat.le_refl _) (Nat.le_refl _)
 rw [List.nil_append] at this
 exact cF_ (f:=fun n N=>aX_.loop5 n (fun xy1=>(some xy1)) N s 0 0 []) this
def dp_ (l h:Bs):Bs:=cond (pfx h l) (l.drop h.length) []
theorem eU_ {l h:Bs}:Ev (fun n _=>bz_ n l h) (dp_ l h):=by
 refine aT_ ?_
 simp only [bz_,aI_,dv_,ak_,Int.toNat_natCast,List.take_length,dp_,h1_]
 refine ⟨fun hc => ?_,fun hc => ?_⟩
 · have hc:=of_decide_eq_true hc
   cases e:((l.take h.length).drop 0 == h) with
   |false=>rfl
   |true=>rw [←h1_] at e;have:=gu_ e;omega
 · have hc:=of_decide_eq_false hc
   refine ⟨by omega,?_⟩
   cases ((l.take h.length).drop 0 == h) with
   |false=>exact ⟨fun _=>rfl,fun h=>(by cases h)⟩
   |true=>exact ⟨fun h=>(by cases h),fun _=>⟨by omega,rfl⟩⟩
theorem iQ_ (l h:Bs):(dp_ l h).length≤l.length:=by
 unfold dp_;cases pfx h l<;>simp
theorem f9_ (h l:Bs):dp_ (h++l) h=l:=by unfold dp_;rw [gv_,List.drop_left];rfl
theorem jt_ {s:Bs} (hs:s.length≤4194304):Ans (fun n _=>b7_ n s) fun _=>True:=by
 refine c2_ ?_
 simp only [b7_]
 refine cU_ (hJ_ (s:=s) (p:=0) (ok:=true) (left:=0) hs (Nat.zero_le _)) fun v hv => ?_
 obtain ⟨p',ok',e1,e2,e3,e4,e5⟩:=hv
 simp only [cA_,ct_,bV_ (c5_ (x:=v.1) e4 e5),implies_true,and_self]
theorem js_ {n:Int} (h0:0≤n) (h1:n≤100000):Ev (fun m _=>b7_ m (Lib.itoa n)) (n,true):=by
 have hl:=Lib.itoa_length_le n (by omega) (by omega)
 have hN:=hI_ (s:=Lib.itoa n) (p:=0) (left:=0) (r:=[]) (n:=n) (by simp only [g9_];omega) (by omega) (by omega) jT_ ⟨Nat.zero_le _,by simp⟩
 have hN:Ev (fun m _=>az_ m ⟨Lib.itoa n,0,true,0⟩) (n,⟨Lib.itoa n,((0+(Lib.itoa n).length:Nat):Int),true,0⟩):=hN
 refine aT_ ?_
 simp only [b7_,ad_ hN,cond_true,ad_ (c5_ (x:=n) (by omega) (by omega)),beq_self_eq_true,ak_]
end Go.Pi
end
section
namespace Go.Pi
section
variable {n6:Int}
theorem nE_ {j:aa_} (h:bH_ 6 j≤400) {i:Nat} (hi:i<j.list.length):bH_ 6 (j.list.getD i aa_.dflt)≤400:=by
 have:=fZ_ h (cG_ aa_.dflt hi)
 rw [h8_ 5 _ this];exact this
theorem ops_uni {s:Bs} {t6 a b c d e:Int} {f:Bs} {t40 t41 t42 t43 t44:Int} {t45:Bs} {t5:List Bs} {t46:List aa_} {t47:List Bs} {j:aa_} (hj:bH_ 6 j≤400) :
  ∀ (m i:Nat) (o:List TOp),i+m=j.list.length→(∀ x ∈ o,d7_ x)→o.length≤4000+i→∃ M,
    (∀ n R,M≤n→M≤R→∀ k,ac_.loop20 n k R s t6 (i:Int) a b c d e f t40 t41 t42 t43 t44 t45 t5 j.kind j.n_ j.s t46 t47 o j.list j.names=some (zeroE,false)) ∨
    ∃ o',o'.length≤o.length+m∧(∀ x ∈ o',d7_ x)∧∀ n R,M≤n→M≤R→∀ k,ac_.loop20 n k R s t6 (i:Int) a b c d e f t40 t41 t42 t43 t44 t45 t5 j.kind j.n_ j.s t46 t47 o j.list j.names=k s t6 a b c d e f t40 t41 t42 t43 t44 t45 t5 t46 t47 o':=by
 have hll:=dy_ hj
 intro m
 induction m with
 |zero=>
  intro i o hi ho _
  have e:i=j.list.length:=by omega
  subst e
  refine ⟨1,.inr ⟨o,Nat.le_refl _,ho,fun n R _ hR k => ?_⟩⟩
  obtain ⟨R,rfl⟩:∃ m,R=m+1:=⟨R - 1,by omega⟩
  simp only [ac_.turn20,ac_.step20,cR_,cond_false]
 |succ m ih=>
  intro i o hi ho hol
  have hlt:i<j.list.length:=by omega
  obtain ⟨v,⟨M1,hM1⟩,hv⟩:=ih_ (nE_ hj hlt)
  have hW:=W_up hlt (show j.list.length≤cD_ by simp only [cD_];omega)
  have hr:(o.length+1)*112≤140737488355328:=by omega
  cases hq:v.2 with
  |false=>
   refine ⟨max M1 1,.inl fun n R hn hR k => ?_⟩
   obtain ⟨R,rfl⟩:∃ m,R=m+1:=⟨R - 1,by omega⟩
   simp only [ac_.turn20,ac_.step20,bC_,Int.toNat_natCast,cV_ hlt,cond_true,gY_ hlt,hM1 n n (by omega) (by omega),Option.bind_some,hq,Bool.not_false]
  |true=>
   obtain ⟨M2,h2⟩:=ih (i+1) (o++[v.1]) (by omega) (mH_ ho hv) (by simp;omega)
   refine ⟨max M1 (M2+1),?_⟩
   have step:∀ n R,max M1 (M2+1)≤n→max M1 (M2+1)≤R→∀ k,∃ R',M2≤R'∧ac_.loop20 n k R s t6 (i:Int) a b c d e f t40 t41 t42 t43 t44 t45 t5 j.kind j.n_ j.s t46 t47 o j.list j.names=ac_.loop20 n k R' s t6 ((i+1:Nat):Int) a b c d e f t40 t41 t42 t43 t44 t45 t5 j.kind j.n_ j.s t46 t47 (o++[v.1]) j.list j.names:=by
    intro n R hn hR k
    obtain ⟨R,rfl⟩:∃ m,R=m+1:=⟨R - 1,by omega⟩
    refine ⟨R,by omega,?_⟩
    have hr2:(o.length+[v.1].length)*112≤140737488355328:=hr
    simp only [ac_.turn20,ac_.step20,bC_,gj_,Int.toNat_natCast,cV_ hlt,cond_true,gY_ hlt,hM1 n n (by omega) (by omega),Option.bind_some,hq,Bool.not_true,cond_false,gQ_ hr2,hW]
   rcases h2 with h2|⟨o',g1,g2,g3⟩
   · refine .inl fun n R hn hR k => ?_
     obtain ⟨R',h1,e⟩:=step n R hn hR k
     rw [e];exact h2 n R' (by omega) h1 k
   · refine .inr ⟨o',by simp at g1;omega,g2,fun n R hn hR k => ?_⟩
     obtain ⟨R',h1,e⟩:=step n R hn hR k
     rw [e];exact g3 n R' (by omega) h1 k
theorem ops_any {K:Nat→Nat→ac_.K20} {Q:ah_ × Bool→Prop} {s:Bs} {t6 a b c d e:Int} {f:Bs} {t40 t41 t42 t43 t44:Int} {t45:Bs} {t5:List Bs} {t46:List aa_} {t47:List Bs} {j:aa_} (hj:bH_ 6 j≤400) {o:List TOp} (ho:∀ x ∈ o,d7_ x) (hol:o.length≤4000)
  (hz:Q (zeroE,false)) (hK:∀ o',o'.length≤o.length+400→(∀ x ∈ o',d7_ x)→Ans (fun n N=>K n N s t6 a b c d e f t40 t41 t42 t43 t44 t45 t5 t46 t47 o') Q) :
  Ans (fun n N=>ac_.loop20 n (K n N) n s t6 0 a b c d e f t40 t41 t42 t43 t44 t45 t5 j.kind j.n_ j.s t46 t47 o j.list j.names) Q:=by
 have hll:=dy_ hj
 obtain ⟨M,h|⟨o',g1,g2,g3⟩⟩:=ops_uni (s:=s) (t6:=t6) (a:=a) (b:=b) (c:=c) (d:=d) (e:=e) (f:=f) (t40:=t40) (t41:=t41) (t42:=t42) (t43:=t43) (t44:=t44) (t45:=t45) (t5:=t5) (t46:=t46) (t47:=t47) hj j.list.length 0 o (by omega) ho (by omega)
 · exact ⟨_,⟨M,fun n N hn _=>h n n hn hn _⟩,hz⟩
 · obtain ⟨v,hv,hq⟩:=hK o' (by omega) g2
   exact ⟨v,kl_ M (fun n N hn=>g3 n n hn hn _) hv,hq⟩
theorem ops_exact {s:Bs} {t6 a b c d e:Int} {f:Bs} {t40 t41 t42 t43 t44:Int} {t45:Bs} {t5:List Bs} {t46:List aa_} {t47:List Bs} {l:List TOp} (hl:l.length≤400) (h:∀ o ∈ l,OpIn o) :
  ∀ (m i:Nat),i+m=l.length→∃ M,∀ n R,M≤n→M≤R→∀ k,ac_.loop20 n k R s t6 (i:Int) a b c d e f t40 t41 t42 t43 t44 t45 t5 4 0 [] t46 t47 (l.take i) (l.map cC_) []=k s t6 a b c d e f t40 t41 t42 t43 t44 t45 t5 t46 t47 l:=by
 intro m
 induction m with
 |zero=>
  intro i hi
  have e:i=l.length:=by omega
  subst e
  have e:decide ((l.length:Int)<((l.map cC_).length:Int))=false:=by simp
  refine ⟨1,fun n R _ hR k => ?_⟩
  obtain ⟨R,rfl⟩:∃ m,R=m+1:=⟨R - 1,by omega⟩
  simp only [List.take_length,ac_.turn20,ac_.step20,e,cond_false]
 |succ m ih=>
  intro i hi
  have hlt:i<l.length:=by omega
  have ho:=h _ (cG_ TOp.dflt hlt)
  have hi2:i<(l.map cC_).length:=by simpa using hlt
  have e:(l.map cC_).getD i aa_.dflt=dh_ (l.getD i TOp.dflt):=by
   rw [←ho.val,List.getD_eq_getElem?_getD,List.getElem?_map,List.getD_eq_getElem?_getD,List.getElem?_eq_getElem hlt];rfl
  obtain ⟨M1,hM1⟩:=ig_ ho
  obtain ⟨M2,h2⟩:=ih (i+1) (by omega)
  have hW:=W_up hlt (show l.length≤cD_ by simp only [cD_];omega)
  refine ⟨max M1 (M2+1),fun n R hn hR k => ?_⟩
  obtain ⟨R,rfl⟩:∃ m,R=m+1:=⟨R - 1,by omega⟩
  have hr2:((l.take i).length+[l.getD i TOp.dflt].length)*112≤140737488355328:=by simp;omega
  rw [cO_ TOp.dflt hlt] at h2
  simp only [ac_.turn20,ac_.step20,bC_,gj_,Int.toNat_natCast,cV_ hi2,cond_true,gY_ hi2,e,hM1 n n (by omega) (by omega),Option.bind_some,Bool.not_true,cond_false,gQ_ hr2,hW]
  exact h2 n R (by omega) (by omega) k
theorem ops_enc {K:Nat→Nat→ac_.K20} {F:ah_ × Bool} {s:Bs} {t6 a b c d e:Int} {f:Bs} {t40 t41 t42 t43 t44:Int} {t45:Bs} {t5:List Bs} {t46:List aa_} {t47:List Bs} {l:List TOp} (hl:l.length≤400) (h:∀ o ∈ l,OpIn o)
  (hK:Ev (fun n N=>K n N s t6 a b c d e f t40 t41 t42 t43 t44 t45 t5 t46 t47 l) F) :
  Ev (fun n N=>ac_.loop20 n (K n N) n s t6 0 a b c d e f t40 t41 t42 t43 t44 t45 t5 4 0 [] t46 t47 [] (l.map cC_) []) F:=by
 obtain ⟨M,hM⟩:=ops_exact (s:=s) (t6:=t6) (a:=a) (b:=b) (c:=c) (d:=d) (e:=e) (f:=f) (t40:=t40) (t41:=t41) (t42:=t42) (t43:=t43) (t44:=t44) (t45:=t45) (t5:=t5) (t46:=t46) (t47:=t47) hl h l.length 0 (by omega)
 exact kl_ M (fun n N hn=>hM n n hn hn _) hK
end
section
variable {K:Nat→ac_.K5} {s:Bs} {a b c d e:Int} {f:Bs}
theorem lines_any {Q:ah_ × Bool→Prop} {L:List Bs} (hL:L.length≤4194304) (hLl:∀ y ∈ L,y.length≤4194304) (hz:Q (zeroE,false))
  (hK:∀ t40 t41 t42 (j:aa_) o,fl_ 6 j→o.length≤4000→(∀ x ∈ o,d7_ x)→Ans (fun n _=>K n s a b c d e f t40 t41 t42 j.kind j.n_ j.s j.list j.names o) Q) :
  Ans (fun n _=>ac_.loop5 n (K n) n s 0 a b c d e f 0 0 0 0 0 [] L [] [] []) Q:=by
 refine eE_ (σ:=Nat × Int × Int × Int × aa_ × List TOp) (fun n N st=>ac_.loop5 n (K n) N s (st.1:Int) a b c d e f st.2.1 st.2.2.1 st.2.2.2.1 st.2.2.2.2.1.kind st.2.2.2.2.1.n_ st.2.2.2.2.1.s L st.2.2.2.2.1.list st.2.2.2.2.1.names st.2.2.2.2.2) (fun st=>6 - st.1)
  (fun st=>st.1≤6∧fl_ 6 st.2.2.2.2.1∧st.2.2.2.2.2.length≤400*st.1∧∀ x ∈ st.2.2.2.2.2,d7_ x) _ (fun st hI ih => ?_) (0,0,0,0,fq_,[]) ⟨Nat.zero_le _,eo_ 6,Nat.zero_le _,fun y h=>(by cases h)⟩
 obtain ⟨i,t40,t41,t42,j,o⟩:=st
 simp only at hI ih ⊢
 obtain ⟨h1,h2,h3,h4⟩:=hI
 have hend:=hK t40 t41 t42 j o h2 (by omega) h4
 simp only [ac_.turn5,ac_.step5,bC_,Int.toNat_natCast,cA_]
 refine ⟨fun hlt=>⟨fun h6 => ?_,fun _=>hend⟩,fun _=>hend⟩
 have hlt:=of_decide_eq_true hlt
 have h6:=of_decide_eq_true h6
 have hi:i<L.length:=by omega
 have hW:W ((i:Int)+1)=((i+1:Nat):Int):=by rw [W_id (by omega) (by omega)];omega
 have hy:=hLl _ (cG_ [] hi)
 have b1:=iQ_ (L.getD i []) [105,100,58,32]
 have b2:=iQ_ (L.getD i []) [98,97,115,101,58,32]
 have b3:=iQ_ (L.getD i []) [100,97,116,97,58,32]
 simp only [hB_,cK_ hi,true_and,hW,cA_,bV_ eU_]
 have next:∀ t40 t41 t42 j o',fl_ 6 j→o'.length≤o.length+400→(∀ x ∈ o',d7_ x)→Ans (fun n N=>ac_.loop5 n (K n) N s ((i+1:Nat):Int) a b c d e f t40 t41 t42 j.kind j.n_ j.s L j.list j.names o') Q :=
  fun t40 t41 t42 j o' g1 g2 g3=>ih (i+1,t40,t41,t42,j,o') ⟨by simp only;omega,g1,by simp only;omega,g3⟩ (by simp only;omega)
 refine ⟨fun _=>next _ _ _ j o h2 (by omega) h4,fun _=>⟨fun _=>next _ _ _ j o h2 (by omega) h4,fun _=>⟨fun _ => ?_,fun _=>⟨fun _ => ?_,fun _=>⟨fun _ => ?_,fun _=>next _ _ _ j o h2 (by omega) h4⟩⟩⟩⟩⟩
 · exact cU_ (jt_ (by omega)) fun v _=>next _ _ _ j o h2 (by omega) h4
 · exact cU_ (jt_ (by omega)) fun v _=>next _ _ _ j o h2 (by omega) h4
 · refine cU_ (ij_ (by omega)) fun v hv => ?_
   simp only [cA_]
   refine ⟨fun _=>next _ _ _ v.1 o (cQ_ 6 _ hv) (by omega) h4,fun _ => ?_⟩
   exact ops_any hv h4 (by omega) hz fun o' g1 g2=>by simp only [hW];exact next _ _ _ j o' h2 g1 g2
end
theorem gM_ {s:Bs} (hs:s.length≤4194304):Ans (fun n _=>ac_ n s) (nn_ s):=by
 obtain ⟨l1,l2⟩:=iy_ s [] 4194304 (by simpa using hs)
 refine c2_ ?_
 simp only [ac_,bV_ (fj_ hs)]
 refine lines_any (by omega) l2 (.inl rfl) fun t40 t41 t42 j o g1 g2 g3 => ?_
 have he:lV_ (ah_.mk t40 t41 t42 j o):=⟨g1,by show o.length≤4000000;omega,g3⟩
 simp only [dA_,cA_,ct_,bV_ (eQ_ he)]
 refine ⟨fun _=>.inl rfl,fun h1=>⟨fun _=>.inl rfl,fun h2=>.inr ⟨rfl,text_ok ?_,by simpa using h2⟩⟩⟩
 have h2:cE_ (ah_.mk t40 t41 t42 j o)=s:=by simpa using h2
 rw [h2]
 exact fun e=>by rw [e] at h1;cases h1
section
variable {K:Nat→ac_.K5} {s:Bs} {a b c d e:Int} {f:Bs} {F:ah_ × Bool} {t40 t41 t42 t43 t44:Int} {t45:Bs} {L:List Bs} {t46:List aa_} {t47:List Bs} {t48:List TOp} {i:Nat}
theorem gT_ {a c:UInt8} (h:c≠a) (p t:Bs):dp_ (c::t) (a::p)=[]:=by unfold dp_;rw [kY_ h];rfl
theorem line_snap (hi:i<L.length) (h6:i<6) (hl:L.getD i []=[101,118,101,110,116,58,32,115,110,97,112])
  (h:Ev (fun n N=>ac_.loop5 n (K n) N s ((i+1:Nat):Int) a b c d e f 1 t41 t42 t43 t44 t45 L t46 t47 t48) F) :
  Ev (fun n N=>ac_.loop5 n (K n) N s (i:Int) a b c d e f t40 t41 t42 t43 t44 t45 L t46 t47 t48) F:=by
 have hW:W ((i:Int)+1)=((i+1:Nat):Int):=by rw [W_id (by omega) (by omega)];omega
 have h6':decide ((i:Int)<6)=true:=decide_eq_true (by omega)
 refine bo_ ?_
 simp only [ac_.turn5,ac_.step5,Int.toNat_natCast,cV_ hi,h6',cond_true,bR_,cK_ hi,true_and,hW,hl,beq_self_eq_true]
 exact h
theorem nG_ (hi:i<L.length) (h6:i<6) (hl:L.getD i []=[101,118,101,110,116,58,32,112,97,116,99,104])
  (h:Ev (fun n N=>ac_.loop5 n (K n) N s ((i+1:Nat):Int) a b c d e f 2 t41 t42 t43 t44 t45 L t46 t47 t48) F) :
  Ev (fun n N=>ac_.loop5 n (K n) N s (i:Int) a b c d e f t40 t41 t42 t43 t44 t45 L t46 t47 t48) F:=by
 have hW:W ((i:Int)+1)=((i+1:Nat):Int):=by rw [W_id (by omega) (by omega)];omega
 have h6':decide ((i:Int)<6)=true:=decide_eq_true (by omega)
 have c1:(([101,118,101,110,116,58,32,112,97,116,99,104]:Bs) == [101,118,101,110,116,58,32,115,110,97,112])=false:=rfl
 refine bo_ ?_
 simp only [ac_.turn5,ac_.step5,Int.toNat_natCast,cV_ hi,h6',cond_true,cond_false,bR_,cK_ hi,true_and,hW,hl,c1,beq_self_eq_true]
 exact h
theorem j5_ {c a:UInt8} (h:c≠a) (p t:Bs):((c::t:Bs) == (a::p))=false:=beq_eq_false_iff_ne.2 fun e=>h (List.cons.inj e).1
theorem itoa_ne (n:Int):(Lib.itoa n == [])=false:=by
 obtain ⟨c,t,e,_⟩:=fC_ n
 rw [e];rfl
theorem line_id {v:Int} (hv0:0≤v) (hv1:v≤100000) (hi:i<L.length) (h6:i<6) (hl:L.getD i []=tId++Lib.itoa v)
  (h:Ev (fun n N=>ac_.loop5 n (K n) N s ((i+1:Nat):Int) a b c d e f t40 v t42 t43 t44 t45 L t46 t47 t48) F) :
  Ev (fun n N=>ac_.loop5 n (K n) N s (i:Int) a b c d e f t40 t41 t42 t43 t44 t45 L t46 t47 t48) F:=by
 have hW:W ((i:Int)+1)=((i+1:Nat):Int):=by rw [W_id (by omega) (by omega)];omega
 have h6':decide ((i:Int)<6)=true:=decide_eq_true (by omega)
 have c1:∀ p,(tId++Lib.itoa v == (101::p))=false:=fun p=>j5_ (by decide) p _
 have c3:dp_ (tId++Lib.itoa v) [105,100,58,32]=Lib.itoa v:=f9_ tId _
 have c4:=itoa_ne v
 refine bo_ ?_
 simp only [ac_.turn5,ac_.step5,Int.toNat_natCast,cV_ hi,h6',cond_true,cond_false,bR_,cK_ hi,true_and,hW,hl,c1,ad_ eU_,c3,c4,Bool.not_false,ad_ (js_ hv0 hv1)]
 exact h
theorem line_base {v:Int} (hv0:0≤v) (hv1:v≤100000) (hi:i<L.length) (h6:i<6) (hl:L.getD i []=hT_++Lib.itoa v)
  (h:Ev (fun n N=>ac_.loop5 n (K n) N s ((i+1:Nat):Int) a b c d e f t40 t41 v t43 t44 t45 L t46 t47 t48) F) :
  Ev (fun n N=>ac_.loop5 n (K n) N s (i:Int) a b c d e f t40 t41 t42 t43 t44 t45 L t46 t47 t48) F:=by
 have hW:W ((i:Int)+1)=((i+1:Nat):Int):=by rw [W_id (by omega) (by omega)];omega
 have h6':decide ((i:Int)<6)=true:=decide_eq_true (by omega)
 have c1:∀ p,(hT_++Lib.itoa v == (101::p))=false:=fun p=>j5_ (by decide) p _
 have c2:dp_ (hT_++Lib.itoa v) [105,100,58,32]=[]:=gT_ (by decide) _ _
 have c3:dp_ (hT_++Lib.itoa v) [98,97,115,101,58,32]=Lib.itoa v:=f9_ hT_ _
 have c4:=itoa_ne v
 have c5:(!(([]:Bs) == []))=false:=rfl
 refine bo_ ?_
 simp only [ac_.turn5,ac_.step5,Int.toNat_natCast,cV_ hi,h6',cond_true,cond_false,bR_,cK_ hi,true_and,hW,hl,c1,ad_ eU_,c2,c3,c4,c5,Bool.not_false,ad_ (js_ hv0 hv1)]
 exact h
theorem line_data {j:aa_} (hj:bG_ j≠[]) (hi:i<L.length) (h6:i<6) (hl:L.getD i []=dT_++bG_ j)
  (h:Ev (fun n N=>ac_.loop5 n (K n) N s ((i+1:Nat):Int) a b c d e f 1 t41 t42 j.kind j.n_ j.s L j.list j.names t48) F) :
  Ev (fun n N=>ac_.loop5 n (K n) N s (i:Int) a b c d e f 1 t41 t42 t43 t44 t45 L t46 t47 t48) F:=by
 have hW:W ((i:Int)+1)=((i+1:Nat):Int):=by rw [W_id (by omega) (by omega)];omega
 have h6':decide ((i:Int)<6)=true:=decide_eq_true (by omega)
 have c1:∀ p,(dT_++bG_ j == (101::p))=false:=fun p=>j5_ (by decide) p _
 have c2:dp_ (dT_++bG_ j) [105,100,58,32]=[]:=gT_ (by decide) _ _
 have c6:dp_ (dT_++bG_ j) [98,97,115,101,58,32]=[]:=gT_ (by decide) _ _
 have c3:dp_ (dT_++bG_ j) [100,97,116,97,58,32]=bG_ j:=f9_ dT_ _
 have c4:(bG_ j == [])=false:=beq_eq_false_iff_ne.2 hj
 have c5:(!(([]:Bs) == []))=false:=rfl
 have c7:((1:Int) == 1)=true:=rfl
 refine bo_ ?_
 simp only [ac_.turn5,ac_.step5,Int.toNat_natCast,cV_ hi,h6',cond_true,cond_false,bR_,cK_ hi,true_and,hW,hl,c1,ad_ eU_,c2,c3,c4,c5,c6,c7,Bool.not_false,ad_ (fx_ hj)]
 exact h
theorem line_ops {l:List TOp} (hj:bG_ (df_ l)≠[]) (hn:l.length≤400) (ho:∀ o ∈ l,OpIn o) (hi:i<L.length) (h6:i<6) (hl:L.getD i []=dT_++bG_ (df_ l))
  (h:Ev (fun n N=>ac_.loop5 n (K n) N s ((i+1:Nat):Int) a b c d e f 2 t41 t42 t43 t44 t45 L t46 t47 l) F) :
  Ev (fun n N=>ac_.loop5 n (K n) N s (i:Int) a b c d e f 2 t41 t42 t43 t44 t45 L t46 t47 []) F:=by
 have hW:W ((i:Int)+1)=((i+1:Nat):Int):=by rw [W_id (by omega) (by omega)];omega
 have h6':decide ((i:Int)<6)=true:=decide_eq_true (by omega)
 have c1:∀ p,(dT_++bG_ (df_ l) == (101::p))=false:=fun p=>j5_ (by decide) p _
 have c2:dp_ (dT_++bG_ (df_ l)) [105,100,58,32]=[]:=gT_ (by decide) _ _
 have c6:dp_ (dT_++bG_ (df_ l)) [98,97,115,101,58,32]=[]:=gT_ (by decide) _ _
 have c3:dp_ (dT_++bG_ (df_ l)) [100,97,116,97,58,32]=bG_ (df_ l):=f9_ dT_ _
 have c4:(bG_ (df_ l) == [])=false:=beq_eq_false_iff_ne.2 hj
 have c5:(!(([]:Bs) == []))=false:=rfl
 have c7:((2:Int) == 1)=false:=rfl
 refine bo_ ?_
 simp only [ac_.turn5,ac_.step5,Int.toNat_natCast,cV_ hi,h6',cond_true,cond_false,bR_,cK_ hi,true_and,hW,hl,c1,ad_ eU_,c2,c3,c4,c5,c6,c7,Bool.not_false,ad_ (fx_ hj)]
 exact ops_enc hn ho (by simp only [hW];exact h)
theorem mP_ (hi:i<L.length) (h6:i<6) (hl:L.getD i []=[])
  (h:Ev (fun n N=>ac_.loop5 n (K n) N s ((i+1:Nat):Int) a b c d e f t40 t41 t42 t43 t44 t45 L t46 t47 t48) F) :
  Ev (fun n N=>ac_.loop5 n (K n) N s (i:Int) a b c d e f t40 t41 t42 t43 t44 t45 L t46 t47 t48) F:=by
 have hW:W ((i:Int)+1)=((i+1:Nat):Int):=by rw [W_id (by omega) (by omega)];omega
 have h6':decide ((i:Int)<6)=true:=decide_eq_true (by omega)
 have c1:∀ (a:UInt8) p,(([]:Bs) == (a::p))=false:=fun a p=>rfl
 have c2:∀ (a:UInt8) p,dp_ [] (a::p)=[]:=fun a p=>rfl
 have c5:(!(([]:Bs) == []))=false:=rfl
 refine bo_ ?_
 simp only [ac_.turn5,ac_.step5,Int.toNat_natCast,cV_ hi,h6',cond_true,cond_false,bR_,cK_ hi,true_and,hW,hl,c1,ad_ eU_,c2,c5]
 exact h
theorem mQ_ (hi:i=L.length) (h:Ev (fun n _=>K n s a b c d e f t40 t41 t42 t43 t44 t45 t46 t47 t48) F) :
  Ev (fun n N=>ac_.loop5 n (K n) N s (i:Int) a b c d e f t40 t41 t42 t43 t44 t45 L t46 t47 t48) F:=by
 subst hi
 refine bo_ ?_
 simp only [ac_.turn5,ac_.step5,cR_,cond_false]
 exact h
end
theorem nF_ (v:Int) {d:Bs} (hd:∀ c ∈ d,c≠10):dC_ [] (dO_ v d)=[[101,118,101,110,116,58,32,115,110,97,112],tId++Lib.itoa v,dT_++d,[]]:=by
 have e:dO_ v d=[101,118,101,110,116,58,32,115,110,97,112]++10::((tId++Lib.itoa v)++10::((dT_++d)++10::([]++10::[]))):=by simp [dO_,ja_]
 have h1:∀ c ∈ tId++Lib.itoa v,c≠10:=fun c hc=>by rcases List.mem_append.1 hc with h|h;exact (show ∀ c ∈ tId,c≠10 by decide) c h;exact gx_ v c h
 have h2:∀ c ∈ dT_++d,c≠10:=fun c hc=>by rcases List.mem_append.1 hc with h|h;exact (show ∀ c ∈ dT_,c≠10 by decide) c h;exact hd c h
 rw [e,dM_ [] _ _ (by decide),dM_ [] _ _ h1,dM_ [] _ _ h2,dM_ [] _ _ (by decide)];rfl
theorem lT_ (v b:Int) {d:Bs} (hd:∀ c ∈ d,c≠10):dC_ [] (dB_ v b d)=[[101,118,101,110,116,58,32,112,97,116,99,104],tId++Lib.itoa v,hT_++Lib.itoa b,dT_++d,[]]:=by
 have e:dB_ v b d=[101,118,101,110,116,58,32,112,97,116,99,104]++10::((tId++Lib.itoa v)++10::((hT_++Lib.itoa b)++10::((dT_++d)++10::([]++10::[])))):=by simp [dB_,ja_]
 have h1:∀ c ∈ tId++Lib.itoa v,c≠10:=fun c hc=>by rcases List.mem_append.1 hc with h|h;exact (show ∀ c ∈ tId,c≠10 by decide) c h;exact gx_ v c h
 have h3:∀ c ∈ hT_++Lib.itoa b,c≠10:=fun c hc=>by rcases List.mem_append.1 hc with h|h;exact (show ∀ c ∈ hT_,c≠10 by decide) c h;exact gx_ b c h
 have h2:∀ c ∈ dT_++d,c≠10:=fun c hc=>by rcases List.mem_append.1 hc with h|h;exact (show ∀ c ∈ dT_,c≠10 by decide) c h;exact hd c h
 rw [e,dM_ [] _ _ (by decide),dM_ [] _ _ h1,dM_ [] _ _ h3,dM_ [] _ _ h2,dM_ [] _ _ (by decide)];rfl
theorem gL_ {e:ah_} (h:cx_ e=true):Ev (fun n _=>ac_ n (cE_ e)) (e,true):=by
 have hlen:=jE_ h
 have hne:(cE_ e == [])=false:=beq_eq_false_iff_ne.2 (ln_ h)
 have hT:=eQ_ (mU_ h)
 refine aT_ ?_
 simp only [ac_,ad_ (fj_ (s:=cE_ e) (by omega))]
 rcases f5_ h with ⟨hk,hs⟩|⟨hk,hs⟩
 · have hl:=nF_ e.version (km_ hs.doc)
   rw [←fa_ h hk] at hl
   rw [hl]
   refine cF_ (line_snap (i:=0) (by simp only [List.length_cons,List.length_nil];omega) (by decide) rfl (line_id hs.ver.1 hs.ver.2 (by simp only [List.length_cons,List.length_nil];omega) (by decide) rfl (line_data hs.doc (by simp only [List.length_cons,List.length_nil];omega) (by decide) rfl (mP_ (by simp only [List.length_cons,List.length_nil];omega) (by decide) rfl (mQ_ rfl ?_)))))
   have ee:ah_.mk 1 e.version 0 e.doc []=e:=by
    obtain ⟨k,v,b,d,o⟩:=e
    have e1:=hs.base
    have e2:=hs.ops
    simp only at e1 e2 hk
    rw [e1,e2,hk]
   simp only [dA_,ee,hne,cond_false,ad_ hT,beq_self_eq_true,Bool.not_true,ak_]
 · have hl:=lT_ e.version e.base (km_ hs.enc)
   rw [←eC_ h hk] at hl
   rw [hl]
   refine cF_ (nG_ (i:=0) (by simp only [List.length_cons,List.length_nil];omega) (by decide) rfl (line_id hs.ver.1 hs.ver.2 (by simp only [List.length_cons,List.length_nil];omega) (by decide) rfl (line_base hs.base.1 hs.base.2 (by simp only [List.length_cons,List.length_nil];omega) (by decide) rfl (line_ops hs.enc hs.len hs.ops (by simp only [List.length_cons,List.length_nil];omega) (by decide) rfl (mP_ (by simp only [List.length_cons,List.length_nil];omega) (by decide) rfl (mQ_ rfl ?_))))))
   have ee:ah_.mk 2 e.version e.base (aa_.mk 0 0 [] [] []) e.ops=e:=by
    obtain ⟨k,v,b,d,o⟩:=e
    have e1:=hs.doc
    simp only at e1 hk
    rw [e1,hk];rfl
   simp only [ee,hne,cond_false,ad_ hT,beq_self_eq_true,Bool.not_true,ak_]
theorem jb_ {s:Bs} (hs:s.length≤4194304):∃ x,nn_ s x∧Ev (fun n _=>ac_ n s) x∧Ev (fun n _=>bE_ n s) x:=by
 obtain ⟨x,h1,h2⟩:=g2_ hs
 obtain ⟨y,g1,g2⟩:=gM_ hs
 rcases h2 with rfl|⟨a1,a2,a3⟩
 · rcases g2 with rfl|⟨b1,b2,b3⟩
   · exact ⟨_,.inl rfl,g1,h1⟩
   · have:=g1_ b2
     rw [b3] at this
     have e:=congrArg Prod.snd ((dS_ h1).1 this)
     cases e
 · have:=gL_ a2
   rw [a3] at this
   refine ⟨x,.inr ⟨a1,a2,a3⟩,?_,h1⟩
   rw [←a1] at this
   exact this
end Go.Pi
end
section
namespace Go.Pi
theorem h9_:∀ {l:List Bs} {c:Nat},(∀ x ∈ l,x.length≤c)→dx_ szB l≤l.length*c
 |[],_,_=>Nat.zero_le _
 |x::l,c,h=>by
  have:=h9_ (l:=l) fun y hy=>h y (List.mem_cons_of_mem _ hy)
  have:=h x (List.mem_cons_self ..)
  simp only [dx_,szB,List.length_cons,Nat.add_mul] at *;omega
theorem ke_:∀ (d:Nat) (j:aa_),bH_ d j≤400→aa_.size j≤50000*bH_ d j
 |0,j,h=>by simp only [bH_] at h;omega
 |d+1,j,h=>by
  obtain ⟨ho,hs⟩:=c4_ h
  have hl:=dy_ h
  have hn:=d6_ h
  have hsum:∀ l:List aa_,(∀ x ∈ l,bH_ d x≤400)→dx_ aa_.size l≤50000*dx_ (bH_ d) l:=by
   intro l
   induction l with
   |nil=>intro _;exact Nat.zero_le _
   |cons x l ih=>
    intro hx
    have h1:=ke_ d x (hx x (List.mem_cons_self ..))
    have h2:=ih fun y hy=>hx y (List.mem_cons_of_mem _ hy)
    simp only [dx_];omega
  have h1:=hsum j.list fun x hx=>by have:=hk_ (bH_ d) hx;omega
  have hF:FOwn j=true:=by
   simp only [bH_] at h
   cases hf:FOwn j with
   |true=>rfl
   |false=>rw [hf,cond_false] at h;omega
  have hsl:j.s.length≤60:=by
   unfold FOwn at hF
   simp only [Bool.and_eq_true,Bool.or_eq_true] at hF
   rcases hF.2.2.2.1 with e|e
   · have:j.s=[]:=by simpa using e
     rw [this];exact Nat.zero_le _
   · exact ho.text (by simpa using e)
  have hnt:dx_ szB j.names≤j.names.length*60:=h9_ fun x hx=>by
   by_cases hk:j.kind=5
   · obtain ⟨i,hi,e⟩:=List.mem_iff_getElem.1 hx
     have:=gd_ (ho.obj hk).2 hi
     rw [List.getD_eq_getElem?_getD,List.getElem?_eq_getElem hi,Option.getD_some,e] at this
     exact this
   · have:j.names.length=0:=by
      unfold FOwn at hF
      simp only [Bool.and_eq_true,Bool.or_eq_true] at hF
      rcases hF.2.1 with e|e
      · exact of_decide_eq_true e
      · exact absurd (by simpa using e) hk
     rw [List.eq_nil_of_length_eq_zero this] at hx;cases hx
  have e:=aa_.size_eq j
  unfold c7_ at e
  rw [hs]
  omega
end Go.Pi
end
section
namespace Go.Pi
theorem op_size {o:TOp} (h:OpIn o):TOp.size o≤20000100+400:=by
 have hi:=lR_ h.ok
 have h1:=ke_ 6 o.value hi.val
 have h2:=hi.val
 have h3:dx_ szB o.way≤o.way.length*60:=h9_ hi.text
 have h4:=hi.way
 simp only [TOp.size]
 unfold c7_
 omega
theorem mI_:∀ {l:List TOp},(∀ o ∈ l,OpIn o)→dx_ TOp.size l≤l.length*20000500
 |[],_=>Nat.zero_le _
 |o::l,h=>by
  have:=mI_ (l:=l) fun y hy=>h y (List.mem_cons_of_mem _ hy)
  have:=op_size (h o (List.mem_cons_self ..))
  simp only [dx_,List.length_cons,Nat.add_mul] at *;omega
theorem read_size {s:Bs} {x:ah_ × Bool} (h:nn_ s x):ah_.size x.1≤20000000000:=by
 rcases h with rfl|⟨_,h,_⟩
 · decide
 · rcases f5_ h with ⟨hk,hs⟩|⟨hk,hs⟩
   · have h1:=(hN_ hs.doc).1
     have h2:=ke_ 6 _ h1
     simp only [ah_.size]
     rw [hs.ops]
     simp only [c7_,dx_,List.length_nil];omega
   · have h1:=mI_ hs.ops
     have h2:=hs.len
     simp only [ah_.size]
     rw [hs.doc]
     have:aa_.size fq_=0:=by decide
     unfold c7_
     omega
end Go.Pi
end
section
namespace Go.Pi
abbrev fK_ (s:Bs):Int:=Lib.index s [10,10]
def FEnd (s:Bs):Int:=if fK_ s = -1 then -1 else fK_ s+2
theorem idx2_nil:fK_ [] = -1:=rfl
theorem mX_ (x:UInt8):fK_ [x] = -1:=by
 unfold fK_
 rw [hK_,if_neg (by simp)];rfl
theorem k9_ (x y:UInt8) (l:Bs):fK_ (x::y::l)=if x=10∧y=10 then 0 else if fK_ (y::l) = -1 then -1 else fK_ (y::l)+1:=by
 unfold fK_
 rw [hK_]
 by_cases h:x=10∧y=10
 · rw [if_pos h,if_pos (by simpa using h)]
 · rw [if_neg h,if_neg (by simpa using h)]
theorem iH_ (s:Bs) : -1≤fK_ s:=Lib.index_ge s [10,10]
theorem idx2_lt:∀ (s:Bs),fK_ s = -1∨fK_ s+2≤(s.length:Int)
 |[]=>.inl rfl
 |[x]=>.inl (mX_ x)
 |x::y::l=>by
  rw [k9_]
  by_cases h:x=10∧y=10
  · rw [if_pos h];right;simp only [List.length_cons];omega
  · rw [if_neg h]
    rcases idx2_lt (y::l) with e|e
    · rw [if_pos e];exact .inl rfl
    · have:=iH_ (y::l)
      by_cases e2:fK_ (y::l) = -1
      · rw [if_pos e2];exact .inl rfl
      · rw [if_neg e2];right;simp only [List.length_cons] at e ⊢;omega
theorem end_pos {s:Bs} (h:¬ FEnd s<0):2≤FEnd s∧FEnd s≤(s.length:Int):=by
 unfold FEnd at h ⊢
 have:=iH_ s
 by_cases e:fK_ s = -1
 · rw [if_pos e] at h;exact absurd (by decide) h
 · rw [if_neg e]
   rcases idx2_lt s with g|g
   · exact absurd g e
   · omega
theorem gh_ {s:Bs} (hs:s.length≤1000000000):Ev (fun n _=>bf_ n s) (FEnd s):=by
 have b10:∀ c:UInt8,((c.toNat:Int) == 10)=decide (c=10):=fun c=>hP_ c 10 10 rfl
 refine aT_ ?_
 simp only [bf_]
 have key:∀ (m i:Nat),i+m=s.length→1≤i→Ev (fun n N=>bf_.loop3 n (some (-1)) N s (i:Int)) (if fK_ (s.drop (i - 1)) = -1 then -1 else fK_ (s.drop (i - 1))+(i:Int)+1):=by
  intro m
  induction m with
  |zero=>
   intro i hi h1
   have e:i=s.length:=by omega
   subst e
   have hd:=dG_ 0 (show s.length - 1<s.length by omega)
   rw [show s.length - 1+1=s.length by omega,List.drop_length] at hd
   refine bo_ ?_
   simp only [bf_.turn3,bf_.step3,cR_,cond_false,ak_]
   rw [hd,mX_,if_pos rfl]
  |succ m ih=>
   intro i hi h1
   have hlt:i<s.length:=by omega
   have hd:=dG_ 0 (show i - 1<s.length by omega)
   have hd2:=dG_ 0 hlt
   rw [show i - 1+1=i by omega,hd2] at hd
   have hn:=ih (i+1) (by omega) (by omega)
   rw [show i+1 - 1=i by omega,hd2] at hn
   have hW:W ((i:Int)+1)=((i+1:Nat):Int):=by rw [W_id (by omega) (by omega)];omega
   have hW2:W ((i:Int) - 1)=((i - 1:Nat):Int):=by rw [W_id (by omega) (by omega)];omega
   refine bo_ ?_
   simp only [bf_.turn3,bf_.step3,cV_ hlt,cond_true,bR_,cK_ hlt,cK_ (show i - 1<s.length by omega),true_and,Int.toNat_natCast,hW,hW2,b10,aI_,ak_]
   rw [hd,k9_]
   generalize s.getD i 0=y at hn ⊢
   generalize s.getD (i - 1) 0=x at hn ⊢
   generalize s.drop (i+1)=l at hn ⊢
   have hge:=iH_ (y::l)
   have hrest:¬ (x=10∧y=10)→Ev (fun n N=>bf_.loop3 n (some (-1)) N s ((i+1:Nat):Int)) (if (if x=10∧y=10 then (0:Int) else if fK_ (y::l) = -1 then -1 else fK_ (y::l)+1) = -1 then -1 else (if x=10∧y=10 then (0:Int) else if fK_ (y::l) = -1 then -1 else fK_ (y::l)+1)+(i:Int)+1):=by
    intro hc
    rw [if_neg hc]
    by_cases e:fK_ (y::l) = -1
    · rw [if_pos e] at hn ⊢;rw [if_pos rfl];exact hn
    · rw [if_neg e] at hn ⊢
      rw [if_neg (by omega),show fK_ (y::l)+1+(i:Int)+1=fK_ (y::l)+((i+1:Nat):Int)+1 by omega];exact hn
   refine ⟨fun hy=>⟨fun hx => ?_,fun hx=>hrest fun h => ?_⟩,fun hy=>hrest fun h => ?_⟩
   · have hx:=of_decide_eq_true hx
     have hy:=of_decide_eq_true hy
     rw [if_pos (show x=10∧y=10 from ⟨hx,hy⟩),if_neg (by decide)];omega
   · exact of_decide_eq_false hx h.1
   · exact of_decide_eq_false hy h.2
 cases s with
 |nil=>exact cF_ (f:=fun n N=>bf_.loop3 n (some (-1)) N [] 1) (bo_ ⟨0,fun _ _ _ _=>rfl⟩)
 |cons c l=>
  have:=key l.length 1 (by simp;omega) (Nat.le_refl _)
  have e:(if fK_ ((c::l).drop (1 - 1)) = -1 then -1 else fK_ ((c::l).drop (1 - 1))+((1:Nat):Int)+1)=FEnd (c::l):=by
   show (if fK_ (c::l) = -1 then -1 else fK_ (c::l)+((1:Nat):Int)+1)=_
   unfold FEnd
   split
   · rfl
   · omega
  rw [e] at this
  exact cF_ (f:=fun n N=>bf_.loop3 n (some (-1)) N (c::l) ((1:Nat):Int)) this
theorem fh_ {s:Bs} (hs:s.length≤1000000000):Ev (fun n _=>strings_Index n s [10,10]) (fK_ s):=aT_ (by
 simp only [strings_Index,j7_,decide_eq_true (show s.length<4294967281 by omega),cond_true,ak_])
theorem nT_:∀ (m:Nat) (wait:Bs) (out:List ah_),wait.length≤m→wait.length≤4194304→out.length+wait.length≤4194304→(∀ e ∈ out,cx_ e=true)→∃ x:aq_ × List ah_,
  (x.1.wait.length+x.2.length≤out.length+wait.length∧∀ e ∈ x.2,cx_ e=true) ∧
  Ev (fun n N=>bu_.loop8 n (fun xy3 xy4 xy5 xy6 xy7 xy8=>(cond (decide ((xy3.length:Int) > 14000)) (some ((aq_.mk xy7 xy8),xy6)) (some ((aq_.mk xy3 false),xy6)))) N wait [] false out [] true) x ∧
  Ev (fun n N=>bs_.loop5 n (fun xy3 xy4 xy5 xy6 xy7=>(cond xy4 (some ((aq_.mk [] true),xy7)) (some ((aq_.mk xy3 false),xy7)))) N wait false [] false out) x:=by
 intro m
 induction m with
 |zero=>
  intro wait out hm _ ho hok
  have:wait=[]:=List.eq_nil_of_length_eq_zero (by omega)
  subst this
  have hE:=gh_ (s:=[]) (by simp)
  have hI:=fh_ (s:=[]) (by simp)
  rw [idx2_nil] at hI
  have hF:FEnd [] = -1:=rfl
  rw [hF] at hE
  have c1:decide ((-1:Int)<0)=true:=rfl
  have c2:decide ((([]:Bs).length:Int) > 14000)=false:=rfl
  refine ⟨(aq_.mk [] false,out),⟨by simp,hok⟩,bo_ ?_,bo_ ?_⟩
  · simp only [bu_.turn8,bu_.step8,ad_ hE,c1,c2,cond_true,cond_false,ak_]
  · simp only [bs_.turn5,bs_.step5,Bool.not_false,ad_ hI,c1,c2,cond_true,cond_false,ak_]
 |succ m ih=>
  intro wait out hm hw ho hok
  have hE:=gh_ (s:=wait) (by omega)
  have hI:=fh_ (s:=wait) (by omega)
  by_cases hneg:FEnd wait<0
  · have hn:fK_ wait = -1:=by
     unfold FEnd at hneg
     by_cases e:fK_ wait = -1
     · exact e
     · rw [if_neg e] at hneg;have:=iH_ wait;omega
    have c1:decide (FEnd wait<0)=true:=decide_eq_true hneg
    have c3:decide (fK_ wait<0)=true:=by rw [hn];rfl
    refine ⟨cond (decide ((wait.length:Int) > 14000)) (aq_.mk [] true,out) (aq_.mk wait false,out),?_,bo_ ?_,bo_ ?_⟩
    · cases decide ((wait.length:Int) > 14000) with
      |true=>exact ⟨by simp,hok⟩
      |false=>exact ⟨by simp;omega,hok⟩
    · simp only [bu_.turn8,bu_.step8,ad_ hE,c1,cond_true,aI_,ak_]
      cases decide ((wait.length:Int) > 14000)<;>simp
    · simp only [bs_.turn5,bs_.step5,Bool.not_false,ad_ hI,c3,cond_true,aI_,ak_]
      cases decide ((wait.length:Int) > 14000)<;>simp
  · have hp:=end_pos hneg
    have hne:fK_ wait ≠ -1:=by
     intro e;unfold FEnd at hneg;rw [if_pos e] at hneg;exact hneg (by decide)
    have hFE:FEnd wait=fK_ wait+2:=by unfold FEnd;rw [if_neg hne]
    have hge:=iH_ wait
    obtain ⟨k,hk⟩:∃ k:Nat,FEnd wait=(k:Int):=⟨(FEnd wait).toNat,by omega⟩
    have hW:W (fK_ wait+2)=(k:Int):=by rw [W_id (by omega) (by omega)];omega
    rw [hk] at hE
    have c1:decide ((k:Int)<0)=false:=decide_eq_false (by omega)
    have c3:decide (fK_ wait<0)=false:=decide_eq_false (by omega)
    obtain ⟨x,hx,hs,hi⟩:=jb_ (s:=(wait.take k).drop 0) (by simp;omega)
    cases hq:x.2 with
    |false=>
     refine ⟨(aq_.mk [] true,out),⟨by simp,hok⟩,bo_ ?_,bo_ ?_⟩
     · simp only [bu_.turn8,bu_.step8,ad_ hE,c1,cond_false,dv_,Int.toNat_natCast,ad_ hs,hq,Bool.not_false,cond_true,ak_]
       exact ⟨by omega,trivial⟩
     · simp only [bs_.turn5,bs_.step5,Bool.not_false,ad_ hI,c3,hW,cond_true,cond_false,dv_,Int.toNat_natCast,ad_ hi,hq,ak_]
       exact ⟨by omega,trivial⟩
    |true=>
     have hok':cx_ x.1=true:=by
      rcases hx with rfl|⟨_,h,_⟩
      · cases hq
      · exact h
     have hall:∀ e ∈ out++[x.1],cx_ e=true:=by
      intro e he
      rcases List.mem_append.1 he with he|he
      · exact hok e he
      · obtain rfl:=List.mem_singleton.1 he;exact hok'
     have hdl:(wait.drop k).length=wait.length - k:=List.length_drop
     obtain ⟨y,⟨y1,y3⟩,hs2,hi2⟩:=ih (wait.drop k) (out++[x.1]) (by omega) (by omega) (by simp;omega) hall
     refine ⟨y,⟨by simp at y1;omega,y3⟩,bo_ ?_,bo_ ?_⟩
     · simp only [bu_.turn8,bu_.step8,bC_,jD_,ad_ hE,c1,cond_false,dv_,Int.toNat_natCast,ad_ hs,hq,Bool.not_true,cc_,List.take_length]
       exact ⟨by omega,by simp;omega,by omega,hs2⟩
     · simp only [bs_.turn5,bs_.step5,bC_,jD_,Bool.not_false,ad_ hI,c3,hW,cond_true,cond_false,dv_,Int.toNat_natCast,ad_ hi,hq,Bool.not_true,cc_,List.take_length]
       exact ⟨by omega,by simp;omega,by omega,hi2⟩
theorem Feed_both {s:aq_} {p:Bs} (h:s.wait.length+p.length≤4194304):∃ x:aq_ × List ah_,(x.1.wait.length+x.2.length≤s.wait.length+p.length∧∀ e ∈ x.2,cx_ e=true) ∧
  Ev (fun n _=>bu_ n s p) x∧Ev (fun n _=>bs_ n s p) x:=by
 have hroom:decide (s.wait.length+p.length≤9223372036854775807)=true:=decide_eq_true (by omega)
 cases hb:s.bad with
 |true=>
  refine ⟨(aq_.mk [] true,[]),⟨Nat.zero_le _,fun e h=>(by cases h)⟩,aT_ ?_,aT_ ?_⟩
  · simp only [bu_,hb,cond_true,ak_]
  · simp only [bs_,hb,hroom,cond_true]
    refine cF_ (f:=fun n N=>bs_.loop5 n (fun xy3 xy4 xy5 xy6 xy7=>(cond xy4 (some ((aq_.mk [] true),xy7)) (some ((aq_.mk xy3 false),xy7)))) N (s.wait++p) true [] false []) (bo_ ?_)
    simp only [bs_.turn5,bs_.step5,Bool.not_true,cond_false,cond_true,ak_]
 |false=>
  obtain ⟨x,⟨h1,h3⟩,h4,h5⟩:=nT_ (s.wait++p).length (s.wait++p) [] (Nat.le_refl _) (by simp;omega) (by simp;omega) (fun e h=>(by cases h))
  rw [List.length_append] at h1
  refine ⟨x,⟨by simpa using h1,h3⟩,aT_ ?_,aT_ ?_⟩
  · simp only [bu_,hb,hroom,cond_true,cond_false]
    exact cF_ h4
  · simp only [bs_,hb,hroom,cond_true]
    exact cF_ h5
theorem m7_:∀ {l:List ah_},(∀ e ∈ l,cx_ e=true)→dx_ ah_.size l≤l.length*20000000000
 |[],_=>Nat.zero_le _
 |e::l,h=>by
  have:=m7_ (l:=l) fun y hy=>h y (List.mem_cons_of_mem _ hy)
  have:=read_size (s:=cE_ e) (x:=(e,true)) (.inr ⟨rfl,h e (List.mem_cons_self ..),rfl⟩)
  simp only [dx_,List.length_cons,Nat.add_mul] at *;omega
end Go.Pi
end
section
namespace Go.Pi
theorem lz_ {s:aq_} {l:List Bs} (hl:l.length≤1048576) (h:s.wait.length+dx_ szB l≤4194304):∃ x:aq_ × List ah_,(x.1.wait.length+x.2.length≤s.wait.length+dx_ szB l∧∀ e ∈ x.2,cx_ e=true) ∧
  Ev (fun n _=>bb_ n s l) x∧Ev (fun n _=>a9_ n s l) x:=by
 have key:∀ (m i:Nat) (s:aq_) (out:List ah_),i+m=l.length→out.length+s.wait.length+dx_ szB (l.drop i)≤4194304→(∀ e ∈ out,cx_ e=true)→∃ x:aq_ × List ah_,
   (x.1.wait.length+x.2.length≤out.length+s.wait.length+dx_ szB (l.drop i)∧∀ e ∈ x.2,cx_ e=true) ∧
   Ev (fun n N=>bb_.loop4 n (fun xy2 xy3 xy4 xy5 xy6=>(some ((aq_.mk xy2 xy3),xy6))) N l (i:Int) s.wait s.bad [] false out) x ∧
   Ev (fun n N=>a9_.loop4 n (fun xy2 xy3 xy4 xy5 xy6=>(some ((aq_.mk xy2 xy3),xy6))) N l (l.length:Int) (i:Int) s.wait s.bad [] false out) x:=by
  intro m
  induction m with
  |zero=>
   intro i s out hi hb hok
   have e:i=l.length:=by omega
   subst e
   refine ⟨(aq_.mk s.wait s.bad,out),⟨by simp only;omega,hok⟩,bo_ ?_,bo_ ?_⟩
   · simp only [bb_.turn4,bb_.step4,cR_,cond_false,ak_]
   · simp only [a9_.turn4,a9_.step4,cR_,cond_false,ak_]
  |succ m ih=>
   intro i s out hi hb hok
   have hlt:i<l.length:=by omega
   have hW:=W_up hlt (show l.length≤cD_ by simp only [cD_];omega)
   rw [eP_ szB [] hlt] at hb ⊢
   have hpb:szB (l.getD i [])=(l.getD i []).length:=rfl
   obtain ⟨y,⟨y1,y2⟩,h3,h4⟩:=Feed_both (s:=s) (p:=l.getD i []) (by omega)
   have hall:∀ e ∈ out++y.2,cx_ e=true:=by
    intro e he
    rcases List.mem_append.1 he with he|he
    · exact hok e he
    · exact y2 e he
   obtain ⟨x,⟨x1,x2⟩,g1,g2⟩:=ih (i+1) y.1 (out++y.2) (by omega) (by simp;omega) hall
   refine ⟨x,⟨by simp at x1;omega,x2⟩,bo_ ?_,bo_ ?_⟩
   · simp only [bb_.turn4,bb_.step4,cV_ hlt,cond_true,bR_,cK_ hlt,true_and,Int.toNat_natCast,ad_ h3,cc_,hW]
     exact ⟨by omega,g1⟩
   · simp only [a9_.turn4,a9_.step4,cV_ hlt,cond_true,bR_,cK_ hlt,true_and,Int.toNat_natCast,ad_ h4,cc_,hW]
     exact ⟨by omega,g2⟩
 obtain ⟨x,⟨x1,x2⟩,g1,g2⟩:=key l.length 0 s [] (by omega) (by simpa using h) (fun e h=>(by cases h))
 rw [List.drop_zero] at x1
 exact ⟨x,⟨by simpa using x1,x2⟩,aT_ (by simp only [bb_];exact cF_ g1),aT_ (by simp only [a9_];exact cF_ g2)⟩
theorem mk_ {o:aq_} {p:List Bs} (ho:aq_.len o) (hp:lenL lenB p):∃ n,laws_FnExactFeedAll n o p=some true:=by
 refine ev_ex (aT_ ?_)
 simp only [laws_FnExactFeedAll,ad_ (lI_ (a:=o) (l:=1048576) ho (by omega) (by omega)),aI_,ak_]
 refine ⟨fun _=>trivial,fun h => ?_⟩
 have hz:=subS_ok (of_decide_eq_false h)
 have h:=of_decide_eq_false h
 have hb:gK_ 1048576 (aq_.size o)≤1048576:=by unfold gK_;split<;>omega
 simp only [ad_ (kG_ (a:=p) (l:=gK_ 1048576 (aq_.size o)) hp (by omega) hb),aI_,ak_]
 refine ⟨fun _=>trivial,fun h2 => ?_⟩
 have hz2:=subS_ok (of_decide_eq_false h2)
 have hs2:(aq_.size o:Int)+c7_ szB p≤1048576:=by unfold gK_ at hz2;split at hz2<;>omega
 have e0:aq_.size o=o.wait.length:=rfl
 have e1:c7_ szB p=p.length+dx_ szB p:=rfl
 have k1:aq_.size o≤cap:=by simp only [cap];omega
 have k2:c7_ szB p≤cap:=by simp only [cap];omega
 have k3:c7_ szB p≤cD_:=by simp only [cD_];omega
 obtain ⟨x,⟨x1,x2⟩,h3,h4⟩:=lz_ (s:=o) (l:=p) (by omega) (by omega)
 have hz:=m7_ x2
 have t1:aq_.size x.1≤cD_:=by simp only [aq_.size,szB,cD_];omega
 have t2:c7_ ah_.size x.2≤cD_:=by unfold c7_;simp only [cD_];omega
 obtain ⟨m0,w0,d1,d2,d3,d4,d5⟩:=dE_ (a:=p) (k:=1) (by simp only [cD_];omega) (by omega) (by simp only [cD_];omega)
 obtain ⟨m,w,e1,e2,e3,e4,e5⟩:=j8_ (a:=x.2) (k:=1) (by simp only [cD_];omega) (by omega) (by unfold c7_;simp only [cD_];omega)
 simp only [ad_ (lG_ k1),ad_ (kD_ k2),ad_ h3,ad_ h4,ad_ (l3_ t1),ad_ (l4_ t2),ad_ (fO_ k3),ad_ d4,d3,ad_ e4,ad_ e5,e3,Nat.beq_refl,beq_self_eq_true,bne_self_eq_false,Bool.not_true,cond_true,cond_false,aI_,ak_,decide_eq_true_eq,decide_eq_false_iff_not]
 repeat' (first|apply And.intro|intro _)
 all_goals (first|trivial|rfl|(exfalso;omega)|omega)
end Go.Pi
end
section
namespace Go.Pi
theorem good_sl {t:TC} {xs:List (El t)} (h:Good (.sl .v t xs)):xs.length≤cD_∧∀ x ∈ xs,∀ c ∈ an_.enc .v t x,Good c:=by
 cases h with
 |sl t xs h1 h2=>exact ⟨h1,h2⟩
end Go.Pi
end
section
namespace Go.Pi
theorem m0_ {l:Bs} (h:Good (.s l)):lenB l:=by
 cases h with
 |s l h=>exact h
theorem aq_.good {x:aq_} (h:∀ c ∈ ([.s x.wait,.b x.bad]:List AV),Good c):aq_.len x:=(m0_ (h _ (.head _)))
theorem la_ {a:List Bs} (h:Good (.sl .v .str a)):(lenL lenB) a:=⟨(good_sl (t:=.str) h).1,fun x0 hx0=>(m0_ ((good_sl (t:=.str) h).2 x0 hx0 _ (.head _)))⟩
end Go.Pi
end
section
namespace Go.Pi
open Go.Proofs Go.Proofs.YtccdklkcfjmchaaGreatDoor
namespace laws_FnExactFeedAll
theorem pure_law:Pure:=fun o p h0 h1=>mk_ (aq_.good h0) (la_ (h1 _ (by simp)))
theorem proved:Rows.FnExactFeedAllCardSaid:=card pure_law
end laws_FnExactFeedAll
end Go.Pi
end
namespace Go.Proofs.YtccdklkcfjmchaaGreatDoor
theorem fnExactFeedAll_holds:Rows.FnExactFeedAllCardSaid:=Go.Pi.laws_FnExactFeedAll.proved
#print axioms fnExactFeedAll_holds
end Go.Proofs.YtccdklkcfjmchaaGreatDoor
