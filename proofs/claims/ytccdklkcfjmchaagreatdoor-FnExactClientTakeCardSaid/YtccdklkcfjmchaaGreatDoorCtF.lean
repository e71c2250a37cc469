/- The program's ClientTake returns what the reference's returns, for all arguments, leaves its arguments unmodified and returns memory that it shares with nothing. Text 6 of 6. -/
import Derived.Test.YtccdklkcfjmchaaGreatDoorCtE
set_option linter.unusedVariables false
set_option maxRecDepth 100000
set_option linter.unusedSimpArgs false
section
namespace Go.Pi
def cR_ (ns:List Bs) (x:Bs):Nat:=ns.findIdx (fun y => !Op.bytesLess y x)
def ei_ (ns:List Bs) (x:Bs):Nat:=if ns.getD (cR_ ns x) []=x∧cR_ ns x<ns.length then cR_ ns x+1 else cR_ ns x
def jy_ {α:Type} (ns:List Bs) (x:Bs) (l:List α) (y:α):List α:=l.take (cR_ ns x)++[y]++l.drop (ei_ ns x)
theorem e7_ {α:Type} (d:α) {a m:List α} {i q:Nat} (p:Nat) (hi:i<a.length) (h:q≤i):a.take p++m++(a.take (i+1)).drop q=a.take p++m++(a.take i).drop q++[a.getD i d]:=by
 rw [c5_ d hi,List.drop_append_of_le_length (by simp;omega)]
 simp
theorem put_idx {ns:List Bs} {x:Bs} {i:Nat} (hi:i<ns.length) (hle:i≤cR_ ns x):(!Op.bytesLess (ns.getD i []) x)=decide (i=cR_ ns x):=by
 rw [List.getD_eq_getElem?_getD,List.getElem?_eq_getElem hi,Option.getD_some]
 unfold cR_ at hle ⊢
 by_cases h:i=ns.findIdx (fun y => !Op.bytesLess y x)
 · rw [decide_eq_true h]
   have:=List.findIdx_getElem (xs:=ns) (p:=fun y => !Op.bytesLess y x) (w:=by omega)
   simp only [←h] at this
   exact this
 · rw [decide_eq_false h]
   exact List.not_of_lt_findIdx (xs:=ns) (p:=fun y => !Op.bytesLess y x) (i:=i) (by omega)
theorem fM_ {o j:aa_} {x:Bs} (hk:o.names.length≤2000000) (he:o.list.length=o.names.length) (hlt:∀ y,Op.bytesLess y x=true→(y == x)=false) (hne:∀ i,ei_ o.names x≤i→i<o.names.length→(o.names.getD i [] == x)=false) :
  Ev (fun n _=>a1_ n o x j) (aa_.mk 5 0 [] (jy_ o.names x o.list j) (jy_ o.names x o.names x)):=by
 refine aS_ ?_
 have ht:o.names.length≤co_:=by simp only [co_];omega
 obtain ⟨p,hp⟩:∃ p,p=cR_ o.names x:=⟨_,rfl⟩
 have hpl:p≤o.names.length:=by rw [hp];exact List.findIdx_le_length
 obtain ⟨q,hq⟩:∃ q,q=ei_ o.names x:=⟨_,rfl⟩
 have hqp:p≤q∧q≤p+1:=by rw [hq,hp];unfold ei_;split<;>omega
 have hT:o.list.take o.names.length=o.list:=List.take_of_length_le (by omega)
 let S:Nat→Bool × List aa_ × List Bs:=fun i=>if i≤p then (false,o.list.take i,o.names.take i) else (true,o.list.take p++[j]++(o.list.take i).drop q,o.names.take p++[x]++(o.names.take i).drop q)
 have hS0:S 0=(false,[],[]):=by simp [S]
 simp only [a1_]
 have:=ea_ S o.names.length (fun n N i (s:Bool × List aa_ × List Bs)=>a1_.loop5 n (fun xy1 xy2 xy3 xy4 xy5 xy6 xy7 xy8 xy9 xy10 xy11 xy12 xy13 xy14 xy15=>(cond (!xy2) (cv_ (xy15.length+([xy1]:List Bs).length) 16 (cv_ (xy14.length+([(aa_.mk xy3 xy4 xy5 xy6 xy7)]:List aa_).length) 80 (some (aa_.mk xy11 xy12 xy13 (xy14++([(aa_.mk xy3 xy4 xy5 xy6 xy7)]:List aa_)) (xy15++([xy1]:List Bs)))))) (some (aa_.mk xy11 xy12 xy13 xy14 xy15)))) N x s.1 (i:Int) o.kind o.n_ o.s o.list o.names j.kind j.n_ j.s j.list j.names 0 0 [] 5 0 [] s.2.1 s.2.2)
  (aa_.mk 5 0 [] (jy_ o.names x o.list j) (jy_ o.names x o.names x)) (fun i hi F hF => ?_) ?_
 · rw [hS0] at this;exact this
 · have hx:=put_idx (ns:=o.names) (x:=x) hi
   rw [←hp] at hx
   have hln:(S i).2.2.length≤o.names.length+1:=by simp only [S];split<;>simp<;>omega
   have hll:(S i).2.1.length≤o.names.length+1:=by simp only [S];split<;>simp<;>omega
   have hil:i<o.list.length:=by omega
   simp only [a1_.turn5,a1_.step5,cU_,bA_,Int.toNat_natCast,W_up hi ht,ay_,cf_,cz_,cW_ hi,cJ_ hi,cJ_ hil]
   by_cases hle:i≤p
   · have s1:S i=(false,o.list.take i,o.names.take i):=by simp only [S,if_pos hle]
     rw [s1] at hln hll ⊢
     by_cases e:i=p
     · have hb:(!Op.bytesLess (o.names.getD i []) x)=true:=by rw [hx hle];exact decide_eq_true e
       subst e
       by_cases hs:o.names.getD i []=x
       · have hqv:q=i+1:=by rw [hq];unfold ei_;rw [←hp,if_pos ⟨hs,hi⟩]
         have s2:S (i+1)=(true,o.list.take i++[j],o.names.take i++[x]):=by
          simp only [S,if_neg (show ¬ i+1≤i by omega)]
          rw [List.drop_eq_nil_of_le (by simp;omega),List.drop_eq_nil_of_le (by simp;omega),List.append_nil,List.append_nil]
         rw [s2] at hF
         have hs':(o.names.getD i [] == x)=true:=by simpa using hs
         simp only [hb,hs',cond_true,cond_false,Bool.not_true,Bool.not_false]
         repeat' (first|apply And.intro|intro _)
         all_goals (first|contradiction|exact hF|trivial|(simp;omega))
       · have hqv:q=i:=by rw [hq];unfold ei_;rw [←hp,if_neg (fun h=>hs h.1)]
         have s2:S (i+1)=(true,o.list.take i++[j]++[o.list.getD i aa_.dflt],o.names.take i++[x]++[o.names.getD i []]):=by
          simp only [S,if_neg (show ¬ i+1≤i by omega),hqv]
          rw [e7_ aa_.dflt i hil (Nat.le_refl _),e7_ [] i hi (Nat.le_refl _),List.drop_eq_nil_of_le (by simp;omega),List.drop_eq_nil_of_le (by simp;omega),List.append_nil,List.append_nil]
         rw [s2] at hF
         have hs':(o.names.getD i [] == x)=false:=by simpa using hs
         simp only [hb,hs',cond_true,cond_false,Bool.not_true,Bool.not_false]
         repeat' (first|apply And.intro|intro _)
         all_goals (first|contradiction|exact hF|trivial|(simp;omega))
     · have hb:(!Op.bytesLess (o.names.getD i []) x)=false:=by rw [hx hle];exact decide_eq_false e
       have hs':(o.names.getD i [] == x)=false:=hlt (o.names.getD i []) (by rw [Bool.not_eq_false'] at hb;exact hb)
       have s2:S (i+1)=(false,o.list.take i++[o.list.getD i aa_.dflt],o.names.take i++[o.names.getD i []]):=by
        simp only [S,if_pos (show i+1≤p by omega),c5_ aa_.dflt hil,c5_ [] hi]
       rw [s2] at hF
       simp only [hb,hs',cond_true,cond_false,Bool.not_true,Bool.not_false]
       repeat' (first|apply And.intro|intro _)
       all_goals (first|contradiction|exact hF|trivial|(simp;omega))
   · have s1:S i=(true,o.list.take p++[j]++(o.list.take i).drop q,o.names.take p++[x]++(o.names.take i).drop q):=by simp only [S,if_neg hle]
     have s2:S (i+1)=(true,o.list.take p++[j]++(o.list.take i).drop q++[o.list.getD i aa_.dflt],o.names.take p++[x]++(o.names.take i).drop q++[o.names.getD i []]):=by
      simp only [S,if_neg (show ¬ i+1≤p by omega)]
      rw [e7_ aa_.dflt p hil (by omega),e7_ [] p hi (by omega)]
     have hs':=hne i (by omega) hi
     rw [s1] at hln hll ⊢
     rw [s2] at hF
     simp only [hs',cond_true,cond_false,Bool.not_true,Bool.not_false]
     repeat' (first|apply And.intro|intro _)
     all_goals (first|contradiction|exact hF|trivial|(simp at hln hll ⊢;omega))
 · simp only [a1_.turn5,a1_.step5,cU_,cH_,cond_false,ay_,cz_,as_]
   unfold jy_
   rw [←hp,←hq]
   by_cases hle:o.names.length≤p
   · have e:p=o.names.length:=by omega
     have hqv:q=p:=by rw [hq];unfold ei_;rw [←hp,if_neg (fun h=>by omega)]
     have s1:S o.names.length=(false,o.list,o.names):=by simp only [S,if_pos hle,List.take_length];rw [List.take_of_length_le (by omega)]
     rw [s1,hqv,e,List.take_of_length_le (l:=o.list) (by omega),List.drop_eq_nil_of_le (show o.list.length≤o.names.length by omega),List.take_length,List.drop_length]
     refine ⟨fun _=>⟨by simp;omega,by simp;omega,by simp⟩,fun h=>(by cases h)⟩
   · have s1:S o.names.length=(true,o.list.take p++[j]++o.list.drop q,o.names.take p++[x]++o.names.drop q):=by simp only [S,if_neg hle,List.take_length];rw [hT]
     rw [s1]
     exact ⟨fun h=>(by cases h),fun _=>rfl⟩
end Go.Pi
end
section
namespace Go.Pi
theorem d3_:∀ (x y:Bs),Op.bytesLess x y=decide (x<y)
 |[],[]=>by simp [Op.bytesLess]
 |_::_,[]=>by simp [Op.bytesLess]
 |[],_::_=>by simp [Op.bytesLess]
 |a::x,b::y=>by
  rw [Op.bytesLess,d3_ x y]
  simp only [List.cons_lt_cons_iff]
  by_cases h1:a<b<;>by_cases h2:a=b<;>by_cases h3:x<y<;>simp [h1,h2,h3]
theorem less_ne {x y:Bs} (h:Op.bytesLess y x=true):(y == x)=false:=by
 rw [d3_] at h
 exact beq_eq_false_iff_ne.2 fun e=>by subst e;exact List.lt_irrefl y (of_decide_eq_true h)
end Go.Pi
end
section
namespace Go.Pi
def fj_:aa_:=aa_.mk 0 0 [] [] []
def kb_ (j:aa_):aa_:=cond (cp_ j) j fj_
theorem orNull_ev {j:aa_} (h:fo_ 6 j):Ev (fun n _=>b1_ n j) (kb_ j):=by
 refine aS_ ?_
 simp only [b1_,bA_,ar_ (cZ_ h),ay_,as_,kb_,fj_]
 cases cp_ j<;>simp
end Go.Pi
end
section
namespace Go.Pi
theorem fU_ {d:Nat} {j:aa_} (h:b8_ (d+1) j≤400):j.names.length≤400:=by
 have h1:=el_ h
 have ho:=(cS_ h).1
 by_cases hk:j.kind=5
 · have:=(ho.obj hk).1;omega
 · have:FOwn j=true:=by
    simp only [b8_] at h
    cases hf:FOwn j with
    |true=>rfl
    |false=>rw [hf,cond_false] at h;omega
   unfold FOwn at this
   simp only [Bool.and_eq_true,Bool.or_eq_true] at this
   rcases this.2.1 with h2|h2
   · have:=of_decide_eq_true h2;omega
   · exact absurd (by simpa using h2) hk
theorem cN_:∀ (d:Nat) (j:aa_),b8_ d j≤400→Ev (fun n _=>ak_ n j) j
 |0,j,h=>by simp only [b8_] at h;omega
 |d+1,j,h=>by
  have hll:=el_ h
  have hnl:=fU_ h
  refine aS_ ?_
  have hc:Ev (fun n _=>bq_ n j.names) j.names:=aS_ (by simp only [bq_,cz_,as_,List.nil_append,List.length_nil,and_true];omega)
  simp only [ak_,ar_ hc]
  have:=ea_ (fun i=>j.list.take i) j.list.length (fun n N i (o:List aa_)=>ak_.loop4 n (ak_ n) (fun xy3 xy4 xy5 xy6 xy7 xy8 xy9 xy10=>(some (aa_.mk xy6 xy7 xy8 xy9 xy10))) N j.list (j.list.length:Int) (i:Int) 0 0 [] j.kind j.n_ j.s o j.names) j (fun i hi F hF => ?_) ?_
  · exact this
  · have hp:=hk_ h hi
    have hx:=cN_ d (j.list.getD i aa_.dflt) hp.size
    rw [c5_ aa_.dflt hi] at hF
    simp only [ak_.turn4,ak_.step4,bA_,Int.toNat_natCast,W_up hi (show j.list.length≤co_ by simp only [co_];omega),ay_,cf_,cz_,cW_ hi,cJ_ hi,ar_ hx]
    exact ⟨fun _=>⟨trivial,by simp;omega,hF⟩,fun h=>(by cases h)⟩
  · simp only [ak_.turn4,ak_.step4,cH_,cond_false,List.take_length,as_,cU_]
theorem cQ_:∀ (d:Nat) (j:aa_),b8_ d j≤400→Ev (fun n _=>aA_ n j) j
 |0,j,h=>by simp only [b8_] at h;omega
 |d+1,j,h=>by
  have hll:=el_ h
  have hnl:=fU_ h
  refine aS_ ?_
  simp only [aA_,cz_,List.nil_append,List.length_nil]
  refine ⟨by omega,?_⟩
  have:=ea_ (fun i=>j.list.take i) j.list.length (fun n N i (o:List aa_)=>aA_.loop4 n (aA_ n) (fun xy2 xy3 xy4 xy5 xy6 xy7 xy8 xy9=>(some (aa_.mk xy5 xy6 xy7 xy8 xy9))) N (i:Int) j.kind j.n_ j.s j.list j.names 0 0 [] j.kind j.n_ j.s o j.names) j (fun i hi F hF => ?_) ?_
  · exact this
  · have hp:=hk_ h hi
    have hx:=cQ_ d (j.list.getD i aa_.dflt) hp.size
    rw [c5_ aa_.dflt hi] at hF
    simp only [aA_.turn4,aA_.step4,bA_,Int.toNat_natCast,W_up hi (show j.list.length≤co_ by simp only [co_];omega),ay_,cf_,cz_,cW_ hi,cJ_ hi,ar_ hx]
    exact ⟨fun _=>⟨trivial,by simp;omega,hF⟩,fun h=>(by cases h)⟩
  · simp only [aA_.turn4,aA_.step4,cH_,cond_false,List.take_length,as_,cU_]
def gW_ (j:aa_):Bool:=(j.kind == 0)&&((j.n_ == 0)&&((j.s == [])&&(decide (j.list.length=0)&&decide (j.names.length=0))))
theorem iQ_ {α:Type} (l:List α):((l.length:Int) == 0)=decide (l.length=0):=by
 by_cases h:l.length=0
 · rw [h];rfl
 · rw [decide_eq_false h];simp;intro e;exact h (by rw [e];rfl)
theorem fr_ {j:aa_}:Ev (fun n _=>bX_ n j) (gW_ j):=by
 refine aS_ ?_
 simp only [bX_,ay_,as_,gW_,iQ_]
 cases (j.kind == 0)<;>cases (j.n_ == 0)<;>cases (j.s == [])<;>cases decide (j.list.length=0)<;>simp
theorem mo_ (d:Nat) (j:aa_):dj_ (d+1) j fj_=gW_ j:=by
 simp only [dj_,fj_,gv_,gW_,List.length_nil]
 by_cases h1:j.names.length=0
 · by_cases h2:j.list.length=0
   · rw [h1,h2];simp [kO_,e2_]
   · have h2:j.list≠[]:=fun e=>h2 (by rw [e];rfl)
     simp [h2]
 · have h1:j.names≠[]:=fun e=>h1 (by rw [e];rfl)
   simp [h1]
def lM_ (w:List Bs):Bool:=kO_ (fun i=>ga_ (w.getD i [])) w.length
def e5_ (o:TOp):Bool:=inn o.kind 1 4&&(decide (o.way.length≤6)&&(cp_ o.value&&(lM_ o.way&&((o.kind != 2)||gW_ o.value))))
def iS_ (o:TOp):Prop:=l4_ co_ o.way∧fo_ 6 o.value
theorem dD_ (o:TOp):TOp.mk o.kind o.way o.value=o:=rfl
theorem gt_le {n:Nat}:decide ((n:Int) > 6) = !decide (n≤6):=by
 by_cases h:n≤6
 · rw [decide_eq_true h,decide_eq_false (by omega)];rfl
 · rw [decide_eq_false h,decide_eq_true (by omega)];rfl
theorem le_le {n:Nat}:decide ((n:Int)≤6)=decide (n≤6):=by
 by_cases h:n≤6
 · rw [decide_eq_true h,decide_eq_true (by omega)]
 · rw [decide_eq_false h,decide_eq_false (by omega)]
theorem gB_ {o:TOp} (h:iS_ o):Ev (fun n _=>bb_ n o) (e5_ o):=by
 refine aS_ ?_
 simp only [bb_,bA_,l1In_b,ar_ (cY_ h.2),ay_,as_,gt_le,e5_]
 cases hj:cp_ o.value with
 |false=>cases inn o.kind 1 4<;>cases decide (o.way.length≤6)<;>simp
 |true=>
  have hS:=dq_ 6 o.value fj_ (eb_ 6 o.value (of_decide_eq_true hj)) h.2
  rw [mo_] at hS
  unfold fj_ at hS
  have hl:Ev (fun n _=>bb_.loop6 n (fun xy4 xy5 xy6 xy7 xy8 xy9 xy10=>(cond (xy4 != 2) (some true) ((ae_ n (aa_.mk xy6 xy7 xy8 xy9 xy10) (aa_.mk 0 0 [] [] [])).bind fun xr11=>(some xr11)))) n 0 o.kind o.way o.value.kind o.value.n_ o.value.s o.value.list o.value.names) (lM_ o.way&&((o.kind != 2)||gW_ o.value)):=by
   refine ft_ (fun n N i=>bb_.loop6 n (fun xy4 xy5 xy6 xy7 xy8 xy9 xy10=>(cond (xy4 != 2) (some true) ((ae_ n (aa_.mk xy6 xy7 xy8 xy9 xy10) (aa_.mk 0 0 [] [] [])).bind fun xr11=>(some xr11)))) N (i:Int) o.kind o.way o.value.kind o.value.n_ o.value.s o.value.list o.value.names) _ (fun i w hi ih => ?_) ?_
   · simp only [bb_.turn6,bb_.step6,Int.toNat_natCast,W_up hi h.1.1,ay_,cf_,ar_ (dY_ (f2_ h.1 i)),as_,dv_ ih,cW_ hi,cJ_ hi]
     cases ga_ (o.way.getD i [])<;>simp
   · simp only [bb_.turn6,bb_.step6,cH_,cond_false,cU_,ay_,ar_ hS,as_]
     cases (o.kind != 2)<;>simp
  simp only [dv_ hl]
  cases inn o.kind 1 4<;>cases decide (o.way.length≤6)<;>simp
theorem gF_ {o:TOp} (h:iS_ o):Ev (fun n _=>bc_ n o) (e5_ o):=by
 refine aS_ ?_
 simp only [bc_]
 have e:e5_ o=(lM_ o.way&&(inn o.kind 1 4&&(decide (o.way.length≤6)&&(cp_ o.value&&((o.kind != 2)||gW_ o.value))))):=by
  unfold e5_
  cases inn o.kind 1 4<;>cases decide (o.way.length≤6)<;>cases cp_ o.value<;>cases lM_ o.way<;>simp
 rw [e]
 refine ft_ (fun n N i=>bc_.loop3 n (fun xy2 xy3 xy4 xy5 xy6 xy7 xy8=>((aE_ n xy2 1 4).bind fun xr9=>(cond xr9 (cond (decide ((xy3.length:Int)≤6)) ((bE_ n (aa_.mk xy4 xy5 xy6 xy7 xy8)).bind fun xr10=>(cond xr10 (cond (xy2 != 2) (some true) ((bX_ n (aa_.mk xy4 xy5 xy6 xy7 xy8)).bind fun xr11=>(some xr11))) (some false))) (some false)) (some false)))) N o.way (o.way.length:Int) (i:Int) o.kind o.way o.value.kind o.value.n_ o.value.s o.value.list o.value.names) _ (fun i w hi ih => ?_) ?_
 · simp only [bc_.turn3,bc_.step3,Int.toNat_natCast,W_up hi h.1.1,ay_,cf_,ar_ (d1_ (f2_ h.1 i)),as_,dv_ ih,cW_ hi,cJ_ hi]
   cases ga_ (o.way.getD i [])<;>simp
 · simp only [bc_.turn3,bc_.step3,cH_,cond_false,cU_,ay_,e6_,le_le,ar_ (cZ_ h.2),ar_ fr_,as_]
   cases inn o.kind 1 4<;>cases decide (o.way.length≤6)<;>cases cp_ o.value<;>cases (o.kind != 2)<;>simp
def es_ (k:Int):Bs:=cond (k == 1) [97,100,100] (cond (k == 2) [114,101,109,111,118,101] (cond (k == 3) [114,101,112,108,97,99,101] [116,101,115,116]))
def txtJ (s:Bs):aa_:=aa_.mk 3 0 s [] []
abbrev nmOp:Bs:=[111,112]
abbrev hm_:Bs:=[112,97,116,104]
abbrev gh_:Bs:=[118,97,108,117,101]
def gL_ (o:TOp):aa_:=cond (o.kind == 2) (aa_.mk 5 0 [] [txtJ (es_ o.kind),txtJ (FWay o.way)] [nmOp,hm_]) (aa_.mk 5 0 [] [txtJ (es_ o.kind),txtJ (FWay o.way),o.value] [nmOp,hm_,gh_])
def cK_ (o:TOp):aa_:=cond (e5_ o) (kb_ (gL_ o)) fj_
theorem iT_:∀ (d:Nat) (j:aa_),fo_ (d+1) j→fo_ d j
 |0,_,_=>trivial
 |d+1,j,h=>⟨h.1,h.2.1,fun x hx=>iT_ d x (h.2.2 x hx)⟩
theorem gY_ {s:Bs} (h:s.length≤co_):∀ d,fo_ d (txtJ s)
 |0=>trivial
 |d+1=>⟨⟨h,Nat.zero_le _,fun x hx=>(by cases hx)⟩,Nat.zero_le _,fun x hx=>(by cases hx)⟩
theorem hq_:∀ d,fo_ d fj_
 |0=>trivial
 |d+1=>⟨⟨Nat.zero_le _,Nat.zero_le _,fun x hx=>(by cases hx)⟩,Nat.zero_le _,fun x hx=>(by cases hx)⟩
structure OpIs (o:TOp):Prop where
 kind:o.kind=1∨o.kind=2∨o.kind=3∨o.kind=4
 way:o.way.length≤6
 text:∀ s ∈ o.way,s.length≤60
 val:b8_ 6 o.value≤400
theorem op_is {o:TOp} (h:e5_ o=true):OpIs o:=by
 unfold e5_ at h
 simp only [Bool.and_eq_true] at h
 obtain ⟨h1,h2,h3,h4,_⟩:=h
 have hk:=iW_ h1
 refine ⟨by omega,of_decide_eq_true h2,fun s hs => ?_,of_decide_eq_true h3⟩
 obtain ⟨i,hi,e⟩:=List.mem_iff_getElem.1 hs
 have:=g5_.1 h4 i hi
 rw [List.getD_eq_getElem?_getD,List.getElem?_eq_getElem hi,Option.getD_some,e] at this
 exact f9_ this
theorem name_len (k:Int):(es_ k).length≤60:=by
 unfold es_
 cases (k == 1)<;>cases (k == 2)<;>cases (k == 3)<;>simp
theorem gk_ {o:TOp} (h:iS_ o) (ho:OpIs o):fo_ 6 (gL_ o):=by
 have hw:=jc_ ho.text
 have hwl:=ho.way
 have hw2:(FWay o.way).length≤co_:=by simp only [co_];omega
 have hn:(es_ o.kind).length≤co_:=by have:=name_len o.kind;simp only [co_];omega
 have hv:=iT_ 5 _ h.2
 unfold gL_
 cases (o.kind == 2) with
 |true=>
  refine ⟨⟨Nat.zero_le _,by show 2≤co_;decide,fun x hx => ?_⟩,by show 2≤co_;decide,fun x hx => ?_⟩
  · simp at hx;rcases hx with e|e<;>(rw [e];decide)
  · simp at hx;rcases hx with e|e
    · rw [e];exact gY_ hn 5
    · rw [e];exact gY_ hw2 5
 |false=>
  refine ⟨⟨Nat.zero_le _,by show 3≤co_;decide,fun x hx => ?_⟩,by show 3≤co_;decide,fun x hx => ?_⟩
  · simp at hx;rcases hx with e|e|e<;>(rw [e];decide)
  · simp at hx;rcases hx with e|e|e
    · rw [e];exact gY_ hn 5
    · rw [e];exact gY_ hw2 5
    · rw [e];exact hv
theorem kt_ {o:TOp} (h:iS_ o):fo_ 6 (cK_ o):=by
 unfold cK_
 cases ho:e5_ o with
 |false=>exact hq_ 6
 |true=>
  unfold kb_
  cases cp_ (gL_ o) with
  |false=>exact hq_ 6
  |true=>exact gk_ h (op_is ho)
theorem put_value (a b v:aa_):Ev (fun n _=>a1_ n (aa_.mk 5 0 [] [a,b] [nmOp,hm_]) gh_ v) (aa_.mk 5 0 [] [a,b,v] [nmOp,hm_,gh_]) :=
 fM_ (o:=aa_.mk 5 0 [] [a,b] [nmOp,hm_]) (j:=v) (x:=gh_) (by show 2≤2000000;decide) rfl (fun _=>less_ne) (fun i h1 h2=>by
  have:ei_ [nmOp,hm_] gh_=2:=by decide
  have h2:i<2:=h2
  have h1:ei_ [nmOp,hm_] gh_≤i:=h1
  omega)
theorem fm_ {o:TOp} (h:iS_ o):Ev (fun n _=>b6_ n o) (cK_ o):=by
 refine aS_ ?_
 have hN:Ev (fun n _=>bN_ n ()) [[],[97,100,100],[114,101,109,111,118,101],[114,101,112,108,97,99,101],[116,101,115,116]]:=aS_ (by simp only [bN_,as_])
 simp only [b6_,bA_,dD_,ar_ (gB_ h),ay_,as_]
 unfold cK_
 cases ho:e5_ o with
 |false=>exact ⟨fun _=>rfl,fun h=>(by cases h)⟩
 |true=>
  refine ⟨fun h=>(by cases h),fun _ => ?_⟩
  have hi:=op_is ho
  have hV:=cY_ (gk_ h hi)
  have hCp:=cQ_ 6 o.value hi.val
  simp only [ar_ hN,cf_,ar_ (hb_ hi.way hi.text)]
  unfold kb_ fj_ gL_ txtJ es_
  unfold gL_ txtJ es_ at hV
  rcases hi.kind with hk|hk|hk|hk
  all_goals (
   simp only [hk,Int.reduceBEq,cond_true,cond_false] at hV
   simp only [hk,Int.reduceBEq,cond_true,cond_false,bne,Bool.not_false,Bool.not_true,Int.reduceToNat,List.getD_cons_succ,List.getD_cons_zero,ay_,ar_ hCp,ar_ (put_value _ _ _),ar_ hV,as_]
   refine ⟨⟨by decide,by decide⟩,?_⟩
   generalize cp_ _=q
   cases q<;>simp)
theorem fs_ {o:TOp} (h:iS_ o):Ev (fun n _=>b7_ n o) (cK_ o):=by
 refine aS_ ?_
 have hN:Ev (fun n _=>bS_ n ()) [[97,100,100],[114,101,109,111,118,101],[114,101,112,108,97,99,101],[116,101,115,116]]:=aS_ (by simp only [bS_,as_])
 simp only [b7_,bA_,dD_,ar_ (gF_ h),ay_,as_]
 unfold cK_
 cases ho:e5_ o with
 |false=>exact ⟨fun _=>rfl,fun h=>(by cases h)⟩
 |true=>
  refine ⟨fun h=>(by cases h),fun _ => ?_⟩
  have hi:=op_is ho
  have hV:=orNull_ev (gk_ h hi)
  have hCp:=cN_ 6 o.value hi.val
  simp only [ar_ hN,cf_,ar_ (hw_ hi.way hi.text)]
  simp only [cond_true]
  unfold gL_ txtJ es_
  unfold gL_ txtJ es_ at hV
  have w1:W ((1:Int) - 1)=0:=by rw [W_id (by decide) (by decide)];rfl
  have w2:W ((2:Int) - 1)=1:=by rw [W_id (by decide) (by decide)];rfl
  have w3:W ((3:Int) - 1)=2:=by rw [W_id (by decide) (by decide)];rfl
  have w4:W ((4:Int) - 1)=3:=by rw [W_id (by decide) (by decide)];rfl
  rcases hi.kind with hk|hk|hk|hk
  all_goals (
   simp only [hk,Int.reduceBEq,cond_true,cond_false] at hV
   simp only [hk,w1,w2,w3,w4,Int.reduceBEq,cond_true,cond_false,bne,Bool.not_false,Bool.not_true,Int.reduceToNat,List.getD_cons_succ,List.getD_cons_zero,List.cons_append,List.nil_append,ay_,cz_,ar_ hCp,ar_ hV,as_,true_implies,false_implies,reduceCtorEq,and_true,true_and]
   simp only [List.length_cons,List.length_nil]
   decide)
end Go.Pi
end
section
namespace Go.Pi
section
variable {β:Type} {g:Nat→Nat→Bool→Option β} {v:β}
end
section
variable {β:Type} {Q:β→Prop} {v:β}
end
theorem Atoi_ev {s:Bs} (h:s.length≤281474976710656):Ev (fun n _=>ca_ n s) (endOf s (Lib.atoiAll s)) :=
 aS_ (by simp only [ca_,nAtoi,decide_eq_true h,cond_true,as_])
end Go.Pi
end
section
namespace Go.Pi
def FPos (s:Bs):Int:=match (List.range 1000).find? (fun x:Nat=>Lib.itoa (x:Int) == s) with
 |some x=>(x:Int)
 |none => -1
theorem l5_ {x y:Nat} (hx:x≤999) (hy:y≤999) (h:Lib.itoa (x:Int)=Lib.itoa (y:Int)):x=y:=by
 have h1:=hG_ (n:=(x:Int)) (by omega) (by omega)
 have h2:=hG_ (n:=(y:Int)) (by omega) (by omega)
 rw [h,h2] at h1
 cases h1;rfl
theorem pos_itoa {x:Nat} (h:x≤999):FPos (Lib.itoa (x:Int))=x:=by
 unfold FPos
 cases e:(List.range 1000).find? (fun y:Nat=>Lib.itoa (y:Int) == Lib.itoa (x:Int)) with
 |none=>
  have:=List.find?_eq_none.1 e x (List.mem_range.2 (by omega))
  simp at this
 |some y=>
  have h1:=List.find?_some e
  have h3:=List.mem_range.1 (List.mem_of_find?_eq_some e)
  have h2:=l5_ (x:=y) (y:=x) (by omega) h (eq_of_beq h1)
  show ((y:Nat):Int)=(x:Int)
  rw [h2]
theorem pos_none {s:Bs} (h:∀ x:Nat,x≤999→Lib.itoa (x:Int)≠s):FPos s = -1:=by
 unfold FPos
 rw [List.find?_eq_none.2 fun x hx=>by have:=h x (by have:=List.mem_range.1 hx;omega);simp;exact this]
theorem eR_ (s:Bs):(∃ x:Nat,x≤999∧s=Lib.itoa (x:Int)∧FPos s=x)∨((∀ x:Nat,x≤999→Lib.itoa (x:Int)≠s)∧FPos s = -1):=by
 by_cases h:∃ x:Nat,x≤999∧s=Lib.itoa (x:Int)
 · obtain ⟨x,h1,rfl⟩:=h
   exact .inl ⟨x,h1,rfl,pos_itoa h1⟩
 · have h':∀ x:Nat,x≤999→Lib.itoa (x:Int)≠s:=fun x hx e=>h ⟨x,hx,e.symm⟩
   exact .inr ⟨h',pos_none h'⟩
theorem hj_ (s:Bs) : -1≤FPos s∧FPos s≤999:=by
 rcases eR_ s with ⟨x,h,_,e⟩|⟨_,e⟩<;>rw [e]<;>omega
theorem ln_ (x:Nat):Lib.itoa (x:Int)=Lib.decDigits x:=by
 unfold Lib.itoa
 rw [if_neg (by omega)]
 simp
theorem eV_ {s:Bs} (hs:s.length≤281474976710656):Ev (fun n _=>bK_ n s) (FPos s):=by
 refine aS_ ?_
 simp only [bK_,ar_ (Atoi_ev hs)]
 rcases eR_ s with ⟨x,h,rfl,e⟩|⟨h,e⟩
 · rw [hG_ (n:=(x:Int)) (by omega) (by omega),e]
   have e2:endOf (Lib.itoa (x:Int)) (.ok (x:Int))=((x:Int),true):=rfl
   have e3:inn (x:Int) 0 999=true:=by simp [inn];omega
   simp only [e2,e3,Bool.not_true,cond_false,ar_ fI_,as_,ar_ (kS_ (x:=(x:Int)) (by omega) (by omega)),beq_self_eq_true]
 · rw [e]
   generalize endOf s (Lib.atoiAll s)=v
   obtain ⟨x,ok⟩:=v
   simp only [ay_,as_,ar_ fI_]
   refine ⟨fun _=>trivial,fun _=>⟨fun _=>trivial,fun hw => ?_⟩⟩
   have hw:0≤x∧x≤999:=by simpa [inn] using hw
   have hne:=h x.toNat (by omega)
   rw [Int.toNat_of_nonneg hw.1] at hne
   simp only [ar_ (kS_ (x:=x) (by omega) (by omega)),ay_,as_]
   exact ⟨fun _=>trivial,fun hq=>by simp [hne] at hq⟩
def FVal (x:Nat):Bs→Option Nat
 |[]=>some x
 |c::l=>if 48≤c.toNat∧c.toNat≤57 then FVal (10*x+(c.toNat - 48)) l else none
theorem lt_:∀ (x:Nat) (l:Bs),(∀ c ∈ l,jJ_ c)→FVal x l=some (gM_ x l)
 |_,[],_=>rfl
 |x,c::l,h=>by
  unfold FVal
  rw [if_pos (show 48≤c.toNat∧c.toNat≤57 from h c (List.mem_cons_self ..)),lt_ _ l fun y hy=>h y (List.mem_cons_of_mem _ hy),fJ_]
theorem fval_lt:∀ (l:Bs) (x i y:Nat),x<10 ^ i→FVal x l=some y→y<10 ^ (i+l.length)
 |[],x,i,y,hx,h=>by
  simp only [FVal,Option.some.injEq] at h
  subst h;simpa using hx
 |c::l,x,i,y,hx,h=>by
  unfold FVal at h
  split at h
  · rename_i hc
    have:=fval_lt l _ (i+1) y (by rw [Nat.pow_succ];omega) h
    rw [List.length_cons,show i+(l.length+1)=i+1+l.length by omega]
    exact this
  · cases h
def FPos1 (s:Bs):Option Nat→Int
 |some y=>cond (!(Lib.itoa (y:Int) == s)) (-1) y
 |none => -1
theorem dM_ {s:Bs}:Ev (fun n _=>aM_ n s) (FPos s):=by
 refine aS_ ?_
 simp only [aM_,ay_,as_]
 refine ⟨fun h => ?_,fun _=>⟨fun h => ?_,fun hl => ?_⟩⟩
 · have:s=[]:=by simpa using h
   subst this
   rcases eR_ [] with ⟨x,h1,h2,h3⟩|⟨_,e⟩
   · obtain ⟨c,t,e,_⟩:=itoa_head (x:Int)
     rw [e] at h2;cases h2
   · exact e.symm
 · rcases eR_ s with ⟨x,h1,h2,h3⟩|⟨_,e⟩
   · have h:=of_decide_eq_true h
     have:=dec_len 2 x (by omega)
     rw [h2,ln_] at h
     omega
   · exact e.symm
 · have hl:s.length≤3:=by have:=of_decide_eq_false hl;omega
   have key:∀ (m i x:Nat),i+m=s.length→x<10 ^ i →
     Ev (fun n N=>aM_.loop7 n (fun xy1 xy2=>((aD_ n xy2).bind fun xr3=>(cond (!(xr3 == xy1)) (some (-1)) (some xy2)))) N s (x:Int) (i:Int)) (FPos1 s (FVal x (s.drop i))):=by
    intro m
    induction m with
    |zero=>
     intro i x hi hx
     have:i=s.length:=by omega
     subst this
     have hx3:10 ^ s.length≤10 ^ 3:=Nat.pow_le_pow_right (by omega) hl
     refine b3_ ?_
     simp only [aM_.turn7,aM_.step7,cH_,cond_false,List.drop_length,FVal,FPos1,ar_ (ey_ (x:=(x:Int)) (by omega) (by omega)),ay_,as_]
     cases (!(Lib.itoa (x:Int) == s))<;>simp
    |succ m ih=>
     intro i x hi hx
     have hlt:i<s.length:=by omega
     have hx3:10 ^ i≤10 ^ 3:=Nat.pow_le_pow_right (by omega) (by omega)
     have hW:=W_up hlt (show s.length≤co_ by simp only [co_];omega)
     have hd:=e0_ 0 hlt
     refine b3_ ?_
     simp only [aM_.turn7,aM_.step7,cW_ hlt,cond_true,cf_,cJ_ hlt,true_and,Int.toNat_natCast,hW,ay_,as_]
     rw [hd,FVal]
     have hc:(s.getD i 0).toNat≤255:=by have:=(s.getD i 0).toNat_lt;omega
     refine ⟨fun h => ?_,fun h=>⟨fun h2 => ?_,fun h2 => ?_⟩⟩
     · have h:=of_decide_eq_true h
       rw [if_neg (by omega)];rfl
     · have h2:=of_decide_eq_true h2
       rw [if_neg (by omega)];rfl
     · have h:=of_decide_eq_false h
       have h2:=of_decide_eq_false h2
       rw [if_pos (by omega)]
       have e:W (W (W (10*(x:Int))+W ((s.getD i 0).toNat:Int)) - 48)=((10*x+((s.getD i 0).toNat - 48):Nat):Int):=by
        rw [W_id (n:=10*(x:Int)) (by omega) (by omega),W_id (n:=((s.getD i 0).toNat:Int)) (by omega) (by omega),W_id (n:=10*(x:Int)+((s.getD i 0).toNat:Int)) (by omega) (by omega),W_id (by omega) (by omega)]
        omega
       rw [e]
       exact ih (i+1) _ (by omega) (by rw [Nat.pow_succ];omega)
   have hk:=key s.length 0 0 (by omega) (by omega)
   have e:FPos1 s (FVal 0 (s.drop 0))=FPos s:=by
    rw [List.drop_zero]
    rcases eR_ s with ⟨x,h1,h2,h3⟩|⟨h,e⟩
    · rw [h3]
      have:FVal 0 s=some x:=by rw [h2,ln_,lt_ _ _ (i6_ x),ke_]
      rw [this,FPos1,←h2]
      simp
    · rw [e]
      cases hv:FVal 0 s with
      |none=>rfl
      |some y=>
       have:=fval_lt s 0 0 y (by omega) hv
       have hx3:10 ^ (0+s.length)≤10 ^ 3:=Nat.pow_le_pow_right (by omega) (by omega)
       have:=h y (by omega)
       have hb:(Lib.itoa (y:Int) == s)=false:=beq_eq_false_iff_ne.2 this
       simp only [FPos1,hb,Bool.not_false,cond_true]
   rw [e] at hk
   exact c1_ (f:=fun n N=>aM_.loop7 n (fun xy1 xy2=>((aD_ n xy2).bind fun xr3=>(cond (!(xr3 == xy1)) (some (-1)) (some xy2)))) N s 0 0) hk
end Go.Pi
end
section
namespace Go.Pi
end Go.Pi
end
section
namespace Go.Pi
end Go.Pi
end
section
namespace Go.Pi
end Go.Pi
end
section
namespace Go.Pi
end Go.Pi
end
section
namespace Go.Pi
theorem hO_ {a b:List Bs} (ha:a.length≤co_):Ev (fun n _=>ah_ n a b) (gv_ a b):=by
 refine aS_ ?_
 simp only [ah_,ne_len,ay_,as_]
 unfold gv_
 by_cases hl:a.length=b.length
 · rw [decide_eq_true hl]
   refine ⟨fun h=>(by cases h),fun _ => ?_⟩
   refine g0_ (ft_ (fun n N i=>ah_.loop6 n (some true) N a b (a.length:Int) (i:Int)) (fun i=>a.getD i [] == b.getD i []) (len:=a.length) (v:=true) (fun i w hi ih => ?_) ?_) (by rw [Bool.and_true,Bool.true_and])
   · simp only [ah_.turn6,ah_.step6,Int.toNat_natCast,W_up hi ha,ay_,cf_,as_,dv_ ih,cW_ hi,cJ_ hi,cJ_ (hl ▸ hi)]
     cases (a.getD i [] == b.getD i [])<;>simp
   · simp only [ah_.turn6,ah_.step6,cH_,cond_false,as_]
 · rw [decide_eq_false hl]
   exact ⟨fun _=>rfl,fun h=>(by cases h)⟩
theorem fZ_:∀ (d:Nat) (a b:aa_),deepJ d a→fo_ d a→Ev (fun n _=>bY_ n a b) (dj_ d a b)
 |0,a,b,h,_=>h.elim
 |d+1,a,b,h,hl=>by
  refine aS_ ?_
  have hE:Ev (fun n _=>ab_ n a.list b.list) (decide (a.list.length=b.list.length)&&kO_ (fun i=>dj_ d (a.list.getD i aa_.dflt) (b.list.getD i aa_.dflt)) a.list.length):=by
   refine aS_ ?_
   simp only [ab_,ne_len,ay_,as_]
   by_cases hq:a.list.length=b.list.length
   · rw [decide_eq_true hq]
     refine ⟨fun h=>(by cases h),fun _ => ?_⟩
     refine g0_ (ft_ (fun n N i=>ab_.loop6 n (bY_ n) (some true) N b.list a.list (a.list.length:Int) (i:Int)) (fun i=>dj_ d (a.list.getD i aa_.dflt) (b.list.getD i aa_.dflt)) (len:=a.list.length) (v:=true) (fun i w hi ih => ?_) ?_) (by rw [Bool.and_true,Bool.true_and])
     · have hx:=fZ_ d (a.list.getD i aa_.dflt) (b.list.getD i aa_.dflt) (h _ (ce_ _ hi)) (hl.2.2 _ (ce_ _ hi))
       simp only [ab_.turn6,ab_.step6,bA_,Int.toNat_natCast,W_up hi hl.2.1,ay_,cf_,ar_ hx,as_,dv_ ih,cW_ hi,cJ_ hi,cJ_ (hq ▸ hi)]
       cases dj_ d (a.list.getD i aa_.dflt) (b.list.getD i aa_.dflt)<;>simp
     · simp only [ab_.turn6,ab_.step6,cH_,cond_false,as_]
   · rw [decide_eq_false hq]
     exact ⟨fun _=>rfl,fun h=>(by cases h)⟩
  simp only [bY_,ay_,ar_ (hO_ (b:=b.names) hl.1.2.1),ar_ hE,as_,dj_]
  cases (a.kind == b.kind)<;>cases (a.n_ == b.n_)<;>cases (a.s == b.s)<;>cases gv_ a.names b.names<;>simp
end Go.Pi
end
section
namespace Go.Pi
end Go.Pi
end
section
namespace Go.Pi
theorem d6_ {d:Nat} {j:aa_} (h:b8_ (d+1) j≤400) {x:aa_} (hx:x ∈ j.list):b8_ d x≤400:=by
 have:=(cS_ h).2
 have:=eJ_ (b8_ d) hx
 omega
theorem cM_:∀ (d:Nat) (j:aa_),b8_ d j≤400→fo_ d j
 |0,_,_=>trivial
 |d+1,j,h=>by
  have ho:=(cS_ h).1
  have ho2:=kc_ (jw_ h)
  have hll:=el_ h
  have hnl:=fU_ h
  refine ⟨⟨?_,by simp only [co_];omega,fun x hx => ?_⟩,by simp only [co_];omega,fun x hx=>cM_ d x (d6_ h hx)⟩
  · by_cases hk:j.kind=3
    · have:=f9_ (ho2.text hk);simp only [co_];omega
    · rw [ho2.s0 hk];exact Nat.zero_le _
  · by_cases hk:j.kind=5
    · obtain ⟨i,hi,e⟩:=List.getElem_of_mem hx
      have:=fh_ (ho.obj hk).2 hi
      rw [List.getD_eq_getElem?_getD,List.getElem?_eq_getElem hi,Option.getD_some,e] at this
      simp only [co_];omega
    · rw [ho2.ns0 hk] at hx;cases hx
def FIdx (l:List Bs) (x:Bs):Int:=if l.findIdx (fun y=>y == x)<l.length then ((l.findIdx (fun y=>y == x):Nat):Int) else -1
theorem jo_ {j:aa_} {x:Bs} (h:j.names.length≤co_):Ev (fun n _=>bd_ n j x) (FIdx j.names x):=by
 refine aS_ ?_
 unfold FIdx
 rw [←gG_ ([]:Bs) (fun y=>y == x) j.names]
 simp only [bd_]
 refine ev_fold (fun n N i=>bd_.loop3 n (some (-1)) N x (i:Int) j.kind j.n_ j.s j.list j.names) _ (fun i u hi ih => ?_) ?_
 · simp only [bd_.turn3,bd_.step3,Int.toNat_natCast,W_up hi h,ay_,cf_,as_,dv_ ih,cW_ hi,cJ_ hi]
   cases (j.names.getD i [] == x)<;>simp
 · simp only [bd_.turn3,bd_.step3,cH_,cond_false,as_]
theorem hN_ {l:List Bs} {x:Bs} (h:l.length≤co_):Ev (fun n _=>ag_ n l x) (FIdx l x):=by
 refine aS_ ?_
 unfold FIdx
 rw [←gG_ ([]:Bs) (fun y=>y == x) l]
 simp only [ag_]
 refine ev_fold (fun n N i=>ag_.loop3 n (some (-1)) N l x (l.length:Int) (i:Int)) _ (fun i u hi ih => ?_) ?_
 · simp only [ag_.turn3,ag_.step3,Int.toNat_natCast,W_up hi h,ay_,cf_,as_,dv_ ih,cW_ hi,cJ_ hi]
   rw [show (x == l.getD i [])=(l.getD i [] == x) from BEq.comm]
   cases (l.getD i [] == x)<;>simp
 · simp only [ag_.turn3,ag_.step3,cH_,cond_false,as_]
end Go.Pi
end
section
namespace Go.Pi
def FAt (j:aa_) (s:Bs):Int:=cond (j.kind == 5) (FIdx j.names s) (cond (j.kind == 4) (cond (decide (FPos s<(j.list.length:Int))) (FPos s) (-1)) (-1))
theorem idx_low (l:List Bs) (x:Bs) : -1≤FIdx l x∧FIdx l x<(l.length:Int):=by
 unfold FIdx
 split<;>omega
theorem gA_ {j:aa_} {s:Bs} (hn:j.names.length≤co_):Ev (fun n _=>cq_ n j s) (FAt j s):=by
 refine aS_ ?_
 simp only [cq_,bA_,ay_,ar_ (jo_ (x:=s) hn),ar_ dM_,as_,FAt]
 cases (j.kind == 5)<;>cases (j.kind == 4)<;>cases (decide (FPos s<(j.list.length:Int)))<;>simp
theorem ht_ {j:aa_} {s:Bs} (hn:j.names.length≤co_) (he:j.kind=5→j.list.length=j.names.length) (hs:s.length≤281474976710656):Ev (fun n _=>bJ_ n j s) (FAt j s):=by
 refine aS_ ?_
 simp only [bJ_,bA_,ay_,ar_ (hN_ (x:=s) hn),ar_ (eV_ hs),as_,FAt]
 have h1:=idx_low j.names s
 refine ⟨fun h5 => ?_,fun h5=>⟨fun h4 => ?_,fun h4 => ?_⟩⟩
 · have hk:j.kind=5:=by simpa using h5
   have:=he hk
   rw [h5]
   exact ⟨fun h=>by have:=of_decide_eq_true h;omega,fun _=>rfl⟩
 · rw [h5,h4]
   refine ⟨fun h => ?_,fun h => ?_⟩
   · have:=of_decide_eq_true h
     rw [decide_eq_false (by omega)];rfl
   · have:=of_decide_eq_false h
     rw [decide_eq_true (by omega)];rfl
 · rw [h5,h4]
   exact ⟨fun _=>rfl,fun _=>rfl⟩
theorem g3_ (j:aa_) (s:Bs) (he:j.kind=5→j.list.length=j.names.length) : -1≤FAt j s∧FAt j s<(j.list.length:Int):=by
 have h1:=idx_low j.names s
 have h2:=hj_ s
 unfold FAt
 cases h5:(j.kind == 5)
 · cases h4:(j.kind == 4)
   · simp;omega
   · simp only [cond_false,cond_true]
     cases hd:decide (FPos s<(j.list.length:Int))
     · simp;omega
     · have:=of_decide_eq_true hd
       simp only [cond_true];omega
 · have hk:j.kind=5:=by simpa using h5
   have:=he hk
   simp only [cond_true];omega
end Go.Pi
end
section
namespace Go.Pi
theorem isNaN_ev {x:Bs}:Ev (fun n _=>aV_ n x) false:=aS_ (by simp [aV_,as_])
theorem isNaN2_ev {x:Bs}:Ev (fun n _=>a7_ n x) false:=aS_ (by simp [a7_,as_])
theorem mk_ {x y:Bs}:Ev (fun n _=>bg_ n x y) (Op.bytesLess x y):=by
 refine aS_ ?_
 simp only [bg_,ar_ isNaN2_ev,ay_,as_]
 cases Op.bytesLess x y<;>simp
theorem half {i j:Nat} (h:i+j≤4000000):W (Int.fdiv (IntKind.u64.wrap (W ((i:Int)+(j:Int)))) (2 ^ min (1:Int).toNat (IntKind.bits .u64)))=(((i+j) / 2:Nat):Int):=by
 have e1:W ((i:Int)+(j:Int))=((i+j:Nat):Int):=by rw [W_id (by omega) (by omega)];omega
 have e2:IntKind.u64.wrap ((i+j:Nat):Int)=((i+j:Nat):Int):=by
  show (((i+j:Nat):Int)) % _=_
  exact Int.emod_eq_of_lt (by omega) (by have:((i+j:Nat):Int)≤4000000:=by omega
                                         exact Int.lt_of_le_of_lt this (by decide))
 have e3:(2:Int) ^ min (1:Int).toNat (IntKind.bits .u64)=2:=by decide
 rw [e1,e2,e3,Int.fdiv_eq_ediv_of_nonneg _ (by decide)]
 rw [W_id (by omega) (by omega)];omega
theorem hP_ {ns:List Bs} {x:Bs} (hl:ns.length≤2000000) (hM:∀ h,h<ns.length→Op.bytesLess (ns.getD h []) x=decide (h<cR_ ns x)) :
  Ev (fun n _=>ac_ n ns x) ((cR_ ns x:Int),decide (cR_ ns x<ns.length)&&(ns.getD (cR_ ns x) [] == x)):=by
 refine aS_ ?_
 have hpl:cR_ ns x≤ns.length:=List.findIdx_le_length
 obtain ⟨p,hp⟩:∃ p,p=cR_ ns x:=⟨_,rfl⟩
 rw [←hp] at hpl hM ⊢
 simp only [ac_]
 have key:∀ (d i j:Nat),j - i≤d→i≤p→p≤j→j≤ns.length→Ev (fun n N=>ac_.loop4 n (fun xy3 xy4 xy5 xy6=>(cond (decide (xy6<xy5)) (inB xy6 xy3.length (cond ((xy3.getD xy6.toNat []) == xy4) (some (xy6,true)) (inB xy6 xy3.length ((aV_ n (xy3.getD xy6.toNat [])).bind fun xr7=>(cond xr7 ((aV_ n xy4).bind fun xr8=>(some (xy6,xr8))) (some (xy6,false))))))) (some (xy6,false)))) N ns x (ns.length:Int) (i:Int) (j:Int)) ((p:Int),decide (p<ns.length)&&(ns.getD p [] == x)):=by
  intro d
  induction d with
  |zero=>
   intro i j hd h1 h2 h3
   have e:i=p:=by omega
   have e':j=p:=by omega
   subst e;subst e'
   refine b3_ ?_
   simp only [ac_.turn4,ac_.step4,Int.lt_irrefl,decide_false,cond_false,ay_,cf_,as_,Int.toNat_natCast,ar_ isNaN_ev]
   by_cases hc:j<ns.length
   · rw [decide_eq_true hc,decide_eq_true (show (j:Int)<(ns.length:Int) by omega)]
     cases hs:(ns.getD j [] == x)<;>simp<;>omega
   · rw [decide_eq_false hc,decide_eq_false (show ¬ (j:Int)<(ns.length:Int) by omega)]
     exact ⟨fun h=>(by cases h),fun _=>rfl⟩
  |succ d ih=>
   intro i j hd h1 h2 h3
   by_cases hij:i<j
   · have hh:=half (i:=i) (j:=j) (by omega)
     have hm:(i+j) / 2<ns.length:=by omega
     refine b3_ ?_
     simp only [ac_.turn4,ac_.step4,hh,decide_eq_true (show (i:Int)<(j:Int) by omega),cond_true,ay_,cf_,Int.toNat_natCast,ar_ mk_,cJ_ hm,hM _ hm,W_up hm (show ns.length≤co_ by simp only [co_];omega)]
     refine ⟨trivial,fun hc => ?_,fun hc => ?_⟩
     · have hc:=of_decide_eq_true hc
       exact ih ((i+j) / 2+1) j (by omega) (by omega) h2 h3
     · have hc:=of_decide_eq_false hc
       exact ih i ((i+j) / 2) (by omega) h1 (by omega) (by omega)
   · exact ih i j (by omega) h1 h2 h3
 exact c1_ (f:=fun n N=>ac_.loop4 n _ N ns x (ns.length:Int) 0 (ns.length:Int)) (key ns.length 0 ns.length (by omega) (Nat.zero_le _) hpl (Nat.le_refl _))
end Go.Pi
end
section
namespace Go.Pi
def kv_:List (Bs × Int)→Prop
 |[]=>True
 |(k,_)::l=>(∀ p ∈ l,k<p.1)∧kv_ l
end Go.Pi
end
section
namespace Go.Pi
end Go.Pi
end
section
namespace Go.Pi
end Go.Pi
end
section
namespace Go.Pi
theorem lY_ {k x:Bs} {ns:List Bs}:ei_ (k::ns) x=if k<x then ei_ ns x+1 else if k=x then 1 else 0:=by
 by_cases h:k<x
 · have hb:Op.bytesLess k x=true:=by rw [d3_];exact decide_eq_true h
   have e1:cR_ (k::ns) x=cR_ ns x+1:=by unfold cR_;rw [List.findIdx_cons];simp [hb]
   unfold ei_
   rw [e1,if_pos h]
   simp only [List.getD_cons_succ,List.length_cons,Nat.add_lt_add_iff_right]
   split<;>rfl
 · have hb:Op.bytesLess k x=false:=by rw [d3_];exact decide_eq_false h
   have e1:cR_ (k::ns) x=0:=by unfold cR_;rw [List.findIdx_cons];simp [hb]
   rw [if_neg h]
   unfold ei_
   rw [e1]
   by_cases h2:k=x
   · simp [h2]
   · simp [h2]
theorem asc_ne {x:Bs}:∀ {l:List (Bs × Int)},kv_ l→∀ i,ei_ (l.map (·.1)) x≤i→i<(l.map (·.1)).length→((l.map (·.1)).getD i [] == x)=false
 |[],_,i,_,hi=>by simp at hi
 |(k,v)::l,h,i,hp,hi=>by
  simp only [List.map_cons,lY_] at hp
  have later:∀ i',i'<(l.map (·.1)).length→k<(l.map (·.1)).getD i' []:=fun i' hi'=>by
   have hm:=ce_ (d:=([]:Bs)) (a:=l.map (·.1)) (i:=i') hi'
   obtain ⟨p,hp,e⟩:=List.mem_map.1 hm
   rw [←e];exact h.1 p hp
  cases i with
  |zero=>
   simp only [List.map_cons,List.getD_cons_zero]
   by_cases h1:k<x
   · rw [if_pos h1] at hp;omega
   · rw [if_neg h1] at hp
     by_cases h2:k=x
     · rw [if_pos h2] at hp;omega
     · exact beq_eq_false_iff_ne.2 h2
  |succ i=>
   have hi':i<(l.map (·.1)).length:=by simpa using hi
   simp only [List.map_cons,List.getD_cons_succ]
   by_cases h1:k<x
   · rw [if_pos h1] at hp
     exact asc_ne h.2 i (by omega) hi'
   · refine beq_eq_false_iff_ne.2 fun e=>h1 ?_
     rw [←e];exact later i hi'
end Go.Pi
end
section
namespace Go.Pi
def ascB:List Bs→Prop
 |[]=>True
 |k::l=>(∀ y ∈ l,k<y)∧ascB l
theorem lJ_:∀ {l:List Bs},ascB l→kv_ (l.map fun y=>(y,(0:Int)))
 |[],_=>trivial
 |k::l,h=>⟨fun p hp=>by
   obtain ⟨y,hy,rfl⟩:=List.mem_map.1 hp
   exact h.1 y hy,lJ_ h.2⟩
theorem keys_map (l:List Bs):(l.map fun y=>(y,(0:Int))).map (·.1)=l:=by
 rw [List.map_map];exact List.map_id'' (fun _=>rfl) l
theorem ascB_ne {l:List Bs} {x:Bs} (h:ascB l):∀ i,ei_ l x≤i→i<l.length→(l.getD i [] == x)=false:=by
 have:=asc_ne (x:=x) (lJ_ h)
 rw [keys_map] at this
 exact this
theorem kq_ {k x:Bs} {ns:List Bs}:cR_ (k::ns) x=if k<x then cR_ ns x+1 else 0:=by
 by_cases h:k<x
 · have hb:Op.bytesLess k x=true:=by rw [d3_];exact decide_eq_true h
   rw [if_pos h];unfold cR_;rw [List.findIdx_cons];simp [hb]
 · have hb:Op.bytesLess k x=false:=by rw [d3_];exact decide_eq_false h
   rw [if_neg h];unfold cR_;rw [List.findIdx_cons];simp [hb]
theorem j5_ {x:Bs}:∀ {l:List Bs},ascB l→∀ h,h<l.length→Op.bytesLess (l.getD h []) x=decide (h<cR_ l x)
 |[],_,h,hh=>by simp at hh
 |k::l,ha,h,hh=>by
  rw [d3_]
  simp only [kq_]
  cases h with
  |zero=>
   simp only [List.getD_cons_zero]
   by_cases hk:k<x
   · rw [if_pos hk,decide_eq_true hk];simp
   · rw [if_neg hk,decide_eq_false hk];simp
  |succ h=>
   have hh':h<l.length:=by simpa using hh
   simp only [List.getD_cons_succ]
   by_cases hk:k<x
   · have:=j5_ (x:=x) ha.2 h hh'
     rw [d3_] at this
     rw [if_pos hk,this]
     simp
   · rw [if_neg hk]
     have hm:=ha.1 _ (ce_ (d:=([]:Bs)) (a:=l) hh')
     rw [decide_eq_false fun h2=>hk (List.lt_trans hm h2)]
     simp
theorem ig_:∀ {l:List Bs},(∀ i,i+1<l.length→l.getD i []<l.getD (i+1) [])→ascB l
 |[],_=>trivial
 |[k],_=>⟨fun y hy=>(by cases hy),trivial⟩
 |k::k2::l,h=>by
  have h2:ascB (k2::l):=ig_ fun i hi=>h (i+1) (by simpa using hi)
  have h0:k<k2:=h 0 (by simp)
  refine ⟨fun y hy => ?_,h2⟩
  rcases List.mem_cons.1 hy with rfl|hy
  · exact h0
  · exact List.lt_trans h0 (h2.1 y hy)
theorem iz_ {l:List Bs} (h:gb_ l=true):ascB l:=by
 refine ig_ fun i hi => ?_
 have:=g5_.1 h (i+1) hi
 simp only [Bool.and_eq_true,Bool.or_eq_true,decide_eq_true_eq,Nat.add_sub_cancel] at this
 rcases this.2 with h|h
 · omega
 · rw [d3_] at h;exact of_decide_eq_true h
end Go.Pi
end
section
namespace Go.Pi
def Ok2 (x:Option aa_) (r:aa_ × Bool):Prop:=r.2=x.isSome∧∀ y,x=some y→r.1=y
theorem dW_ {j:aa_}:Ok2 none (j,false):=⟨rfl,fun y h=>(by cases h)⟩
theorem c0_ {j:aa_}:Ok2 (some j) (j,true):=⟨rfl,fun y h=>(by cases h;rfl)⟩
def gP_ {α:Type} (l:List α) (k:Nat) (v:α):List α:=l.take k++[v]++l.drop k
def addAt (j:aa_) (name:Bs):Int:=cond (name == [45]) (j.list.length:Int) (FPos name)
def FAdd (j:aa_) (name:Bs) (v:aa_):Option aa_ :=
 cond (j.kind == 5) (some (aa_.mk 5 0 [] (jy_ j.names name j.list v) (jy_ j.names name j.names name)))
  (cond (j.kind == 4) (cond (inn (addAt j name) 0 (j.list.length:Int)) (some (aa_.mk j.kind j.n_ j.s (gP_ j.list (addAt j name).toNat v) j.names)) none) none)
theorem size_pos:∀ (d:Nat) (x:aa_),1≤b8_ d x
 |0,_=>by simp [b8_]
 |d+1,x=>by
  simp only [b8_]
  cases FOwn x<;>simp only [cond_true,cond_false]<;>omega
theorem sum_len (d:Nat):∀ l:List aa_,l.length≤dK_ (b8_ d) l
 |[]=>Nat.zero_le _
 |x::l=>by
  have h1:=sum_len d l
  have h2:=size_pos d x
  show l.length+1≤b8_ d x+dK_ (b8_ d) l
  omega
theorem d7_ {d:Nat} {j:aa_} (h:b8_ (d+1) j≤400):j.list.length≤399:=by
 have h1:=(cS_ h).2
 have h2:=sum_len d j.list
 omega
theorem gV_ {l:List Bs} {k:Nat} {x:Bs} (h:k≤l.length) (hl:l.length≤10000):Ev (fun n _=>a5_ n l (k:Int) [x]) (gP_ l k x):=by
 refine aS_ ?_
 simp only [a5_,gi_,ay_,as_,cx_,Int.toNat_natCast,gP_]
 simp;omega
theorem d4_ {l:List aa_} {k:Nat} {x:aa_} (h:k≤l.length) (hl:l.length≤10000):Ev (fun n _=>a8_ n l (k:Int) [x]) (gP_ l k x):=by
 refine aS_ ?_
 simp only [a8_,gi_,ay_,as_,cx_,Int.toNat_natCast,gP_]
 simp;omega
theorem putL_new {α:Type} {ns:List Bs} {x:Bs} (h:(decide (cR_ ns x<ns.length)&&(ns.getD (cR_ ns x) [] == x))=false) (l:List α) (y:α):jy_ ns x l y=gP_ l (cR_ ns x) y:=by
 unfold jy_ gP_ ei_
 rw [if_neg]
 rintro ⟨h1,h2⟩
 rw [decide_eq_true h2,h1] at h
 simp at h
theorem lc_ {α:Type} {ns:List Bs} {x:Bs} (h:(decide (cR_ ns x<ns.length)&&(ns.getD (cR_ ns x) [] == x))=true) (l:List α) (y:α) (hl:cR_ ns x<l.length):jy_ ns x l y=l.set (cR_ ns x) y:=by
 simp only [Bool.and_eq_true,decide_eq_true_eq] at h
 unfold jy_ ei_
 rw [if_pos ⟨eq_of_beq h.2,h.1⟩,List.set_eq_take_append_cons_drop,if_pos hl]
 simp
theorem set_same {l:List Bs} {p:Nat} {x:Bs} (h:p<l.length) (e:l.getD p []=x):l.set p x=l:=by
 rw [List.getD_eq_getElem?_getD,List.getElem?_eq_getElem h,Option.getD_some] at e
 subst e
 exact List.set_getElem_self h
theorem gR_ {d:Nat} {j:aa_} (h:b8_ (d+1) j≤400) {name:Bs} {v:aa_} (hn:name.length≤281474976710656):Ans (fun n _=>bT_ n j name v) (Ok2 (FAdd j name v)):=by
 have ho:=(cS_ h).1
 have o2:=kc_ (jw_ h)
 have hl:=d7_ h
 refine dc_ ?_
 simp only [bT_,bA_]
 unfold FAdd
 cases h5:(j.kind == 5)
 · cases h4:(j.kind == 4)
   · simp only [cond_false,bZ_];exact dW_
   · simp only [cond_false,cond_true,b5_ (eV_ hn),cV_,b5_ fI_,bZ_]
     have hr:=hj_ name
     unfold addAt
     refine ⟨fun hq => ?_,fun hq => ?_⟩
     · rw [hq,cond_true]
       have e:inn (j.list.length:Int) 0 (j.list.length:Int)=true:=by simp [inn]
       rw [e]
       simp only [Bool.not_true,cond_true,b5_ (d4_ (l:=j.list) (k:=j.list.length) (x:=v) (Nat.le_refl _) (by omega)),bZ_,Int.toNat_natCast]
       exact ⟨fun h=>(by cases h),fun _=>c0_⟩
     · rw [hq,cond_false]
       cases e:inn (FPos name) 0 (j.list.length:Int)
       · simp only [Bool.not_false,cond_false]
         exact ⟨fun _=>dW_,fun h=>(by cases h)⟩
       · have hi:=iX_.1 e
         have hi2:((FPos name).toNat:Int)=FPos name:=Int.toNat_of_nonneg hi.1
         have hI:=d4_ (l:=j.list) (k:=(FPos name).toNat) (x:=v) (by omega) (by omega)
         rw [hi2] at hI
         simp only [Bool.not_true,cond_true,b5_ hI,bZ_]
         exact ⟨fun h=>(by cases h),fun _=>c0_⟩
 · have hk:j.kind=5:=by simpa using h5
   obtain ⟨he,hN⟩:=ho.obj hk
   have hA:=iz_ hN
   have hB:=hP_ (ns:=j.names) (x:=name) (by omega) (j5_ hA)
   have hp:cR_ j.names name≤j.names.length:=List.findIdx_le_length
   simp only [cond_true,b5_ hB]
   have n0:=o2.n0 (by omega) (by omega)
   have s0:=o2.s0 (by omega)
   cases hf:(decide (cR_ j.names name<j.names.length)&&(j.names.getD (cR_ j.names name) [] == name))
   · simp only [cond_false,b5_ (gV_ (l:=j.names) (k:=cR_ j.names name) (x:=name) hp (by omega)),b5_ (d4_ (l:=j.list) (k:=cR_ j.names name) (x:=v) (by omega) (by omega)),bZ_,putL_new hf,hk,n0,s0]
     exact c0_
   · have hlt:cR_ j.names name<j.names.length:=by simp only [Bool.and_eq_true,decide_eq_true_eq] at hf;exact hf.1
     have e2:j.names.set (cR_ j.names name) name=j.names:=by
      have h7:j.names.getD (cR_ j.names name) []=name:=by simp only [Bool.and_eq_true] at hf;exact eq_of_beq hf.2
      exact set_same hlt h7
     simp only [cond_true,do_,cJ_ (show cR_ j.names name<j.list.length by omega),true_and,Int.toNat_natCast,bZ_,lc_ hf j.list v (by omega),lc_ hf j.names name hlt,hk,n0,s0]
     rw [e2]
     exact c0_
end Go.Pi
end
section
namespace Go.Pi
theorem hR_ {d:Nat} {j:aa_} (h:b8_ (d+1) j≤400) {name:Bs} {o:TOp} (hv:b8_ 6 o.value≤400):Ans (fun n _=>cg_ n j name o) (Ok2 (FAdd j name o.value)):=by
 have ho:=(cS_ h).1
 have hl:=d7_ h
 have hC:=cQ_ 6 o.value hv
 refine dc_ ?_
 simp only [cg_,bA_]
 unfold FAdd
 cases h5:(j.kind == 5)
 · cases h4:(j.kind == 4)
   · have h4':(j.kind != 4)=true:=by rw [bne,h4];rfl
     simp only [h4',cond_false,cond_true,b5_ dM_,cV_,bZ_]
     exact ⟨fun _=>dW_,fun _=>dW_⟩
   · have h4':(j.kind != 4)=false:=by rw [bne,h4];rfl
     have hr:=hj_ name
     simp only [h4',cond_false,cond_true,b5_ dM_,cV_,b5_ l1In_ev,bZ_,b5_ hC,g4_,j7_,List.nil_append,List.length_nil,List.drop_zero,List.take_length,Int.toNat_natCast]
     unfold addAt
     refine ⟨fun hq => ?_,fun hq => ?_⟩
     · rw [hq,cond_true]
       have e:inn (j.list.length:Int) 0 (j.list.length:Int)=true:=by simp [inn]
       have e9:gP_ j.list j.list.length o.value=j.list++[o.value]++j.list.drop j.list.length:=by unfold gP_;rw [List.take_length]
       rw [e]
       simp only [Bool.not_true,cond_true,Int.toNat_natCast,e9]
       refine ⟨fun h=>(by cases h),fun _ => ?_⟩
       repeat' (first|exact c0_|apply And.intro)
       all_goals (first|omega|(simp;done)|(simp;omega)|trace_state)
     · rw [hq,cond_false]
       cases e:inn (FPos name) 0 (j.list.length:Int)
       · simp only [Bool.not_false,cond_false]
         exact ⟨fun _=>dW_,fun h=>(by cases h)⟩
       · have hi:=iX_.1 e
         simp only [Bool.not_true,cond_true]
         refine ⟨fun h=>(by cases h),fun _ => ?_⟩
         repeat' (first|exact c0_|apply And.intro)
         all_goals (first|omega|(simp;done)|(simp;omega)|trace_state)
 · have hk:j.kind=5:=by simpa using h5
   obtain ⟨he,hN⟩:=ho.obj hk
   have hA:=iz_ hN
   have hP:=fM_ (o:=j) (j:=o.value) (x:=name) (by omega) he.symm (fun z hz=>by
    rw [d3_] at hz
    exact beq_eq_false_iff_ne.2 fun e=>by subst e;exact List.lt_irrefl z (of_decide_eq_true hz)) (ascB_ne hA)
   simp only [cond_true,b5_ hC,b5_ hP,bZ_]
   exact c0_
end Go.Pi
end
section
namespace Go.Pi
def gK_ (d:Nat) (j:aa_) (o:TOp):Option aa_:=cond (o.kind == 4) (cond (dj_ d j o.value) (some j) none) (cond (o.kind == 2) none (some o.value))
def iE_ (j:aa_) (i:Nat) (y:aa_):aa_:=aa_.mk j.kind j.n_ j.s (j.list.set i y) j.names
def iv_ (j:aa_) (i:Nat):aa_:=aa_.mk j.kind j.n_ j.s (j.list.take i++j.list.drop (i+1)) (cond (j.kind == 5) (j.names.take i++j.names.drop (i+1)) j.names)
def FPat:Nat→aa_→List Bs→TOp→Option aa_
 |d,j,[],o=>gK_ d j o
 |0,_,_::_,_=>none
 |d+1,j,x::w,o=>cond (w.isEmpty&&(o.kind == 1)) (FAdd j x o.value) (cond (decide (FAt j x<0)) none (cond (w.isEmpty&&(o.kind == 2)) (some (iv_ j (FAt j x).toNat))
   ((FPat d (j.list.getD (FAt j x).toNat aa_.dflt) w o).map (iE_ j (FAt j x).toNat))))
structure kR_ (o:TOp):Prop where
 kind:o.kind=1∨o.kind=2∨o.kind=3∨o.kind=4
 value:b8_ 6 o.value≤400
theorem hX_ {d:Nat} {j:aa_} {o:TOp} (h:b8_ d j≤400) (ho:kR_ o):Ans (fun n _=>ci_ n j o) (Ok2 (gK_ d j o)):=by
 have hC:=cN_ 6 o.value ho.value
 have hA:=fZ_ d j o.value (eb_ d j h) (cM_ d j h)
 refine dc_ ?_
 simp only [ci_,bA_]
 unfold gK_
 rcases ho.kind with hk|hk|hk|hk<;>rw [hk]
 · simp only [show ((1:Int) == 1)=true from rfl,show ((1:Int) == 4)=false from rfl,show ((1:Int) == 2)=false from rfl,cond_true,cond_false,b5_ hC,bZ_];exact c0_
 · simp only [show ((2:Int) == 1)=false from rfl,show ((2:Int) == 3)=false from rfl,show ((2:Int) == 4)=false from rfl,show ((2:Int) == 2)=true from rfl,cond_true,cond_false,bZ_];exact dW_
 · simp only [show ((3:Int) == 1)=false from rfl,show ((3:Int) == 3)=true from rfl,show ((3:Int) == 4)=false from rfl,show ((3:Int) == 2)=false from rfl,cond_true,cond_false,b5_ hC,bZ_];exact c0_
 · simp only [show ((4:Int) == 1)=false from rfl,show ((4:Int) == 3)=false from rfl,show ((4:Int) == 4)=true from rfl,cond_true,cond_false,b5_ hA,bZ_]
   cases dj_ d j o.value
   · exact dW_
   · exact c0_
theorem hQ_ {d:Nat} {j:aa_} {o:TOp} (h:b8_ d j≤400) (ho:kR_ o):Ans (fun n _=>bM_ n j o) (Ok2 (gK_ d j o)):=by
 have hC:=cQ_ 6 o.value ho.value
 have hA:=dq_ d j o.value (eb_ d j h) (cM_ d j h)
 refine dc_ ?_
 simp only [bM_,bA_]
 unfold gK_
 rcases ho.kind with hk|hk|hk|hk<;>rw [hk]
 · simp only [show ((1:Int) == 4)=false from rfl,show ((1:Int) == 2)=false from rfl,cond_true,cond_false,b5_ hC,bZ_];exact c0_
 · simp only [show ((2:Int) == 4)=false from rfl,show ((2:Int) == 2)=true from rfl,cond_true,cond_false,bZ_];exact dW_
 · simp only [show ((3:Int) == 4)=false from rfl,show ((3:Int) == 2)=false from rfl,cond_true,cond_false,b5_ hC,bZ_];exact c0_
 · simp only [show ((4:Int) == 4)=true from rfl,show ((4:Int) == 2)=false from rfl,cond_true,cond_false,b5_ hA,bZ_]
   cases dj_ d j o.value
   · exact dW_
   · exact c0_
theorem gQ_ {j:aa_} {i:Nat} (hi:i<j.list.length) (hl:j.list.length≤10000) (he:j.kind=5→j.names.length=j.list.length):Ev (fun n _=>bz_ n j (i:Int)) (iv_ j i):=by
 have hW:=W_up hi (show j.list.length≤co_ by simp only [co_];omega)
 have e1:((i+1:Nat):Int).toNat=i+1:=Int.toNat_natCast _
 have hD:Ev (fun n _=>bf_ n j.list (i:Int) ((i+1:Nat):Int)) (j.list.take i++j.list.drop (i+1)):=by
  refine aS_ ?_
  simp only [bf_,gj_,ay_,as_,cx_,Int.toNat_natCast,e1]
  simp;omega
 refine aS_ ?_
 simp only [bz_,hW,ar_ hD,ay_,as_]
 unfold iv_
 refine ⟨fun h5 => ?_,fun h5 => ?_⟩
 · have hk:=he (by simpa using h5)
   have hS:Ev (fun n _=>a6_ n j.names (i:Int) ((i+1:Nat):Int)) (j.names.take i++j.names.drop (i+1)):=by
    refine aS_ ?_
    simp only [a6_,gj_,ay_,as_,cx_,Int.toNat_natCast,e1]
    simp;omega
   rw [h5]
   simp only [ar_ hS,as_,cond_true]
 · rw [h5];rfl
end Go.Pi
end
section
namespace Go.Pi
theorem kr_ {x:Option aa_} {r:aa_ × Bool} (h:Ok2 x r) {f:aa_→aa_} {z:aa_} (hz:r.2=true→z=f r.1):Ok2 (x.map f) (z,r.2):=by
 obtain ⟨h1,h2⟩:=h
 refine ⟨by rw [h1];cases x<;>rfl,fun y hy => ?_⟩
 cases x with
 |none=>cases hy
 |some x0=>
  simp only [Option.map_some,Option.some.injEq] at hy
  rw [←hy,←h2 x0 rfl]
  exact hz (by rw [h1];rfl)
theorem beq_nat (n:Nat):Nat.beq n n=true:=Nat.beq_refl n
theorem ez_:∀ (d:Nat) (j:aa_) (way:List Bs) (o:TOp),b8_ d j≤400→(∀ x ∈ way,x.length≤281474976710656)→way.length≤1000→kR_ o→Ans (fun n _=>bt_ n j way o) (Ok2 (FPat d j way o))
 |0,j,way,o,h,hw,hl,ho=>by simp only [b8_] at h;omega
 |d+1,j,[],o,h,hw,hl,ho=>by
  have hW:=hX_ h ho
  refine dc_ ?_
  simp only [bt_,bA_,dD_,List.length_nil,show (((0:Nat):Int) == 0)=true from rfl,cond_true]
  exact dJ_ hW fun r hr=>bZ_.2 hr
 |d+1,j,x::w,o,h,hw,hl,ho=>by
  have hown:=(cS_ h).1
  have hjl:=d7_ h
  have he:j.kind=5→j.list.length=j.names.length:=fun hk=>(hown.obj hk).1.symm
  have hnl:j.names.length≤co_:=by
   have:=(cM_ (d+1) j h).1.2
   exact this.1
  have hx:=hw x (List.mem_cons_self ..)
  have hC:=cN_ 6 o.value ho.value
  have hP:=ht_ (s:=x) hnl he hx
  have hAdd:=gR_ h (name:=x) (v:=o.value) hx
  have hr:=g3_ j x he
  have hcut:(0:Int)≤1∧(1:Int)≤((x::w).length:Int)∧((x::w).length:Int)≤((x::w).length:Int):=⟨by omega,by simp;omega,by omega⟩
  have hin0:(0:Int)≤0∧(0:Int)<((x::w).length:Int):=⟨by omega,by simp<;>omega⟩
  have e0:(((x::w).length:Int) == 0)=false:=by simp;omega
  have ew:(((x::w).take (((x::w).length:Nat):Int).toNat).drop 1)=w:=by rw [Int.toNat_natCast,List.take_length];rfl
  have eH_:¬ FAt j x<0→Ans (fun n N=>inB (FAt j x) j.list.length (gs_ 1 ((x::w).length:Int) (x::w).length (cond (Nat.beq (FAt j x).toNat (FAt j x).toNat) (cond (Nat.beq (FAt j x).toNat (FAt j x).toNat) ((bt_ n (j.list.getD (FAt j x).toNat aa_.dflt) w o).bind fun xr6=>(cond (!xr6.2) (some ((aa_.mk 0 0 [] ([]:List aa_) ([]:List Bs)),false)) (inB (FAt j x) j.list.length (cond (Nat.beq (FAt j x).toNat (FAt j x).toNat) (let xa7:List aa_:=j.list.set (FAt j x).toNat xr6.1;(some ((aa_.mk j.kind j.n_ j.s xa7 j.names),true))) none)))) none) none)))
    (Ok2 ((FPat d (j.list.getD (FAt j x).toNat aa_.dflt) w o).map (iE_ j (FAt j x).toNat))):=fun hn=>by
   have hlt:(FAt j x).toNat<j.list.length:=by omega
   have ih:=ez_ d (j.list.getD (FAt j x).toNat aa_.dflt) w o (d6_ h (ce_ _ hlt)) (fun y hy=>hw y (List.mem_cons_of_mem _ hy)) (by simp at hl;omega) ho
   simp only [beq_nat,cond_true,do_,g4_]
   refine ⟨⟨by omega,by omega⟩,hcut,?_⟩
   refine dJ_ ih fun r hr => ?_
   simp only [cV_,bZ_,do_]
   refine ⟨fun hf => ?_,fun hf=>⟨⟨by omega,by omega⟩,?_⟩⟩
   · have hf:r.2=false:=by simpa using hf
     have:=kr_ hr (f:=iE_ j (FAt j x).toNat) (z:=aa_.mk 0 0 [] ([]:List aa_) ([]:List Bs)) (fun e=>by rw [hf] at e;cases e)
     rwa [hf] at this
   · have hf:r.2=true:=by simpa using hf
     have:=kr_ hr (f:=iE_ j (FAt j x).toNat) (z:=iE_ j (FAt j x).toNat r.1) (fun _=>rfl)
     rwa [hf] at this
  refine dc_ ?_
  simp only [bt_,bA_,dD_,e0,cond_false,ew,List.getD_cons_zero]
  cases w with
  |nil=>
   have e1:(([x]:List Bs).length:Int) == 1:=rfl
   have e1:((([x]:List Bs).length:Int) == 1)=true:=rfl
   simp only [e1,cond_true,FPat,List.isEmpty_nil,Bool.true_and]
   cases hk:(o.kind == 1)
   · simp only [cond_false,do_,b5_ hP,cV_,bZ_]
     refine ⟨hin0,fun hn => ?_,fun hn => ?_⟩
     · rw [hn];exact dW_
     · have hn':=of_decide_eq_false hn
       rw [hn]
       refine ⟨fun h2 => ?_,fun h2 => ?_⟩
       · have hi:((FAt j x).toNat:Int)=FAt j x:=Int.toNat_of_nonneg (by omega)
         have hD:=gQ_ (j:=j) (i:=(FAt j x).toNat) (by omega) (by omega) (fun hk=>(hown.obj hk).1)
         rw [hi] at hD
         simp only [b5_ hD,bZ_,h2,cond_true,cond_false]
         exact c0_
       · rw [h2]
         have hq:=do_.1 (eH_ hn')
         simp only [FPat] at hq
         exact hq
   · simp only [cond_true,do_,b5_ hC]
     refine ⟨hin0,?_⟩
     exact dJ_ hAdd fun r hr=>bZ_.2 hr
  |cons x2 w=>
   have e1:(((x::x2::w).length:Int) == 1)=false:=by simp<;>omega
   simp only [e1,cond_false,FPat,List.isEmpty_cons,Bool.false_and]
   simp only [do_,b5_ hP,cV_,bZ_]
   refine ⟨hin0,fun hn => ?_,fun hn => ?_⟩
   · rw [hn];exact dW_
   · have hn':=of_decide_eq_false hn
     rw [hn]
     exact do_.1 (eH_ hn')
end Go.Pi
end
section
namespace Go.Pi
theorem lS_ {j:aa_} {i:Nat} (h:i<j.list.length):iE_ j i (j.list.getD i aa_.dflt)=j:=by
 unfold iE_
 rw [List.getD_eq_getElem?_getD,List.getElem?_eq_getElem h,Option.getD_some,List.set_getElem_self]
 exact cU_ j
theorem tail_drop {j:aa_} {i:Nat} (hi:i<j.list.length) (hl:j.list.length≤10000) (he:j.kind=5→j.names.length=j.list.length):Ans (fun n (_:Nat)=>ba_.tail8 n (i:Int) j.names j.kind j.n_ j.s j.list 0 0 []) (Ok2 (some (iv_ j i))):=by
 have hW:=W_up hi (show j.list.length≤co_ by simp only [co_];omega)
 have e1:((i+1:Nat):Int).toNat=i+1:=Int.toNat_natCast _
 simp only [ba_.tail8,ba_.tail17,hW,g4_,j7_,cV_,bZ_,Int.toNat_natCast,e1,List.take_length,List.drop_zero,List.nil_append,List.length_nil]
 unfold iv_
 refine ⟨by omega,by simp;omega,by omega,by simp;omega,fun h5 => ?_,fun h5 => ?_⟩
 · have hk:=he (by simpa using h5)
   rw [h5]
   refine ⟨by omega,by simp;omega,by omega,by simp;omega,c0_⟩
 · rw [h5];exact c0_
theorem iC_ {d:Nat} {j:aa_} {x:Bs} {o:TOp} (h:b8_ (d+1) j≤400) (ho:kR_ o):Ans (fun n _=>ba_ n j x o) (Ok2 (FPat (d+1) j [x] o)):=by
 have hown:=(cS_ h).1
 have hjl:=d7_ h
 have he:j.kind=5→j.list.length=j.names.length:=fun hk=>(hown.obj hk).1.symm
 have hnl:j.names.length≤co_:=(cM_ (d+1) j h).1.2.1
 have hP:=gA_ (j:=j) (s:=x) hnl
 have hr:=g3_ j x he
 have hC:=cQ_ 6 o.value ho.value
 refine dc_ ?_
 simp only [ba_,bA_,dD_,b5_ hP,cV_,bZ_,do_,FPat,List.isEmpty_nil,Bool.true_and]
 have hAdd:=hR_ h (name:=x) ho.value
 refine ⟨fun hk => ?_,fun hk=>⟨fun hn => ?_,fun hn=>⟨fun h4 => ?_,fun h4=>⟨fun h3 => ?_,fun h3 => ?_⟩⟩⟩⟩
 · rw [hk];exact dJ_ hAdd fun r hr=>bZ_.2 hr
 · rw [hk,hn];exact dW_
 · have hn':=of_decide_eq_false hn
   have hlt:(FAt j x).toNat<j.list.length:=by omega
   have hc:=d6_ h (ce_ aa_.dflt hlt)
   have hA:=dq_ d (j.list.getD (FAt j x).toNat aa_.dflt) o.value (eb_ d _ hc) (cM_ d _ hc)
   have h2:(o.kind == 2)=false:=by have:o.kind=4:=by simpa using h4
                                   rw [this];rfl
   rw [hk,hn,h2]
   unfold gK_
   rw [h4]
   refine ⟨⟨by omega,by omega⟩,?_⟩
   simp only [b5_ hA,bZ_,cond_true,cond_false]
   cases dj_ d (j.list.getD (FAt j x).toNat aa_.dflt) o.value
   · exact dW_
   · simp only [cond_true,Option.map_some,lS_ hlt];exact c0_
 · have hn':=of_decide_eq_false hn
   have h2:(o.kind == 2)=false:=by have:o.kind=3:=by simpa using h3
                                   rw [this];rfl
   rw [hk,hn,h2]
   unfold gK_
   rw [h4,h2]
   simp only [b5_ hC,do_,bZ_,cond_false,Option.map_some]
   exact ⟨⟨by omega,by omega⟩,c0_⟩
 · have hn':=of_decide_eq_false hn
   have h2:(o.kind == 2)=true:=by
    rcases ho.kind with e|e|e|e<;>rw [e] at hk h3 h4 ⊢ <;> first|rfl|(cases hk;done)|(cases h3;done)|(cases h4;done)
   have hi:((FAt j x).toNat:Int)=FAt j x:=Int.toNat_of_nonneg (by omega)
   have hD:=tail_drop (j:=j) (i:=(FAt j x).toNat) (by omega) (by omega) (fun hk=>(hown.obj hk).1)
   rw [hi] at hD
   rw [hk,hn,h2]
   exact hD
end Go.Pi
end
section
namespace Go.Pi
theorem ew_:∀ (d:Nat) (j:aa_) (way:List Bs) (o:TOp),b8_ d j≤400→way.length≤1000→kR_ o→Ans (fun n _=>bB_ n j way o) (Ok2 (FPat d j way o))
 |0,j,way,o,h,hl,ho=>by simp only [b8_] at h;omega
 |d+1,j,[],o,h,hl,ho=>by
  have hW:=hQ_ h ho
  refine dc_ ?_
  simp only [bB_,bA_,dD_,List.length_nil,show (((0:Nat):Int) == 0)=true from rfl,cond_true]
  exact dJ_ hW fun r hr=>bZ_.2 hr
 |d+1,j,[x],o,h,hl,ho=>by
  have hI:=iC_ h (x:=x) ho
  have e0:((([x]:List Bs).length:Int) == 0)=false:=rfl
  have e1:((([x]:List Bs).length:Int) == 1)=true:=rfl
  refine dc_ ?_
  simp only [bB_,bA_,dD_,e0,e1,cond_false,cond_true,do_,List.getD_cons_zero]
  exact ⟨⟨by omega,by simp⟩,dJ_ hI fun r hr=>bZ_.2 hr⟩
 |d+1,j,x::x2::w,o,h,hl,ho=>by
  have hown:=(cS_ h).1
  have hjl:=d7_ h
  have he:j.kind=5→j.list.length=j.names.length:=fun hk=>(hown.obj hk).1.symm
  have hnl:j.names.length≤co_:=(cM_ (d+1) j h).1.2.1
  have hP:=gA_ (j:=j) (s:=x) hnl
  have hr:=g3_ j x he
  have e0:(((x::x2::w).length:Int) == 0)=false:=by simp<;>omega
  have e1:(((x::x2::w).length:Int) == 1)=false:=by simp<;>omega
  have ew:(((x::x2::w).take (((x::x2::w).length:Nat):Int).toNat).drop 1)=x2::w:=by rw [Int.toNat_natCast,List.take_length];rfl
  have hcut:(0:Int)≤1∧(1:Int)≤((x::x2::w).length:Int)∧((x::x2::w).length:Int)≤((x::x2::w).length:Int):=⟨by omega,by simp<;>omega,by omega⟩
  refine dc_ ?_
  simp only [bB_,bA_,dD_,e0,e1,ew,cond_false,cond_true,do_,List.getD_cons_zero,b5_ hP,cV_,bZ_,FPat,List.isEmpty_cons,Bool.false_and,beq_nat,g4_]
  refine ⟨⟨by omega,by simp<;>omega⟩,fun hn => ?_,fun hn => ?_⟩
  · rw [hn];exact dW_
  · have hn':=of_decide_eq_false hn
    have hlt:(FAt j x).toNat<j.list.length:=by omega
    have ih:=ew_ d (j.list.getD (FAt j x).toNat aa_.dflt) (x2::w) o (d6_ h (ce_ _ hlt)) (by simp at hl ⊢;omega) ho
    rw [hn]
    refine ⟨⟨by omega,by omega⟩,hcut,?_⟩
    refine dJ_ ih fun r hr => ?_
    simp only [bZ_,do_,cond_false]
    exact ⟨⟨by omega,by omega⟩,kr_ hr (f:=iE_ j (FAt j x).toNat) (fun _=>rfl)⟩
end Go.Pi
end
section
namespace Go.Pi
theorem ku_ {e:Nat} {v:aa_} (h:fo_ e v):∀ {k d:Nat},d+k=e→fo_ d v
 |0,d,hd=>by
  have:d=e:=by omega
  rw [this];exact h
 |k+1,d,hd=>iT_ d v (ku_ h (k:=k) (by omega))
theorem ld_ {α:Type} {ns:List Bs} {x:Bs} {l:List α} {y z:α} (h:z ∈ jy_ ns x l y):z=y∨z ∈ l:=by
 unfold jy_ at h
 rcases List.mem_append.1 h with h|h
 · rcases List.mem_append.1 h with h|h
   · exact .inr (List.mem_of_mem_take h)
   · exact .inl (List.mem_singleton.1 h)
 · exact .inr (List.mem_of_mem_drop h)
theorem le_ {α:Type} {ns:List Bs} {x:Bs} {l:List α} {y:α}:(jy_ ns x l y).length≤l.length+1:=by
 have:cR_ ns x≤ei_ ns x:=by unfold ei_;split<;>omega
 unfold jy_
 simp;omega
theorem putIn_mem {α:Type} {k:Nat} {l:List α} {y z:α} (h:z ∈ gP_ l k y):z=y∨z ∈ l:=by
 unfold gP_ at h
 rcases List.mem_append.1 h with h|h
 · rcases List.mem_append.1 h with h|h
   · exact .inr (List.mem_of_mem_take h)
   · exact .inl (List.mem_singleton.1 h)
 · exact .inr (List.mem_of_mem_drop h)
theorem cut_mem {α:Type} {k m:Nat} {l:List α} {z:α} (h:z ∈ l.take k++l.drop m):z ∈ l:=by
 rcases List.mem_append.1 h with h|h
 · exact List.mem_of_mem_take h
 · exact List.mem_of_mem_drop h
theorem jd_:∀ (d:Nat) (j:aa_) (way:List Bs) (o:TOp) (y:aa_),d≤6→b8_ d j≤400→(∀ x ∈ way,x.length≤1000)→kR_ o→FPat d j way o=some y→fo_ d y
 |0,j,way,o,y,hd,h,hw,ho,e=>by simp only [b8_] at h;omega
 |d+1,j,[],o,y,hd,h,hw,ho,e=>by
  have hj:=cM_ (d+1) j h
  have hv:=ku_ (cM_ 6 _ ho.value) (d:=d+1) (k:=5 - d) (by omega)
  simp only [FPat,gK_] at e
  cases h4:(o.kind == 4)<;>rw [h4] at e
  · cases h2:(o.kind == 2)<;>rw [h2] at e
    · cases e;exact hv
    · cases e
  · cases ha:dj_ (d+1) j o.value<;>rw [ha] at e
    · cases e
    · cases e;exact hj
 |d+1,j,x::w,o,y,hd,h,hw,ho,e=>by
  have hj:=cM_ (d+1) j h
  obtain ⟨⟨hs,hn,hns⟩,hl,hk⟩:=hj
  have hjl:=d7_ h
  have hv:=ku_ (cM_ 6 _ ho.value) (d:=d) (k:=6 - d) (by omega)
  have hx:=hw x (List.mem_cons_self ..)
  have hown:=(cS_ h).1
  have ht:(1000000:Nat)≤co_:=by simp only [co_];omega
  have hnl:j.kind=5→j.names.length≤400:=fun h5=>by have:=(hown.obj h5).1;omega
  simp only [FPat] at e
  cases c1:(w.isEmpty&&(o.kind == 1))<;>rw [c1] at e
  · cases c2:decide (FAt j x<0)<;>rw [c2] at e
    · cases c3:(w.isEmpty&&(o.kind == 2))<;>rw [c3] at e
      · simp only [cond_false] at e
        cases hf:FPat d (j.list.getD (FAt j x).toNat aa_.dflt) w o with
        |none=>rw [hf] at e;cases e
        |some z=>
         rw [hf] at e
         simp only [Option.map_some,Option.some.injEq] at e
         subst e
         have hr:=g3_ j x fun h5=>(hown.obj h5).1.symm
         have c2':=of_decide_eq_false c2
         have hlt:(FAt j x).toNat<j.list.length:=by omega
         have ih:=jd_ d _ w o z (by omega) (d6_ h (ce_ _ hlt)) (fun y hy=>hw y (List.mem_cons_of_mem _ hy)) ho hf
         refine ⟨⟨hs,hn,hns⟩,by simp only [iE_,List.length_set];exact hl,fun q hq => ?_⟩
         rcases List.mem_or_eq_of_mem_set hq with hq|rfl
         · exact hk q hq
         · exact ih
      · simp only [cond_true,cond_false,Option.some.injEq] at e
        subst e
        refine ⟨⟨hs,?_⟩,?_,fun q hq=>hk q (cut_mem hq)⟩
        · show l4_ co_ (cond (j.kind == 5) _ _)
          cases h5:(j.kind == 5)
          · exact ⟨hn,hns⟩
          · have:=hnl (by simpa using h5)
            exact ⟨by simp;omega,fun q hq=>hns q (cut_mem hq)⟩
        · simp only [iv_];simp;omega
    · cases e
  · simp only [cond_true,FAdd] at e
    cases h5:(j.kind == 5)<;>rw [h5] at e
    · cases h4:(j.kind == 4)<;>rw [h4] at e
      · cases e
      · simp only [cond_true,cond_false] at e
        cases hi:inn (addAt j x) 0 (j.list.length:Int)<;>rw [hi] at e
        · cases e
        · cases e
          refine ⟨⟨hs,hn,hns⟩,?_,fun q hq => ?_⟩
          · simp only [gP_];simp;omega
          · rcases putIn_mem hq with rfl|hq
            · exact hv
            · exact hk q hq
    · cases e
      have:=hnl (by simpa using h5)
      have p1:=le_ (ns:=j.names) (x:=x) (l:=j.names) (y:=x)
      have p2:=le_ (ns:=j.names) (x:=x) (l:=j.list) (y:=o.value)
      refine ⟨⟨Nat.zero_le _,(by show (jy_ j.names x j.names x).length≤co_;omega),fun q hq => ?_⟩,by show (jy_ j.names x j.list o.value).length≤co_;omega,fun q hq => ?_⟩
      · rcases ld_ hq with rfl|hq
        · omega
        · exact hns q hq
      · rcases ld_ hq with rfl|hq
        · exact hv
        · exact hk q hq
end Go.Pi
end
section
namespace Go.Pi
def eE_ (j:aa_) (o:TOp):aa_ × Bool:=cond (cp_ j&&e5_ o) (match FPat 6 j o.way o with
 |some y=>cond (cp_ y) (y,true) (fj_,false)
 |none=>(fj_,false)) (fj_,false)
theorem op_fit {o:TOp} (h:e5_ o=true):kR_ o∧o.way.length≤6∧∀ x ∈ o.way,x.length≤60:=by
 unfold e5_ at h
 simp only [Bool.and_eq_true] at h
 obtain ⟨h1,h2,h3,h4,h5⟩:=h
 have h1:=iX_.1 h1
 refine ⟨⟨by omega,of_decide_eq_true h3⟩,of_decide_eq_true h2,fun x hx => ?_⟩
 obtain ⟨i,hi,rfl⟩:=List.mem_iff_getElem.1 hx
 have:=g5_.1 h4 i hi
 rw [List.getD_eq_getElem?_getD,List.getElem?_eq_getElem hi,Option.getD_some] at this
 simp only [ga_,Bool.and_eq_true,decide_eq_true_eq] at this
 omega
theorem iZ_ {j:aa_} {o:TOp} (hj:fo_ 6 j) (ho:iS_ o):Ev (fun n _=>ck_ n j o) (eE_ j o):=by
 refine ev_ans (dc_ ?_)
 simp only [ck_,bA_,dD_,b5_ (cZ_ hj),cV_,bZ_,b5_ (gF_ ho)]
 unfold eE_
 cases h1:cp_ j
 · exact ⟨fun _=>rfl,fun h=>(by cases h)⟩
 · cases h2:e5_ o
   · exact ⟨fun h=>(by cases h),fun _=>⟨fun _=>rfl,fun h=>(by cases h)⟩⟩
   · refine ⟨fun h=>(by cases h),fun _=>⟨fun h=>(by cases h),fun _ => ?_⟩⟩
     obtain ⟨f1,f2,f3⟩:=op_fit h2
     have hs:b8_ 6 j≤400:=of_decide_eq_true h1
     have hC:=cN_ 6 j hs
     have hP:=ez_ 6 j o.way o hs (fun x hx=>by have:=f3 x hx;omega) (by omega) f1
     rw [b5_ hC]
     refine dJ_ hP fun r hr => ?_
     obtain ⟨r1,r2⟩:=hr
     simp only [cV_,bZ_,Bool.and_self,cond_true]
     cases hf:FPat 6 j o.way o with
     |none=>
      rw [hf] at r1
      rw [r1]
      exact ⟨fun _=>rfl,fun h=>(by cases h)⟩
     |some y=>
      rw [hf] at r1
      rw [r1,r2 y hf]
      refine ⟨fun h=>(by cases h),fun _ => ?_⟩
      have hl:=jd_ 6 j o.way o y (Nat.le_refl _) hs (fun x hx=>by have:=f3 x hx;omega) f1 hf
      rw [b5_ (cZ_ hl)]
      simp only [cV_,bZ_]
      cases cp_ y
      · exact ⟨fun _=>rfl,fun h=>(by cases h)⟩
      · exact ⟨fun h=>(by cases h),fun _=>rfl⟩
theorem iD_ {j:aa_} {o:TOp} (hj:fo_ 6 j) (ho:iS_ o):Ev (fun n _=>ch_ n j o) (eE_ j o):=by
 refine ev_ans (dc_ ?_)
 simp only [ch_,bA_,dD_,b5_ (cY_ hj),cV_,bZ_,b5_ (gB_ ho)]
 unfold eE_
 cases h1:cp_ j
 · exact ⟨fun _=>rfl,fun h=>(by cases h)⟩
 · cases h2:e5_ o
   · exact ⟨fun h=>(by cases h),fun _=>⟨fun _=>rfl,fun h=>(by cases h)⟩⟩
   · refine ⟨fun h=>(by cases h),fun _=>⟨fun h=>(by cases h),fun _ => ?_⟩⟩
     obtain ⟨f1,f2,f3⟩:=op_fit h2
     have hs:b8_ 6 j≤400:=of_decide_eq_true h1
     have hC:=cQ_ 6 j hs
     have hP:=ew_ 6 j o.way o hs (by omega) f1
     rw [b5_ hC]
     refine dJ_ hP fun r hr => ?_
     obtain ⟨r1,r2⟩:=hr
     simp only [cV_,bZ_,Bool.and_self,cond_true]
     cases hf:FPat 6 j o.way o with
     |none=>
      rw [hf] at r1
      rw [r1]
      exact ⟨fun _=>rfl,fun h=>(by cases h)⟩
     |some y=>
      rw [hf] at r1
      rw [r1,r2 y hf]
      refine ⟨fun h=>(by cases h),fun _ => ?_⟩
      have hl:=jd_ 6 j o.way o y (Nat.le_refl _) hs (fun x hx=>by have:=f3 x hx;omega) f1 hf
      rw [b5_ (cY_ hl)]
      simp only [cV_,bZ_]
      cases cp_ y
      · exact ⟨fun _=>rfl,fun h=>(by cases h)⟩
      · exact ⟨fun h=>(by cases h),fun _=>rfl⟩
end Go.Pi
end
section
namespace Go.Pi
mutual
def aa_.size:aa_→Nat
 |⟨_,_,s,l,ns⟩=>s.length+((l.length+aa_.sizes l)+cF_ szB ns)
def aa_.sizes:List aa_→Nat
 |[]=>0
 |x::l=>aa_.size x+aa_.sizes l
end
mutual
def aa_.len:aa_→Prop
 |⟨_,_,s,l,ns⟩=>s.length≤co_∧(l.length≤co_∧aa_.lens l)∧lenL lenB ns
def aa_.lens:List aa_→Prop
 |[]=>True
 |x::l=>aa_.len x∧aa_.lens l
end
theorem aa_.sizes_eq:∀ l:List aa_,aa_.sizes l=dK_ aa_.size l
 |[]=>by simp only [aa_.sizes,dK_]
 |x::l=>by simp only [aa_.sizes,dK_,aa_.sizes_eq l]
theorem aa_.lens_iff:∀ l:List aa_,aa_.lens l↔∀ x ∈ l,aa_.len x
 |[]=>by simp [aa_.lens]
 |x::l=>by simp [aa_.lens,aa_.lens_iff l]
theorem aa_.size_eq (j:aa_):aa_.size j=j.s.length+(cF_ aa_.size j.list+cF_ szB j.names):=by
 cases j;simp only [aa_.size,aa_.sizes_eq,cF_]
theorem aa_.len_iff (j:aa_):aa_.len j↔j.s.length≤co_∧lenL aa_.len j.list∧lenL lenB j.names:=by
 cases j;simp only [aa_.len,aa_.lens_iff,lenL]
theorem aa_.re_eq (j:aa_):aa_.re j=j:=by cases j;rfl
theorem aa_.dec {x:aa_} {a:List aa_} (h:x ∈ a):SizeOf.sizeOf x.list<SizeOf.sizeOf a:=by
 have h1:=List.sizeOf_lt_of_mem h
 have h2:SizeOf.sizeOf x.list<SizeOf.sizeOf x:=by cases x;simp;omega
 omega
def aF_.size (s:aF_):Nat:=aa_.size s.doc
def aF_.len (s:aF_):Prop:=aa_.len s.doc
theorem aF_.eta (x:aF_):aF_.mk x.doc x.version x.began x.bad=x:=rfl
def TOp.size (s:TOp):Nat:=(cF_ szB) s.way+aa_.size s.value
def TOp.len (s:TOp):Prop:=(lenL lenB) s.way∧aa_.len s.value
theorem TOp.eta (x:TOp):TOp.mk x.kind x.way x.value=x:=rfl
def be_.size (s:be_):Nat:=aa_.size s.doc+(cF_ TOp.size) s.ops
def be_.len (s:be_):Prop:=aa_.len s.doc∧(lenL TOp.len) s.ops
theorem be_.eta (x:be_):be_.mk x.kind x.version x.base x.doc x.ops=x:=rfl
theorem h7_ {a:List aa_} {l:Int} (ha:lenL aa_.len a) (ih:∀ x ∈ a,∀ l,0≤l→l≤1048576→Ev (fun n _=>bi_ n x l) (ed_ l (aa_.size x))) (h0:0≤l) (h1:l≤1048576):Ev (fun n _=>aJ_ n a l) (ed_ l (cF_ aa_.size a)):=by
 refine aS_ ?_
 refine jY_ (g:=fun n N x=>aJ_.loop7 n (bi_ n) (fun xy2=>(some xy2)) n a x 0) h0 h1 ha.1 fun l h0 h1=>kh_ aa_.dflt aa_.size (fun n N l i=>aJ_.loop7 n (bi_ n) (fun xy2=>(some xy2)) N a l (i:Int)) a (fun i l hi h0 h1 t kk => ?_) (fun l => ?_) l h0 h1
 · show Ev (fun n N=>aJ_.step7 n (bi_ n) (fun xy2=>(some xy2)) (aJ_.loop7 n (bi_ n) (fun xy2=>(some xy2)) N) a l (i:Int)) _
   simp only [aJ_.step7,aa_.re_eq,ay_,cf_,Int.toNat_natCast,W_up hi ha.1]
   refine ⟨fun _ => ?_,fun h=>absurd hi (by simpa using h)⟩
   refine ⟨⟨by omega,by omega⟩,?_⟩
   have:=i5_ (t:=t) (g:=fun n N x=>aJ_.loop7 n (bi_ n) (fun xy2=>(some xy2)) N a x ((i+1:Nat):Int)) h0 h1 (ih _ (ce_ aa_.dflt hi) _ h0 h1) kk
   simpa only [ay_,as_] using this
 · show Ev (fun n N=>aJ_.step7 n (bi_ n) (fun xy2=>(some xy2)) (aJ_.loop7 n (bi_ n) (fun xy2=>(some xy2)) N) a l (a.length:Int)) _
   simp only [aJ_.step7,ay_,as_]
   exact ⟨fun h=>absurd (of_decide_eq_true h) (by omega),fun _=>trivial⟩
theorem gz_ {a:List Bs} {l:Int} (ha:(lenL lenB) a) (h0:0≤l) (h1:l≤1048576):Ev (fun n _=>aw_ n a l) (ed_ l ((cF_ szB) a)):=by
 refine aS_ ?_
 refine jY_ (g:=fun n N x=>aw_.loop7 n (fun xy1=>(some xy1)) (n) a x 0) h0 h1 ha.1 fun l h0 h1=>kh_ [] szB (fun n N l i=>aw_.loop7 n (fun xy1=>(some xy1)) (N) a l (i:Int)) a (fun i l hi h0 h1 t kk => ?_) (fun l => ?_) l h0 h1
 · show Ev (fun n N=>aw_.step7 n (fun xy1=>(some xy1)) (aw_.loop7 n (fun xy1=>(some xy1)) N) a l (i:Int)) _
   simp only [aw_.step7,ay_,cf_,Int.toNat_natCast,W_up hi ha.1]
   refine ⟨fun _ => ?_,fun h=>absurd hi (by simpa using h)⟩
   refine ⟨⟨by omega,by omega⟩,?_⟩
   simpa only [ay_,as_,szB] using jY_ (t:=t) (g:=fun n N x=>aw_.loop7 n (fun xy1=>(some xy1)) (N) a x ((i+1:Nat):Int)) h0 h1 (ha.2 _ (ce_ [] hi)) kk
 · show Ev (fun n N=>aw_.step7 n (fun xy1=>(some xy1)) (aw_.loop7 n (fun xy1=>(some xy1)) N) a l (a.length:Int)) _
   simp only [aw_.step7,ay_,as_]
   exact ⟨fun h=>absurd (of_decide_eq_true h) (by omega),fun _=>trivial⟩
theorem gf_ (a:aa_) (l:Int) (ha:aa_.len a) (h0:0≤l) (h1:l≤1048576):Ev (fun n _=>bi_ n a l) (ed_ l (aa_.size a)):=by
 have hq:=(aa_.len_iff a).1 ha
 refine aS_ ?_
 rw [aa_.size_eq]
 exact jY_ h0 h1 hq.1 fun r1 a1 b1=>i5_ a1 b1 (h7_ hq.2.1 (fun x hx l h0 h1=>gf_ x l (hq.2.1.2 x hx) h0 h1) a1 b1) fun r2 a2 b2=>(by simpa only [ay_,as_,Nat.add_zero] using i5_ (t:=0) a2 b2 (gz_ hq.2.2 a2 b2) fun r3 a3 b3=>lx_ a3)
termination_by SizeOf.sizeOf a
decreasing_by
 have:=List.sizeOf_lt_of_mem hx
 cases a
 simp at this ⊢
 omega
theorem g7_ {a:aa_} {l:Int} (ha:aa_.len a) (h0:0≤l) (h1:l≤1048576):Ev (fun n _=>bi_ n a l) (ed_ l (aa_.size a)):=gf_ a l ha h0 h1
theorem szJsonS_ev {a:List aa_} {l:Int} (ha:lenL aa_.len a) (h0:0≤l) (h1:l≤1048576):Ev (fun n _=>aJ_ n a l) (ed_ l (cF_ aa_.size a)):=h7_ ha (fun x hx l h0 h1=>gf_ x l (ha.2 x hx) h0 h1) h0 h1
theorem ki_ {a:aF_} {l:Int} (ha:aF_.len a) (h0:0≤l) (h1:l≤1048576):Ev (fun n _=>bF_ n a l) (ed_ l (aF_.size a)):=by
 refine aS_ ?_
 simp only [bF_,aa_.re_eq,aF_.eta]
 have e:aF_.size a=aa_.size a.doc+(0):=by simp only [aF_.size];omega
 rw [e];clear e
 have h0_0:=h0;have h0_1:=h1
 exact i5_ h0_0 h0_1 (g7_ (ha) h0_0 h0_1) fun r1 h1_0 h1_1=>lx_ h1_0
theorem szOp_ev {a:TOp} {l:Int} (ha:TOp.len a) (h0:0≤l) (h1:l≤1048576):Ev (fun n _=>ct_ n a l) (ed_ l (TOp.size a)):=by
 refine aS_ ?_
 simp only [ct_,aa_.re_eq,TOp.eta]
 have e:TOp.size a=(cF_ szB) a.way+(aa_.size a.value+(0)):=by simp only [TOp.size];omega
 rw [e];clear e
 have h0_0:=h0;have h0_1:=h1
 exact i5_ h0_0 h0_1 (gz_ (ha.1) h0_0 h0_1) fun r1 h1_0 h1_1=>i5_ h1_0 h1_1 (g7_ (ha.2) h1_0 h1_1) fun r2 h2_0 h2_1=>lx_ h2_0
theorem szOpS_ev {a:List TOp} {l:Int} (ha:(lenL TOp.len) a) (h0:0≤l) (h1:l≤1048576):Ev (fun n _=>a0_ n a l) (ed_ l ((cF_ TOp.size) a)):=by
 refine aS_ ?_
 refine jY_ (g:=fun n N x=>a0_.loop7 n (fun xy2=>(some xy2)) (n) a x 0) h0 h1 ha.1 fun l h0 h1=>kh_ TOp.dflt TOp.size (fun n N l i=>a0_.loop7 n (fun xy2=>(some xy2)) (N) a l (i:Int)) a (fun i l hi h0 h1 t kk => ?_) (fun l => ?_) l h0 h1
 · show Ev (fun n N=>a0_.step7 n (fun xy2=>(some xy2)) (a0_.loop7 n (fun xy2=>(some xy2)) N) a l (i:Int)) _
   simp only [a0_.step7,aa_.re_eq,TOp.eta,ay_,cf_,Int.toNat_natCast,W_up hi ha.1]
   refine ⟨fun _ => ?_,fun h=>absurd hi (by simpa using h)⟩
   refine ⟨⟨by omega,by omega⟩,?_⟩
   have:=i5_ (t:=t) (g:=fun n N x=>a0_.loop7 n (fun xy2=>(some xy2)) (N) a x ((i+1:Nat):Int)) h0 h1 (szOp_ev (ha.2 _ (ce_ TOp.dflt hi)) h0 h1) kk
   simpa only [ay_,as_] using this
 · show Ev (fun n N=>a0_.step7 n (fun xy2=>(some xy2)) (a0_.loop7 n (fun xy2=>(some xy2)) N) a l (a.length:Int)) _
   simp only [a0_.step7,ay_,as_]
   exact ⟨fun h=>absurd (of_decide_eq_true h) (by omega),fun _=>trivial⟩
theorem lP_ {a:be_} {l:Int} (ha:be_.len a) (h0:0≤l) (h1:l≤1048576):Ev (fun n _=>bQ_ n a l) (ed_ l (be_.size a)):=by
 refine aS_ ?_
 simp only [bQ_,aa_.re_eq,be_.eta]
 have e:be_.size a=aa_.size a.doc+((cF_ TOp.size) a.ops+(0)):=by simp only [be_.size];omega
 rw [e];clear e
 have h0_0:=h0;have h0_1:=h1
 exact i5_ h0_0 h0_1 (g7_ (ha.1) h0_0 h0_1) fun r1 h1_0 h1_1=>i5_ h1_0 h1_1 (szOpS_ev (ha.2) h1_0 h1_1) fun r2 h2_0 h2_1=>lx_ h2_0
theorem h4_ {a:List aa_} (ha:cF_ aa_.size a≤cap) (ih:∀ x ∈ a,Ev (fun n _=>bn_ n x) x):Ev (fun n _=>aK_ n a) a:=by
 refine aS_ ?_
 have hl:=cG_ aa_.size a
 simp only [cap] at ha
 simp only [aK_,ay_,cx_,decide_eq_true_eq,decide_eq_false_iff_not,not_true_eq_false]
 refine ⟨fun _=>⟨fun _=>⟨fun _ => ?_,fun h=>absurd h (by omega)⟩,fun h=>absurd h (by omega)⟩,fun h=>h⟩
 refine kD_ aa_.dflt a (fun n N i s=>aK_.loop4 n (bn_ n) (fun xy3=>(some xy3)) N a (i:Int) s) (fun i s hi hs k => ?_) ?_ _ (by simp)
 · show Ev (fun n N=>aK_.step4 n (bn_ n) (fun xy3=>(some xy3)) (aK_.loop4 n (bn_ n) (fun xy3=>(some xy3)) N) a (i:Int) s) a
   simp only [aK_.step4,aa_.re_eq,Int.toNat_natCast,ay_,cf_,ar_ (ih _ (ce_ aa_.dflt hi)),W_up hi (show a.length≤co_ by simp only [co_];omega)]
   exact ⟨fun _=>⟨⟨by omega,by omega⟩,⟨by omega,by omega⟩,k⟩,fun h=>absurd hi (by simpa using h)⟩
 · show Ev (fun n N=>aK_.step4 n (bn_ n) (fun xy3=>(some xy3)) (aK_.loop4 n (bn_ n) (fun xy3=>(some xy3)) N) a (a.length:Int) a) a
   simp only [aK_.step4,ay_,as_]
   exact ⟨fun h=>absurd (of_decide_eq_true h) (by omega),fun _=>trivial⟩
theorem gy_ {a:List Bs} (ha:(cF_ szB) a≤cap):Ev (fun n _=>az_ n a) a:=by
 refine aS_ ?_
 have hl:=cG_ szB a
 simp only [cap] at ha
 simp only [az_,ay_,cx_,decide_eq_true_eq,decide_eq_false_iff_not,not_true_eq_false]
 refine ⟨fun _=>⟨fun _=>⟨fun _ => ?_,fun h=>absurd h (by omega)⟩,fun h=>absurd h (by omega)⟩,fun h=>h⟩
 refine kD_ [] a (fun n N i s=>az_.loop4 n (fun xy2=>(some xy2)) N a (i:Int) s) (fun i s hi hs k => ?_) ?_ _ (by simp)
 · show Ev (fun n N=>az_.step4 n (fun xy2=>(some xy2)) (az_.loop4 n (fun xy2=>(some xy2)) N) a (i:Int) s) a
   simp only [az_.step4,Int.toNat_natCast,ay_,cf_,W_up hi (show a.length≤co_ by simp only [co_];omega)]
   exact ⟨fun _=>⟨⟨by omega,by omega⟩,⟨by omega,by omega⟩,k⟩,fun h=>absurd hi (by simpa using h)⟩
 · show Ev (fun n N=>az_.step4 n (fun xy2=>(some xy2)) (az_.loop4 n (fun xy2=>(some xy2)) N) a (a.length:Int) a) a
   simp only [az_.step4,ay_,as_]
   exact ⟨fun h=>absurd (of_decide_eq_true h) (by omega),fun _=>trivial⟩
theorem ge_ (a:aa_) (ha:aa_.size a≤cap):Ev (fun n _=>bn_ n a) a:=by
 have hq:=aa_.size_eq a
 refine aS_ ?_
 have h1:=h4_ (a:=a.list) (by omega) fun x hx=>ge_ x (by have:=e8_ aa_.size hx;omega)
 have h2:=gy_ (a:=a.names) (by omega)
 simp only [bn_,ar_ h1,ar_ h2,as_]
 cases a;rfl
termination_by SizeOf.sizeOf a
decreasing_by
 have:=List.sizeOf_lt_of_mem hx
 cases a
 simp at this ⊢
 omega
theorem g6_ {a:aa_} (ha:aa_.size a≤cap):Ev (fun n _=>bn_ n a) a:=ge_ a ha
theorem toJsonS_ev {a:List aa_} (ha:cF_ aa_.size a≤cap):Ev (fun n _=>aK_ n a) a:=h4_ ha fun x hx=>ge_ x (by have:=e8_ aa_.size hx;omega)
theorem kg_ {a:aF_} (ha:aF_.size a≤cap):Ev (fun n _=>bu_ n a) a:=by
 refine aS_ ?_
 simp only [aF_.size] at ha
 have h0:=g6_ (a:=a.doc) (by omega)
 simp only [bu_,aa_.re_eq,aF_.eta,ar_ h0,as_]
theorem toOp_ev {a:TOp} (ha:TOp.size a≤cap):Ev (fun n _=>cs_ n a) a:=by
 refine aS_ ?_
 simp only [TOp.size] at ha
 have h0:=gy_ (a:=a.way) (by omega)
 have h1:=g6_ (a:=a.value) (by omega)
 simp only [cs_,aa_.re_eq,TOp.eta,ar_ h0,ar_ h1,as_]
theorem toOpS_ev {a:List TOp} (ha:(cF_ TOp.size) a≤cap):Ev (fun n _=>a2_ n a) a:=by
 refine aS_ ?_
 have hl:=cG_ TOp.size a
 simp only [cap] at ha
 simp only [a2_,ay_,cx_,decide_eq_true_eq,decide_eq_false_iff_not,not_true_eq_false]
 refine ⟨fun _=>⟨fun _=>⟨fun _ => ?_,fun h=>absurd h (by omega)⟩,fun h=>absurd h (by omega)⟩,fun h=>h⟩
 refine kD_ TOp.dflt a (fun n N i s=>a2_.loop4 n (fun xy3=>(some xy3)) N a (i:Int) s) (fun i s hi hs k => ?_) ?_ _ (by simp)
 · show Ev (fun n N=>a2_.step4 n (fun xy3=>(some xy3)) (a2_.loop4 n (fun xy3=>(some xy3)) N) a (i:Int) s) a
   simp only [a2_.step4,Int.toNat_natCast,ay_,cf_,aa_.re_eq,TOp.eta,ar_ (toOp_ev (a:=a.getD i TOp.dflt) (by have:=e8_ TOp.size (ce_ TOp.dflt hi);simp only [cap];omega)),W_up hi (show a.length≤co_ by simp only [co_];omega)]
   exact ⟨fun _=>⟨⟨by omega,by omega⟩,⟨by omega,by omega⟩,k⟩,fun h=>absurd hi (by simpa using h)⟩
 · show Ev (fun n N=>a2_.step4 n (fun xy3=>(some xy3)) (a2_.loop4 n (fun xy3=>(some xy3)) N) a (a.length:Int) a) a
   simp only [a2_.step4,ay_,as_]
   exact ⟨fun h=>absurd (of_decide_eq_true h) (by omega),fun _=>trivial⟩
theorem lO_ {a:be_} (ha:be_.size a≤cap):Ev (fun n _=>bC_ n a) a:=by
 refine aS_ ?_
 simp only [be_.size] at ha
 have h0:=g6_ (a:=a.doc) (by omega)
 have h1:=toOpS_ev (a:=a.ops) (by omega)
 simp only [bC_,aa_.re_eq,be_.eta,ar_ h0,ar_ h1,as_]
theorem it_ {a:List aa_} (ha:cF_ aa_.size a≤co_) (ih:∀ x ∈ a,Ev (fun n _=>br_ n x x) true):Ev (fun n _=>aQ_ n a a) true:=by
 refine aS_ ?_
 have hl:=cG_ aa_.size a
 simp only [aQ_,ay_,bne_self_eq_false]
 refine ⟨fun h=>(by cases h),fun _ => ?_⟩
 refine ev_up1 (fun n N i=>aQ_.loop6 n (br_ n) (some true) N a a (i:Int)) (fun _=>true) a.length fun i hi k => ?_
 show Ev (fun n N=>aQ_.step6 n (br_ n) (some true) (aQ_.loop6 n (br_ n) (some true) N) a a (i:Int)) true
 by_cases h:i<a.length
 · simp only [aQ_.step6,aa_.re_eq,Int.toNat_natCast,ay_,cf_,ar_ (ih _ (ce_ aa_.dflt h)),bne_self_eq_false,beq_self_eq_true,Bool.not_true,W_up h (show a.length≤co_ by omega)]
   exact ⟨fun _=>⟨⟨by omega,by omega⟩,⟨by omega,by omega⟩,fun h=>(by cases h),fun _=>k h⟩,fun h'=>absurd h (by simpa using h')⟩
 · simp only [aQ_.step6,ay_,as_]
   exact ⟨fun h'=>absurd (of_decide_eq_true h') (by omega),fun _=>trivial⟩
theorem gH_ {a:List Bs} (ha:(cF_ szB) a≤co_):Ev (fun n _=>aC_ n a a) true:=by
 refine aS_ ?_
 have hl:=cG_ szB a
 simp only [aC_,ay_,bne_self_eq_false]
 refine ⟨fun h=>(by cases h),fun _ => ?_⟩
 refine ev_up1 (fun n N i=>aC_.loop6 n (some true) N a a (i:Int)) (fun _=>true) a.length fun i hi k => ?_
 show Ev (fun n N=>aC_.step6 n (some true) (aC_.loop6 n (some true) N) a a (i:Int)) true
 by_cases h:i<a.length
 · simp only [aC_.step6,Int.toNat_natCast,ay_,cf_,bne_self_eq_false,beq_self_eq_true,Bool.not_true,W_up h (show a.length≤co_ by omega)]
   exact ⟨fun _=>⟨⟨by omega,by omega⟩,⟨by omega,by omega⟩,fun h=>(by cases h),fun _=>k h⟩,fun h'=>absurd h (by simpa using h')⟩
 · simp only [aC_.step6,ay_,as_]
   exact ⟨fun h'=>absurd (of_decide_eq_true h') (by omega),fun _=>trivial⟩
theorem gr_ (a:aa_) (ha:aa_.size a≤co_):Ev (fun n _=>br_ n a a) true:=by
 have hq:=aa_.size_eq a
 refine aS_ ?_
 have h1:=it_ (a:=a.list) (by omega) fun x hx=>gr_ x (by have:=e8_ aa_.size hx;omega)
 have h2:=gH_ (a:=a.names) (by omega)
 simp only [br_,ar_ h1,ar_ h2,bne_self_eq_false,beq_self_eq_true,Bool.not_true,cond_false,as_]
termination_by SizeOf.sizeOf a
decreasing_by
 have:=List.sizeOf_lt_of_mem hx
 cases a
 simp at this ⊢
 omega
theorem hA_ {a:aa_} (ha:aa_.size a≤co_):Ev (fun n _=>br_ n a a) true:=gr_ a ha
theorem eqJsonS_ev {a:List aa_} (ha:cF_ aa_.size a≤co_):Ev (fun n _=>aQ_ n a a) true:=it_ ha fun x hx=>gr_ x (by have:=e8_ aa_.size hx;omega)
theorem hB_ {a:aF_} (ha:aF_.size a≤co_):Ev (fun n _=>bv_ n a a) true:=by
 refine aS_ ?_
 simp only [aF_.size] at ha
 have h0:=hA_ (a:=a.doc) (by omega)
 simp only [bv_,aa_.re_eq,aF_.eta,ar_ h0,bne_self_eq_false,beq_self_eq_true,Bool.not_true,cond_false,as_]
theorem eqOp_ev {a:TOp} (ha:TOp.size a≤co_):Ev (fun n _=>cu_ n a a) true:=by
 refine aS_ ?_
 simp only [TOp.size] at ha
 have h0:=gH_ (a:=a.way) (by omega)
 have h1:=hA_ (a:=a.value) (by omega)
 simp only [cu_,aa_.re_eq,TOp.eta,ar_ h0,ar_ h1,bne_self_eq_false,beq_self_eq_true,Bool.not_true,cond_false,as_]
theorem eqOpS_ev {a:List TOp} (ha:(cF_ TOp.size) a≤co_):Ev (fun n _=>a3_ n a a) true:=by
 refine aS_ ?_
 have hl:=cG_ TOp.size a
 simp only [a3_,ay_,bne_self_eq_false]
 refine ⟨fun h=>(by cases h),fun _ => ?_⟩
 refine ev_up1 (fun n N i=>a3_.loop6 n (some true) N a a (i:Int)) (fun _=>true) a.length fun i hi k => ?_
 show Ev (fun n N=>a3_.step6 n (some true) (a3_.loop6 n (some true) N) a a (i:Int)) true
 by_cases h:i<a.length
 · simp only [a3_.step6,Int.toNat_natCast,ay_,cf_,aa_.re_eq,TOp.eta,ar_ (eqOp_ev (a:=a.getD i TOp.dflt) (by have:=e8_ TOp.size (ce_ TOp.dflt h);omega)),bne_self_eq_false,beq_self_eq_true,Bool.not_true,W_up h (show a.length≤co_ by omega)]
   exact ⟨fun _=>⟨⟨by omega,by omega⟩,⟨by omega,by omega⟩,fun h=>(by cases h),fun _=>k h⟩,fun h'=>absurd h (by simpa using h')⟩
 · simp only [a3_.step6,ay_,as_]
   exact ⟨fun h'=>absurd (of_decide_eq_true h') (by omega),fun _=>trivial⟩
theorem mi_ {a:be_} (ha:be_.size a≤co_):Ev (fun n _=>bR_ n a a) true:=by
 refine aS_ ?_
 simp only [be_.size] at ha
 have h0:=hA_ (a:=a.doc) (by omega)
 have h1:=eqOpS_ev (a:=a.ops) (by omega)
 simp only [bR_,aa_.re_eq,be_.eta,ar_ h0,ar_ h1,bne_self_eq_false,beq_self_eq_true,Bool.not_true,cond_false,as_]
theorem ek_ (n:Nat) (k0:Bs→Option Bs) (N:Nat) (k:Int) (out:Bs):aB_.loop6 n k0 (N+1) k out=aB_.step6 n k0 (aB_.loop6 n k0 N) k out:=rfl
theorem fC_ (k:Int) (hk:k≤co_):∃ t,Ev (fun n _=>aB_ n k) t:=by
 by_cases h0:k≤0
 · exact ⟨[109,48],aS_ (by simp only [aB_,ay_,as_];exact ⟨fun _=>trivial,fun h=>absurd h0 (of_decide_eq_false h)⟩)⟩
 have key:∀ (j:Nat) (k:Int) (out:Bs),k<10 ^ j→k≤co_→out.length+j≤100→∃ t,Ev (fun n N=>aB_.loop6 n (fun xy2=>(cond (decide ([109].length+xy2.length≤9223372036854775807)) (some (([109]:Bs)++xy2)) none)) N k out) t:=by
  intro j
  induction j with
  |zero=>
   intro k out hj hk ho
   refine ⟨[109]++out,b3_ ?_⟩
   simp only [ek_,aB_.step6,ay_,as_,cx_]
   exact ⟨fun h=>absurd (of_decide_eq_true h) (by simp at hj;omega),fun _=>⟨fun _=>trivial,fun h=>absurd (of_decide_eq_false h) (by simp;omega)⟩⟩
  |succ j ih=>
   intro k out hj hk ho
   by_cases hp:k > 0
   · have e1:Int.tdiv k 10=k / 10:=Int.tdiv_eq_ediv_of_nonneg (by omega)
     have e2:W (Int.tdiv k 10)=k / 10:=by rw [e1];exact W_id (by omega) (by simp only [co_] at hk;omega)
     obtain ⟨t,ht⟩:=ih (k / 10) ((je_ ([(IntKind.u8.wrap ((W (48+(Int.tmod k 10)))))]:List Int))++out) (by rw [Int.pow_succ] at hj;omega) (by simp only [co_] at hk ⊢;omega) (by simp [je_];omega)
     refine ⟨t,b3_ ?_⟩
     simp only [ek_,aB_.step6,ay_,cx_,e2]
     exact ⟨fun _=>⟨fun _=>ht,fun h=>absurd (of_decide_eq_false h) (by simp [je_];omega)⟩,fun h=>absurd hp (of_decide_eq_false h)⟩
   · refine ⟨[109]++out,b3_ ?_⟩
     simp only [ek_,aB_.step6,ay_,as_,cx_]
     exact ⟨fun h=>absurd (of_decide_eq_true h) hp,fun _=>⟨fun _=>trivial,fun h=>absurd (of_decide_eq_false h) (by simp;omega)⟩⟩
 obtain ⟨t,ht⟩:=key 19 k [] (by simp only [co_] at hk;omega) hk (by simp)
 refine ⟨t,aS_ ?_⟩
 simp only [aB_,ay_]
 exact ⟨fun h=>absurd (of_decide_eq_true h) h0,fun _=>c1_ (f:=fun n N=>aB_.loop6 n _ N k []) ht⟩
theorem ds_ {a:List Bs} {k:Int} (ha:a.length≤co_) (hk:0≤k) (hb:k+32*((cF_ szB) a:Nat)≤co_) :
  ∃ k' a',k≤k'∧k'≤k+32*((cF_ szB) a:Nat)∧a'.length=a.length∧Ev (fun n _=>al_ n a k) (k',a')∧Ev (fun n _=>ao_ n a' k) k':=by
 refine (mark_list [] szB (fun n N k i a=>al_.loop3 n (fun xy3 xy4=>(some (xy3,xy4))) N k (i:Int) a) (fun n N a k i=>ao_.loop3 n (fun xy2=>(some xy2)) N a k (i:Int)) (fun i a k hi ha hk hb => ?_) (fun a k => ?_) (fun a k => ?_) a k ha hk hb).elim fun k' ⟨a',h1,h2,h3,h4,h5⟩=>⟨k',a',h1,h2,h3,aS_ h4,aS_ h5⟩
 · generalize hx:a.getD i []=x at *
   simp only [szB] at hb ⊢
   obtain ⟨t0,ht0⟩:=fC_ (k) (by omega)
   refine ⟨k+1,t0,by omega,by omega,fun F hF => ?_,fun b F hi' hb' hxb hF => ?_⟩
   · show Ev (fun n N=>al_.step3 n (fun xy3 xy4=>(some (xy3,xy4))) (al_.loop3 n (fun xy3 xy4=>(some (xy3,xy4))) N) k (i:Int) a) F
     simp only [al_.step3,Int.toNat_natCast,ay_,cf_,List.length_set,List.set_set,i3_ [] hi,hx,ar_ ht0,eD_ (k:=k) (by omega) (by omega),W_up hi ha,decide_eq_true_eq,decide_eq_false_iff_not,Nat.beq_refl]
     refine ⟨fun _ => ?_,fun h=>absurd hi (by simpa using h)⟩
     repeat' (first|exact hF|apply And.intro|intro _|omega)
     all_goals (first|exact hF|(simp_all;done)|omega)
   · show Ev (fun n N=>ao_.step3 n (fun xy2=>(some xy2)) (ao_.loop3 n (fun xy2=>(some xy2)) N) b k (i:Int)) F
     simp only [ao_.step3,Int.toNat_natCast,ay_,cf_,hxb,bne_self_eq_false,beq_self_eq_true,Bool.not_true,cond_false,ar_ ht0,eD_ (k:=k) (by omega) (by omega),W_up hi' hb',decide_eq_true_eq,decide_eq_false_iff_not]
     refine ⟨fun _ => ?_,fun h=>absurd hi' (by simpa using h)⟩
     repeat' (first|exact hF|apply And.intro|intro _|omega)
     all_goals (first|exact hF|(simp_all;done)|omega)
 · show Ev (fun n N=>al_.step3 n (fun xy3 xy4=>(some (xy3,xy4))) (al_.loop3 n (fun xy3 xy4=>(some (xy3,xy4))) N) k (a.length:Int) a) _
   simp only [al_.step3,ay_,as_]
   exact ⟨fun h=>absurd (of_decide_eq_true h) (by omega),fun _=>trivial⟩
 · show Ev (fun n N=>ao_.step3 n (fun xy2=>(some xy2)) (ao_.loop3 n (fun xy2=>(some xy2)) N) a k (a.length:Int)) _
   simp only [ao_.step3,ay_,as_]
   exact ⟨fun h=>absurd (of_decide_eq_true h) (by omega),fun _=>trivial⟩
theorem fV_ (a:List aa_) (k:Int) (ha:a.length≤co_) (hk:0≤k) (hb:k+32*((cF_ aa_.size) a:Nat)≤co_) :
  ∃ k' a',k≤k'∧k'≤k+32*((cF_ aa_.size) a:Nat)∧a'.length=a.length∧Ev (fun n _=>ap_ n a k) (k',a')∧Ev (fun n _=>aq_ n a' k) k':=by
 have hq:∀ i,i<a.length→a.getD i aa_.dflt ∈ a:=fun i hi=>ce_ aa_.dflt hi
 obtain ⟨a0,ha0⟩:∃ a0,a0=a:=⟨_,rfl⟩
 refine (ih_ (fun x=>x ∈ a0) aa_.dflt aa_.size (fun n N k i a=>ap_.loop3 n (ap_ n) (fun xy9 xy10=>(some (xy9,xy10))) N k (i:Int) a) (fun n N a k i=>aq_.loop3 n (aq_ n) (fun xy4=>(some xy4)) N a k (i:Int)) (fun i a k hi hxm ha hk hb => ?_) (fun a k => ?_) (fun a k => ?_) a k (by rw [ha0];exact hq) ha hk hb).elim fun k' ⟨a',h1,h2,h3,h4,h5⟩=>⟨k',a',h1,h2,h3,aS_ h4,aS_ h5⟩
 · clear hq
   generalize hx:a.getD i aa_.dflt=x at *
   rw [ha0] at hxm
   have hdec:=aa_.dec hxm
   simp only [aa_.size_eq] at hb ⊢
   obtain ⟨t2,ht2⟩:=fC_ ((k+1)+1) (by omega)
   obtain ⟨k3,y3,u3,v3,l3,e3,g3⟩:=fV_ x.list (((k+1)+1)+1) (by have:=cG_ aa_.size (x.list);omega) (by omega) (by omega)
   obtain ⟨k4,y4,u4,v4,l4,e4,g4⟩:=ds_ (a:=x.names) (k:=k3) (by have:=cG_ szB (x.names);omega) (by omega) (by omega)
   refine ⟨k4,(aa_.mk k (k+1) t2 y3 y4),by omega,by omega,fun F hF => ?_,fun b F hi' hb' hxb hF => ?_⟩
   · show Ev (fun n N=>ap_.step3 n (ap_ n) (fun xy9 xy10=>(some (xy9,xy10))) (ap_.loop3 n (ap_ n) (fun xy9 xy10=>(some (xy9,xy10))) N) k (i:Int) a) F
     simp only [ap_.step3,Int.toNat_natCast,ay_,cf_,List.length_set,List.set_set,i3_ aa_.dflt hi,hx,ar_ ht2,ar_ e3,ar_ e4,aa_.re_eq,eD_ (k:=k) (by omega) (by omega),eD_ (k:=k+1) (by omega) (by omega),eD_ (k:=(k+1)+1) (by omega) (by omega),l3,l4,W_up hi ha,decide_eq_true_eq,decide_eq_false_iff_not,Nat.beq_refl]
     refine ⟨fun _ => ?_,fun h=>absurd hi (by simpa using h)⟩
     repeat' (first|exact hF|apply And.intro|intro _|omega)
     all_goals (first|exact hF|(simp_all;done)|omega)
   · show Ev (fun n N=>aq_.step3 n (aq_ n) (fun xy4=>(some xy4)) (aq_.loop3 n (aq_ n) (fun xy4=>(some xy4)) N) b k (i:Int)) F
     simp only [aq_.step3,Int.toNat_natCast,ay_,cf_,hxb,bne_self_eq_false,beq_self_eq_true,Bool.not_true,cond_false,ar_ g3,ar_ g4,ar_ ht2,aa_.re_eq,eD_ (k:=k) (by omega) (by omega),eD_ (k:=k+1) (by omega) (by omega),eD_ (k:=(k+1)+1) (by omega) (by omega),l3,l4,W_up hi' hb',decide_eq_true_eq,decide_eq_false_iff_not]
     refine ⟨fun _ => ?_,fun h=>absurd hi' (by simpa using h)⟩
     repeat' (first|exact hF|apply And.intro|intro _|omega)
     all_goals (first|exact hF|(simp_all;done)|omega)
 · show Ev (fun n N=>ap_.step3 n (ap_ n) (fun xy9 xy10=>(some (xy9,xy10))) (ap_.loop3 n (ap_ n) (fun xy9 xy10=>(some (xy9,xy10))) N) k (a.length:Int) a) _
   simp only [ap_.step3,ay_,as_]
   exact ⟨fun h=>absurd (of_decide_eq_true h) (by omega),fun _=>trivial⟩
 · show Ev (fun n N=>aq_.step3 n (aq_ n) (fun xy4=>(some xy4)) (aq_.loop3 n (aq_ n) (fun xy4=>(some xy4)) N) a k (a.length:Int)) _
   simp only [aq_.step3,ay_,as_]
   exact ⟨fun h=>absurd (of_decide_eq_true h) (by omega),fun _=>trivial⟩
termination_by SizeOf.sizeOf a
decreasing_by assumption
theorem gE_ {a:List aa_} {k:Int} (ha:a.length≤co_) (hk:0≤k) (hb:k+32*(cF_ aa_.size a:Nat)≤co_) :
  ∃ k' a',k≤k'∧k'≤k+32*(cF_ aa_.size a:Nat)∧a'.length=a.length∧Ev (fun n _=>ap_ n a k) (k',a')∧Ev (fun n _=>aq_ n a' k) k':=fV_ a k ha hk hb
theorem hn_ {a:aa_} {k:Int} (hk:0≤k) (hb:k+32*(aa_.size a:Nat)≤co_) :
  ∃ k' y0 y1,k≤k'∧k'≤k+32*(aa_.size a:Nat)∧y0.length=a.list.length∧y1.length=a.names.length∧Ev (fun n _=>by_ n a k) (k',y0,y1)∧Ev (fun n _=>bG_ n (aa_.mk a.kind a.n_ a.s y0 y1) k) k':=by
 simp only [aa_.size_eq] at hb ⊢
 obtain ⟨k3,y0,u3,v3,ly0,e3,g3⟩:=gE_ (a:=a.list) (k:=k) (by have:=cG_ aa_.size (a.list);omega) (by omega) (by omega)
 obtain ⟨k4,y1,u4,v4,ly1,e4,g4⟩:=ds_ (a:=a.names) (k:=k3) (by have:=cG_ szB (a.names);omega) (by omega) (by omega)
 refine ⟨k4,y0,y1,by omega,by omega,ly0,ly1,aS_ ?_,aS_ ?_⟩
 · simp only [by_,aa_.re_eq,ar_ e3,ar_ e4,ly0,ly1,Nat.beq_refl,List.length_nil,cond_true,as_]
 · simp only [bG_,aa_.re_eq,ar_ g3,ar_ g4,ay_,as_,decide_eq_true_eq,decide_eq_false_iff_not]
   repeat' (first|apply And.intro|intro _)
   all_goals (first|trivial|rfl|(exfalso;omega)|omega)
theorem fW_ {a:aF_} {k:Int} (hk:0≤k) (hb:k+32*(aF_.size a:Nat)≤co_) :
  ∃ k' y0 y1,k≤k'∧k'≤k+32*(aF_.size a:Nat)∧y0.length=a.doc.list.length∧y1.length=a.doc.names.length∧Ev (fun n _=>bj_ n a k) (k',y0,y1)∧Ev (fun n _=>bk_ n { a with doc:=(aa_.mk a.doc.kind a.doc.n_ a.doc.s y0 y1) } k) k':=by
 simp only [aF_.size] at hb ⊢
 obtain ⟨k0,y0,y1,u0,v0,ly0,ly1,e0,g0⟩:=hn_ (a:=a.doc) (k:=k) (by omega) (by omega)
 refine ⟨k0,y0,y1,by omega,by omega,ly0,ly1,aS_ ?_,aS_ ?_⟩
 · simp only [bj_,aa_.re_eq,aF_.eta,ar_ e0,ly0,ly1,Nat.beq_refl,List.length_nil,cond_true,as_]
 · simp only [bk_,aa_.re_eq,aF_.eta,ar_ g0,ay_,as_,decide_eq_true_eq,decide_eq_false_iff_not]
   repeat' (first|apply And.intro|intro _)
   all_goals (first|trivial|rfl|(exfalso;omega)|omega)
theorem l2_ {a:List TOp} {k:Int} (ha:a.length≤co_) (hk:0≤k) (hb:k+32*((cF_ TOp.size) a:Nat)≤co_) :
  ∃ k' a',k≤k'∧k'≤k+32*((cF_ TOp.size) a:Nat)∧a'.length=a.length∧Ev (fun n _=>aP_ n a k) (k',a')∧True:=by
 refine (l1_ TOp.dflt TOp.size (fun n N k i a=>aP_.loop3 n (fun xy12 xy13=>(some (xy12,xy13))) N k (i:Int) a) (fun i a k hi ha hk hb => ?_) (fun a k => ?_) a k ha hk hb).elim fun k' ⟨a',h1,h2,h3,h4,h5⟩=>⟨k',a',h1,h2,h3,aS_ h4,h5⟩
 · generalize hx:a.getD i TOp.dflt=x at *
   simp only [TOp.size,aa_.size_eq] at hb ⊢
   obtain ⟨k1,y1,u1,v1,l1,e1,g1⟩:=ds_ (a:=x.way) (k:=k+1) (by have:=cG_ szB (x.way);omega) (by omega) (by omega)
   obtain ⟨t4,ht4⟩:=fC_ ((k1+1)+1) (by omega)
   obtain ⟨k5,y5,u5,v5,l5,e5,g5⟩:=gE_ (a:=x.value.list) (k:=((k1+1)+1)+1) (by have:=cG_ aa_.size (x.value.list);omega) (by omega) (by omega)
   obtain ⟨k6,y6,u6,v6,l6,e6,g6⟩:=ds_ (a:=x.value.names) (k:=k5) (by have:=cG_ szB (x.value.names);omega) (by omega) (by omega)
   refine ⟨k6,(TOp.mk k y1 (aa_.mk k1 (k1+1) t4 y5 y6)),by omega,by omega,fun F hF => ?_⟩
   · show Ev (fun n N=>aP_.step3 n (fun xy12 xy13=>(some (xy12,xy13))) (aP_.loop3 n (fun xy12 xy13=>(some (xy12,xy13))) N) k (i:Int) a) F
     simp only [aP_.step3,Int.toNat_natCast,ay_,cf_,List.length_set,List.set_set,i3_ TOp.dflt hi,hx,ar_ e1,ar_ ht4,ar_ e5,ar_ e6,aa_.re_eq,TOp.eta,eD_ (k:=k) (by omega) (by omega),l1,eD_ (k:=k1) (by omega) (by omega),eD_ (k:=k1+1) (by omega) (by omega),eD_ (k:=(k1+1)+1) (by omega) (by omega),l5,l6,W_up hi ha,decide_eq_true_eq,decide_eq_false_iff_not,Nat.beq_refl]
     refine ⟨fun _ => ?_,fun h=>absurd hi (by simpa using h)⟩
     repeat' (first|exact hF|apply And.intro|intro _|omega)
     all_goals (first|exact hF|(simp_all;done)|omega)
 · show Ev (fun n N=>aP_.step3 n (fun xy12 xy13=>(some (xy12,xy13))) (aP_.loop3 n (fun xy12 xy13=>(some (xy12,xy13))) N) k (a.length:Int) a) _
   simp only [aP_.step3,ay_,as_]
   exact ⟨fun h=>absurd (of_decide_eq_true h) (by omega),fun _=>trivial⟩
theorem jH_ {a:be_} {k:Int} (hk:0≤k) (hb:k+32*(be_.size a:Nat)≤co_) :
  ∃ k' y0 y1 y2,k≤k'∧k'≤k+32*(be_.size a:Nat)∧y0.length=a.doc.list.length∧y1.length=a.doc.names.length∧y2.length=a.ops.length∧Ev (fun n _=>bw_ n a k) (k',y0,y1,y2)∧True:=by
 simp only [be_.size] at hb ⊢
 obtain ⟨k3,y0,y1,u3,v3,ly0,ly1,e3,g3⟩:=hn_ (a:=a.doc) (k:=k) (by omega) (by omega)
 obtain ⟨k4,y2,u4,v4,ly2,e4,g4⟩:=l2_ (a:=a.ops) (k:=k3) (by have:=cG_ TOp.size (a.ops);omega) (by omega) (by omega)
 refine ⟨k4,y0,y1,y2,by omega,by omega,ly0,ly1,ly2,aS_ ?_,trivial⟩
 · simp only [bw_,aa_.re_eq,be_.eta,ar_ e3,ar_ e4,ly0,ly1,ly2,Nat.beq_refl,List.length_nil,cond_true,as_]
end Go.Pi
end
section
namespace Go.Pi
def dB_ (l:List TOp):Nat:=l.findIdx fun o=>(cK_ o).kind == 0
def eG_ (l:List TOp):aa_:=aa_.mk 4 0 [] (l.map cK_) []
def fg_ (l:List TOp):Int:=cond (decide (dB_ l<l.length)) (-1) (cond (c7_ (eG_ l) == []) (-1) ((c7_ (eG_ l)).length:Int))
theorem ix_ {l:List TOp} {i:Nat} (hi:i<dB_ l):((cK_ (l.getD i TOp.dflt)).kind == 0)=false:=by
 have hl:dB_ l≤l.length:=List.findIdx_le_length
 rw [List.getD_eq_getElem?_getD,List.getElem?_eq_getElem (by omega),Option.getD_some]
 have:=List.not_of_lt_findIdx (xs:=l) (p:=fun o=>(cK_ o).kind == 0) (i:=i) hi
 simpa using this
theorem bad_at {l:List TOp} (h:dB_ l<l.length):((cK_ (l.getD (dB_ l) TOp.dflt)).kind == 0)=true:=by
 rw [List.getD_eq_getElem?_getD,List.getElem?_eq_getElem h,Option.getD_some]
 exact List.findIdx_getElem (xs:=l) (p:=fun o=>(cK_ o).kind == 0) (w:=h)
theorem lg_ {α β:Type} (f:α→β) (d:α) {a:List α} {i:Nat} (h:i<a.length):(a.take (i+1)).map f=(a.take i).map f++[f (a.getD i d)]:=by
 rw [c5_ d h,List.map_append];rfl
def hp_ (l:List TOp):Prop:=l.length≤4000000∧∀ o ∈ l,iS_ o
theorem ll_ {l:List TOp} (h:hp_ l):fo_ 6 (eG_ l):=by
 refine ⟨⟨Nat.zero_le _,Nat.zero_le _,fun x hx=>(by cases hx)⟩,by have:=h.1;simp [eG_,co_];omega,fun x hx => ?_⟩
 obtain ⟨o,ho,e⟩:=List.mem_map.1 hx
 rw [←e];exact iT_ 5 _ (kt_ (h.2 o ho))
theorem hu_ {l:List TOp} (h:hp_ l):Ev (fun n _=>aN_ n l) (cond (decide (dB_ l<l.length)) (fj_,false) (eG_ l,true)):=by
 refine aS_ ?_
 have hl:=h.1
 have ht:l.length≤co_:=by simp only [co_];omega
 have hb:dB_ l≤l.length:=List.findIdx_le_length
 simp only [aN_]
 have:=ea_ (fun i=>(l.take i).map cK_) (dB_ l) (fun n N i (o:List aa_)=>aN_.loop4 n (fun xy2 xy3 xy4 xy5 xy6 xy7 xy8=>(some ((aa_.mk xy5 xy6 xy7 xy8 ([]:List Bs)),true))) N l (l.length:Int) (i:Int) 0 0 [] 4 0 [] o) (cond (decide (dB_ l<l.length)) (fj_,false) (eG_ l,true)) (fun i hi F hF => ?_) ?_
 · exact this
 · have hi2:i<l.length:=by omega
   have hx:=fs_ (h.2 _ (ce_ TOp.dflt hi2))
   rw [lg_ cK_ TOp.dflt hi2] at hF
   have hol:((l.take i).map cK_).length≤i:=by simp;omega
   generalize (l.take i).map cK_=o at hF hol ⊢
   simp only [aN_.turn4,aN_.step4,bA_,dD_,Int.toNat_natCast,W_up hi2 ht,cW_ hi2,cJ_ hi2,ix_ hi,cond_true,cond_false,cf_,cz_,ar_ hx]
   exact ⟨trivial,by simp;omega,hF⟩
 · by_cases hp:dB_ l<l.length
   · have hx:=fs_ (h.2 _ (ce_ TOp.dflt hp))
     simp only [aN_.turn4,aN_.step4,bA_,dD_,Int.toNat_natCast,cW_ hp,cJ_ hp,bad_at hp,cond_true,cf_,ar_ hx,as_]
     rw [decide_eq_true hp]
     exact ⟨trivial,rfl⟩
   · have e:dB_ l=l.length:=by omega
     rw [decide_eq_false hp,cond_false]
     unfold eG_
     rw [e,List.take_length]
     simp only [aN_.turn4,aN_.step4,cH_,cond_false,as_]
theorem go_ {l:List TOp} (h:hp_ l):Ev (fun n _=>bx_ n l) (fg_ l):=by
 refine aS_ ?_
 simp only [bx_,bA_,ar_ (hu_ h)]
 unfold fg_
 cases hp:decide (dB_ l<l.length) with
 |true=>
  simp only [cond_true,ar_ (d2_ (hq_ 6)),ay_,as_]
  simp
 |false=>
  simp only [cond_false,ar_ (d2_ (ll_ h)),ay_,as_]
  generalize c7_ (eG_ l)=s
  cases (s == [])<;>simp
theorem fY_:∀ (d:Nat) (j:aa_),aa_.len j→fo_ d j
 |0,_,_=>trivial
 |d+1,j,h=>by
  have hq:=(aa_.len_iff j).1 h
  exact ⟨⟨hq.1,hq.2.2.1,hq.2.2.2⟩,hq.2.1.1,fun x hx=>fY_ d x (hq.2.1.2 x hx)⟩
end Go.Pi
end
section
namespace Go.Pi
def dg_:aa_→List TOp→aa_ × Bool
 |j,[]=>(j,true)
 |j,o::l=>cond (eE_ j o).2 (dg_ (eE_ j o).1 l) (fj_,false)
def cX_ (j:aa_) (l:List TOp):aa_ × Bool:=cond (cp_ j&&decide (l.length≤40)) (dg_ j l) (fj_,false)
theorem fA_ {j:aa_} {o:TOp} (h:(eE_ j o).2=true):cp_ (eE_ j o).1=true:=by
 unfold eE_ at h ⊢
 cases h1:(cp_ j&&e5_ o)<;>rw [h1] at h
 · cases h
 · simp only [cond_true] at h ⊢
   cases hf:FPat 6 j o.way o with
   |none=>rw [hf] at h;cases h
   |some y=>
    rw [hf] at h
    simp only at h ⊢
    cases hy:cp_ y<;>rw [hy] at h
    · cases h
    · exact hy
theorem fR_:∀ {l:List TOp} {j:aa_},cp_ j=true→(dg_ j l).2=true→cp_ (dg_ j l).1=true
 |[],j,hj,_=>hj
 |o::l,j,hj,h=>by
  unfold dg_ at h ⊢
  cases hp:(eE_ j o).2<;>rw [hp] at h
  · cases h
  · exact fR_ (fA_ hp) h
theorem hW_ {l:List TOp} {j:aa_} (h:(cX_ j l).2=true):cp_ (cX_ j l).1=true:=by
 unfold cX_ at h ⊢
 cases h1:(cp_ j&&decide (l.length≤40))<;>rw [h1] at h
 · cases h
 · rw [Bool.and_eq_true] at h1
   exact fR_ h1.1 h
theorem gt40 (n:Nat):decide ((n:Int) > 40) = !decide (n≤40):=by
 by_cases h:n≤40
 · rw [decide_eq_true h,decide_eq_false (by omega)];rfl
 · rw [decide_eq_false h,decide_eq_true (by omega)];rfl
theorem ok_lenJ {j:aa_} (h:cp_ j=true):fo_ 6 j:=cM_ 6 j (of_decide_eq_true h)
theorem gS_ {j:aa_} {l:List TOp} (hj:fo_ 6 j) (hl:hp_ l):Ev (fun n _=>aH_ n j l) (cX_ j l):=by
 refine aS_ ?_
 simp only [aH_,bA_,gt40,ar_ (cZ_ hj),ay_,as_]
 unfold cX_
 cases h1:cp_ j
 · exact ⟨fun _=>rfl,fun h=>(by cases h)⟩
 · refine ⟨fun h=>(by cases h),fun _ => ?_⟩
   cases h2:decide (l.length≤40)
   · exact ⟨fun _=>rfl,fun h=>(by cases h)⟩
   · refine ⟨fun h=>(by cases h),fun _ => ?_⟩
     have hC:=cN_ 6 j (of_decide_eq_true h1)
     simp only [ar_ hC,Bool.and_true,cond_true]
     have key:∀ (m i:Nat) (v:aa_),i+m=l.length→cp_ v=true →
       Ev (fun n N=>aH_.loop7 n (fun xy4 xy5 xy6 xy7 xy8 xy9 xy10 xy11=>(some ((aa_.mk xy7 xy8 xy9 xy10 xy11),true))) N l (l.length:Int) (i:Int) 0 0 [] v.kind v.n_ v.s v.list v.names) (dg_ v (l.drop i)):=by
      intro m
      induction m with
      |zero=>
       intro i v hi hv
       have e:i=l.length:=by omega
       subst e
       refine b3_ ?_
       simp only [aH_.turn7,aH_.step7,cH_,cond_false,as_,List.drop_length,dg_,cU_]
      |succ m ih=>
       intro i v hi hv
       have hlt:i<l.length:=by omega
       have hP:=iZ_ (j:=v) (o:=l.getD i TOp.dflt) (ok_lenJ hv) (hl.2 _ (ce_ _ hlt))
       have hW:=W_up hlt (show l.length≤co_ by have:=hl.1;simp only [co_];omega)
       rw [e0_ TOp.dflt hlt]
       refine b3_ ?_
       simp only [aH_.turn7,aH_.step7,bA_,cU_,dD_,cW_ hlt,cond_true,cf_,cJ_ hlt,true_and,Int.toNat_natCast,hW,ar_ hP,ay_,as_,dg_]
       cases hp:(eE_ v (l.getD i TOp.dflt)).2
       · exact ⟨fun _=>rfl,fun h=>(by cases h)⟩
       · exact ⟨fun h=>(by cases h),fun _=>ih (i+1) _ (by omega) (fA_ hp)⟩
     exact c1_ (key l.length 0 j (by omega) h1)
theorem gO_ {j:aa_} {l:List TOp} (hj:fo_ 6 j) (hl:hp_ l):Ev (fun n _=>aI_ n j l) (cX_ j l):=by
 refine aS_ ?_
 simp only [aI_,bA_,gt40,ar_ (cY_ hj),ay_,as_]
 unfold cX_
 cases h1:cp_ j
 · exact ⟨fun _=>rfl,fun h=>(by cases h)⟩
 · refine ⟨fun h=>(by cases h),fun _ => ?_⟩
   cases h2:decide (l.length≤40)
   · exact ⟨fun _=>rfl,fun h=>(by cases h)⟩
   · refine ⟨fun h=>(by cases h),fun _ => ?_⟩
     have hC:=cQ_ 6 j (of_decide_eq_true h1)
     simp only [ar_ hC,Bool.and_true,cond_true]
     have key:∀ (m i:Nat) (v:aa_),i+m=l.length→cp_ v=true →
       Ev (fun n N=>aI_.loop7 n (fun xy4 xy5 xy6 xy7 xy8 xy9 xy10 xy11=>(some ((aa_.mk xy7 xy8 xy9 xy11 xy10),true))) N l (i:Int) 0 0 [] v.kind v.n_ v.s v.names v.list) (dg_ v (l.drop i)):=by
      intro m
      induction m with
      |zero=>
       intro i v hi hv
       have e:i=l.length:=by omega
       subst e
       refine b3_ ?_
       simp only [aI_.turn7,aI_.step7,cH_,cond_false,as_,List.drop_length,dg_,cU_]
      |succ m ih=>
       intro i v hi hv
       have hlt:i<l.length:=by omega
       have hP:=iD_ (j:=v) (o:=l.getD i TOp.dflt) (ok_lenJ hv) (hl.2 _ (ce_ _ hlt))
       have hW:=W_up hlt (show l.length≤co_ by have:=hl.1;simp only [co_];omega)
       rw [e0_ TOp.dflt hlt]
       refine b3_ ?_
       simp only [aI_.turn7,aI_.step7,bA_,cU_,dD_,cW_ hlt,cond_true,cf_,cJ_ hlt,true_and,Int.toNat_natCast,hW,ar_ hP,ay_,as_,dg_]
       cases hp:(eE_ v (l.getD i TOp.dflt)).2
       · exact ⟨fun _=>rfl,fun h=>(by cases h)⟩
       · exact ⟨fun h=>(by cases h),fun _=>ih (i+1) _ (by omega) (fA_ hp)⟩
     exact c1_ (key l.length 0 j (by omega) h1)
end Go.Pi
end
section
namespace Go.Pi
theorem dl_ (j:aa_) (h:aa_.size j≤4000000000):Ev (fun n _=>ak_ n j) j:=by
 have e:=aa_.size_eq j
 have e1:cF_ aa_.size j.list=j.list.length+dK_ aa_.size j.list:=rfl
 have e2:cF_ szB j.names=j.names.length+dK_ szB j.names:=rfl
 have hx:∀ x ∈ j.list,Ev (fun n _=>ak_ n x) x:=fun x hx=>dl_ x (by have:=eJ_ aa_.size hx;omega)
 refine aS_ ?_
 have hc:Ev (fun n _=>bq_ n j.names) j.names:=aS_ (by simp only [bq_,cz_,as_,List.nil_append,List.length_nil,and_true];omega)
 simp only [ak_,ar_ hc]
 have:=ea_ (fun i=>j.list.take i) j.list.length (fun n N i (o:List aa_)=>ak_.loop4 n (ak_ n) (fun xy3 xy4 xy5 xy6 xy7 xy8 xy9 xy10=>(some (aa_.mk xy6 xy7 xy8 xy9 xy10))) N j.list (j.list.length:Int) (i:Int) 0 0 [] j.kind j.n_ j.s o j.names) j (fun i hi F hF => ?_) ?_
 · exact this
 · have hx:=hx _ (ce_ aa_.dflt hi)
   rw [c5_ aa_.dflt hi] at hF
   simp only [ak_.turn4,ak_.step4,bA_,Int.toNat_natCast,W_up hi (show j.list.length≤co_ by simp only [co_];omega),ay_,cf_,cz_,cW_ hi,cJ_ hi,ar_ hx]
   exact ⟨fun _=>⟨trivial,by simp;omega,hF⟩,fun h=>(by cases h)⟩
 · simp only [ak_.turn4,ak_.step4,cH_,cond_false,List.take_length,as_,cU_]
termination_by SizeOf.sizeOf j.list
decreasing_by exact aa_.dec hx
theorem dL_ (j:aa_) (h:aa_.size j≤4000000000):Ev (fun n _=>aA_ n j) j:=by
 have e:=aa_.size_eq j
 have e1:cF_ aa_.size j.list=j.list.length+dK_ aa_.size j.list:=rfl
 have e2:cF_ szB j.names=j.names.length+dK_ szB j.names:=rfl
 have hx:∀ x ∈ j.list,Ev (fun n _=>aA_ n x) x:=fun x hx=>dL_ x (by have:=eJ_ aa_.size hx;omega)
 refine aS_ ?_
 simp only [aA_,cz_,List.nil_append,List.length_nil]
 refine ⟨by omega,?_⟩
 have:=ea_ (fun i=>j.list.take i) j.list.length (fun n N i (o:List aa_)=>aA_.loop4 n (aA_ n) (fun xy2 xy3 xy4 xy5 xy6 xy7 xy8 xy9=>(some (aa_.mk xy5 xy6 xy7 xy8 xy9))) N (i:Int) j.kind j.n_ j.s j.list j.names 0 0 [] j.kind j.n_ j.s o j.names) j (fun i hi F hF => ?_) ?_
 · exact this
 · have hx:=hx _ (ce_ aa_.dflt hi)
   rw [c5_ aa_.dflt hi] at hF
   simp only [aA_.turn4,aA_.step4,bA_,Int.toNat_natCast,W_up hi (show j.list.length≤co_ by simp only [co_];omega),ay_,cf_,cz_,cW_ hi,cJ_ hi,ar_ hx]
   exact ⟨fun _=>⟨trivial,by simp;omega,hF⟩,fun h=>(by cases h)⟩
 · simp only [aA_.turn4,aA_.step4,cH_,cond_false,List.take_length,as_,cU_]
termination_by SizeOf.sizeOf j.list
decreasing_by exact aa_.dec hx
end Go.Pi
end
section
namespace Go.Pi
theorem gN_ {j:aa_}:Ev (fun n _=>ae_ n j (aa_.mk 0 0 [] [] [])) (gW_ j):=by
 refine aS_ ?_
 simp only [ae_,ay_,as_,gW_]
 by_cases h1:j.list=[]
 · by_cases h2:j.names=[]
   · have hL:Ev (fun n _=>ae_.loop6 n (ae_ n) (fun xy2 xy3 xy4 xy5 xy6 xy7 xy8 xy9 xy10 xy11=>(ae_.loop14 n (ae_ n) (some true) n 0 xy2 xy3 xy4 xy5 xy6 xy7 xy8 xy9 xy10 xy11)) n 0 j.kind j.n_ j.s [] [] 0 0 [] [] []) true :=
      c1_ (f:=fun n N=>ae_.loop6 n (ae_ n) (fun xy2 xy3 xy4 xy5 xy6 xy7 xy8 xy9 xy10 xy11=>(ae_.loop14 n (ae_ n) (some true) n 0 xy2 xy3 xy4 xy5 xy6 xy7 xy8 xy9 xy10 xy11)) N 0 j.kind j.n_ j.s [] [] 0 0 [] [] []) (b3_ (c1_ (f:=fun n N=>ae_.loop14 n (ae_ n) (some true) N 0 j.kind j.n_ j.s [] [] 0 0 [] [] []) (b3_ ⟨0,fun _ _ _ _=>rfl⟩)))
     rw [h1,h2]
     simp only [dv_ hL,bne]
     cases (j.kind == 0)<;>cases (j.n_ == 0)<;>cases (j.s == [])<;>simp
   · simp only [bne]
     rw [h1]
     have e:((j.names.length:Int) == (([]:List Bs).length:Int))=false:=by
      simp only [List.length_nil]
      rw [beq_eq_false_iff_ne];intro e;exact h2 (List.eq_nil_of_length_eq_zero (by omega))
     have e2:decide (j.names.length=0)=false:=decide_eq_false fun e=>h2 (List.eq_nil_of_length_eq_zero e)
     rw [e,e2]
     cases (j.kind == 0)<;>cases (j.n_ == 0)<;>cases (j.s == [])<;>simp
 · simp only [bne]
   have e:((j.list.length:Int) == (([]:List aa_).length:Int))=false:=by
    simp only [List.length_nil]
    rw [beq_eq_false_iff_ne];intro e;exact h1 (List.eq_nil_of_length_eq_zero (by omega))
   have e2:decide (j.list.length=0)=false:=decide_eq_false fun e=>h1 (List.eq_nil_of_length_eq_zero e)
   rw [e,e2]
   cases (j.kind == 0)<;>cases (j.n_ == 0)<;>cases (j.s == [])<;>simp
theorem hS_ {l:List TOp} (h:hp_ l):Ev (fun n _=>aU_ n l) (cond (decide (dB_ l<l.length)) (aa_.mk 4 0 [] ((l.take (dB_ l)).map cK_) [],false) (eG_ l,decide ((l.length:Int)≤40) && !(c7_ (eG_ l) == []))):=by
 refine aS_ ?_
 have hl:=h.1
 have ht:l.length≤co_:=by simp only [co_];omega
 have hb:dB_ l≤l.length:=List.findIdx_le_length
 simp only [aU_]
 have:=ea_ (fun i=>(l.take i).map cK_) (dB_ l) (fun n N i (o:List aa_)=>aU_.loop4 n (fun xy2 xy3 xy4 xy5 xy6 xy7 xy8 xy9=>(cond (decide ((xy2.length:Int)≤40)) ((bW_ n (aa_.mk xy6 xy7 xy8 xy9 [])).bind fun xr10=>(some ((aa_.mk xy6 xy7 xy8 xy9 ([]:List Bs)),(!(xr10 == []))))) (some ((aa_.mk xy6 xy7 xy8 xy9 ([]:List Bs)),false)))) N l (i:Int) 0 0 [] 4 0 [] o) (cond (decide (dB_ l<l.length)) (aa_.mk 4 0 [] ((l.take (dB_ l)).map cK_) [],false) (eG_ l,decide ((l.length:Int)≤40) && !(c7_ (eG_ l) == []))) (fun i hi F hF => ?_) ?_
 · exact this
 · have hi2:i<l.length:=by omega
   have hx:=fm_ (h.2 _ (ce_ TOp.dflt hi2))
   rw [lg_ cK_ TOp.dflt hi2] at hF
   have hol:((l.take i).map cK_).length≤i:=by simp;omega
   generalize (l.take i).map cK_=o at hF hol ⊢
   simp only [aU_.turn4,aU_.step4,bA_,dD_,Int.toNat_natCast,W_up hi2 ht,cW_ hi2,cJ_ hi2,ix_ hi,cond_true,cond_false,cf_,cz_,ar_ hx]
   exact ⟨trivial,by simp;omega,hF⟩
 · by_cases hp:dB_ l<l.length
   · have hx:=fm_ (h.2 _ (ce_ TOp.dflt hp))
     simp only [aU_.turn4,aU_.step4,bA_,dD_,Int.toNat_natCast,cW_ hp,cJ_ hp,bad_at hp,cond_true,cf_,ar_ hx,as_]
     rw [decide_eq_true hp]
     exact ⟨trivial,rfl⟩
   · have e:dB_ l=l.length:=by omega
     have hE:=fn_ (ll_ h)
     rw [decide_eq_false hp,cond_false]
     unfold eG_ at hE ⊢
     rw [e,List.take_length]
     simp only [aU_.turn4,aU_.step4,cH_,cond_false,ay_,ar_ hE,as_]
     cases decide ((l.length:Int)≤40)<;>simp
def FOpsOk (l:List TOp):Bool:=(!decide (dB_ l<l.length))&&(decide ((l.length:Int)≤40) && !(c7_ (eG_ l) == []))
def du_ (e:be_):Bool:=inn e.version 0 100000&&cond (e.kind == 1) ((e.base == 0)&&(decide (e.ops.length=0) && !(c7_ e.doc == []))) (cond (e.kind == 2) (FOpsOk e.ops&&(inn e.base 0 (W (e.version - 1))&&gW_ e.doc)) false)
def lenEv (e:be_):Prop:=fo_ 6 e.doc∧hp_ e.ops
theorem ly_ (e:be_):be_.mk e.kind e.version e.base e.doc e.ops=e:=rfl
theorem size_ok (l:List TOp):decide (fg_ l≥0)=((!decide (dB_ l<l.length)) && !(c7_ (eG_ l) == [])):=by
 unfold fg_
 cases decide (dB_ l<l.length) with
 |true=>rfl
 |false=>
  cases hs:(c7_ (eG_ l) == []) with
  |true=>rfl
  |false=>simp only [cond_false,Bool.not_false,Bool.and_true];exact decide_eq_true (by omega)
theorem hc_ {e:be_} (h:lenEv e):Ev (fun n _=>bP_ n e) (du_ e):=by
 refine aS_ ?_
 simp only [bP_,bA_,l1In_b,ay_,ar_ (fn_ h.1),ar_ (hS_ h.2),ar_ gN_,as_,iQ_,du_,FOpsOk]
 generalize inn e.version 0 100000=a1
 generalize (e.kind == 1)=a2
 generalize (e.kind == 2)=a3
 generalize (e.base == 0)=a4
 generalize decide (e.ops.length=0)=a5
 generalize decide (dB_ e.ops<e.ops.length)=a6
 generalize decide ((e.ops.length:Int)≤40)=a7
 generalize (c7_ (eG_ e.ops) == [])=a8
 generalize (c7_ e.doc == [])=a9
 generalize inn e.base 0 (W (e.version - 1))=b1
 generalize gW_ e.doc=b2
 cases a1<;>cases a2<;>cases a3<;>cases a4<;>simp only [cond_true,cond_false,Bool.not_true,Bool.not_false,Bool.false_and,Bool.true_and,reduceCtorEq,false_implies,true_implies,true_and,and_true,implies_true]
 all_goals (cases a5<;>cases a6<;>cases a7<;>cases a8<;>cases a9<;>cases b1<;>cases b2<;>simp)
theorem gn_ {n:Int}:Ev (fun m _=>bs_ m n) (inn n 0 100000):=aS_ (by simp only [bs_,e6_,as_])
theorem hx_ {e:be_} (h:lenEv e):Ev (fun n _=>bU_ n e) (du_ e):=by
 refine aS_ ?_
 simp only [bU_,bA_,e6_,ay_,ar_ gn_,ar_ (d2_ h.1),ar_ fr_,ar_ (go_ h.2),as_,iQ_,size_ok,du_,FOpsOk]
 generalize inn e.version 0 100000=a1
 generalize (e.kind == 1)=a2
 generalize (e.kind == 2)=a3
 generalize (e.base == 0)=a4
 generalize decide (e.ops.length=0)=a5
 generalize decide (dB_ e.ops<e.ops.length)=a6
 generalize decide ((e.ops.length:Int)≤40)=a7
 generalize (c7_ (eG_ e.ops) == [])=a8
 generalize (c7_ e.doc == [])=a9
 generalize inn e.base 0 (W (e.version - 1))=b1
 generalize gW_ e.doc=b2
 cases a1<;>cases a2<;>cases a3<;>cases a4<;>simp only [cond_true,cond_false,Bool.not_true,Bool.not_false,Bool.false_and,Bool.true_and,reduceCtorEq,false_implies,true_implies,true_and,and_true,implies_true]
 all_goals (cases a5<;>cases a6<;>cases a7<;>cases a8<;>cases a9<;>cases b1<;>cases b2<;>simp)
end Go.Pi
end
section
namespace Go.Pi
theorem jj_:∀ {l:List Bs} {c:Nat},(∀ x ∈ l,x.length≤c)→dK_ szB l≤l.length*c
 |[],_,_=>Nat.zero_le _
 |x::l,c,h=>by
  have:=jj_ (l:=l) fun y hy=>h y (List.mem_cons_of_mem _ hy)
  have:=h x (List.mem_cons_self ..)
  simp only [dK_,szB,List.length_cons,Nat.add_mul] at *;omega
theorem lm_:∀ (d:Nat) (j:aa_),b8_ d j≤400→aa_.size j≤50000*b8_ d j
 |0,j,h=>by simp only [b8_] at h;omega
 |d+1,j,h=>by
  obtain ⟨ho,hs⟩:=cS_ h
  have hl:=el_ h
  have hn:=fU_ h
  have hsum:∀ l:List aa_,(∀ x ∈ l,b8_ d x≤400)→dK_ aa_.size l≤50000*dK_ (b8_ d) l:=by
   intro l
   induction l with
   |nil=>intro _;exact Nat.zero_le _
   |cons x l ih=>
    intro hx
    have h1:=lm_ d x (hx x (List.mem_cons_self ..))
    have h2:=ih fun y hy=>hx y (List.mem_cons_of_mem _ hy)
    simp only [dK_];omega
  have h1:=hsum j.list fun x hx=>by have:=eJ_ (b8_ d) hx;omega
  have hF:FOwn j=true:=by
   simp only [b8_] at h
   cases hf:FOwn j with
   |true=>rfl
   |false=>rw [hf,cond_false] at h;omega
  have hsl:j.s.length≤60:=by
   unfold FOwn at hF
   simp only [Bool.and_eq_true,Bool.or_eq_true] at hF
   rcases hF.2.2.2.1 with e|e
   · have:j.s=[]:=by simpa using e
     rw [this];exact Nat.zero_le _
   · exact ho.text (by simpa using e)
  have hnt:dK_ szB j.names≤j.names.length*60:=jj_ fun x hx=>by
   by_cases hk:j.kind=5
   · obtain ⟨i,hi,e⟩:=List.mem_iff_getElem.1 hx
     have:=fh_ (ho.obj hk).2 hi
     rw [List.getD_eq_getElem?_getD,List.getElem?_eq_getElem hi,Option.getD_some,e] at this
     exact this
   · have:j.names.length=0:=by
      unfold FOwn at hF
      simp only [Bool.and_eq_true,Bool.or_eq_true] at hF
      rcases hF.2.1 with e|e
      · exact of_decide_eq_true e
      · exact absurd (by simpa using e) hk
     rw [List.eq_nil_of_length_eq_zero this] at hx;cases hx
  have e:=aa_.size_eq j
  unfold cF_ at e
  rw [hs]
  omega
end Go.Pi
end
section
namespace Go.Pi
def badC (c:aF_):aF_:=aF_.mk c.doc c.version c.began true
def cI_ (c:aF_) (e:be_):aF_:=cond c.bad c (cond (du_ e) (cond (e.kind == 1) (cond (c.began&&decide (e.version≤c.version)) (badC c) (aF_.mk e.doc e.version true false))
 (cond (c.began&&(e.base == c.version)&&(cX_ c.doc e.ops).2) (aF_.mk (cX_ c.doc e.ops).1 e.version true false) (badC c))) (badC c))
theorem fe_ (c:aF_):aF_.mk c.doc c.version c.began c.bad=c:=rfl
theorem jW_ {e:be_} (h:du_ e=true):(e.kind == 1)=false→(e.kind == 2)=true:=by
 intro h1
 unfold du_ at h
 rw [h1] at h
 cases h2:(e.kind == 2)
 · rw [h2] at h;simp at h
 · rfl
section
variable {c:aF_} {e:be_} (hc:aa_.size c.doc≤4000000000) (hcl:fo_ 6 c.doc) (he:aa_.size e.doc≤4000000000) (hel:lenEv e)
include hc hcl he hel
theorem fN_:Ev (fun n _=>bo_ n c e) (cI_ c e):=by
 have h0:Ev (fun n _=>bO_ n c) c:=aS_ (by simp only [bO_,bA_,ar_ (dL_ c.doc hc),as_])
 refine aS_ ?_
 simp only [bo_,bA_,fe_,ly_,ar_ h0,ay_,as_,ar_ (hc_ hel),ar_ (dL_ e.doc he),ar_ (gO_ hcl hel.2)]
 unfold cI_ badC
 cases c.bad<;>cases h2:du_ e<;>cases h3:(e.kind == 1)<;>cases c.began<;>cases decide (e.version≤c.version)<;>cases h4:(e.base == c.version)<;>cases (cX_ c.doc e.ops).2<;>simp [bne,h4]
theorem f0_:Ev (fun n _=>bl_ n c e) (cI_ c e):=by
 have h0:Ev (fun n _=>bp_ n c) c:=aS_ (by simp only [bp_,bA_,ar_ (dl_ c.doc hc),as_])
 have hk:=fun h=>jW_ (e:=e) h
 have hv:decide (e.version > c.version) = !decide (e.version≤c.version):=by
  by_cases h:e.version≤c.version
  · rw [decide_eq_true h,decide_eq_false (by omega)];rfl
  · rw [decide_eq_false h,decide_eq_true (by omega)];rfl
 have hkk:(e.kind == 1)=true→(e.kind == 2)=false:=by
  intro h;rw [eq_of_beq h];rfl
 refine aS_ ?_
 simp only [bl_,bA_,fe_,ly_,hv,ar_ h0,ay_,as_,ar_ (hx_ hel),ar_ (dl_ e.doc he),ar_ (gS_ hcl hel.2)]
 unfold cI_ badC
 cases hb:c.bad<;>cases h2:du_ e<;>cases h3:(e.kind == 1)<;>cases hg:c.began<;>cases decide (e.version≤c.version)<;>cases h4:(e.base == c.version)<;>cases (cX_ c.doc e.ops).2<;>simp only [h2,h3,true_implies,reduceCtorEq,false_implies] at hk hkk<;>simp [h3,hk,hkk,hb,hg]
end
end Go.Pi
end
section
namespace Go.Pi
theorem lenEv_of {e:be_} (h:be_.len e) (hs:be_.size e≤1048576):lenEv e:=by
 simp only [be_.size] at hs
 have hn:=cG_ TOp.size e.ops
 exact ⟨fY_ 6 _ h.1,by omega,fun o ho=>⟨⟨(h.2.2 o ho).1.1,(h.2.2 o ho).1.2⟩,fY_ 6 _ (h.2.2 o ho).2⟩⟩
end Go.Pi
end
section
namespace Go.Pi
theorem lV_ {j:aa_} (h:cp_ j=true):aa_.size j≤20000000:=by
 have h:=of_decide_eq_true h
 have:=lm_ 6 _ h
 omega
theorem take_size {c:aF_} {e:be_} (hc:aa_.size c.doc≤20000000) (he:aa_.size e.doc≤20000000):aa_.size (cI_ c e).doc≤20000000:=by
 unfold cI_ badC
 cases c.bad
 · cases du_ e
   · exact hc
   · cases (e.kind == 1)
     · cases h:(c.began&&(e.base == c.version)&&(cX_ c.doc e.ops).2)
       · exact hc
       · rw [Bool.and_eq_true] at h
         exact lV_ (hW_ h.2)
     · cases (c.began&&decide (e.version≤c.version))
       · exact he
       · exact hc
 · exact hc
theorem h2_ {c:aF_} {e:be_} (hc:aF_.len c) (he:be_.len e):∃ n,laws_FnExactClientTake n c e=some true:=by
 refine ev_ex (aS_ ?_)
 simp only [laws_FnExactClientTake,bA_,fe_,ly_,ar_ (ki_ (a:=c) (l:=1048576) hc (by omega) (by omega)),ay_,as_]
 refine ⟨fun _=>trivial,fun h => ?_⟩
 have hz:=subS_ok (of_decide_eq_false h)
 have h:=of_decide_eq_false h
 have hb:ed_ 1048576 (aF_.size c)≤1048576:=by unfold ed_;split<;>omega
 simp only [ar_ (lP_ (a:=e) (l:=ed_ 1048576 (aF_.size c)) he (by omega) hb),ay_,as_]
 refine ⟨fun _=>trivial,fun h2 => ?_⟩
 have hz2:=subS_ok (of_decide_eq_false h2)
 have hs2:(aF_.size c:Int)+be_.size e≤1048576:=by unfold ed_ at hz2;split at hz2<;>omega
 have k1:aF_.size c≤cap:=by simp only [cap];omega
 have k2:be_.size e≤cap:=by simp only [cap];omega
 have t1:aF_.size c≤co_:=by simp only [co_];omega
 have t2:be_.size e≤co_:=by simp only [co_];omega
 have e1:aF_.size c=aa_.size c.doc:=rfl
 have e2:be_.size e=aa_.size e.doc+cF_ TOp.size e.ops:=rfl
 have hL:=lenEv_of he k2
 have hr:=take_size (c:=c) (e:=e) (by omega) (by omega)
 have e3:aF_.size (cI_ c e)=aa_.size (cI_ c e).doc:=rfl
 have t3:aF_.size (cI_ c e)≤co_:=by simp only [co_];omega
 have h3:=fN_ (c:=c) (e:=e) (by omega) (fY_ 6 _ hc) (by omega) hL
 have h4:=f0_ (c:=c) (e:=e) (by omega) (fY_ 6 _ hc) (by omega) hL
 obtain ⟨m1,y0,y1,a1,a2,b0,b1,a3,a4⟩:=fW_ (a:=c) (k:=1) (by omega) (by simp only [co_];omega)
 obtain ⟨m2,w0,w1,w2,c1,c2,d0,d1,d2,c3,c4⟩:=jH_ (a:=e) (k:=m1) (by omega) (by simp only [co_];omega)
 obtain ⟨m3,z0,z1,f1,f2,g0,g1,f3,f4⟩:=fW_ (a:=cI_ c e) (k:=1) (by omega) (by simp only [co_];omega)
 generalize cI_ c e=r at *
 simp only [bA_,fe_,ly_,ar_ (kg_ k1),ar_ (lO_ k2),ar_ h3,ar_ h4,ar_ (hB_ t1),ar_ (hB_ t3),ar_ (mi_ t2),ar_ a3,ar_ c3,ar_ f3,ar_ f4,b0,b1,d0,d1,d2,g0,g1,Nat.beq_refl,beq_self_eq_true,bne_self_eq_false,Bool.not_true,cond_true,cond_false,ay_,as_,decide_eq_true_eq,decide_eq_false_iff_not]
 repeat' (first|apply And.intro|intro _)
 all_goals (first|trivial|rfl|(exfalso;omega)|omega)
end Go.Pi
end
section
namespace Go.Pi
theorem eX_ {t:TC} {xs:List (El t)} (h:Good (.sl .v t xs)):xs.length≤co_∧∀ x ∈ xs,∀ c ∈ af_.enc .v t x,Good c:=by
 cases h with
 |sl t xs h1 h2=>exact ⟨h1,h2⟩
end Go.Pi
end
section
namespace Go.Pi
theorem i0_ {l:Bs} (h:Good (.s l)):lenB l:=by
 cases h with
 |s l h=>exact h
theorem aa_.good (x:aa_) (h:∀ c ∈ ([.i .i64 x.kind,.i .i64 x.n_,.s x.s,.sl .v .lJson x.list,.sl .v .str x.names]:List AV),Good c):aa_.len x :=
 (aa_.len_iff x).2 ⟨i0_ (h _ (.tail _ (.tail _ (.head _)))),⟨(eX_ (t:=.lJson) (h _ (.tail _ (.tail _ (.tail _ (.head _)))))).1,fun y hy=>aa_.good y ((eX_ (t:=.lJson) (h _ (.tail _ (.tail _ (.tail _ (.head _)))))).2 y hy)⟩,
  (eX_ (t:=.str) (h _ (.tail _ (.tail _ (.tail _ (.tail _ (.head _))))))).1,fun y hy=>i0_ ((eX_ (t:=.str) (h _ (.tail _ (.tail _ (.tail _ (.tail _ (.head _))))))).2 y hy _ (.head _))⟩
termination_by SizeOf.sizeOf x
decreasing_by
 have:=List.sizeOf_lt_of_mem hy
 cases x
 simp at this ⊢
 omega
theorem aF_.good {x:aF_} (h:∀ c ∈ ([.i .i64 x.doc.kind,.i .i64 x.doc.n_,.s x.doc.s,.sl .v .lJson x.doc.list,.sl .v .str x.doc.names,.i .i64 x.version,.b x.began,.b x.bad]:List AV),Good c):aF_.len x:=(aa_.good x.doc fun c hc=>h c (List.mem_of_mem_drop (i:=0) (List.mem_of_mem_take (i:=5) hc)))
theorem TOp.good {x:TOp} (h:∀ c ∈ ([.i .i64 x.kind,.sl .v .str x.way,.i .i64 x.value.kind,.i .i64 x.value.n_,.s x.value.s,.sl .v .lJson x.value.list,.sl .v .str x.value.names]:List AV),Good c):TOp.len x:=⟨⟨(eX_ (t:=.str) (h _ (.tail _ (.head _)))).1,fun x0 hx0=>(i0_ ((eX_ (t:=.str) (h _ (.tail _ (.head _)))).2 x0 hx0 _ (.head _)))⟩,(aa_.good x.value fun c hc=>h c (List.mem_of_mem_drop (i:=2) (List.mem_of_mem_take (i:=5) hc)))⟩
theorem be_.good {x:be_} (h:∀ c ∈ ([.i .i64 x.kind,.i .i64 x.version,.i .i64 x.base,.i .i64 x.doc.kind,.i .i64 x.doc.n_,.s x.doc.s,.sl .v .lJson x.doc.list,.sl .v .str x.doc.names,.sl .v .lOp x.ops]:List AV),Good c):be_.len x:=⟨(aa_.good x.doc fun c hc=>h c (List.mem_of_mem_drop (i:=3) (List.mem_of_mem_take (i:=5) hc))),⟨(eX_ (t:=.lOp) (h _ (.tail _ (.tail _ (.tail _ (.tail _ (.tail _ (.tail _ (.tail _ (.tail _ (.head _))))))))))).1,fun x0 hx0=>TOp.good ((eX_ (t:=.lOp) (h _ (.tail _ (.tail _ (.tail _ (.tail _ (.tail _ (.tail _ (.tail _ (.tail _ (.head _))))))))))).2 x0 hx0)⟩⟩
end Go.Pi
end
section
namespace Go.Pi
open Go.Proofs Go.Proofs.YtccdklkcfjmchaaGreatDoor
namespace laws_FnExactClientTake
theorem pure_law:Pure:=fun c e h0 h1=>h2_ (aF_.good h0) (be_.good h1)
theorem proved:Rows.FnExactClientTakeCardSaid:=card pure_law
end laws_FnExactClientTake
end Go.Pi
end
namespace Go.Proofs.YtccdklkcfjmchaaGreatDoor
theorem fnExactClientTake_holds:Rows.FnExactClientTakeCardSaid:=Go.Pi.laws_FnExactClientTake.proved
#print axioms fnExactClientTake_holds
end Go.Proofs.YtccdklkcfjmchaaGreatDoor
