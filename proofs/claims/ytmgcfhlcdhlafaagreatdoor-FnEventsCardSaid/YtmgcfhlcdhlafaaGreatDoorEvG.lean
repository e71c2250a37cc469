/- FnEvents: a drawn event is read from its text as it was; a text that is read is that of the event. No condition. Text 7 of 7. -/
import Derived.Test.YtmgcfhlcdhlafaaGreatDoorEvF
set_option linter.unusedVariables false
set_option maxRecDepth 100000
set_option linter.unusedSimpArgs false
section
namespace Go.Pi
structure DwOk (c:af_):Prop where
 lo:0≤c.i
 hi:c.i≤(c.b.length:Int)
 len:c.b.length≤1048576
abbrev and64 (x y:Int):Int:=IntKind.i64.wrap (BitVec.ofInt (IntKind.bits .i64) x &&& BitVec.ofInt (IntKind.bits .i64) y).toNat
theorem sq_ (x:Int) (m:Nat) (hm:m<2 ^ 31):0≤and64 x (m:Int)∧and64 x (m:Int)≤m:=by
 have h1:(BitVec.ofInt (IntKind.bits .i64) x &&& BitVec.ofInt (IntKind.bits .i64) (m:Int)).toNat≤m:=by
  rw [BitVec.toNat_and]
  refine Nat.le_trans Nat.and_le_right ?_
  rw [BitVec.ofInt_natCast,BitVec.toNat_ofNat]
  exact Nat.mod_le _ _
 show 0≤W _∧W _≤_
 generalize (BitVec.ofInt (IntKind.bits .i64) x &&& BitVec.ofInt (IntKind.bits .i64) (m:Int)).toNat=k at h1
 rw [W_id (by omega) (by omega)]
 omega
theorem cur_next {c:af_} (h:DwOk c) (hlt:c.i<(c.b.length:Int)) (z:Int):DwOk (af_.mk c.b (W (c.i+1)) z):=by
 have h1:=h.lo;have h2:=h.len
 have e:W (c.i+1)=c.i+1:=W_id (by omega) (by omega)
 exact ⟨by show 0≤W (c.i+1);rw [e];omega,by show W (c.i+1)≤(c.b.length:Int);rw [e];omega,h2⟩
theorem cur_same {c:af_} (h:DwOk c) (z:Int):DwOk (af_.mk c.b c.i z):=⟨h.lo,h.hi,h.len⟩
theorem c4_ (c:af_):af_.mk c.b c.i c.h=c:=rfl
theorem pM_ {eX_:List Int} (hc:eX_.length≤1048576):Ans (fun n _=>cb_ n eX_) DwOk:=by
 have key:∀ (m i:Nat) (h:Int),i+m=eX_.length→Ans (fun n N=>cb_.loop4 n (fun xy2 xy3=>(some (af_.mk xy2 0 xy3))) N eX_ h (i:Int)) DwOk:=by
  intro m
  induction m with
  |zero=>
   intro i h hi
   have e:i=eX_.length:=by omega
   subst e
   refine cE_ ?_
   simp only [cb_.turn4,cb_.step4,cn_,cond_false,aM_]
   exact ⟨Int.le_refl _,by simp,hc⟩
  |succ m ih=>
   intro i h hi
   have hlt:i<eX_.length:=by omega
   have hW:=W_up hlt (show eX_.length≤b6_ by simp only [b6_];omega)
   refine cE_ ?_
   simp only [cb_.turn4,cb_.step4,cC_ hlt,cond_true,ba_,fb_,aM_,hW]
   exact ⟨fun _=>⟨by omega,ih (i+1) _ (by omega)⟩,fun _=>⟨Int.le_refl _,by simp,hc⟩⟩
 refine b8_ ?_
 simp only [cb_]
 exact ei_ (key eX_.length 0 _ (by omega))
theorem g6_ {c:af_} (hc:DwOk c):Ans (fun n _=>do_ n c) fun r=>0≤r.1∧r.1≤255∧DwOk r.2:=by
 refine b8_ ?_
 simp only [do_,ba_,fb_,aM_]
 refine ⟨fun h => ?_,fun _ => ?_⟩
 · have h:=of_decide_eq_true h
   exact ⟨⟨hc.lo,h⟩,(sq_ _ 255 (by decide)).1,(sq_ _ 255 (by decide)).2,cur_next hc h _⟩
 · exact ⟨(sq_ _ 255 (by decide)).1,(sq_ _ 255 (by decide)).2,cur_same hc _⟩
structure Drawn (n:Int) (r:Int × af_):Prop where
 lo:0≤r.1
 hi:r.1<n∨r.1=0
 cur:DwOk r.2
theorem br_ {c:af_} {k:Int} (hc:DwOk c):Ans (fun n _=>ah_ n c k) (Drawn k):=by
 refine b8_ ?_
 simp only [ah_,ba_,aM_]
 refine ⟨fun _=>⟨Int.le_refl _,.inr rfl,hc⟩,fun h0=>⟨fun h1 => ?_,fun h1 => ?_⟩⟩
 · have h0:=of_decide_eq_false h0
   refine av_ (g6_ hc) fun r hr => ?_
   simp only [ba_,sp_,aM_]
   refine ⟨fun h=>by have:=of_decide_eq_true h;omega,fun _=>⟨Int.tmod_nonneg _ hr.1,.inl (Int.tmod_lt_of_pos _ (by omega)),hr.2.2⟩⟩
 · have h0:=of_decide_eq_false h0
   refine av_ (g6_ hc) fun r1 h2=>av_ (g6_ h2.2.2) fun r2 h3=>av_ (g6_ h3.2.2) fun r3 h4=>av_ (g6_ h4.2.2) fun r4 h5 => ?_
   simp only [ba_,sp_,aM_]
   refine ⟨fun h=>by have:=of_decide_eq_true h;omega,fun _ => ?_⟩
   obtain ⟨a1,a2,_⟩:=h2
   obtain ⟨b1,b2,_⟩:=h3
   obtain ⟨c1,c2,_⟩:=h4
   obtain ⟨d1,d2,hq⟩:=h5
   have e1:W (r1.1*16777216)=r1.1*16777216:=W_id (by omega) (by omega)
   have e2:W (r2.1*65536)=r2.1*65536:=W_id (by omega) (by omega)
   have e3:W (r3.1*256)=r3.1*256:=W_id (by omega) (by omega)
   rw [e1,e2,e3,W_id (n:=r1.1*16777216+r2.1*65536) (by omega) (by omega),W_id (n:=r1.1*16777216+r2.1*65536+r3.1*256) (by omega) (by omega),W_id (n:=r1.1*16777216+r2.1*65536+r3.1*256+r4.1) (by omega) (by omega)]
   exact ⟨Int.tmod_nonneg _ (by omega),.inl (Int.tmod_lt_of_pos _ (by omega)),hq⟩
theorem fe_ {c:af_} {k:Int} (hc:DwOk c):Ans (fun n _=>cm_ n c k) fun r=>DwOk r.2:=by
 refine b8_ ?_
 simp only [cm_]
 exact av_ (br_ hc) fun r hr=>aM_.2 hr.cur
theorem eS_ {c:af_} {l:List Int} (hc:DwOk c) (hl:l≠[]):Ans (fun n _=>bu_ n c l) fun r=>r.1 ∈ l∧DwOk r.2:=by
 have hp:0<l.length:=List.length_pos_iff.2 hl
 refine b8_ ?_
 simp only [bu_]
 refine av_ (br_ hc) fun r hr => ?_
 have h1:=hr.lo
 have h2:=hr.hi
 simp only [fb_,aM_]
 exact ⟨⟨h1,by omega⟩,bX_ _ (by omega),hr.cur⟩
theorem gd_ {c:af_} {l:List Bs} (hc:DwOk c) (hl:l≠[]):Ans (fun n _=>c5_ n c l) fun r=>r.1 ∈ l∧DwOk r.2:=by
 have hp:0<l.length:=List.length_pos_iff.2 hl
 refine b8_ ?_
 simp only [c5_]
 refine av_ (br_ hc) fun r hr => ?_
 have h1:=hr.lo
 have h2:=hr.hi
 simp only [fb_,aM_]
 exact ⟨⟨h1,by omega⟩,bX_ _ (by omega),hr.cur⟩
end Go.Pi
end
section
namespace Go.Pi
def tr_ (c:Nat) (q:ay_):Prop:=q.where_.length≤c∧q.show_.length≤c
def hp_ (c:Nat) (r:List TRow):Prop:=r.length≤c∧∀ x ∈ r,x.cells.length≤c
def ko_ (c:Nat) (v:bn_):Prop:=tr_ c v.q∧hp_ c v.rows∧v.kids.length≤c
end Go.Pi
end
section
namespace Go.Pi
def lenS (c:Nat) (s:cp_):Prop:=ko_ c s.view∧ko_ c s.last
end Go.Pi
end
section
namespace Go.Pi
def gu_ (s:aY_):Bool:=iL_ (fun i=>inn (s.cols.getD i 0) 1 4) s.cols.length&&inn s.cols.length 1 3
theorem hG_ {s:aY_} (hs:s.cols.length≤b6_):Ev (fun n _=>a1_ n s) (gu_ s):=by
 refine ap_ ?_
 simp only [a1_]
 refine e4_ (fun n N i=>a1_.loop3 n _ N (i:Int) s.cols) _ (fun i w hi ih => ?_) ?_
 · simp only [a1_.turn3,a1_.step3,Int.toNat_natCast,am_,bb_,fQ_,ae_,W_up hi hs,dB_ ih,cC_ hi,cf_ hi]
   grind
 · simp only [a1_.turn3,a1_.step3,cn_,cond_false,fQ_,ae_]
end Go.Pi
end
section
namespace Go.Pi
def FConds (w:Int) (c:List b3_):Bool:=iL_ (fun i=>inn (c.getD i b3_.dflt).col 0 (W (w - 1))&&(inn (c.getD i b3_.dflt).op 1 4&&inn (c.getD i b3_.dflt).v (-1000000000) 1000000000)) c.length
def FShow (w:Int) (s:List Int):Bool:=iL_ (fun i=>inn (s.getD i 0) 0 (W (w - 1))&&(decide (i=0)||decide (s.getD (i - 1) 0<s.getD i 0))) s.length
def FKids (s:aY_) (q:ay_):Bool:=cond q.kids (inn q.kidTable 0 (W ((s.cols.length:Int) - 1))&&inn q.kidCol 0 (W ((s.cols.getD q.kidTable.toNat 0) - 1))) ((q.kidTable == 0)&&(q.kidCol == 0))
def iZ_ (s:aY_) (q:ay_):Bool:=gu_ s&&(inn q.table 0 (W ((s.cols.length:Int) - 1))&&(decide (q.where_.length≤3)&&(FConds (s.cols.getD q.table.toNat 0) q.where_&&(FShow (s.cols.getD q.table.toNat 0) q.show_ &&
 (inn q.order 0 (s.cols.getD q.table.toNat 0)&&(inn q.first 0 24&&(!((q.order == 0)&&q.down)&&FKids s q)))))))
section
variable {w:Int} {cols sh:List Int} {wh:List b3_} {t o f kt kc:Int} {d ks v:Bool}
theorem jw_ {k:Nat→aA_.K7} (hl:wh.length≤b6_) (hk:Ev (fun n N=>k n w cols t wh o d f sh ks kt kc) v) :
  Ev (fun n _=>aA_.loop7 n (k n) n w 0 cols t wh o d f sh ks kt kc) (FConds w wh&&v):=by
 refine e4_ (fun n N i=>aA_.loop7 n (k n) N w (i:Int) cols t wh o d f sh ks kt kc) _ (fun i u hi ih => ?_) ?_
 · simp only [aA_.turn7,aA_.step7,Int.toNat_natCast,W_up hi hl,am_,bb_,fQ_,ae_,dB_ ih,cC_ hi,cf_ hi]
   clear ih hk
   repeat' (first|apply And.intro|intro _)
   all_goals (try rw [Bool.eq_iff_iff])
   all_goals (try simp only [Bool.not_eq_true',Bool.not_eq_false',decide_eq_true_eq,decide_eq_false_iff_not,beq_iff_eq,beq_eq_false_iff_ne,Bool.and_eq_true,Bool.or_eq_true,Bool.and_eq_false_iff,Bool.or_eq_false_iff] at *)
   all_goals grind
 · simp only [aA_.turn7,aA_.step7,cn_,cond_false]
   exact hk
theorem i4_ {k:Nat→aA_.K16} (hl:sh.length≤b6_) (hk:Ev (fun n N=>k n w cols t wh o d f sh ks kt kc) v) :
  Ev (fun n _=>aA_.loop16 n (k n) n w 0 cols t wh o d f sh ks kt kc) (FShow w sh&&v):=by
 refine e4_ (fun n N i=>aA_.loop16 n (k n) N w (i:Int) cols t wh o d f sh ks kt kc) _ (fun i u hi ih => ?_) ?_
 · simp only [aA_.turn16,aA_.step16,Int.toNat_natCast,W_up hi hl,W_dn (i:=i) (by omega),lg_,am_,bb_,fQ_,ae_,dB_ ih,cC_ hi,cf_ hi]
   clear ih hk
   repeat' (first|apply And.intro|intro _)
   all_goals (try rw [Bool.eq_iff_iff])
   all_goals (try simp only [Bool.not_eq_true',Bool.not_eq_false',decide_eq_true_eq,decide_eq_false_iff_not,beq_iff_eq,beq_eq_false_iff_ne,Bool.and_eq_true,Bool.or_eq_true,Bool.and_eq_false_iff,Bool.or_eq_false_iff] at *)
   all_goals grind
 · simp only [aA_.turn16,aA_.step16,cn_,cond_false]
   exact hk
end
theorem eI_ {β:Type} {s:aY_} (hs:s.cols.length≤b6_) {g:Nat→Nat→Bool→Option β} {v:β}:Ev (fun n N=>(a1_ n s).bind (g n N)) v↔Ev (fun n N=>g n N (gu_ s)) v:=ab_ (hG_ hs)
theorem hY_ {s:aY_} {q:ay_} (hs:s.cols.length≤b6_) (hq:tr_ b6_ q):Ev (fun n _=>aA_ n s q) (iZ_ s q):=by
 refine ap_ ?_
 have e:=@W_dn s.cols.length hs
 simp only [aA_,eI_ hs,fQ_,am_,bb_,ae_]
 refine ⟨fun h=>by simp at h;simp [iZ_,h],fun h1=>⟨fun h=>by simp at h;simp [iZ_,h],fun h2=>⟨fun h=>by simp at h;simp [iZ_];grind,fun h3=>⟨by simp at h2;have:=gK_ h2;omega,?_⟩⟩⟩⟩
 refine ga_ (jw_ (k:=fun n=>_) hq.1 (i4_ (k:=fun n=>_) (v:=inn q.order 0 (s.cols.getD q.table.toNat 0)&&(inn q.first 0 24&&(!((q.order == 0)&&q.down)&&FKids s q))) hq.2 ?_)) ?_
 · simp only [fQ_,am_,bb_,ae_,FKids]
   repeat' (first|apply And.intro|intro _)
   all_goals (try rw [Bool.eq_iff_iff])
   all_goals (try simp only [inn,cond_true,cond_false,Bool.not_eq_true',Bool.not_eq_false',decide_eq_true_eq,decide_eq_false_iff_not,beq_iff_eq,beq_eq_false_iff_ne,Bool.and_eq_true,Bool.or_eq_true,Bool.and_eq_false_iff,Bool.or_eq_false_iff] at *)
   all_goals grind
 · simp [iZ_];grind
end Go.Pi
end
section
namespace Go.Pi
def gx_ (r:TRow) (col:Int):Int:=cond (inn col 0 (W ((r.cells.length:Int) - 1))) (r.cells.getD col.toNat 0) 0
theorem eY_ {r:TRow} {col:Int} (hr:r.cells.length≤b6_):Ev (fun n _=>bT_ n r col) (gx_ r col):=by
 refine ap_ ?_
 have e:=@W_dn r.cells.length hr
 simp only [bT_,fQ_,am_,bb_,ae_,gx_]
 cases hi:inn col 0 (W ((r.cells.length:Int) - 1)) with
 |false=>simp
 |true=>have:=gK_ hi;exact ⟨fun h=>(by cases h),fun _=>⟨by omega,rfl⟩⟩
theorem iE_ {rows:List TRow} (hr:hp_ b6_ rows) (i:Nat):(rows.getD i TRow.dflt).cells.length≤b6_:=by
 by_cases h:i<rows.length
 · exact hr.2 _ (bX_ _ h)
 · rw [List.getD_eq_getElem?_getD,List.getElem?_eq_none (by omega)];exact Nat.zero_le _
end Go.Pi
end
section
namespace Go.Pi
def FCells (c:List Int):Bool:=iL_ (fun i=>inn (c.getD i 0) (-1000000000) 1000000000) c.length
def FRow (s:aY_) (t:Int) (r:TRow):Bool:=gu_ s&&(inn t 0 (W ((s.cols.length:Int) - 1))&&(inn r.id_ 1 999&&(decide ((r.cells.length:Int)=s.cols.getD t.toNat 0)&&FCells r.cells)))
theorem jv_ {s:aY_} {t:Int} {r:TRow} (hs:s.cols.length≤b6_) (hr:r.cells.length≤b6_):Ev (fun n _=>ch_ n s t r) (FRow s t r):=by
 refine ap_ ?_
 have e:=@W_dn s.cols.length hs
 have hl:Ev (fun n _=>ch_.loop6 n (some true) n 0 r.id_ r.cells) (FCells r.cells&&true):=by
  refine e4_ (fun n N i=>ch_.loop6 n (some true) N (i:Int) r.id_ r.cells) _ (fun i u hi ih => ?_) ?_
  · simp only [ch_.turn6,ch_.step6,Int.toNat_natCast,W_up hi hr,am_,bb_,fQ_,ae_,dB_ ih,cC_ hi,cf_ hi]
    clear ih
    grind
  · simp only [ch_.turn6,ch_.step6,cn_,cond_false,ae_]
 simp only [ch_,eI_ hs,fQ_,am_,bb_,ae_,dB_ hl]
 clear hl
 repeat' (first|apply And.intro|intro _)
 all_goals (try rw [Bool.eq_iff_iff])
 all_goals (try simp only [FRow,inn,bne_iff_ne,bne_eq_false_iff_eq,Bool.not_eq_true',Bool.not_eq_false',decide_eq_true_eq,decide_eq_false_iff_not,beq_iff_eq,beq_eq_false_iff_ne,Bool.and_eq_true,Bool.or_eq_true,Bool.and_eq_false_iff,Bool.or_eq_false_iff] at *)
 all_goals grind
def qq_ (c:b3_) (r:TRow):Bool:=inn c.col 0 (W ((r.cells.length:Int) - 1))&&(cond (c.op == 1) (r.cells.getD c.col.toNat 0 == c.v) (cond (c.op == 2) (decide (r.cells.getD c.col.toNat 0<c.v)) (cond (c.op == 3) (decide (r.cells.getD c.col.toNat 0 > c.v)) (cond (c.op == 4) (r.cells.getD c.col.toNat 0 != c.v) false))))
theorem lF_ {c:b3_} {r:TRow} (hr:r.cells.length≤b6_):Ev (fun n _=>dO_ n c r) (qq_ c r):=by
 refine ap_ ?_
 have e:=@W_dn r.cells.length hr
 simp only [dO_,fQ_,am_,bb_,ae_,qq_]
 repeat' (first|apply And.intro|intro _)
 all_goals (try simp only [inn,Bool.not_eq_true',Bool.not_eq_false',decide_eq_true_eq,decide_eq_false_iff_not,Bool.and_eq_true,Bool.and_eq_false_iff] at *)
 all_goals simp_all
 all_goals omega
def gc_ (q:ay_) (r:TRow):Bool:=iL_ (fun i=>qq_ (q.where_.getD i b3_.dflt) r) q.where_.length
theorem hZ_ {q:ay_} {r:TRow} (hq:q.where_.length≤b6_) (hr:r.cells.length≤b6_):Ev (fun n _=>bQ_ n q r) (gc_ q r):=by
 refine ap_ ?_
 simp only [bQ_]
 have hH:∀ (c:b3_) (g:Nat→Nat→Bool→Option Bool) (v:Bool),Ev (fun n N=>(dO_ n c (TRow.mk r.id_ r.cells)).bind (g n N)) v↔Ev (fun n N=>g n N (qq_ c r)) v:=fun c g v=>ab_ (lF_ hr)
 refine ga_ (e4_ (fun n N i=>bQ_.loop3 n (some true) N (i:Int) q.table q.where_ q.order q.down q.first q.show_ q.kids q.kidTable q.kidCol r.id_ r.cells) (fun i=>qq_ (q.where_.getD i b3_.dflt) r) (len:=q.where_.length) (v:=true) (fun i u hi ih => ?_) ?_) (by rw [Bool.and_true];rfl)
 · simp only [bQ_.turn3,bQ_.step3,Int.toNat_natCast,W_up hi hq,am_,bb_,hH,ae_,dB_ ih,cC_ hi,cf_ hi]
   clear ih hH
   grind
 · simp only [bQ_.turn3,bQ_.step3,cn_,cond_false,ae_]
def f1_ (rows:List TRow) (id:Int):Int:=gM_ (fun i x=>cond ((rows.getD i TRow.dflt).id_ == id) (i:Int) x) (-1) rows.length 0
theorem hj_ {rows:List TRow} {id:Int} (hr:rows.length≤b6_):Ev (fun n _=>cd_ n rows id) (f1_ rows id):=by
 refine ap_ ?_
 simp only [cd_]
 refine mu_ (fun n N i=>cd_.loop3 n (some (-1)) N rows id (i:Int)) _ (fun i u hi ih => ?_) ?_
 · simp only [cd_.turn3,cd_.step3,Int.toNat_natCast,W_up hi hr,am_,bb_,ae_,dB_ ih,cC_ hi,cf_ hi]
   clear ih
   grind
 · simp only [cd_.turn3,cd_.step3,cn_,cond_false,ae_]
def hO_ (q:ay_) (a b:TRow):Bool:=cond (q.order == 0) (decide (a.id_<b.id_)) (cond (gx_ a (W (q.order - 1)) == gx_ b (W (q.order - 1))) (decide (a.id_<b.id_)) (cond q.down (decide (gx_ a (W (q.order - 1)) > gx_ b (W (q.order - 1)))) (decide (gx_ a (W (q.order - 1))<gx_ b (W (q.order - 1))))))
theorem n7_ {q:ay_} {a b:TRow} (ha:a.cells.length≤b6_) (hb:b.cells.length≤b6_):Ev (fun n _=>ey_ n q a b) (hO_ q a b):=by
 refine ap_ ?_
 simp only [ey_,ab_ (eY_ ha),ab_ (eY_ hb),am_,ae_,hO_]
 generalize gx_ a (W (q.order - 1))=x
 generalize gx_ b (W (q.order - 1))=y
 cases hd:q.down<;>grind
end Go.Pi
end
section
namespace Go.Pi
def lenRR (c:Nat) (t:List (List TRow)):Prop:=t.length≤c∧∀ x ∈ t,hp_ c x
def fC_ (c:Nat) (s:ax_):Prop:=s.schema.cols.length≤c∧lenRR c s.tables
theorem fR_ {c:Nat} {t:List (List TRow)} (h:∀ x ∈ t,hp_ c x) (i:Nat):hp_ c (t.getD i []):=by
 by_cases hi:i<t.length
 · exact h _ (bX_ [] hi)
 · rw [List.getD_eq_getElem?_getD,List.getElem?_eq_none (by omega)]
   exact ⟨Nat.zero_le _,fun x hx=>by cases hx⟩
theorem ix_ (s:aY_):aY_.mk s.cols=s:=rfl
def rj_ (s:aY_) (t:Int) (rows:List TRow):Bool :=
 iL_ (fun i=>FRow s t (rows.getD i TRow.dflt)&&(decide (i=0)||decide ((rows.getD (i - 1) TRow.dflt).id_<(rows.getD i TRow.dflt).id_))) rows.length&&(gu_ s&&(inn t 0 (W ((s.cols.length:Int) - 1))&&decide ((rows.length:Int)≤24)))
theorem m0_ {s:aY_} {t:Int} {rows:List TRow} (hs:s.cols.length≤b6_) (hr:hp_ b6_ rows):Ev (fun n _=>b1_ n s t rows) (rj_ s t rows):=by
 refine ap_ ?_
 simp only [b1_]
 refine e4_ (fun n N i=>b1_.loop3 n _ N t rows (i:Int) s.cols) _ (fun i u hi ih => ?_) ?_
 · simp only [ix_,b1_.turn3,b1_.step3,Int.toNat_natCast,W_up hi hr.1,W_dn (i:=i) (by have:=hr.1;omega),lg_,am_,bb_,ab_ (jv_ (s:=s) (t:=t) (r:=rows.getD i TRow.dflt) hs (iE_ hr i)),ae_,dB_ ih,cC_ hi,cf_ hi]
   clear ih
   repeat' (first|apply And.intro|intro _)
   all_goals (try rw [Bool.eq_iff_iff])
   all_goals (try simp only [Bool.not_eq_true',Bool.not_eq_false',decide_eq_true_eq,decide_eq_false_iff_not,beq_iff_eq,beq_eq_false_iff_ne,Bool.and_eq_true,Bool.or_eq_true,Bool.and_eq_false_iff,Bool.or_eq_false_iff] at *)
   all_goals grind
 · simp only [ix_,b1_.turn3,b1_.step3,cn_,cond_false,eI_ (s:=s) hs,fQ_,am_,ae_]
   repeat' (first|apply And.intro|intro _)
   all_goals (try simp_all)
def FTables (s:aY_) (t:List (List TRow)):Bool:=iL_ (fun i=>rj_ s (i:Int) (t.getD i [])) t.length
def fx_ (s:ax_):Bool:=gu_ s.schema&&(inn s.version 0 100000&&(decide (s.tables.length=s.schema.cols.length)&&FTables s.schema s.tables))
theorem fl_ {s:ax_} (h:fC_ b6_ s):Ev (fun n _=>bA_ n s) (fx_ s):=by
 refine ap_ ?_
 have hl:Ev (fun n _=>bA_.loop6 n (some true) n 0 s.schema.cols s.version s.tables) (FTables s.schema s.tables&&true):=by
  refine e4_ (fun n N i=>bA_.loop6 n (some true) N (i:Int) s.schema.cols s.version s.tables) _ (fun i u hi ih => ?_) ?_
  · simp only [ix_,bA_.turn6,bA_.step6,Int.toNat_natCast,W_up hi h.2.1,am_,bb_,ab_ (m0_ (s:=s.schema) (t:=(i:Int)) h.1 (fR_ h.2.2 i)),ae_,dB_ ih,cC_ hi,cf_ hi]
    clear ih
    repeat' (first|apply And.intro|intro _)
    all_goals (try simp_all)
  · simp only [ix_,bA_.turn6,bA_.step6,cn_,cond_false,ae_]
 simp only [bA_,eI_ h.1,fQ_,am_,ae_,dB_ hl,fx_]
 clear hl
 repeat' (first|apply And.intro|intro _)
 all_goals (try simp_all)
 all_goals (intros;omega)
section
variable {β:Type} {g:Nat→Nat→List Int→Option β} {gr:Nat→Nat→TRow→Option β} {v:β}
theorem gI_ {r:TRow} (h:r.cells.length≤fh_):Ev (fun n N=>(cw_ n r).bind (gr n N)) v↔Ev (fun n N=>gr n N r) v :=
 ab_ (ap_ (by simp only [cw_,bk_,ae_,List.nil_append,and_true];simp only [fh_] at h;simp;omega))
end
theorem ms_ {c:Nat} {rows:List TRow} (hr:hp_ c rows) (i:Nat):(rows.getD i TRow.dflt).cells.length≤c:=by
 by_cases hi:i<rows.length
 · exact hr.2 _ (bX_ TRow.dflt hi)
 · rw [List.getD_eq_getElem?_getD,List.getElem?_eq_none (by omega)]
   exact Nat.zero_le _
theorem pL_ {rows:List TRow} (h:hp_ fh_ rows):Ev (fun n _=>bV_ n rows) rows:=by
 refine ap_ ?_
 have hl:=h.1
 simp only [fh_] at hl
 simp only [bV_]
 refine p7_ TRow.dflt rows id (fun n N i s=>bV_.loop4 n _ N rows (i:Int) s) rows (fun i s hi hs F hF => ?_) ?_
 · simp only [bV_.turn4,bV_.step4,Int.toNat_natCast,W_up hi (show rows.length≤b6_ by simp only [b6_];omega),am_,bb_,gI_ (ms_ h i),bk_,cC_ hi,cf_ hi]
   exact ⟨fun _=>⟨trivial,by simp;omega,hF⟩,fun h=>by cases h⟩
 · simp only [bV_.turn4,bV_.step4,cn_,cond_false,ae_,List.map_id]
theorem nv_ {β:Type} {s:aY_} {g:Nat→Nat→aY_→Option β} {v:β} (h:s.cols.length≤fh_):Ev (fun n N=>(dr_ n s).bind (g n N)) v↔Ev (fun n N=>g n N s) v :=
 ab_ (ap_ (by simp only [dr_,bk_,ae_,List.nil_append,and_true];simp only [fh_] at h;simp;omega))
theorem mf_ {s:ax_} (h:fC_ fh_ s):Ev (fun n _=>bv_ n s) s:=by
 refine ap_ ?_
 have hl:=h.2.1
 simp only [fh_] at hl
 simp only [bv_,nv_ h.1]
 refine p7_ [] s.tables id (fun n N i q=>bv_.loop4 n _ N (i:Int) s.schema.cols s.version s.tables 0 s.version s.schema.cols q) s (fun i q hi hs F hF => ?_) ?_
 · simp only [bv_.turn4,bv_.step4,Int.toNat_natCast,W_up hi (show s.tables.length≤b6_ by simp only [b6_];omega),am_,bb_,ab_ (pL_ (fR_ h.2.2 i)),bk_,cC_ hi,cf_ hi]
   exact ⟨fun _=>⟨trivial,by simp;omega,hF⟩,fun h=>by cases h⟩
 · simp only [bv_.turn4,bv_.step4,cn_,cond_false,ae_,List.map_id]
end Go.Pi
end
section
namespace Go.Pi
theorem nU_ (rows:List TRow) (id:Int):f1_ rows id=if rows.findIdx (fun r=>r.id_ == id)<rows.length then (rows.findIdx (fun r=>r.id_ == id):Int) else -1:=gL_ TRow.dflt (fun r=>r.id_ == id) rows
def j7_ (rows:List TRow) (id:Int):List TRow:=rows.eraseIdx (rows.findIdx (fun r=>r.id_ == id))
def ij_ (rows:List TRow) (at_ i:Nat):List TRow:=(rows.take i).eraseIdx at_
theorem q2_ {rows:List TRow} {i:Nat} (h:i<rows.length):ij_ rows i (i+1)=ij_ rows i i:=by
 unfold ij_
 rw [cB_ TRow.dflt h]
 have e:(rows.take i).length=i:=by rw [List.length_take];omega
 rw [List.eraseIdx_of_length_le (l:=rows.take i) (by omega),List.eraseIdx_append_of_length_le (by omega),e,Nat.sub_self]
 simp
theorem p9_ {rows:List TRow} {at_ i:Nat} (h:i<rows.length) (hne:i≠at_):ij_ rows at_ (i+1)=ij_ rows at_ i++[rows.getD i TRow.dflt]:=by
 unfold ij_
 rw [cB_ TRow.dflt h]
 have e:(rows.take i).length=i:=by rw [List.length_take];omega
 by_cases hlt:at_<i
 · rw [List.eraseIdx_append_of_lt_length (by omega)]
 · rw [List.eraseIdx_of_length_le (l:=rows.take i) (by omega),List.eraseIdx_of_length_le (by simp;omega)]
theorem ta_ {rows:List TRow} {at_ i:Nat}:(ij_ rows at_ i).length≤rows.length:=by
 unfold ij_
 have:=List.length_eraseIdx_le (rows.take i) at_
 rw [List.length_take] at this
 omega
theorem gh_ {rows:List TRow} {id:Int} (h:hp_ fh_ rows):Ev (fun n _=>bh_ n rows id) (j7_ rows id):=by
 refine ap_ ?_
 have hl:=h.1
 simp only [fh_] at hl
 have ht:rows.length≤b6_:=by simp only [b6_];omega
 simp only [bh_,ab_ (hj_ (rows:=rows) (id:=id) ht)]
 obtain ⟨p,hp⟩:∃ p,p=rows.findIdx (fun r=>r.id_ == id):=⟨_,rfl⟩
 have hat:∀ i:Nat,i<rows.length→(((i:Int) != f1_ rows id)=true↔i≠p):=fun i hi=>by
  rw [nU_,←hp,bne_iff_ne]
  split<;>omega
 have hF:j7_ rows id=ij_ rows p rows.length:=by unfold j7_ ij_;rw [List.take_length,hp]
 rw [hF]
 refine eE_ (fun i=>ij_ rows p i) rows.length (fun n N i s=>bh_.loop5 n (fun xy3=>some xy3) N rows (f1_ rows id) (i:Int) s) _ (fun i hi F hF => ?_) ?_
 · have hlen:=ta_ (rows:=rows) (at_:=p) (i:=i)
   simp only [bh_.turn5,bh_.step5,Int.toNat_natCast,W_up hi ht,am_,bb_,gI_ (ms_ h i),bk_,cC_ hi,cf_ hi]
   refine ⟨fun _=>⟨fun hne=>⟨trivial,by simp;omega,?_⟩,fun heq => ?_⟩,fun h=>by cases h⟩
   · rw [←p9_ hi ((hat i hi).1 hne)];exact hF
   · have:i=p:=Classical.byContradiction fun hn=>by rw [(hat i hi).2 hn] at heq;cases heq
     subst this
     rw [←q2_ hi];exact hF
 · simp only [bh_.turn5,bh_.step5,cn_,cond_false,ae_]
end Go.Pi
end
section
namespace Go.Pi
def sameC (x y:b3_):Bool:=cond (x.col == y.col) (cond (x.op == y.op) (cond (x.v == y.v) true false) false) false
def ro_ (a b:List b3_):Bool:=decide (a.length=b.length)&&iL_ (fun i=>sameC (a.getD i b3_.dflt) (b.getD i b3_.dflt)) a.length
def FInts2 (a b:List Int):Bool:=decide (a.length=b.length)&&iL_ (fun i=>a.getD i 0 == b.getD i 0) a.length
def kF_ (a b:ay_):Bool:=(a.table == b.table)&&(ro_ a.where_ b.where_&&((a.order == b.order)&&((a.down == b.down)&&((a.first == b.first)&&(FInts2 a.show_ b.show_&&((a.kids == b.kids)&&((a.kidTable == b.kidTable)&&(a.kidCol == b.kidCol))))))))
theorem rP_ {n m:Nat} {p:Nat→Bool}:(iL_ p (min n m)&&decide (n=m))=(decide (n=m)&&iL_ p n):=by
 by_cases h:n=m
 · subst h;simp [Nat.min_self,Bool.and_comm]
 · simp [h]
theorem lG_ {a b:List b3_} (ha:a.length≤b6_):Ev (fun n _=>bJ_ n a b) (ro_ a b):=by
 refine ap_ ?_
 simp only [bJ_]
 refine ga_ (e4_ (fun n N i=>bJ_.loop3 n (fun x y=>some ((x.length:Int) == (y.length:Int))) N a b (i:Int)) (fun i=>sameC (a.getD i b3_.dflt) (b.getD i b3_.dflt)) (len:=min a.length b.length) (v:=decide (a.length=b.length)) (fun i u hi ih => ?_) ?_) rP_
 · have h1:i<a.length:=by omega
   have h2:i<b.length:=by omega
   simp only [bJ_.turn3,bJ_.step3,Int.toNat_natCast,W_up h1 ha,am_,bb_,ae_,dB_ ih,cC_ h1,cf_ h1,cC_ h2,cf_ h2]
   clear ih
   simp only [sameC]
   generalize (cond ((a.getD i b3_.dflt).col == (b.getD i b3_.dflt).col) (cond ((a.getD i b3_.dflt).op == (b.getD i b3_.dflt).op) (cond ((a.getD i b3_.dflt).v == (b.getD i b3_.dflt).v) true false) false) false)=c
   cases c<;>simp
 · simp only [bJ_.turn3,bJ_.step3,am_,ae_,bb_]
   grind
theorem mX_ {a b:List Int} (ha:a.length≤b6_):Ev (fun n _=>bZ_ n a b) (FInts2 a b):=by
 refine ap_ ?_
 simp only [bZ_]
 refine ga_ (e4_ (fun n N i=>bZ_.loop3 n (fun x y=>some ((x.length:Int) == (y.length:Int))) N a b (i:Int)) (fun i=>a.getD i 0 == b.getD i 0) (len:=min a.length b.length) (v:=decide (a.length=b.length)) (fun i u hi ih => ?_) ?_) rP_
 · have h1:i<a.length:=by omega
   have h2:i<b.length:=by omega
   simp only [bZ_.turn3,bZ_.step3,Int.toNat_natCast,W_up h1 ha,am_,bb_,ae_,dB_ ih,cC_ h1,cf_ h1,cC_ h2,cf_ h2]
   clear ih
   generalize a.getD i 0=x
   generalize b.getD i 0=y
   grind
 · simp only [bZ_.turn3,bZ_.step3,am_,ae_,bb_]
   grind
theorem kj_ {a b:ay_} (ha:tr_ b6_ a):Ev (fun n _=>dv_ n a b) (kF_ a b):=by
 refine ap_ ?_
 simp only [dv_,ab_ (lG_ ha.1),ab_ (mX_ ha.2),am_,ae_,kF_]
 generalize ro_ a.where_ b.where_=c
 generalize FInts2 a.show_ b.show_=d
 cases c<;>cases d<;>grind
end Go.Pi
end
section
namespace Go.Pi
end Go.Pi
end
section
namespace Go.Pi
def jE_ (rows:List TRow) (id:Int):Nat:=rows.findIdx (fun x=>decide (x.id_ > id))
def iq_ (rows:List TRow) (r:TRow):List TRow :=
 cond (decide (f1_ rows r.id_≥0)) (rows.set (f1_ rows r.id_).toNat r) (rows.take (jE_ rows r.id_)++[r]++rows.drop (jE_ rows r.id_))
theorem atCases (rows:List TRow) (id:Int):(∃ p,p<rows.length∧f1_ rows id=(p:Int)∧rows.findIdx (fun r=>r.id_ == id)=p)∨(f1_ rows id = -1∧j7_ rows id=rows):=by
 rw [nU_]
 by_cases h:rows.findIdx (fun r=>r.id_ == id)<rows.length
 · exact .inl ⟨_,h,if_pos h,rfl⟩
 · refine .inr ⟨if_neg h,?_⟩
   unfold j7_
   rw [List.eraseIdx_of_length_le (by omega)]
theorem idx_down (rows:List TRow) (P:TRow→Bool) {j:Nat} (hj:j<rows.length) :
  j+(rows.drop j).findIdx P=cond (P (rows.getD j TRow.dflt)) j (j+1+(rows.drop (j+1)).findIdx P):=by
 rw [es_ TRow.dflt hj,List.findIdx_cons]
 cases P (rows.getD j TRow.dflt)<;>simp only [cond_true,cond_false]<;>omega
theorem iR_ {rows:List TRow} {r:TRow} (h:hp_ fh_ rows) (hr:r.cells.length≤fh_):Ev (fun n _=>bG_ n rows r) (iq_ rows r):=by
 refine ap_ ?_
 have hl:=h.1
 simp only [fh_] at hl
 have ht:rows.length≤b6_:=by simp only [b6_];omega
 have e0:∀ r:TRow,TRow.mk r.id_ r.cells=r:=fun _=>rfl
 simp only [bG_,ab_ (gh_ (id:=r.id_) h),ab_ (hj_ (rows:=rows) (id:=r.id_) ht),am_]
 rcases atCases rows r.id_ with ⟨p,hp,e1,e2⟩|⟨e1,e2⟩
 · have hd:j7_ rows r.id_=rows.take p++rows.drop (p+1):=by unfold j7_;rw [e2,List.eraseIdx_eq_take_drop_succ]
   have hdl:(j7_ rows r.id_).length=rows.length - 1:=by rw [hd];simp;omega
   refine ⟨fun _ => ?_,fun h=>by rw [e1] at h;simp at h⟩
   rw [e1]
   simp only [eD_,bk_,gI_ hr,ae_,Int.toNat_natCast,List.length_nil,List.nil_append,List.drop_zero,hdl]
   refine ⟨by omega,by simp;omega,by simp;omega,by omega,by simp;omega,?_⟩
   unfold iq_
   rw [e1,decide_eq_true (by omega),cond_true,Int.toNat_natCast,hd,List.set_eq_take_append_cons_drop,if_pos hp]
   have t1:(rows.take p++rows.drop (p+1)).take p=rows.take p:=by rw [List.take_append_of_le_length (by simp;omega),List.take_take,Nat.min_self]
   have t2:((rows.take p++rows.drop (p+1)).take (rows.length - 1)).drop p=rows.drop (p+1):=by
    rw [List.take_of_length_le (by simp;omega),List.drop_append_of_le_length (by simp;omega),List.drop_eq_nil_of_le (by simp;omega),List.nil_append]
   rw [t1,t2];simp
 · refine ⟨fun h=>by rw [e1] at h;simp at h,fun _ => ?_⟩
   rw [e2]
   have hF:iq_ rows r=rows.take (jE_ rows r.id_)++[r]++rows.drop (jE_ rows r.id_):=by unfold iq_;rw [e1];rfl
   rw [hF]
   obtain ⟨S,hS⟩:∃ S:Nat→Int,S=fun i=>(((rows.length - i)+(rows.drop (rows.length - i)).findIdx (fun x=>decide (x.id_ > r.id_)):Nat):Int):=⟨_,rfl⟩
   have hS0:S 0=(rows.length:Int):=by rw [hS];simp
   have:=eE_ S rows.length (fun n N i (s:Int)=>bG_.loop6 n (fun xy5 xy6 xy7 xy8=>(gO_ 0 xy5 xy8.length (bf_ (([]:List TRow).length+((xy8.take xy5.toNat).drop 0).length) 32 ((cw_ n (TRow.mk xy6 xy7)).bind fun xr9=>(bf_ ((([]:List TRow)++((xy8.take xy5.toNat).drop 0)).length+([xr9]:List TRow).length) 32 (gO_ xy5 (xy8.length:Int) xy8.length (bf_ (((([]:List TRow)++((xy8.take xy5.toNat).drop 0))++([xr9]:List TRow)).length+((xy8.take ((xy8.length:Int).toNat)).drop xy5.toNat).length) 32 (some (((([]:List TRow)++((xy8.take xy5.toNat).drop 0))++([xr9]:List TRow))++((xy8.take ((xy8.length:Int).toNat)).drop xy5.toNat)))))))))) N s (((rows.length - i:Nat):Int) - 1) r.id_ r.cells rows) (rows.take (jE_ rows r.id_)++[r]++rows.drop (jE_ rows r.id_)) (fun i hi F hF => ?_) ?_
   · rw [hS0] at this
     rw [W_dn ht]
     simpa using this
   · obtain ⟨j,hj⟩:∃ j,j=rows.length - i - 1:=⟨_,rfl⟩
     have hji:rows.length - i=j+1:=by omega
     have hji2:rows.length - (i+1)=j:=by omega
     have hjl:j<rows.length:=by omega
     have hstep:=idx_down rows (fun x=>decide (x.id_ > r.id_)) hjl
     have s1:S i=((j+1+(rows.drop (j+1)).findIdx (fun x=>decide (x.id_ > r.id_)):Nat):Int):=by rw [hS];simp only [hji]
     have s2:S (i+1)=((j+(rows.drop j).findIdx (fun x=>decide (x.id_ > r.id_)):Nat):Int):=by rw [hS];simp only [hji2]
     have ei:((rows.length - i:Nat):Int) - 1=(j:Int):=by omega
     have ei2:W ((j:Int) - 1)=((rows.length - (i+1):Nat):Int) - 1:=by rw [W_dn (by omega),hji2]
     rw [s2,hstep] at hF
     rw [ei,s1]
     simp only [bG_.turn6,bG_.step6,am_,bb_,Int.toNat_natCast,ei2]
     refine ⟨fun _=>⟨by omega,fun hc => ?_,fun hc => ?_⟩,fun h=>by simp at h⟩
     · rw [hc] at hF;exact hF
     · rw [hc] at hF;exact hF
   · have s1:S rows.length=(jE_ rows r.id_:Int):=by rw [hS];simp [jE_]
     have hpl:jE_ rows r.id_≤rows.length:=List.findIdx_le_length
     rw [s1]
     simp only [bG_.turn6,bG_.step6,Nat.sub_self,e0]
     rw [show decide (((0:Nat):Int) - 1≥0)=false from by simp]
     simp only [cond_false,eD_,bk_,gI_ hr,ae_,Int.toNat_natCast,List.length_nil,List.nil_append,List.drop_zero]
     refine ⟨by omega,by simp;omega,by simp;omega,by omega,by simp;omega,?_⟩
     rw [List.take_length]
end Go.Pi
end
section
namespace Go.Pi
def qs_ (c:Nat) (x:aV_):Prop:=x.old.cells.length≤c∧x.new.cells.length≤c
theorem hg_ {c n:Nat} (h:n≤c) (hc:c≤fh_):n≤b6_:=by simp only [fh_] at hc;simp only [b6_];omega
theorem hp_.upto {c d:Nat} {r:List TRow} (h:hp_ c r) (hc:c≤d):hp_ d r:=⟨Nat.le_trans h.1 hc,fun x hx=>Nat.le_trans (h.2 x hx) hc⟩
theorem fC_.upto {c d:Nat} {s:ax_} (h:fC_ c s) (hc:c≤d):fC_ d s:=⟨Nat.le_trans h.1 hc,Nat.le_trans h.2.1 hc,fun x hx=>(h.2.2 x hx).upto hc⟩
theorem mS_ {c:Nat} {rows:List TRow} {id:Int} (h:hp_ c rows):hp_ c (j7_ rows id):=by
 unfold j7_
 exact ⟨Nat.le_trans (List.length_eraseIdx_le _ _) h.1,fun x hx=>h.2 x (List.mem_of_mem_eraseIdx hx)⟩
theorem mO_ {c:Nat} {rows:List TRow} {r:TRow} (h:hp_ c rows) (hr:r.cells.length≤c):hp_ (c+1) (iq_ rows r):=by
 unfold iq_
 have h1:=h.1
 cases decide (f1_ rows r.id_≥0)<;>simp only [cond_true,cond_false]
 · refine ⟨by simp;omega,fun x hx => ?_⟩
   rcases List.mem_append.1 hx with hx|hx
   · rcases List.mem_append.1 hx with hx|hx
     · exact Nat.le_succ_of_le (h.2 x (List.mem_of_mem_take hx))
     · rw [List.mem_singleton.1 hx];omega
   · exact Nat.le_succ_of_le (h.2 x (List.mem_of_mem_drop hx))
 · refine ⟨by simp;omega,fun x hx => ?_⟩
   rcases List.mem_or_eq_of_mem_set hx with hx|rfl
   · exact Nat.le_succ_of_le (h.2 x hx)
   · omega
end Go.Pi
end
section
namespace Go.Pi
def iA_ (s:aY_):ax_:=⟨s,0,List.replicate s.cols.length []⟩
theorem lenSt_new {c:Nat} {s:aY_} (hs:s.cols.length≤c):fC_ c (iA_ s):=by
 refine ⟨hs,?_,fun x hx => ?_⟩
 · simp only [iA_,List.length_replicate];exact hs
 · simp only [iA_] at hx
   rw [List.eq_of_mem_replicate hx]
   exact ⟨Nat.zero_le _,fun x hx=>by cases hx⟩
def zStore:ax_:=⟨⟨[]⟩,0,[]⟩
def FNew (s:aY_):ax_ × Bool:=cond (gu_ s) (iA_ s,true) (zStore,false)
theorem k7_ {s:aY_} (hs:s.cols.length≤cap):Ev (fun n _=>dM_ n s) (FNew s):=by
 refine ap_ ?_
 simp only [cap] at hs
 simp only [dM_,eI_ (show s.cols.length≤b6_ by simp only [b6_];omega),nv_ (show s.cols.length≤fh_ by simp only [fh_];omega),am_,ae_,dA_,FNew,iA_,zStore,Int.toNat_natCast]
 repeat' (first|apply And.intro|intro _)
 all_goals (try simp_all)
 all_goals (try omega)
end Go.Pi
end
section
namespace Go.Pi
theorem Wn {x:Int} (h1 : -1000000000000≤x) (h2:x≤1000000000000):W x=x:=W_id (by omega) (by omega)
theorem jt_ {a b:Int}:Ev (fun n _=>cJ_ n a b) (max a b):=by
 refine ap_ ?_
 simp only [cJ_,am_,ae_]
 exact ⟨fun h=>by have:=of_decide_eq_true h;omega,fun h=>by have:=of_decide_eq_false h;omega⟩
theorem k9_ {c:af_} (hc:DwOk c):Ans (fun n _=>aL_ n c) fun r=>r.1.cols.length≤3∧(∀ x ∈ r.1.cols,x≤4)∧DwOk r.2:=by
 have key:∀ (m i:Nat) (c:af_) (o:List Int),i+m=3→DwOk c→o.length=i→(∀ x ∈ o,x≤4) →
   Ans (fun n N=>aL_.loop4 n (fun xy3 xy4 xy5 xy6=>(some ((aY_.mk xy6),(af_.mk xy3 xy4 xy5)))) N (i:Int) c.b c.i c.h o) fun r=>r.1.cols.length≤3∧(∀ x ∈ r.1.cols,x≤4)∧DwOk r.2:=by
  intro m
  induction m with
  |zero=>
   intro i c o hi hc ho hx
   refine cE_ ?_
   simp only [aL_.turn4,aL_.step4,c4_]
   refine av_ (br_ hc) fun r hr => ?_
   have h1:=hr.lo;have h2:=hr.hi
   rw [Wn (by omega) (by omega),decide_eq_false (by omega)]
   simp only [cond_false,c4_,aM_]
   exact ⟨by omega,hx,hr.cur⟩
  |succ m ih=>
   intro i c o hi hc ho hx
   refine cE_ ?_
   simp only [aL_.turn4,aL_.step4,c4_]
   refine av_ (br_ hc) fun r hr => ?_
   simp only [ba_,c4_,aM_]
   refine ⟨fun _=>av_ (br_ hr.cur) fun r2 hr2 => ?_,fun _=>⟨by omega,hx,hr.cur⟩⟩
   have h1:=hr2.lo;have h2:=hr2.hi
   have e1:W ((i:Int)+1)=((i+1:Nat):Int):=by rw [Wn (by omega) (by omega)];rfl
   rw [Wn (x:=1+r2.1) (by omega) (by omega),e1]
   simp only [dC_]
   refine ⟨by simp;omega,ih (i+1) r2.2 _ (by omega) hr2.cur (by simp;omega) fun x hx' => ?_⟩
   rcases List.mem_append.1 hx' with h|h
   · exact hx x h
   · rw [List.mem_singleton.1 h];omega
 refine b8_ ?_
 simp only [aL_]
 exact ei_ (key 3 0 c [] rfl hc rfl fun x hx=>(by cases hx))
theorem jL_ {c:af_} {cols:Int} (hc:DwOk c) (hcol:cols≤1000):Ans (fun n _=>a6_ n c cols) fun r=>r.1.cells.length≤1000∧DwOk r.2:=by
 have key:∀ (m i:Nat) (c:af_) (id:Int) (o:List Int),i+m=1000→DwOk c→o.length=i →
   Ans (fun n N=>a6_.loop4 n (fun xy3 xy4 xy5 xy6 xy7 xy8=>(some ((TRow.mk xy7 xy8),(af_.mk xy3 xy4 xy5)))) N cols (i:Int) c.b c.i c.h 0 id o) fun r=>r.1.cells.length≤1000∧DwOk r.2:=by
  intro m
  induction m with
  |zero=>
   intro i c id o hi hc ho
   refine cE_ ?_
   simp only [a6_.turn4,a6_.step4,c4_]
   rw [decide_eq_false (by omega)]
   simp only [cond_false,c4_,aM_]
   exact ⟨by omega,hc⟩
  |succ m ih=>
   intro i c id o hi hc ho
   refine cE_ ?_
   simp only [a6_.turn4,a6_.step4,c4_,ba_,aM_]
   refine ⟨fun _=>av_ (br_ hc) fun r2 hr2 => ?_,fun _=>⟨by omega,hc⟩⟩
   have e1:W ((i:Int)+1)=((i+1:Nat):Int):=by rw [Wn (by omega) (by omega)];rfl
   rw [e1]
   simp only [dC_]
   exact ⟨by simp;omega,ih (i+1) r2.2 _ _ (by omega) hr2.cur (by simp;omega)⟩
 refine b8_ ?_
 simp only [a6_]
 exact av_ (br_ hc) fun r hr=>ei_ (key 1000 0 r.2 _ [] rfl hr.cur rfl)
theorem m4_ {c:af_} {cols:Int} (hc:DwOk c) (hcol:cols≤1000):Ans (fun n _=>a0_ n c cols) fun r=>hp_ 1010 r.1∧DwOk r.2:=by
 have key:∀ (m i:Nat) (c:af_) (o:List TRow),i+m=9→DwOk c→hp_ (1000+i) o →
   Ans (fun n N=>a0_.loop4 n (fun xy4 xy5 xy6 xy7=>(some (xy7,(af_.mk xy4 xy5 xy6)))) N cols (i:Int) c.b c.i c.h o) fun r=>hp_ 1010 r.1∧DwOk r.2:=by
  intro m
  induction m with
  |zero=>
   intro i c o hi hc ho
   refine cE_ ?_
   simp only [a0_.turn4,a0_.step4,c4_]
   refine av_ (br_ hc) fun r hr => ?_
   have h1:=hr.lo;have h2:=hr.hi
   rw [decide_eq_false (by omega)]
   simp only [cond_false,c4_,aM_]
   exact ⟨ho.upto (by omega),hr.cur⟩
  |succ m ih=>
   intro i c o hi hc ho
   refine cE_ ?_
   simp only [a0_.turn4,a0_.step4,c4_]
   refine av_ (br_ hc) fun r hr => ?_
   simp only [ba_,c4_,aM_]
   refine ⟨fun _=>av_ (jL_ hr.cur hcol) fun r2 hr2 => ?_,fun _=>⟨ho.upto (by omega),hr.cur⟩⟩
   have e1:W ((i:Int)+1)=((i+1:Nat):Int):=by rw [Wn (by omega) (by omega)];rfl
   have hP:=iR_ (rows:=o) (r:=r2.1) (ho.upto (by simp only [fh_];omega)) (by have:=hr2.1;simp only [fh_];omega)
   rw [a2_ hP,e1]
   exact ih (i+1) r2.2 _ (by omega) hr2.2 (by rw [←Nat.add_assoc];exact mO_ ho (by have:=hr2.1;omega))
 refine b8_ ?_
 simp only [a0_]
 exact ei_ (key 9 0 c [] rfl hc ⟨Nat.zero_le _,fun x hx=>(by cases hx)⟩)
structure StIn (c:Nat) (s:ax_):Prop where
 len:fC_ c s
 col:∀ x ∈ s.schema.cols,x≤1000
theorem StIn.upto {c d:Nat} {s:ax_} (h:StIn c s) (hc:c≤d):StIn d s:=⟨h.len.upto hc,h.col⟩
theorem StIn.getD {c:Nat} {s:ax_} (h:StIn c s) (i:Nat):s.schema.cols.getD i 0≤1000:=by
 by_cases hi:i<s.schema.cols.length
 · exact h.col _ (bX_ _ hi)
 · rw [List.getD_eq_getElem?_getD,List.getElem?_eq_none (by omega)];decide
theorem md_ {c:af_} (hc:DwOk c):Ans (fun n _=>aP_ n c) fun r=>StIn 1010 r.1∧DwOk r.2:=by
 have key:∀ (m i:Nat) (c:af_) (s:ax_),i+m=s.tables.length→s.tables.length≤s.schema.cols.length→DwOk c→StIn 1010 s →
   Ans (fun n N=>aP_.loop4 n (fun xy5 xy6 xy7 xy8 xy9 xy10 xy11=>((ah_ n (af_.mk xy5 xy6 xy7) 5).bind fun xr12=>(some ((ax_.mk (aY_.mk xy10) xr12.1 xy11),xr12.2)))) N (i:Int) c.b c.i c.h 0 s.version s.schema.cols s.tables) fun r=>StIn 1010 r.1∧DwOk r.2:=by
  intro m
  induction m with
  |zero=>
   intro i c s hi hl hc hs
   have e:i=s.tables.length:=by omega
   subst e
   refine cE_ ?_
   simp only [aP_.turn4,aP_.step4,cn_,cond_false,c4_]
   exact av_ (br_ hc) fun r hr=>aM_.2 ⟨⟨hs.len,hs.col⟩,hr.cur⟩
  |succ m ih=>
   intro i c s hi hl hc hs
   have hlt:i<s.tables.length:=by omega
   have h3:=hs.len.2.1
   have hW:=W_up hlt (show s.tables.length≤b6_ by simp only [b6_];omega)
   refine cE_ ?_
   simp only [aP_.turn4,aP_.step4,cC_ hlt,cond_true,c4_,fb_,Int.toNat_natCast]
   refine ⟨⟨by omega,by omega⟩,av_ (m4_ hc (hs.getD i)) fun r hr => ?_⟩
   simp only [fb_,hW]
   refine ⟨⟨by omega,by omega⟩,?_⟩
   have:=ih (i+1) r.2 (ax_.mk s.schema s.version (s.tables.set i r.1)) (by simp;omega) (by simp;exact hl) hr.2 ⟨⟨hs.len.1,by simp only [List.length_set];exact h3,fun x hx=>by
    rcases List.mem_or_eq_of_mem_set hx with hx|rfl
    · exact hs.len.2.2 x hx
    · exact hr.1⟩,hs.col⟩
   exact this
 refine b8_ ?_
 simp only [aP_]
 refine av_ (k9_ hc) fun r hr => ?_
 have hN:=k7_ (s:=r.1) (by have:=hr.1;simp only [cap];omega)
 rw [a2_ hN]
 refine ei_ (f:=fun n N=>aP_.loop4 n (fun xy5 xy6 xy7 xy8 xy9 xy10 xy11=>((ah_ n (af_.mk xy5 xy6 xy7) 5).bind fun xr12=>(some ((ax_.mk (aY_.mk xy10) xr12.1 xy11),xr12.2)))) N 0 r.2.b r.2.i r.2.h 0 (FNew r.1).1.version (FNew r.1).1.schema.cols (FNew r.1).1.tables) (key (FNew r.1).1.tables.length 0 r.2 (FNew r.1).1 (Nat.zero_add _) ?_ hr.2.2 ?_)
 · unfold FNew
   cases gu_ r.1
   · exact Nat.le_refl _
   · simp [iA_]
 · unfold FNew
   cases gu_ r.1
   · exact ⟨⟨Nat.zero_le _,Nat.zero_le _,fun x hx=>(by cases hx)⟩,fun x hx=>(by cases hx)⟩
   · exact ⟨lenSt_new (Nat.le_trans hr.1 (by decide)),fun x hx=>Int.le_trans (hr.2.1 x hx) (by decide)⟩
end Go.Pi
end
section
namespace Go.Pi
def pD_:TRow:=TRow.mk 0 []
def noCh:aV_:=aV_.mk 0 false false pD_ pD_
def zeroSt:ax_:=ax_.mk (aY_.mk []) 0 []
def j6_ (s:aY_) (m:TMut):Bool:=cond (m.kind == 3) (gu_ s&&(inn m.table 0 (W ((s.cols.length:Int) - 1))&&(inn m.row.id_ 1 999&&((m.row.cells.length:Int) == 0)))) (inn m.kind 1 2&&FRow s m.table m.row)
def fM_ (s:ax_) (m:TMut):List TRow:=s.tables.getD m.table.toNat []
def rm_ (s:ax_) (m:TMut):Bool:=(decide (f1_ (fM_ s m) m.row.id_≥0) == (m.kind != 1)) && !((m.kind == 1)&&(((fM_ s m).length:Int) == 24))
def FDo (s:ax_) (m:TMut):ax_:=ax_.mk s.schema s.version (s.tables.set m.table.toNat (cond (m.kind != 3) (iq_ (fM_ s m) m.row) (j7_ (fM_ s m) m.row.id_)))
def FDoCh (s:ax_) (m:TMut):aV_:=aV_.mk m.table (m.kind != 1) (m.kind != 3) (cond (m.kind != 1) ((fM_ s m).getD (f1_ (fM_ s m) m.row.id_).toNat TRow.dflt) pD_) (cond (m.kind != 3) m.row pD_)
def gR_ (s:ax_) (m:TMut):ax_ × aV_ × Bool:=cond (fx_ s) (cond (j6_ s.schema m&&rm_ s m) (FDo s m,FDoCh s m,true) (s,noCh,false)) (zeroSt,noCh,false)
theorem lh_ (r:TRow):TRow.mk r.id_ r.cells=r:=rfl
theorem fz_ (s:ax_):ax_.mk s.schema s.version s.tables=s:=rfl
theorem gi_ (s:aY_):aY_.mk s.cols=s:=rfl
theorem on_ (m:TMut):TMut.mk m.kind m.table m.row=m:=rfl
theorem n5_ {s:aY_} {m:TMut} (hs:s.cols.length≤b6_) (hr:m.row.cells.length≤b6_):Ev (fun n _=>eP_ n s m) (j6_ s m):=by
 refine ap_ ?_
 simp only [eP_,ab_ (hG_ hs),ab_ (jv_ (t:=m.table) hs hr),fQ_,am_,ae_,j6_]
 generalize (m.kind == 3)=a
 generalize gu_ s=b
 generalize inn m.table 0 _=c
 generalize inn m.row.id_ 1 999=d
 generalize inn m.kind 1 2=e
 cases a<;>cases b<;>cases c<;>cases d<;>cases e<;>simp
theorem qK_ {s:ax_} {m:TMut} (hs:fx_ s=true) (hm:j6_ s.schema m=true) (hc:s.schema.cols.length≤b6_):0≤m.table∧m.table<(s.tables.length:Int):=by
 have e:=@W_dn s.schema.cols.length hc
 have hl:s.tables.length=s.schema.cols.length:=by
  unfold fx_ at hs
  simp only [Bool.and_eq_true] at hs
  exact of_decide_eq_true hs.2.2.1
 have:inn m.table 0 (W ((s.schema.cols.length:Int) - 1))=true:=by
  unfold j6_ at hm
  cases h3:(m.kind == 3)<;>rw [h3] at hm
  · simp only [cond_false,Bool.and_eq_true] at hm
    have:=hm.2
    unfold FRow at this
    simp only [Bool.and_eq_true] at this
    exact this.2.1
  · simp only [cond_true,Bool.and_eq_true] at hm
    exact hm.2.1
 have:=jd_.1 this
 rw [e] at this
 omega
theorem qF_ (rows:List TRow) (id:Int):f1_ rows id = -1∨0≤f1_ rows id∧f1_ rows id<(rows.length:Int):=by
 rcases atCases rows id with ⟨p,h1,h2,_⟩|⟨h,_⟩
 · exact .inr ⟨by omega,by omega⟩
 · exact .inl h
theorem pk_ {s:ax_} {m:TMut} (hl:fC_ fh_ s) (hr:m.row.cells.length≤fh_) (ht:0≤m.table∧m.table<(s.tables.length:Int)):Ev (fun n _=>fi_ n s m) (cond (rm_ s m) (FDo s m,FDoCh s m,true) (s,noCh,false)):=by
 have hT:hp_ fh_ (fM_ s m):=fR_ hl.2.2 _
 have hT1:(fM_ s m).length≤b6_:=hg_ hT.1 (Nat.le_refl _)
 have hrow:∀ i,((fM_ s m).getD i TRow.dflt).cells.length≤fh_:=fun i=>by
  by_cases hi:i<(fM_ s m).length
  · exact hT.2 _ (bX_ _ hi)
  · rw [List.getD_eq_getElem?_getD,List.getElem?_eq_none (by omega)];exact Nat.zero_le _
 have hat:=qF_ (fM_ s m) m.row.id_
 have e0:s.tables.getD m.table.toNat []=fM_ s m:=rfl
 refine ap_ ?_
 simp only [fi_,e0,lh_,bb_,ht,true_and,and_true,ab_ (hj_ (id:=m.row.id_) hT1),gI_ (hrow _),gI_ hr,ab_ (iR_ hT hr),ab_ (gh_ (id:=m.row.id_) hT),am_,ae_]
 unfold rm_ FDo FDoCh noCh pD_
 generalize iq_ (fM_ s m) m.row=p
 generalize j7_ (fM_ s m) m.row.id_=q
 generalize f1_ (fM_ s m) m.row.id_=a at hat ⊢
 have hb:(m.kind == 1)=true→(m.kind != 1)=false:=by simp [bne]
 have hb':(m.kind == 1)=false→(m.kind != 1)=true:=by intro h;simp [bne,h]
 generalize (m.kind != 1)=k1 at hb hb' ⊢
 cases hk:(m.kind == 1)<;>rw [hk] at hb hb'
 · have:=hb' rfl
   subst this
   cases ha:decide (a≥0)
   · simp
   · have ha:=of_decide_eq_true ha
     cases (m.kind != 3)<;>simp<;>omega
 · have:=hb rfl
   subst this
   cases ha:decide (a≥0)<;>cases (((fM_ s m).length:Int) == 24)<;>cases (m.kind != 3)<;>simp
theorem jx_ {s:ax_} {m:TMut} (hl:fC_ fh_ s) (hr:m.row.cells.length≤fh_):Ev (fun n _=>ex_ n s m) (gR_ s m):=by
 have hs:s.schema.cols.length≤b6_:=hg_ hl.1 (Nat.le_refl _)
 have hrt:m.row.cells.length≤b6_:=hg_ hr (Nat.le_refl _)
 refine ap_ ?_
 simp only [ex_,fz_,on_,lh_,ab_ (fl_ (hl.upto (show fh_≤b6_ by decide))),ab_ (n5_ hs hrt),ab_ (mf_ hl),am_,ae_]
 unfold gR_
 cases h1:fx_ s
 · exact ⟨fun _=>rfl,fun h=>(by cases h)⟩
 · refine ⟨fun h=>(by cases h),fun _ => ?_⟩
   cases h2:j6_ s.schema m
   · exact ⟨fun _=>rfl,fun h=>(by cases h)⟩
   · refine ⟨fun h=>(by cases h),fun _ => ?_⟩
     simp only [ab_ (pk_ hl hr (qK_ h1 h2 hs)),am_,ae_]
     cases rm_ s m<;>simp [noCh,pD_,ab_ (mf_ hl),ae_]
theorem FDo_len {c:Nat} {s:ax_} {m:TMut} (h:fC_ c s) (hr:m.row.cells.length≤c):fC_ (c+1) (FDo s m):=by
 have hT:hp_ c (fM_ s m):=fR_ h.2.2 _
 refine ⟨Nat.le_succ_of_le h.1,by simp only [FDo,List.length_set];exact Nat.le_succ_of_le h.2.1,fun x hx => ?_⟩
 rcases List.mem_or_eq_of_mem_set hx with hx|rfl
 · exact (h.2.2 x hx).upto (Nat.le_succ _)
 · cases (m.kind != 3)
   · exact (mS_ hT).upto (Nat.le_succ _)
   · exact mO_ hT hr
theorem FDoCh_len {c:Nat} {s:ax_} {m:TMut} (h:fC_ c s) (hr:m.row.cells.length≤c):qs_ c (FDoCh s m):=by
 have hT:hp_ c (fM_ s m):=fR_ h.2.2 _
 refine ⟨?_,?_⟩
 · show (cond (m.kind != 1) _ pD_).cells.length≤c
   cases (m.kind != 1)
   · exact Nat.zero_le _
   · by_cases hi:(f1_ (fM_ s m) m.row.id_).toNat<(fM_ s m).length
     · exact hT.2 _ (bX_ _ hi)
     · simp only [cond_true];rw [List.getD_eq_getElem?_getD,List.getElem?_eq_none (by omega)];exact Nat.zero_le _
 · show (cond (m.kind != 3) m.row pD_).cells.length≤c
   cases (m.kind != 3)
   · exact Nat.zero_le _
   · exact hr
theorem kH_ {c:Nat} {s:ax_} {m:TMut} (h:fC_ c s) (hr:m.row.cells.length≤c):fC_ (c+1) (gR_ s m).1∧qs_ c (gR_ s m).2.1:=by
 have z:qs_ c noCh:=⟨Nat.zero_le _,Nat.zero_le _⟩
 unfold gR_
 cases fx_ s
 · exact ⟨⟨Nat.zero_le _,Nat.zero_le _,fun x hx=>(by cases hx)⟩,z⟩
 · cases (j6_ s.schema m&&rm_ s m)
   · exact ⟨h.upto (Nat.le_succ _),z⟩
   · exact ⟨FDo_len h hr,FDoCh_len h hr⟩
end Go.Pi
end
section
namespace Go.Pi
def gy_:ax_→List TMut→List aV_→Option (ax_ × List aV_)
 |s,[],l=>some (s,l)
 |s,m::r,l=>cond (gR_ s m).2.2 (gy_ (gR_ s m).1 r (l++[(gR_ s m).2.1])) none
def mT_ (s:ax_):Option (ax_ × List aV_)→ax_ × List aV_ × Bool
 |some p=>(ax_.mk p.1.schema (W (s.version+1)) p.1.tables,p.2,true)
 |none=>(s,[],false)
def fr_ (s:ax_) (l:List TMut):ax_ × List aV_ × Bool:=cond (fx_ s) (cond (inn (l.length:Int) 1 5 && !(s.version == 100000)) (mT_ s (gy_ s l [])) (s,[],false)) (zeroSt,[],false)
def mb_ (c:Nat) (l:List TMut):Prop:=∀ m ∈ l,m.row.cells.length≤c
theorem lS_ {c:Nat} {s:ax_} {l:List TMut} (hl:fC_ c s) (hm:mb_ c l) (hc:c+l.length≤1000000):Ev (fun n _=>bC_ n s l) (fr_ s l):=by
 have hcR:fC_ fh_ s:=hl.upto (by simp only [fh_];omega)
 have hC:=mf_ hcR
 refine ap_ ?_
 simp only [bC_,fz_,ab_ (fl_ (hcR.upto (show fh_≤b6_ by decide))),fQ_,ab_ hC,am_,ae_]
 unfold fr_
 cases h1:fx_ s
 · exact ⟨fun _=>rfl,fun h=>(by cases h)⟩
 refine ⟨fun h=>(by cases h),fun _ => ?_⟩
 cases h2:inn (l.length:Int) 1 5
 · exact ⟨fun _=>rfl,fun h=>(by cases h)⟩
 refine ⟨fun h=>(by cases h),fun _ => ?_⟩
 cases h3:(s.version == 100000)
 · refine ⟨fun h=>(by cases h),fun _ => ?_⟩
   have key:∀ (m i:Nat) (t:ax_) (o:List aV_),i+m=l.length→fC_ (c+i) t→o.length≤i →
     Ev (fun n N=>bC_.loop12 n (fun xy8 xy9 xy10 xy11 xy12 xy13 xy14 xy15=>(some ((ax_.mk (aY_.mk xy14) (W (xy9+1)) xy15),xy13,true))) N l (i:Int) s.schema.cols s.version s.tables 0 [] t.version o t.schema.cols t.tables) (mT_ s (gy_ t (l.drop i) o)):=by
    intro m
    induction m with
    |zero=>
     intro i t o hi ht ho
     have e:i=l.length:=by omega
     subst e
     refine bF_ ?_
     simp only [bC_.turn12,bC_.step12,cn_,cond_false,ae_,List.drop_length,gy_,mT_]
    |succ m ih=>
     intro i t o hi ht ho
     have hlt:i<l.length:=by omega
     have hr:=hm _ (bX_ TMut.dflt hlt)
     have hD:=jx_ (m:=l.getD i TMut.dflt) (ht.upto (show c+i≤fh_ by simp only [fh_];omega)) (Nat.le_trans hr (by simp only [fh_];omega))
     have hW:=W_up hlt (show l.length≤b6_ by simp only [b6_];omega)
     have hn:=kH_ (m:=l.getD i TMut.dflt) ht (Nat.le_trans hr (Nat.le_add_right _ _))
     rw [es_ TMut.dflt hlt]
     refine bF_ ?_
     simp only [bC_.turn12,bC_.step12,gi_,fz_,on_,lh_,cC_ hlt,cond_true,bb_,cf_ hlt,true_and,Int.toNat_natCast,hW,ab_ hD,am_,ae_,ab_ hC,bk_,gy_]
     cases hq:(gR_ t (l.getD i TMut.dflt)).2.2
     · exact ⟨fun _=>rfl,fun h=>(by cases h)⟩
     · exact ⟨fun h=>(by cases h),fun _=>⟨by simp;omega,ih (i+1) _ _ (by omega) (by rw [←Nat.add_assoc];exact hn.1) (by simp;omega)⟩⟩
   exact dg_ (key l.length 0 s [] (by omega) hl (Nat.le_refl _))
 · exact ⟨fun _=>rfl,fun h=>(by cases h)⟩
theorem mU_ {c:Nat}:∀ {l:List TMut} {s:ax_} {o:List aV_} {k:Nat},fC_ (c+k) s→mb_ c l→(∀ x ∈ o,qs_ (c+k) x)→∀ p,gy_ s l o=some p→fC_ (c+k+l.length) p.1∧p.2.length=o.length+l.length∧∀ x ∈ p.2,qs_ (c+k+l.length) x
 |[],s,o,k,h,_,ho,p,e=>by cases e;exact ⟨h,rfl,ho⟩
 |m::r,s,o,k,h,hm,ho,p,e=>by
  unfold gy_ at e
  cases hq:(gR_ s m).2.2<;>rw [hq] at e
  · cases e
  · have hr:=hm m (List.mem_cons_self ..)
    have hn:=kH_ (m:=m) h (Nat.le_trans hr (Nat.le_add_right _ _))
    have:=mU_ (l:=r) (k:=k+1) (by rw [←Nat.add_assoc];exact hn.1) (fun x hx=>hm x (List.mem_cons_of_mem _ hx)) (fun x hx=>by
     rcases List.mem_append.1 hx with hx|hx
     · exact ⟨Nat.le_succ_of_le (ho x hx).1,Nat.le_succ_of_le (ho x hx).2⟩
     · rw [List.mem_singleton.1 hx];exact ⟨Nat.le_succ_of_le hn.2.1,Nat.le_succ_of_le hn.2.2⟩) p e
    simp only [List.length_append,List.length_cons,List.length_nil] at this ⊢
    refine ⟨this.1.upto (by omega),by omega,fun x hx=>⟨Nat.le_trans (this.2.2 x hx).1 (by omega),Nat.le_trans (this.2.2 x hx).2 (by omega)⟩⟩
theorem k4_ {c:Nat} {s:ax_} {l:List TMut} (h:fC_ c s) (hm:mb_ c l):fC_ (c+l.length) (fr_ s l).1∧(fr_ s l).2.1.length≤5∧∀ x ∈ (fr_ s l).2.1,qs_ (c+l.length) x:=by
 unfold fr_
 cases fx_ s
 · exact ⟨⟨Nat.zero_le _,Nat.zero_le _,fun x hx=>(by cases hx)⟩,Nat.zero_le _,fun x hx=>(by cases hx)⟩
 · cases h2:(inn (l.length:Int) 1 5 && !(s.version == 100000))
   · exact ⟨h.upto (Nat.le_add_right _ _),Nat.zero_le _,fun x hx=>(by cases hx)⟩
   · simp only [cond_true]
     cases hb:gy_ s l [] with
     |none=>exact ⟨h.upto (Nat.le_add_right _ _),Nat.zero_le _,fun x hx=>(by cases hx)⟩
     |some p=>
      have:=mU_ (c:=c) (k:=0) (o:=[]) h hm (fun x hx=>(by cases hx)) p hb
      rw [Bool.and_eq_true] at h2
      have h5:=jd_.1 h2.1
      simp only [Nat.add_zero,List.length_nil,Nat.zero_add] at this
      exact ⟨this.1,by show p.2.length≤5;omega,this.2.2⟩
end Go.Pi
end
section
namespace Go.Pi
structure QIn (q:ay_):Prop where
 len:tr_ 1010 q
 show_:∀ x ∈ q.show_,0≤x∧x≤1000
theorem up1 {i:Nat} (h:i≤1000000):W ((i:Int)+1)=((i+1:Nat):Int):=by rw [Wn (by omega) (by omega)];rfl
theorem l9loop7 {K:Nat→ak_.K7} {P:ay_ × af_→Prop} {t6 t30 t40 t42 t43 t44 t46 t47 t48 t50 t52 t53 t54 t56 t57 t58} (hK:∀ c o,DwOk c→o.length≤3→Ans (fun n _=>K n t6 c.b c.i c.h t30 t40 t42 t43 t44 t46 t47 t48 t50 t52 t53 t54 t56 t57 t58 o) P) {c:af_} (hc:DwOk c) :
  Ans (fun n _=>ak_.loop7 n (K n) n t6 0 c.b c.i c.h t30 t40 t42 t43 t44 t46 t47 t48 t50 t52 t53 t54 t56 t57 t58 []) P:=by
 have key:∀ (m i:Nat) (c:af_) (o:List b3_),i+m=3→DwOk c→o.length=i→Ans (fun n N=>ak_.loop7 n (K n) N t6 (i:Int) c.b c.i c.h t30 t40 t42 t43 t44 t46 t47 t48 t50 t52 t53 t54 t56 t57 t58 o) P:=by
  intro m
  induction m with
  |zero=>
   intro i c o hi hc ho
   refine cE_ ?_
   simp only [ak_.turn7,ak_.step7,c4_]
   refine av_ (br_ hc) fun r hr => ?_
   have h1:=hr.lo;have h2:=hr.hi
   rw [decide_eq_false (by omega)]
   simp only [cond_false]
   exact hK _ _ hr.cur (by omega)
  |succ m ih=>
   intro i c o hi hc ho
   refine cE_ ?_
   simp only [ak_.turn7,ak_.step7,c4_]
   refine av_ (br_ hc) fun r hr => ?_
   simp only [ba_]
   refine ⟨fun _=>av_ (br_ hr.cur) fun r2 h2=>av_ (br_ h2.cur) fun r3 h3=>av_ (br_ h3.cur) fun r4 h4 => ?_,fun _=>hK _ _ hr.cur (by omega)⟩
   simp only [dC_,up1 (show i≤1000000 by omega)]
   exact ⟨by simp;omega,ih (i+1) r4.2 _ (by omega) h4.cur (by simp;omega)⟩
 exact ei_ (key 3 0 c [] rfl hc rfl)
theorem l9loop16 {K:Nat→ak_.K16} {P:ay_ × af_→Prop} {t6 t30 t40 t42 t43 t44 t46 t47 t48 t50 t52 t53 t54 t56 t57 t58 t51} (h6:t6≤1000) (hK:∀ c o,DwOk c→o.length≤1000→(∀ x ∈ o,0≤x∧x≤1000)→Ans (fun n _=>K n c.b c.i c.h t30 t40 t42 t43 t44 t46 t47 t48 t50 t52 t53 t54 t56 t57 t58 t51 o) P) {c:af_} (hc:DwOk c) :
  Ans (fun n _=>ak_.loop16 n (K n) n t6 0 c.b c.i c.h t30 t40 t42 t43 t44 t46 t47 t48 t50 t52 t53 t54 t56 t57 t58 t51 []) P:=by
 have key:∀ (m i:Nat) (c:af_) (o:List Int),i+m=1000→DwOk c→o.length≤i→(∀ x ∈ o,0≤x∧x≤1000)→Ans (fun n N=>ak_.loop16 n (K n) N t6 (i:Int) c.b c.i c.h t30 t40 t42 t43 t44 t46 t47 t48 t50 t52 t53 t54 t56 t57 t58 t51 o) P:=by
  intro m
  induction m with
  |zero=>
   intro i c o hi hc ho hx
   refine cE_ ?_
   simp only [ak_.turn16,ak_.step16,c4_]
   rw [decide_eq_false (by omega)]
   simp only [cond_false]
   exact hK _ _ hc (by omega) hx
  |succ m ih=>
   intro i c o hi hc ho hx
   refine cE_ ?_
   simp only [ak_.turn16,ak_.step16,c4_,ba_]
   refine ⟨fun _=>av_ (fe_ hc) fun r hr => ?_,fun _=>hK _ _ hc (by omega) hx⟩
   simp only [ba_,dC_,up1 (show i≤1000000 by omega)]
   refine ⟨fun _=>⟨by simp;omega,ih (i+1) r.2 _ (by omega) hr (by simp;omega) fun x hx' => ?_⟩,fun _=>ih (i+1) r.2 _ (by omega) hr (by omega) hx⟩
   rcases List.mem_append.1 hx' with h|h
   · exact hx x h
   · rw [List.mem_singleton.1 h];omega
 exact ei_ (key 1000 0 c [] rfl hc (Nat.le_refl _) fun x hx=>(by cases hx))
theorem mc_ {c:af_} {s:aY_} (hc:DwOk c) (hs:∀ x ∈ s.cols,x≤1000):Ans (fun n _=>ak_ n c s) fun r=>QIn r.1∧DwOk r.2:=by
 have hg:∀ i,s.cols.getD i 0≤1000:=fun i=>by
  by_cases hi:i<s.cols.length
  · exact hs _ (bX_ _ hi)
  · rw [List.getD_eq_getElem?_getD,List.getElem?_eq_none (by omega)];decide
 have hm:∀ i,max (s.cols.getD i 0) 1≤1000:=fun i=>by have:=hg i;omega
 refine b8_ ?_
 simp only [ak_]
 repeat' (first
  |(rw [a2_ jt_])
  |(refine av_ (br_ (by assumption)) fun _ hd => ?_;obtain ⟨_,_,_⟩:=hd)
  |(refine av_ (fe_ (by assumption)) fun _ _ => ?_)
  |(refine av_ (eS_ (by assumption) (by simp)) fun _ hd => ?_;obtain ⟨_,_⟩:=hd)
  |(with_reducible refine ba_.2 ⟨fun _ => ?_,fun _ => ?_⟩)
  |(with_reducible refine fb_.2 ⟨⟨?_,?_⟩,?_⟩)
  |(refine l9loop7 (fun _ _ _ _ => ?_) (by assumption))
  |(refine l9loop16 (by first|exact hm _|decide) (fun _ _ _ _ _ => ?_) (by assumption))
  |((with_reducible refine aM_.2 ?_);refine ⟨⟨⟨?_,?_⟩,?_⟩,?_⟩))
 all_goals (first|assumption|(simp only [decide_eq_true_eq] at *;assumption)|(refine Nat.le_trans ?_ (show 3≤1010 by decide);assumption)|(refine Nat.le_trans ?_ (show 1000≤1010 by decide);assumption))
theorem ox_ {k:Nat} {c:af_} {s:ax_} (hc:DwOk c) (hs:StIn k s):Ans (fun n _=>ds_ n c s) fun r=>r.1.row.cells.length≤1000∧DwOk r.2:=by
 refine b8_ ?_
 simp only [ds_]
 repeat' (first
  |(rw [a2_ jt_])
  |(refine av_ (br_ (by assumption)) fun _ hd => ?_;obtain ⟨_,_,_⟩:=hd)
  |(refine av_ (fe_ (by assumption)) fun _ _ => ?_)
  |(refine av_ (eS_ (by assumption) (by simp)) fun _ hd => ?_;obtain ⟨_,_⟩:=hd)
  |(refine av_ (jL_ (by assumption) (hs.getD _)) fun _ hd => ?_;obtain ⟨_,_⟩:=hd)
  |(with_reducible refine ba_.2 ⟨fun _ => ?_,fun _ => ?_⟩)
  |(with_reducible refine fb_.2 ⟨⟨?_,?_⟩,?_⟩)
  |(with_reducible refine aM_.2 ⟨?_,by assumption⟩))
 all_goals (first|assumption|exact Nat.zero_le _|(simp only [decide_eq_true_eq,decide_eq_false_iff_not] at *;omega))
theorem FMutDo_in {k:Nat} {s:ax_} {m:TMut} (h:StIn k s) (hr:m.row.cells.length≤k):StIn (k+1) (gR_ s m).1:=by
 refine ⟨(kH_ h.len hr).1,?_⟩
 unfold gR_
 cases fx_ s
 · exact fun x hx=>(by cases hx)
 · cases (j6_ s.schema m&&rm_ s m)<;>exact h.col
theorem rq_ {k:Nat} {s:ax_} {l:List TMut} (h:StIn k s) (hm:mb_ k l):StIn (k+l.length) (fr_ s l).1:=by
 refine ⟨(k4_ h.len hm).1,?_⟩
 unfold fr_
 cases fx_ s
 · exact fun x hx=>(by cases hx)
 · cases (inn (l.length:Int) 1 5 && !(s.version == 100000))
   · exact h.col
   · have key:∀ (l:List TMut) (t:ax_) (o:List aV_),(∀ x ∈ t.schema.cols,x≤1000)→∀ p,gy_ t l o=some p→∀ x ∈ p.1.schema.cols,x≤1000:=by
      intro l
      induction l with
      |nil=>intro t o ht p e;cases e;exact ht
      |cons m r ih=>
       intro t o ht p e
       unfold gy_ at e
       cases hq:(gR_ t m).2.2<;>rw [hq] at e
       · cases e
       · refine ih _ _ ?_ p e
         unfold gR_
         cases fx_ t
         · exact fun x hx=>(by cases hx)
         · cases (j6_ t.schema m&&rm_ t m)<;>exact ht
     simp only [cond_true]
     cases hb:gy_ s l [] with
     |none=>exact h.col
     |some p=>exact key l s [] h.col p hb
theorem me_ {k:Nat} {c:af_} {s:ax_} (hc:DwOk c) (hs:StIn k s) (hk:1000≤k) (hk2:k≤90000):Ans (fun n _=>aC_ n c s) fun r=>r.1.length≤3∧mb_ 1000 r.1∧DwOk r.2:=by
 have key:∀ (m i:Nat) (c:af_) (s:ax_) (o:List TMut),i+m=3→DwOk c→StIn (k+i) s→o.length≤i→mb_ 1000 o →
   Ans (fun n N=>aC_.loop5 n (fun xy14 xy15 xy16 xy17=>(some (xy17,(af_.mk xy14 xy15 xy16)))) N (i:Int) c.b c.i c.h s.schema.cols s.version s.tables o) fun r=>r.1.length≤3∧mb_ 1000 r.1∧DwOk r.2:=by
  intro m
  induction m with
  |zero=>
   intro i c s o hi hc hs ho hm
   refine cE_ ?_
   simp only [aC_.turn5,aC_.step5,c4_]
   refine av_ (br_ hc) fun r hr => ?_
   have h1:=hr.lo;have h2:=hr.hi
   rw [Wn (x:=1+r.1) (by omega) (by omega),decide_eq_false (by omega)]
   simp only [cond_false,c4_,aM_]
   exact ⟨by omega,hm,hr.cur⟩
  |succ m ih=>
   intro i c s o hi hc hs ho hm
   refine cE_ ?_
   simp only [aC_.turn5,aC_.step5,c4_]
   refine av_ (br_ hc) fun r hr => ?_
   simp only [ba_,c4_,aM_,gi_,fz_]
   refine ⟨fun _=>av_ (ox_ hr.cur hs) fun r2 h2 => ?_,fun _=>⟨by omega,hm,hr.cur⟩⟩
   have hD:=jx_ (s:=s) (m:=r2.1) (hs.len.upto (by simp only [fh_];omega)) (Nat.le_trans h2.1 (by decide))
   have hn:=FMutDo_in (m:=r2.1) hs (Nat.le_trans h2.1 (by omega))
   have hm2:mb_ 1000 (o++[r2.1]):=fun x hx=>by
    rcases List.mem_append.1 hx with h|h
    · exact hm x h
    · rw [List.mem_singleton.1 h];exact h2.1
   have e1:=up1 (show i≤1000000 by omega)
   have hnow:StIn (k+(i+1)) s:=hs.upto (by omega)
   have hgo:∀ (t:ax_) (c:af_) (q:List TMut),StIn (k+(i+1)) t→DwOk c→q.length≤i+1→mb_ 1000 q→Ans (fun n N=>aC_.loop5 n (fun xy14 xy15 xy16 xy17=>(some (xy17,(af_.mk xy14 xy15 xy16)))) N ((i+1:Nat):Int) c.b c.i c.h t.schema.cols t.version t.tables q) fun r=>r.1.length≤3∧mb_ 1000 r.1∧DwOk r.2:=fun t c q h1 h2 h3 h4=>ih (i+1) c t q (by omega) h2 h1 h3 h4
   simp only [aC_.tail9,gi_,fz_,on_,lh_,a2_ hD,e1,c4_]
   repeat' (first
    |(with_reducible refine ba_.2 ⟨fun _ => ?_,fun _ => ?_⟩)
    |(refine av_ (fe_ h2.2) fun r3 h3 => ?_)
    |(with_reducible refine dC_.2 ⟨by simp;omega,?_⟩))
   all_goals (first
    |exact hgo _ _ _ hn h2.2 (by simp;omega) hm2
    |exact hgo _ _ _ hn (by assumption) (by simp;omega) hm2
    |exact hgo _ _ _ hn (by assumption) (by omega) hm
    |exact hgo s _ _ hnow h2.2 (by simp;omega) hm2
    |exact hgo s _ _ hnow (by assumption) (by simp;omega) hm2
    |exact hgo s _ _ hnow (by assumption) (by omega) hm)
 refine b8_ ?_
 simp only [aC_]
 exact ei_ (key 3 0 c s [] rfl hc hs (Nat.le_refl _) fun x hx=>(by cases hx))
end Go.Pi
end
section
namespace Go.Pi
def FPut (q:ay_) (rows:List TRow) (r:TRow):List TRow:=rows.take (rows.findIdx (fun x=>hO_ q r x))++[r]++rows.drop (rows.findIdx (fun x=>hO_ q r x))
theorem take_mid {α:Type} (d:α) {a m:List α} {i p:Nat} (hi:i<a.length) (h:p≤i):a.take p++m++(a.take (i+1)).drop p=a.take p++m++(a.take i).drop p++[a.getD i d]:=by
 rw [cB_ d hi,List.drop_append_of_le_length (by simp;omega)]
 simp
theorem ahead_idx {q:ay_} {r:TRow} {rows:List TRow} {i:Nat} (hi:i<rows.length) (hle:i≤rows.findIdx (fun x=>hO_ q r x)):hO_ q r (rows.getD i TRow.dflt)=decide (i=rows.findIdx (fun x=>hO_ q r x)):=by
 rw [List.getD_eq_getElem?_getD,List.getElem?_eq_getElem hi,Option.getD_some]
 by_cases h:i=rows.findIdx (fun x=>hO_ q r x)
 · rw [decide_eq_true h]
   have:=List.findIdx_getElem (xs:=rows) (p:=fun x=>hO_ q r x) (w:=by omega)
   simp only [←h] at this
   exact this
 · rw [decide_eq_false h]
   have:=List.not_of_lt_findIdx (xs:=rows) (p:=fun x=>hO_ q r x) (i:=i) (by omega)
   simpa using this
theorem gU_ {q:ay_} {rows:List TRow} {r:TRow} (h:hp_ fh_ rows) (hr:r.cells.length≤fh_):Ev (fun n _=>bU_ n q rows r) (FPut q rows r):=by
 refine ap_ ?_
 have hl:=h.1
 simp only [fh_] at hl
 have ht:rows.length≤b6_:=by simp only [b6_];omega
 have hrt:r.cells.length≤b6_:=by simp only [b6_];simp only [fh_] at hr;omega
 simp only [bU_]
 have e0:∀ r:TRow,TRow.mk r.id_ r.cells=r:=fun _=>rfl
 have hA:∀ (x:TRow) (g:Nat→Nat→Bool→Option (List TRow)) (v:List TRow),x.cells.length≤b6_→(Ev (fun n N=>(ey_ n (ay_.mk q.table q.where_ q.order q.down q.first q.show_ q.kids q.kidTable q.kidCol) r x).bind (g n N)) v↔Ev (fun n N=>g n N (hO_ q r x)) v):=fun x g v hx=>ab_ (n7_ hrt hx)
 obtain ⟨p,hp⟩:∃ p,p=rows.findIdx (fun x=>hO_ q r x):=⟨_,rfl⟩
 have hpl:p≤rows.length:=by rw [hp];exact List.findIdx_le_length
 let S:Nat→Bool × List TRow:=fun i=>if i≤p then (false,rows.take i) else (true,rows.take p++[r]++(rows.take i).drop p)
 have hS0:S 0=(false,[]):=by simp [S]
 have:=eE_ S rows.length (fun n N i (s:Bool × List TRow)=>bU_.loop5 n (fun xy3 xy4 xy5 xy6=>(cond (!xy3) ((cw_ n (TRow.mk xy4 xy5)).bind fun xr7=>(bf_ (xy6.length+([xr7]:List TRow).length) 32 (some (xy6++([xr7]:List TRow))))) (some xy6))) N rows s.1 (i:Int) q.table q.where_ q.order q.down q.first q.show_ q.kids q.kidTable q.kidCol r.id_ r.cells s.2) (FPut q rows r) (fun i hi F hF => ?_) ?_
 · rw [hS0] at this;exact this
 · simp only [bU_.turn5,bU_.step5,Int.toNat_natCast,W_up hi ht,e0]
   have hx:=ahead_idx (q:=q) (r:=r) hi
   rw [←hp] at hx
   have hlt:(S i).2.length≤rows.length+1:=by simp only [S];split<;>simp<;>omega
   simp only [am_,bb_,hA _ _ _ (iE_ (rows:=rows) ⟨ht,fun x hx=>by have:=h.2 x hx;simp only [fh_] at this;simp only [b6_];omega⟩ i),gI_ hr,bk_,cC_ hi,cf_ hi]
   refine ⟨fun _=>⟨fun hn=>⟨trivial,fun ha=>⟨by simp;omega,trivial,by simp;omega,?_⟩,fun ha=>⟨trivial,by simp;omega,?_⟩⟩,fun hn=>⟨trivial,by simp;omega,?_⟩⟩,fun h=>by cases h⟩
   all_goals (by_cases hle:i≤p)
   · have e:i=p:=by rw [hx hle] at ha;exact of_decide_eq_true ha
     subst e
     simp only [S,if_neg (show ¬ i+1≤i by omega),if_pos (Nat.le_refl i),cB_ TRow.dflt hi,List.drop_append_of_le_length (show i≤(rows.take i).length by simp;omega),List.drop_eq_nil_of_le (show (rows.take i).length≤i by simp;omega),List.nil_append] at hF ⊢
     exact hF
   · simp only [S,if_neg hle] at hn;cases hn
   · have e:i≠p:=by rw [hx hle] at ha;exact of_decide_eq_false ha
     simp only [S,if_pos hle,if_pos (show i+1≤p by omega),cB_ TRow.dflt hi] at hF ⊢
     exact hF
   · simp only [S,if_neg hle] at hn;cases hn
   · simp only [S,if_pos hle] at hn;cases hn
   · simp only [S,if_neg hle,if_neg (show ¬ i+1≤p by omega),take_mid TRow.dflt hi (show p≤i by omega)] at hF ⊢
     exact hF
 · simp only [bU_.turn5,bU_.step5,cn_,cond_false,e0,am_,gI_ hr,bk_,ae_]
   unfold FPut
   rw [←hp]
   by_cases hle:rows.length≤p
   · have e:rows.length=p:=by omega
     simp only [S,if_pos hle,←e]
     simp;omega
   · simp only [S,if_neg hle]
     simp
end Go.Pi
end
section
namespace Go.Pi
def gJ_ (kids:List TKid) (id:Int):Nat:=kids.findIdx (fun k=>decide (k.id_≥id))
def pO_ (k:TKid) (id by_:Int):List TKid :=
 cond (k.id_ == id) (cond (decide (W (k.n_+by_) > 0)) [TKid.mk id (W (k.n_+by_))] []) (cond (decide (by_ > 0)) [TKid.mk id by_,k] [k])
def FKid (kids:List TKid) (id by_:Int):List TKid :=
 cond (decide (gJ_ kids id<kids.length)) (kids.take (gJ_ kids id)++pO_ (kids.getD (gJ_ kids id) TKid.dflt) id by_++kids.drop (gJ_ kids id+1)) (cond (decide (by_ > 0)) (kids++[TKid.mk id by_]) kids)
theorem kid_idx {kids:List TKid} {id:Int} {i:Nat} (hi:i<kids.length) (hle:i≤gJ_ kids id):((kids.getD i TKid.dflt).id_≥id↔i=gJ_ kids id)∧((kids.getD i TKid.dflt).id_<id↔i≠gJ_ kids id):=by
 have key:(kids.getD i TKid.dflt).id_≥id↔i=gJ_ kids id:=by
  rw [List.getD_eq_getElem?_getD,List.getElem?_eq_getElem hi,Option.getD_some]
  unfold gJ_ at hle ⊢
  constructor
  · intro h
    refine Classical.byContradiction fun hne => ?_
    have:=List.not_of_lt_findIdx (xs:=kids) (p:=fun k=>decide (k.id_≥id)) (i:=i) (by omega)
    rw [decide_eq_true h] at this;cases this
  · intro h
    have:=List.findIdx_getElem (xs:=kids) (p:=fun k=>decide (k.id_≥id)) (w:=by omega)
    simp only [←h] at this
    exact of_decide_eq_true this
 exact ⟨key,fun h e=>by have:=key.2 e;omega,fun h=>by have:=fun g=>h (key.1 g);omega⟩
theorem kq_ (k:TKid) (id by_:Int):(pO_ k id by_).length≤2:=by
 unfold pO_
 cases (k.id_ == id)<;>simp only [cond_true,cond_false]
 · cases decide (by_ > 0)<;>simp
 · cases decide (W (k.n_+by_) > 0)<;>simp
theorem take_midK {a m:List TKid} {i p:Nat} (hi:i<a.length) (h:p+1≤i):a.take p++m++(a.take (i+1)).drop (p+1)=a.take p++m++(a.take i).drop (p+1)++[a.getD i TKid.dflt]:=by
 rw [cB_ TKid.dflt hi,List.drop_append_of_le_length (by simp;omega)]
 simp
theorem fJ_ {kids:List TKid} {id by_:Int} (h:kids.length≤fh_):Ev (fun n _=>aQ_ n kids id by_) (FKid kids id by_):=by
 refine ap_ ?_
 have hl:=h
 simp only [fh_] at hl
 have ht:kids.length≤b6_:=by simp only [b6_];omega
 simp only [aQ_]
 obtain ⟨p,hp⟩:∃ p,p=gJ_ kids id:=⟨_,rfl⟩
 have hpl:p≤kids.length:=by rw [hp];exact List.findIdx_le_length
 obtain ⟨m,hm⟩:∃ m,m=pO_ (kids.getD p TKid.dflt) id by_:=⟨_,rfl⟩
 have hml:m.length≤2:=by rw [hm];exact kq_ _ _ _
 let S:Nat→Bool × List TKid:=fun i=>if i≤p then (false,kids.take i) else (true,kids.take p++m++(kids.take i).drop (p+1))
 have hS0:S 0=(false,[]):=by simp [S]
 have:=eE_ S kids.length (fun n N i (s:Bool × List TKid)=>aQ_.loop5 n (fun xy1 xy2 xy3 xy4=>(cond (!xy3) (cond (decide (xy2 > 0)) (bf_ (xy4.length+([(TKid.mk xy1 xy2)]:List TKid).length) 16 (some (xy4++([(TKid.mk xy1 xy2)]:List TKid)))) (some xy4)) (some xy4))) N kids id by_ s.1 (i:Int) s.2) (FKid kids id by_) (fun i hi F hF => ?_) ?_
 · rw [hS0] at this;exact this
 · have hx:=kid_idx (kids:=kids) (id:=id) hi
   rw [←hp] at hx
   have hlt:(S i).2.length≤kids.length+2:=by simp only [S];split<;>simp<;>omega
   obtain ⟨k,hk⟩:∃ k,k=kids.getD i TKid.dflt:=⟨_,rfl⟩
   simp only [aQ_.turn5,aQ_.step5,Int.toNat_natCast,W_up hi ht,am_,bb_,bk_,cC_ hi,cf_ hi,←hk]
   refine ⟨fun _=>⟨trivial,?_⟩,fun h=>by cases h⟩
   by_cases hle:i≤p
   · have s1:S i=(false,kids.take i):=by simp only [S,if_pos hle]
     rw [s1] at hlt ⊢
     by_cases e:i=p
     · have hge:k.id_≥id:=by rw [hk];exact (hx hle).1.2 e
       subst e
       have s2:S (i+1)=(true,kids.take i++m):=by
        simp only [S,if_neg (show ¬ i+1≤i by omega)]
        rw [List.drop_eq_nil_of_le (by simp;omega),List.append_nil]
       rw [s2,hm,←hk] at hF
       unfold pO_ at hF
       simp only [hge,decide_true,Bool.not_false,cond_true] at hF ⊢
       cases h1:(k.id_ == id)<;>cases h2:decide (by_ > 0)<;>cases h3:decide (W (k.n_+by_) > 0)<;>simp only [h1,h2,h3,cond_true,cond_false] at hF ⊢
       all_goals (repeat' (first|apply And.intro|intro _))
       all_goals (first|contradiction|exact hF|(simpa using hF)|(simp;omega))
     · have hlt2:¬ k.id_≥id:=by rw [hk];exact fun h=>e ((hx hle).1.1 h)
       have s2:S (i+1)=(false,kids.take i++[k]):=by
        simp only [S,if_pos (show i+1≤p by omega),hk,cB_ TKid.dflt hi]
       rw [s2] at hF
       simp only [hlt2,decide_false]
       repeat' (first|apply And.intro|intro _)
       all_goals (first|contradiction|exact hF|(simpa using hF)|(simp;omega))
   · have s1:S i=(true,kids.take p++m++(kids.take i).drop (p+1)):=by simp only [S,if_neg hle]
     have s2:S (i+1)=(true,kids.take p++m++(kids.take i).drop (p+1)++[k]):=by
      simp only [S,if_neg (show ¬ i+1≤p by omega),hk]
      rw [take_midK hi (by omega)]
     rw [s1] at hlt ⊢
     rw [s2] at hF
     repeat' (first|apply And.intro|intro _)
     all_goals (first|contradiction|exact hF|(simp at hlt ⊢;omega))
 · simp only [aQ_.turn5,aQ_.step5,cn_,cond_false,am_,bk_,ae_]
   unfold FKid
   rw [←hp,←hm]
   by_cases hle:kids.length≤p
   · have e:p=kids.length:=by omega
     have s1:S kids.length=(false,kids):=by simp only [S,if_pos hle,List.take_length]
     rw [s1,decide_eq_false (show ¬ p<kids.length by omega)]
     simp only [cond_false]
     refine ⟨fun _=>⟨fun h=>⟨by simp;omega,by rw [h];rfl⟩,fun h=>by rw [h];rfl⟩,fun h=>by cases h⟩
   · have s1:S kids.length=(true,kids.take p++m++kids.drop (p+1)):=by simp only [S,if_neg hle,List.take_length]
     rw [s1,decide_eq_true (show p<kids.length by omega)]
     exact ⟨fun h=>(by cases h),fun _=>rfl⟩
end Go.Pi
end
section
namespace Go.Pi
theorem ko_.upto {c d:Nat} {v:bn_} (h:ko_ c v) (hc:c≤d):ko_ d v:=⟨⟨Nat.le_trans h.1.1 hc,Nat.le_trans h.1.2 hc⟩,h.2.1.upto hc,Nat.le_trans h.2.2 hc⟩
section
variable {β:Type}
theorem rZ_ {q:ay_} (h:tr_ fh_ q) {g:Nat→Nat→ay_→Option β} {v:β}:Ev (fun n N=>(ea_ n q).bind (g n N)) v↔Ev (fun n N=>g n N q) v :=
 ab_ (ap_ (by have h1:=h.1;have h2:=h.2;simp only [fh_] at h1 h2;simp only [ea_,bk_,ae_,List.nil_append,and_true,List.length_nil];omega))
theorem h7_ {x:bn_} (h:ko_ fh_ x) {g:Nat→Nat→bn_→Option β} {v:β}:Ev (fun n N=>(cY_ n x).bind (g n N)) v↔Ev (fun n N=>g n N x) v :=
 ab_ (ap_ (by have h1:=h.2.2;simp only [fh_] at h1;simp only [cY_,rZ_ h.1,ab_ (pL_ h.2.1),bk_,ae_,List.nil_append,and_true,List.length_nil];omega))
theorem pN_ {x:cp_} (h:lenS fh_ x) {g:Nat→Nat→cp_→Option β} {v:β}:Ev (fun n N=>(dP_ n x).bind (g n N)) v↔Ev (fun n N=>g n N x) v :=
 ab_ (ap_ (by simp only [dP_,h7_ h.1,h7_ h.2,ae_]))
end
def su_ (v:bn_) (c:aV_):List TRow :=
 cond (c.table == v.q.table) (cond (c.has&&gc_ v.q c.new) (FPut v.q (cond c.had (j7_ v.rows c.old.id_) v.rows) c.new) (cond c.had (j7_ v.rows c.old.id_) v.rows)) v.rows
def sv_ (v:bn_) (c:aV_):List TKid :=
 cond (v.q.kids&&(c.table == v.q.kidTable)) (cond c.has (FKid (cond c.had (FKid v.kids (gx_ c.old v.q.kidCol) (-1)) v.kids) (gx_ c.new v.q.kidCol) 1) (cond c.had (FKid v.kids (gx_ c.old v.q.kidCol) (-1)) v.kids)) v.kids
def kI_ (v:bn_) (c:aV_):bn_:=⟨v.q,su_ v c,sv_ v c⟩
theorem lt_ {c:Nat} {q:ay_} {rows:List TRow} {r:TRow} (h:hp_ c rows) (hr:r.cells.length≤c):hp_ (c+1) (FPut q rows r):=by
 unfold FPut
 refine ⟨by have:=h.1;simp;omega,fun x hx => ?_⟩
 rcases List.mem_append.1 hx with hx|hx
 · rcases List.mem_append.1 hx with hx|hx
   · exact Nat.le_succ_of_le (h.2 x (List.mem_of_mem_take hx))
   · rw [List.mem_singleton.1 hx];omega
 · exact Nat.le_succ_of_le (h.2 x (List.mem_of_mem_drop hx))
theorem lv_ {kids:List TKid} {id by_:Int}:(FKid kids id by_).length≤kids.length+1:=by
 unfold FKid
 have:=kq_ (kids.getD (gJ_ kids id) TKid.dflt) id by_
 by_cases h:gJ_ kids id<kids.length
 · rw [decide_eq_true h,cond_true];simp only [List.length_append,List.length_take,List.length_drop];omega
 · rw [decide_eq_false h];cases decide (by_ > 0)<;>simp
theorem ju_ {c:Nat} {v:bn_} {x:aV_} (h:ko_ c v) (hx:qs_ c x) (hc:c+1≤fh_):Ev (fun n _=>de_ n v x) (kI_ v x):=by
 refine ap_ ?_
 have hv:=h.upto (show c≤fh_ by omega)
 have hd:=mS_ (id:=x.old.id_) hv.2.1
 have hr:x.new.cells.length≤fh_:=by have:=hx.2;omega
 have hk:=hv.2.2
 have hk2:∀ id b,(FKid v.kids id b).length≤fh_:=fun id b=>by have:=lv_ (kids:=v.kids) (id:=id) (by_:=b);have:=h.2.2;omega
 simp only [de_,h7_ hv,am_,ab_ (gh_ (id:=x.old.id_) hv.2.1),ab_ (hZ_ (q:=v.q) (r:=x.new) (hg_ hv.1.1 (Nat.le_refl _)) (hg_ hr (Nat.le_refl _))),ab_ (gU_ (q:=v.q) (r:=x.new) hd hr),ab_ (gU_ (q:=v.q) (r:=x.new) hv.2.1 hr),
  ab_ (eY_ (r:=x.old) (col:=v.q.kidCol) (hg_ hx.1 (by omega))),ab_ (eY_ (r:=x.new) (col:=v.q.kidCol) (hg_ hx.2 (by omega))),
  ab_ (fJ_ (kids:=v.kids) (id:=gx_ x.old v.q.kidCol) (by_:=-1) hk),ab_ (fJ_ (kids:=v.kids) (id:=gx_ x.new v.q.kidCol) (by_:=1) hk),ab_ (fJ_ (id:=gx_ x.new v.q.kidCol) (by_:=1) (hk2 (gx_ x.old v.q.kidCol) (-1))),ae_]
 unfold kI_ su_ sv_
 cases h1:(x.table == v.q.table)<;>cases h2:x.had<;>cases h3:x.has<;>cases h4:gc_ v.q x.new<;>cases h5:v.q.kids<;>cases h6:(x.table == v.q.kidTable)<;>simp
end Go.Pi
end
section
namespace Go.Pi
def kE_ (q:ay_) (o:List TRow) (rows:List TRow):List TRow:=rows.foldl (fun o r=>cond (gc_ q r) (FPut q o r) o) o
def FSQ (s:ax_) (q:ay_):Bool:=fx_ s&&iZ_ s.schema q
def hC_ (s:ax_) (q:ay_):List TRow:=cond (FSQ s q) (kE_ q [] (s.tables.getD q.table.toNat [])) []
def jm_ (q:ay_) (k:List TKid) (rows:List TRow):List TKid:=rows.foldl (fun k r=>FKid k (r.cells.getD q.kidCol.toNat 0) 1) k
def lu_ (s:ax_) (q:ay_):List TKid:=cond q.kids (jm_ q [] (s.tables.getD q.kidTable.toNat [])) []
def zeroQ:ay_:=ay_.mk 0 [] 0 false 0 [] false 0 0
def sx_:bn_:=bn_.mk zeroQ [] []
def g2_ (s:ax_) (q:ay_):bn_ × Bool:=cond (FSQ s q) (bn_.mk q (hC_ s q) (lu_ s q),true) (sx_,false)
theorem km_ (q:ay_):ay_.mk q.table q.where_ q.order q.down q.first q.show_ q.kids q.kidTable q.kidCol=q:=rfl
structure SQ (s:ax_) (q:ay_):Prop where
 tab:0≤q.table∧q.table<(s.tables.length:Int)
 kid:0≤q.kidTable∧q.kidTable<(s.tables.length:Int)
 col:q.kids=true→∀ r ∈ s.tables.getD q.kidTable.toNat [],0≤q.kidCol∧q.kidCol<(r.cells.length:Int)
theorem sq_of {s:ax_} {q:ay_} (h:FSQ s q=true) (hc:s.schema.cols.length≤b6_) (hct:s.tables.length≤b6_) (hrl:∀ x ∈ s.tables,x.length≤b6_∧∀ r ∈ x,r.cells.length≤b6_):SQ s q:=by
 have e:=@W_dn s.schema.cols.length hc
 unfold FSQ at h
 rw [Bool.and_eq_true] at h
 obtain ⟨h1,h2⟩:=h
 unfold fx_ at h1
 simp only [Bool.and_eq_true] at h1
 have hl:s.tables.length=s.schema.cols.length:=of_decide_eq_true h1.2.2.1
 have hT:=h1.2.2.2
 unfold iZ_ at h2
 simp only [Bool.and_eq_true] at h2
 have ht:=jd_.1 h2.2.1
 rw [e] at ht
 have hcl:1≤s.schema.cols.length:=by omega
 have hk:FKids s.schema q=true:=by
  have:=h2.2.2.2.2.2
  grind
 unfold FKids at hk
 cases hkk:q.kids<;>rw [hkk] at hk
 · simp only [cond_false,Bool.and_eq_true,beq_iff_eq] at hk
   exact ⟨by omega,by omega,fun h=>by rw [hkk] at h;cases h⟩
 · simp only [cond_true,Bool.and_eq_true] at hk
   have k1:=jd_.1 hk.1
   have k2:=jd_.1 hk.2
   rw [e] at k1
   refine ⟨by omega,by omega,fun _ r hr => ?_⟩
   have hi:q.kidTable.toNat<s.tables.length:=by omega
   have hrow:=e8_.1 hT q.kidTable.toNat hi
   unfold rj_ at hrow
   obtain ⟨j,hj,rfl⟩:=List.mem_iff_getElem.1 hr
   simp only [Bool.and_eq_true] at hrow
   have hf:FRow s.schema (q.kidTable.toNat:Int) ((s.tables.getD q.kidTable.toNat []).getD j TRow.dflt)=true:=by
    have:=e8_.1 hrow.1 j hj
    simp only [Bool.and_eq_true] at this
    exact this.1
   unfold FRow at hf
   simp only [Bool.and_eq_true] at hf
   have hlen:=of_decide_eq_true hf.2.2.2.1
   rw [List.getD_eq_getElem?_getD,List.getElem?_eq_getElem hj,Option.getD_some,Int.toNat_natCast] at hlen
   have hle:((s.tables.getD q.kidTable.toNat [])[j]).cells.length≤b6_:=(hrl _ (bX_ _ hi)).2 _ hr
   rw [←hlen,W_dn hle] at k2
   omega
theorem mN_ {c:Nat} {q:ay_}:∀ {rows o:List TRow} {k:Nat},hp_ (c+k) o→(∀ r ∈ rows,r.cells.length≤c)→hp_ (c+k+rows.length) (kE_ q o rows)
 |[],o,k,h,_=>h
 |r::rows,o,k,h,hr=>by
  have h1:=hr r (List.mem_cons_self ..)
  have h2:hp_ (c+(k+1)) (cond (gc_ q r) (FPut q o r) o):=by
   cases gc_ q r
   · exact h.upto (by omega)
   · exact lt_ h (Nat.le_trans h1 (Nat.le_add_right _ _))
  have:=mN_ (q:=q) (rows:=rows) h2 fun x hx=>hr x (List.mem_cons_of_mem _ hx)
  exact this.upto (by simp;omega)
theorem qp_ {kids:List TKid} {id by_:Int}:(FKid kids id by_).length≤kids.length+1:=by
 have:=kq_ (kids.getD (gJ_ kids id) TKid.dflt) id by_
 unfold FKid
 cases h:decide (gJ_ kids id<kids.length)
 · cases decide (by_ > 0)<;>simp
 · have:=of_decide_eq_true h
   simp only [cond_true,List.length_append,List.length_take,List.length_drop];omega
theorem mP_ {q:ay_}:∀ {rows:List TRow} {k:List TKid},(jm_ q k rows).length≤k.length+rows.length
 |[],k=>Nat.le_refl _
 |r::rows,k=>by
  have h1:=qp_ (kids:=k) (id:=r.cells.getD q.kidCol.toNat 0) (by_:=1)
  have h2:=mP_ (q:=q) (rows:=rows) (k:=FKid k (r.cells.getD q.kidCol.toNat 0) 1)
  show (jm_ q _ rows).length≤_
  simp only [List.length_cons];omega
section
variable {s:ax_} {q:ay_} {c:Nat} (hl:fC_ c s) (hq:tr_ 100000 q) (hc:c≤100000)
include hl hq hc
theorem lM_:Ev (fun n _=>bK_ n s q) (hC_ s q):=by
 have hs:s.schema.cols.length≤b6_:=hg_ (Nat.le_trans hl.1 hc) (by decide)
 have hL:fC_ b6_ s:=hl.upto (Nat.le_trans hc (by decide))
 have hqT:tr_ b6_ q:=⟨Nat.le_trans hq.1 (by decide),Nat.le_trans hq.2 (by decide)⟩
 refine ap_ ?_
 simp only [bK_,ab_ (fl_ hL),ab_ (hY_ hs hqT),am_,ae_,bb_]
 unfold hC_ FSQ
 cases h1:fx_ s
 · exact ⟨fun _=>rfl,fun h=>(by cases h)⟩
 refine ⟨fun h=>(by cases h),fun _ => ?_⟩
 cases h2:iZ_ s.schema q
 · exact ⟨fun _=>rfl,fun h=>(by cases h)⟩
 refine ⟨fun h=>(by cases h),fun _ => ?_⟩
 have hS:=sq_of (s:=s) (q:=q) (by unfold FSQ;rw [h1,h2];rfl) hs hL.2.1 hL.2.2
 refine ⟨hS.tab,?_⟩
 have hT:hp_ c (s.tables.getD q.table.toNat []):=fR_ hl.2.2 _
 simp only [Bool.and_self,cond_true]
 generalize s.tables.getD q.table.toNat []=rows at hT ⊢
 have key:∀ (m i:Nat) (o:List TRow),i+m=rows.length→hp_ (c+i) o→Ev (fun n N=>bK_.loop8 n (fun xy5=>(some xy5)) N rows (i:Int) q.table q.where_ q.order q.down q.first q.show_ q.kids q.kidTable q.kidCol o) (kE_ q o (rows.drop i)):=by
  intro m
  induction m with
  |zero=>
   intro i o hi ho
   have e:i=rows.length:=by omega
   subst e
   refine bF_ ?_
   simp only [bK_.turn8,bK_.step8,cn_,cond_false,ae_,List.drop_length,kE_,List.foldl_nil]
  |succ m ih=>
   intro i o hi ho
   have hlt:i<rows.length:=by omega
   have h1:=hT.1
   have hr:=hT.2 _ (bX_ TRow.dflt hlt)
   have hM:=hZ_ (q:=q) (r:=rows.getD i TRow.dflt) hqT.1 (by simp only [b6_];omega)
   have hP:=gU_ (q:=q) (rows:=o) (r:=rows.getD i TRow.dflt) (ho.upto (by simp only [fh_];omega)) (by simp only [fh_];omega)
   have hW:=W_up hlt (show rows.length≤b6_ by simp only [b6_];omega)
   have e1:kE_ q o (rows.drop i)=kE_ q (cond (gc_ q (rows.getD i TRow.dflt)) (FPut q o (rows.getD i TRow.dflt)) o) (rows.drop (i+1)):=by rw [es_ TRow.dflt hlt];rfl
   rw [e1]
   refine bF_ ?_
   simp only [bK_.turn8,bK_.step8,km_,cC_ hlt,cond_true,bb_,cf_ hlt,true_and,Int.toNat_natCast,hW,ab_ hM,ab_ hP,am_]
   cases hf:gc_ q (rows.getD i TRow.dflt)
   · exact ⟨fun h=>(by cases h),fun _=>ih (i+1) _ (by omega) (ho.upto (by omega))⟩
   · exact ⟨fun _=>ih (i+1) _ (by omega) (lt_ ho (Nat.le_trans hr (Nat.le_add_right _ _))),fun h=>(by cases h)⟩
 exact dg_ (key rows.length 0 [] (by omega) ⟨Nat.zero_le _,fun x hx=>(by cases hx)⟩)
theorem mY_:Ev (fun n _=>b0_ n s q) (g2_ s q):=by
 have hs:s.schema.cols.length≤b6_:=hg_ (Nat.le_trans hl.1 hc) (by decide)
 have hL:fC_ b6_ s:=hl.upto (Nat.le_trans hc (by decide))
 have hR:=lM_ hl hq hc
 have hqT:tr_ b6_ q:=⟨Nat.le_trans hq.1 (by decide),Nat.le_trans hq.2 (by decide)⟩
 refine ap_ ?_
 simp only [b0_,ab_ (fl_ hL),ab_ (hY_ hs hqT),am_,ae_]
 unfold g2_
 have e0:FSQ s q=(fx_ s&&iZ_ s.schema q):=rfl
 cases h1:fx_ s
 · rw [e0,h1];exact ⟨fun _=>rfl,fun h=>(by cases h)⟩
 refine ⟨fun h=>(by cases h),fun _ => ?_⟩
 cases h2:iZ_ s.schema q
 · rw [e0,h1,h2];exact ⟨fun _=>rfl,fun h=>(by cases h)⟩
 refine ⟨fun h=>(by cases h),fun _ => ?_⟩
 have hS:=sq_of (s:=s) (q:=q) (by rw [e0,h1,h2];rfl) hs hL.2.1 hL.2.2
 have hqR:tr_ fh_ q:=⟨Nat.le_trans hq.1 (by decide),Nat.le_trans hq.2 (by decide)⟩
 rw [e0,h1,h2]
 simp only [rZ_ hqR,ab_ hR,bb_,Bool.and_self,cond_true]
 refine ⟨hS.kid,?_⟩
 have hT:hp_ c (s.tables.getD q.kidTable.toNat []):=fR_ hl.2.2 _
 have hcol:=hS.col
 unfold lu_
 generalize s.tables.getD q.kidTable.toNat []=rows at hT hcol ⊢
 have key:∀ (m i:Nat) (k:List TKid),i+m=rows.length→k.length≤i→Ev (fun n N=>b0_.loop8 n (fun xy6 xy7 xy8 xy9 xy10 xy11 xy12 xy13 xy14 xy15 xy16 xy17 xy18 xy19 xy20 xy21 xy22 xy23=>(some ((bn_.mk (ay_.mk xy13 xy20 xy14 xy15 xy16 xy21 xy17 xy18 xy19) xy22 xy23),true))) N rows (i:Int) q.table q.where_ q.order q.down q.first q.show_ q.kids q.kidTable q.kidCol 0 0 false 0 false 0 0 q.table q.order q.down q.first q.kids q.kidTable q.kidCol q.where_ q.show_ (hC_ s q) k) (bn_.mk q (hC_ s q) (cond q.kids (jm_ q k (rows.drop i)) k),true):=by
  intro m
  induction m with
  |zero=>
   intro i k hi ho
   have e:i=rows.length:=by omega
   subst e
   refine bF_ ?_
   simp only [b0_.turn8,b0_.step8,cn_,cond_false,ae_,List.drop_length,jm_,List.foldl_nil]
   have e:(cond q.kids k k)=k:=by cases q.kids<;>rfl
   rw [e]
  |succ m ih=>
   intro i k hi ho
   have hlt:i<rows.length:=by omega
   have h1:=hT.1
   have hP:=fJ_ (kids:=k) (id:=(rows.getD i TRow.dflt).cells.getD q.kidCol.toNat 0) (by_:=1) (by simp only [fh_];omega)
   have hW:=W_up hlt (show rows.length≤b6_ by simp only [b6_];omega)
   have hn:=qp_ (kids:=k) (id:=(rows.getD i TRow.dflt).cells.getD q.kidCol.toNat 0) (by_:=1)
   have e1:jm_ q k (rows.drop i)=jm_ q (FKid k ((rows.getD i TRow.dflt).cells.getD q.kidCol.toNat 0) 1) (rows.drop (i+1)):=by rw [es_ TRow.dflt hlt];rfl
   refine bF_ ?_
   simp only [b0_.turn8,b0_.step8,km_,cC_ hlt,cond_true,bb_,cf_ hlt,true_and,Int.toNat_natCast,hW,ab_ hP,am_,ae_]
   cases hk:q.kids
   · exact ⟨fun h=>(by cases h),fun _=>rfl⟩
   · refine ⟨fun _=>⟨hcol hk _ (bX_ TRow.dflt hlt),?_⟩,fun h=>(by cases h)⟩
     have:=ih (i+1) (FKid k ((rows.getD i TRow.dflt).cells.getD q.kidCol.toNat 0) 1) (by omega) (by omega)
     rw [hk] at this
     simp only [cond_true,e1] at this ⊢
     exact this
 exact dg_ (key rows.length 0 [] (by omega) (Nat.le_refl _))
end
end Go.Pi
end
section
namespace Go.Pi
end Go.Pi
end
section
namespace Go.Pi
def ins (x:Bs) (y:Int):List (Bs × Int)→List (Bs × Int)
 |[]=>[(x,y)]
 |(k,v)::l=>if k<x then (k,v)::ins x y l else if k=x then (x,y)::l else (x,y)::(k,v)::l
def hq_:List (Bs × Int)→Prop
 |[]=>True
 |(k,_)::l=>(∀ p ∈ l,k<p.1)∧hq_ l
theorem oD_ {x:Bs} {y:Int}:∀ {l:List (Bs × Int)} {p:Bs × Int},p ∈ ins x y l→p=(x,y)∨p ∈ l
 |[],p,h=>by simp only [ins,List.mem_singleton] at h;exact .inl h
 |(k,v)::l,p,h=>by
  simp only [ins] at h
  split at h
  · rcases List.mem_cons.1 h with h|h
    · exact .inr (h ▸ List.mem_cons_self ..)
    · rcases oD_ h with h|h
      · exact .inl h
      · exact .inr (List.mem_cons_of_mem _ h)
  · split at h
    · rcases List.mem_cons.1 h with h|h
      · exact .inl h
      · exact .inr (List.mem_cons_of_mem _ h)
    · rcases List.mem_cons.1 h with h|h
      · exact .inl h
      · exact .inr h
theorem not_lt_lt {a b:Bs} (h1:¬ a<b) (h2:a≠b):b<a:=by
 rcases Decidable.em (b<a) with h|h
 · exact h
 · exact absurd (List.le_antisymm (List.not_lt.1 h) (List.not_lt.1 h1)) h2
theorem qS_ {x:Bs} {y:Int}:∀ {l:List (Bs × Int)},hq_ l→hq_ (ins x y l)
 |[],_=>⟨fun p hp=>(by cases hp),trivial⟩
 |(k,v)::l,h=>by
  simp only [ins]
  split
  · rename_i hk
    exact ⟨fun p hp=>(oD_ hp).elim (fun e=>e ▸ hk) (h.1 p),qS_ h.2⟩
  · split
    · rename_i h1 h2
      subst h2
      exact ⟨h.1,h.2⟩
    · rename_i h1 h2
      have hx:=not_lt_lt h1 h2
      exact ⟨fun p hp=>by
       rcases List.mem_cons.1 hp with e|hp
       · rw [e];exact hx
       · exact List.lt_trans hx (h.1 p hp),h⟩
end Go.Pi
end
section
namespace Go.Pi
end Go.Pi
end
section
namespace Go.Pi
theorem putL_nil {α:Type} {x:Bs} {y:α}:l3_ [] x [] y=[y]:=by
 simp [l3_]
theorem putL_cons {α:Type} {k x:Bs} {ns:List Bs} {a y:α} {l:List α}:l3_ (k::ns) x (a::l) y=if k<x then a::l3_ ns x l y else if k=x then y::l else y::a::l:=by
 by_cases h:k<x
 · have hb:Op.bytesLess k x=true:=by rw [jg_];exact decide_eq_true h
   have e1:gY_ (k::ns) x=gY_ ns x+1:=by unfold gY_;rw [List.findIdx_cons];simp [hb]
   have e2:gX_ (k::ns) x=gX_ ns x+1:=by
    unfold gX_
    rw [e1]
    simp only [List.getD_cons_succ,List.length_cons,Nat.add_lt_add_iff_right]
    split<;>rfl
   rw [if_pos h]
   unfold l3_
   rw [e1,e2];simp
 · have hb:Op.bytesLess k x=false:=by rw [jg_];exact decide_eq_false h
   have e1:gY_ (k::ns) x=0:=by unfold gY_;rw [List.findIdx_cons];simp [hb]
   rw [if_neg h]
   unfold l3_ gX_
   rw [e1]
   by_cases h2:k=x
   · simp [h2]
   · simp [h2]
theorem of_ {α:Type} (g:Bs × Int→α) (x:Bs) (y:Int):∀ l:List (Bs × Int),l3_ (l.map (·.1)) x (l.map g) (g (x,y))=(ins x y l).map g
 |[]=>by simp only [List.map_nil,ins,List.map_cons];exact putL_nil
 |(k,v)::l=>by
  simp only [List.map_cons,putL_cons,ins]
  split
  · rw [of_ g x y l];rfl
  · split<;>rfl
end Go.Pi
end
section
namespace Go.Pi
theorem sK_ {k x:Bs} {ns:List Bs}:gX_ (k::ns) x=if k<x then gX_ ns x+1 else if k=x then 1 else 0:=by
 by_cases h:k<x
 · have hb:Op.bytesLess k x=true:=by rw [jg_];exact decide_eq_true h
   have e1:gY_ (k::ns) x=gY_ ns x+1:=by unfold gY_;rw [List.findIdx_cons];simp [hb]
   unfold gX_
   rw [e1,if_pos h]
   simp only [List.getD_cons_succ,List.length_cons,Nat.add_lt_add_iff_right]
   split<;>rfl
 · have hb:Op.bytesLess k x=false:=by rw [jg_];exact decide_eq_false h
   have e1:gY_ (k::ns) x=0:=by unfold gY_;rw [List.findIdx_cons];simp [hb]
   rw [if_neg h]
   unfold gX_
   rw [e1]
   by_cases h2:k=x
   · simp [h2]
   · simp [h2]
theorem asc_ne {x:Bs}:∀ {l:List (Bs × Int)},hq_ l→∀ i,gX_ (l.map (·.1)) x≤i→i<(l.map (·.1)).length→((l.map (·.1)).getD i [] == x)=false
 |[],_,i,_,hi=>by simp at hi
 |(k,v)::l,h,i,hp,hi=>by
  simp only [List.map_cons,sK_] at hp
  have later:∀ i',i'<(l.map (·.1)).length→k<(l.map (·.1)).getD i' []:=fun i' hi'=>by
   have hm:=bX_ (d:=([]:Bs)) (a:=l.map (·.1)) (i:=i') hi'
   obtain ⟨p,hp,e⟩:=List.mem_map.1 hm
   rw [←e];exact h.1 p hp
  cases i with
  |zero=>
   simp only [List.map_cons,List.getD_cons_zero]
   by_cases h1:k<x
   · rw [if_pos h1] at hp;omega
   · rw [if_neg h1] at hp
     by_cases h2:k=x
     · rw [if_pos h2] at hp;omega
     · exact beq_eq_false_iff_ne.2 h2
  |succ i=>
   have hi':i<(l.map (·.1)).length:=by simpa using hi
   simp only [List.map_cons,List.getD_cons_succ]
   by_cases h1:k<x
   · rw [if_pos h1] at hp
     exact asc_ne h.2 i (by omega) hi'
   · refine beq_eq_false_iff_ne.2 fun e=>h1 ?_
     rw [←e];exact later i hi'
def qJ_ (n:Int):aa_:=aa_.mk 2 n [] [] []
def objJ (l:List (Bs × Int)):aa_:=aa_.mk 5 0 [] (l.map fun p=>qJ_ p.2) (l.map (·.1))
theorem mi_ {l:List (Bs × Int)} {x:Bs} {y:Int} (h:hq_ l) (hl:l.length≤2000000):Ev (fun n _=>bL_ n (objJ l) x (qJ_ y)) (objJ (ins x y l)):=by
 have:=hi_ (o:=objJ l) (j:=qJ_ y) (x:=x) (by simp [objJ];exact hl) (by simp [objJ]) (fun z hz=>by
  rw [jg_] at hz
  exact beq_eq_false_iff_ne.2 fun e=>by subst e;exact List.lt_irrefl z (of_decide_eq_true hz)) (fun i h1 h2=>asc_ne h i h1 h2)
 refine ga_ this ?_
 have e1:=of_ (fun p=>qJ_ p.2) x y l
 have e2:=of_ (fun p=>p.1) x y l
 show aa_.mk 5 0 [] (l3_ (l.map (·.1)) x (l.map fun p=>qJ_ p.2) (qJ_ y)) (l3_ (l.map (·.1)) x (l.map (·.1)) x)=_
 rw [e1,e2];rfl
end Go.Pi
end
section
namespace Go.Pi
def mC_ (c:Int):Bs:=99::Lib.itoa c
def kG_ (r:TRow) (c:Int):Bs × Int:=(mC_ c,gx_ r c)
def fw_ (ps:List (Bs × Int)) (l:List (Bs × Int)):List (Bs × Int):=ps.foldl (fun l p=>ins p.1 p.2 l) l
theorem qT_ (ps:List (Bs × Int)) (p:Bs × Int) (l:List (Bs × Int)):fw_ (ps++[p]) l=ins p.1 p.2 (fw_ ps l):=by simp [fw_]
theorem kt_:∀ (ps:List (Bs × Int)) {l:List (Bs × Int)},hq_ l→hq_ (fw_ ps l)
 |[],_,h=>h
 |p::ps,_,h=>kt_ ps (qS_ h)
theorem ks_:∀ {ps:List (Bs × Int)} {l:List (Bs × Int)} {p:Bs × Int},p ∈ fw_ ps l→p ∈ ps∨p ∈ l
 |[],_,_,h=>.inr h
 |q::ps,l,p,h=>by
  rcases ks_ (ps:=ps) h with h|h
  · exact .inl (List.mem_cons_of_mem _ h)
  · rcases oD_ h with h|h
    · exact .inl (h ▸ List.mem_cons_self ..)
    · exact .inr h
theorem oE_ {x:Bs} {y:Int}:∀ {l:List (Bs × Int)},(ins x y l).length≤l.length+1
 |[]=>Nat.le_refl _
 |(k,v)::l=>by
  have:=oE_ (x:=x) (y:=y) (l:=l)
  simp only [ins]
  split
  · simp only [List.length_cons];omega
  · split<;>simp only [List.length_cons]<;>omega
theorem g8_:∀ {ps:List (Bs × Int)} {l:List (Bs × Int)},(fw_ ps l).length≤l.length+ps.length
 |[],_=>Nat.le_refl _
 |p::ps,l=>by
  have:=g8_ (ps:=ps) (l:=ins p.1 p.2 l)
  have h:=oE_ (x:=p.1) (y:=p.2) (l:=l)
  simp only [List.length_cons]
  show (fw_ ps (ins p.1 p.2 l)).length≤_
  omega
end Go.Pi
end
section
namespace Go.Pi
theorem lp_ {α β:Type} (f:α→β) (d:α) (e:β) {l:List α} {i:Nat} (h:i<l.length):(l.map f).getD i e=f (l.getD i d):=by
 rw [List.getD_eq_getElem?_getD,List.getD_eq_getElem?_getD,List.getElem?_map,List.getElem?_eq_getElem h];rfl
end Go.Pi
end
section
namespace Go.Pi
abbrev nmId:Bs:=[105,100]
abbrev nmKids:Bs:=[107,105,100,115]
abbrev i64 (x:Int):Prop:=-9223372036854775808≤x∧x≤9223372036854775807
def sW_ (q:ay_) (kids:Int):List (Bs × Int):=cond q.kids [(nmKids,kids)] []
def FRowL (q:ay_) (r:TRow) (kids:Int):List (Bs × Int):=fw_ (sW_ q kids) (ins nmId r.id_ (fw_ (q.show_.map (kG_ r)) []))
def o3_ (q:ay_) (r:TRow) (kids:Int):aa_:=objJ (FRowL q r kids)
theorem kidsL_len {q:ay_} {kids:Int}:(sW_ q kids).length≤1:=by unfold sW_;cases q.kids<;>simp
theorem FRowL_len {q:ay_} {r:TRow} {kids:Int}:(FRowL q r kids).length≤q.show_.length+2:=by
 have h1:=g8_ (ps:=q.show_.map (kG_ r)) (l:=[])
 have h2:=oE_ (x:=nmId) (y:=r.id_) (l:=fw_ (q.show_.map (kG_ r)) [])
 have h3:=g8_ (ps:=sW_ q kids) (l:=ins nmId r.id_ (fw_ (q.show_.map (kG_ r)) []))
 have h4:=kidsL_len (q:=q) (kids:=kids)
 simp at h1
 unfold FRowL;omega
theorem q7_ {c:Int} (h:i64 c):(mC_ c).length≤22:=by
 have:=Lib.itoa_length_le c h.1 h.2
 simp only [mC_,List.length_cons];omega
theorem rk_ {q:ay_} {r:TRow} {kids:Int} (hs:∀ c ∈ q.show_,i64 c):∀ p ∈ FRowL q r kids,p.1.length≤22:=fun p hp=>by
 rcases ks_ hp with h|h
 · unfold sW_ at h
   cases hq:q.kids<;>rw [hq] at h
   · cases h
   · rw [List.mem_singleton.1 h];show nmKids.length≤22;decide
 · rcases oD_ h with h|h
   · rw [h];show nmId.length≤22;decide
   · rcases ks_ h with h|h
     · obtain ⟨c,hc,e⟩:=List.mem_map.1 h
       rw [←e];exact q7_ (hs c hc)
     · cases h
theorem ln_ {n:Int}:∀ d,ft_ d (qJ_ n)
 |0=>trivial
 |d+1=>⟨⟨Nat.zero_le _,Nat.zero_le _,fun x hx=>(by cases hx)⟩,Nat.zero_le _,fun x hx=>(by cases hx)⟩
theorem lenJ_obj {l:List (Bs × Int)} (hl:l.length≤2000000) (hn:∀ p ∈ l,p.1.length≤22):∀ d,ft_ d (objJ l)
 |0=>trivial
 |d+1=>⟨⟨Nat.zero_le _,by simp [objJ,b6_];omega,fun x hx=>by
   obtain ⟨p,hp,e⟩:=List.mem_map.1 hx
   rw [←e];have:=hn p hp;simp only [b6_];omega⟩,by simp [objJ,b6_];omega,fun x hx=>by
   obtain ⟨p,hp,e⟩:=List.mem_map.1 hx
   rw [←e];exact ln_ d⟩
theorem ou_ {q:ay_} {r:TRow} {kids:Int} (hq:q.show_.length≤1100000) (hs:∀ c ∈ q.show_,i64 c) (d:Nat):ft_ d (o3_ q r kids) :=
 lenJ_obj (by have:=FRowL_len (q:=q) (r:=r) (kids:=kids);omega) (rk_ hs) d
end Go.Pi
end
section
namespace Go.Pi
theorem mj_ {j:aa_} (h:ft_ 6 j):Ev (fun n _=>dd_ n j) (eL_ j):=by
 refine ap_ ?_
 simp only [dd_,aS_,ab_ (da_ h),am_,ae_,eL_,g5_]
 cases cG_ j<;>simp
theorem mk_ {x:Int}:Ev (fun n _=>c6_ n x) (qJ_ x):=ap_ (by simp only [c6_,ae_,qJ_])
section
variable {q:ay_} {r:TRow} {kids:Int} (hq:q.show_.length≤1100000) (hs:∀ c ∈ q.show_,i64 c) (hr:r.cells.length≤b6_)
include hq hs hr
theorem iQ_:Ev (fun n _=>bO_ n q r kids) (o3_ q r kids):=by
 refine ap_ ?_
 simp only [bO_]
 let S:Nat→aa_:=fun i=>objJ (fw_ ((q.show_.take i).map (kG_ r)) [])
 have:=eE_ S q.show_.length (fun n N i (s:aa_)=>bO_.loop4 n (fun xy5 xy6 xy7 xy8 xy9 xy10 xy11 xy12 xy13 xy14 xy15 xy16 xy17 xy18 xy19 xy20 xy21 xy22 xy23 xy24=>((c6_ n xy15).bind fun xr25=>((bL_ n (aa_.mk xy20 xy21 xy22 xy23 xy24) [105,100] (aa_.re xr25)).bind fun xr26=>(cond xy12 ((c6_ n xy5).bind fun xr27=>((bL_ n (aa_.re xr26) [107,105,100,115] (aa_.re xr27)).bind fun xr28=>(some (aa_.re xr28)))) (some (aa_.re xr26)))))) N kids (i:Int) q.table q.where_ q.order q.down q.first q.show_ q.kids q.kidTable q.kidCol r.id_ r.cells 0 0 [] s.kind s.n_ s.s s.list s.names) (o3_ q r kids) (fun i hi F hF => ?_) ?_
 · exact this
 · have e2:fw_ ((q.show_.take (i+1)).map (kG_ r)) []=ins (mC_ (q.show_.getD i 0)) (gx_ r (q.show_.getD i 0)) (fw_ ((q.show_.take i).map (kG_ r)) []):=by
    rw [cB_ 0 hi,List.map_append];exact qT_ _ _ _
   have ha:hq_ (fw_ ((q.show_.take i).map (kG_ r)) []):=kt_ _ trivial
   have hll:=g8_ (ps:=(q.show_.take i).map (kG_ r)) (l:=[])
   simp only [S,e2] at hF ⊢
   generalize fw_ ((q.show_.take i).map (kG_ r)) []=l at hF ha hll ⊢
   have hl2:l.length≤2000000:=by simp at hll;omega
   have hc:=hs _ (bX_ 0 hi)
   have hd:=Lib.itoa_length_le _ hc.1 hc.2
   have e0:TRow.mk r.id_ r.cells=r:=rfl
   have e3:([99]:Bs)++Lib.itoa (q.show_.getD i 0)=mC_ (q.show_.getD i 0):=rfl
   simp only [bO_.turn4,bO_.step4,Int.toNat_natCast,W_up hi (show q.show_.length≤b6_ by simp only [b6_];omega),cC_ hi,cf_ hi,dE_,aS_,e0,e3,am_,bb_,dA_,ab_ (cO_ hc.1 hc.2),ab_ (eY_ hr),ab_ mk_,ab_ (mi_ ha hl2)]
   simp only [aS_] at hF
   refine ⟨fun _=>⟨trivial,fun _=>⟨trivial,hF⟩,fun h => ?_⟩,fun h=>(by cases h)⟩
   have h:=of_decide_eq_false h
   simp only [List.length_singleton] at h;omega
 · have ha:hq_ (fw_ (q.show_.map (kG_ r)) []):=kt_ _ trivial
   have hll:=g8_ (ps:=q.show_.map (kG_ r)) (l:=[])
   have h2:=oE_ (x:=nmId) (y:=r.id_) (l:=fw_ (q.show_.map (kG_ r)) [])
   simp at hll
   simp only [bO_.turn4,bO_.step4,cn_,cond_false,S,List.take_length,dE_,aS_,ab_ mk_,ab_ (mi_ ha (show _≤2000000 by omega)),ab_ (mi_ (x:=nmKids) (y:=kids) (qS_ (x:=nmId) (y:=r.id_) ha) (show _≤2000000 by omega)),am_,ae_]
   unfold o3_ FRowL sW_
   exact ⟨fun h=>by rw [h];rfl,fun h=>by rw [h];rfl⟩
end
end Go.Pi
end
section
namespace Go.Pi
structure bo_ where
 key:Int
 value:aa_
def bo_.dflt:bo_:=bo_.mk 0 aa_.dflt
def cg_ (l:List bo_):List Int:=l.map (·.key)
def kAt (ks:List Int) (k:Int):Int:=if ks.findIdx (fun y=>y == k)<ks.length then ((ks.findIdx (fun y=>y == k):Nat):Int) else -1
theorem qP_ {ks:List Int} {k:Int}:kAt ks k<0↔k ∉ ks:=by
 have e:(ks.findIdx (fun y=>y == k)<ks.length)↔k ∈ ks:=by rw [List.findIdx_lt_length];simp
 unfold kAt
 by_cases h:k ∈ ks
 · rw [if_pos (e.2 h)];simp [h]
 · rw [if_neg (fun h'=>h (e.1 h'))];simp [h]
theorem nA_ {ks:List Int} {k:Int} (h:k ∈ ks):∃ p:Nat,kAt ks k=p∧p<ks.length∧ks.getD p 0=k:=by
 have e:ks.findIdx (fun y=>y == k)<ks.length:=by rw [List.findIdx_lt_length];simp [h]
 refine ⟨_,by unfold kAt;rw [if_pos e],e,?_⟩
 rw [List.getD_eq_getElem?_getD,List.getElem?_eq_getElem e,Option.getD_some]
 have:=List.findIdx_getElem (xs:=ks) (p:=fun y=>y == k) (w:=e)
 simpa using this
theorem pP_ {ks:List Int} {k:Int} {p:Nat} (h:kAt ks k=p):p<ks.length∧ks.getD p 0=k:=by
 have hm:k ∈ ks:=Classical.byContradiction fun hn=>by have:=qP_.2 hn;omega
 obtain ⟨q,e,h1,h2⟩:=nA_ hm
 have:q=p:=by omega
 subst this;exact ⟨h1,h2⟩
theorem gD_ {ks:List Int} {k:Int} (hl:ks.length≤b6_):Ev (fun n _=>cv_ n ks k) (kAt ks k):=by
 refine ap_ ?_
 unfold kAt
 rw [←gL_ 0]
 simp only [cv_]
 refine mu_ (fun n N i=>cv_.loop3 n (some (-1)) N ks k (i:Int)) _ (fun i u hi ih => ?_) ?_
 · simp only [cv_.turn3,cv_.step3,Int.toNat_natCast,W_up hi hl,am_,bb_,ae_,dB_ ih,cC_ hi,cf_ hi]
   clear ih
   cases (ks.getD i 0 == k)<;>simp
 · simp only [cv_.turn3,cv_.step3,cn_,cond_false,ae_]
theorem cK_ (l:List bo_):(cg_ l).length=l.length:=List.length_map _
def kOk (docs:List aa_) (keys:List Int):Bool:=decide (docs.length=keys.length)&&iL_ (fun i=>cG_ (docs.getD i aa_.dflt) && !decide (keys.getD i 0 ∈ keys.take i)) docs.length
def o4_ (docs:List aa_) (keys:List Int) (m:Nat):List bo_:=(List.range m).map fun i=>bo_.mk (keys.getD i 0) (docs.getD i aa_.dflt)
theorem it_ {docs:List aa_} {keys:List Int} {m:Nat}:(o4_ docs keys m).length=m:=by unfold o4_;simp
theorem allN_and {p q:Nat→Bool} {len:Nat}:iL_ (fun i=>p i&&q i) len=(iL_ p len&&iL_ q len):=by
 rw [Bool.eq_iff_iff,Bool.and_eq_true,e8_,e8_,e8_]
 exact ⟨fun h=>⟨fun i hi=>(Bool.and_eq_true_iff.1 (h i hi)).1,fun i hi=>(Bool.and_eq_true_iff.1 (h i hi)).2⟩,fun h i hi=>by rw [h.1 i hi,h.2 i hi];rfl⟩
theorem iO_ {docs:List aa_} {keys:List Int} (hd:docs.length≤2000000) (hk:keys.length≤2000000) (hJ:∀ j ∈ docs,ft_ 6 j):Ev (fun n _=>aJ_ n keys docs) (kOk docs keys):=by
 refine ap_ ?_
 have ht:docs.length≤b6_:=by simp only [b6_];omega
 have htk:keys.length≤b6_:=by simp only [b6_];omega
 have e:kOk docs keys=(iL_ (fun i => !decide (keys.getD i 0 ∈ keys.take i)) keys.length&&(iL_ (fun i=>cG_ (docs.getD i aa_.dflt)) docs.length&&((keys.length:Int) == (docs.length:Int)))):=by
  unfold kOk
  by_cases hl:docs.length=keys.length
  · rw [decide_eq_true hl,allN_and,←hl]
    simp [Bool.and_comm]
  · rw [decide_eq_false hl]
    have:((keys.length:Int) == (docs.length:Int))=false:=by rw [beq_eq_false_iff_ne];omega
    rw [this];simp
 rw [e]
 simp only [aJ_]
 have hin:Ev (fun n _=>aJ_.loop11 n (fun xy5 xy6=>(some ((xy5.length:Int) == (xy6.length:Int)))) n keys docs 0) (iL_ (fun i=>cG_ (docs.getD i aa_.dflt)) docs.length&&((keys.length:Int) == (docs.length:Int))):=by
  refine e4_ (fun n N i=>aJ_.loop11 n (fun xy5 xy6=>(some ((xy5.length:Int) == (xy6.length:Int)))) N keys docs (i:Int)) _ (fun i w hi ih => ?_) ?_
  · simp only [aJ_.turn11,aJ_.step11,aS_,Int.toNat_natCast,W_up hi ht,am_,bb_,ab_ (da_ (hJ _ (bX_ aa_.dflt hi))),ae_,dB_ ih,cC_ hi,cf_ hi]
    cases cG_ (docs.getD i aa_.dflt)<;>simp
  · simp only [aJ_.turn11,aJ_.step11,cn_,cond_false,ae_]
 refine e4_ (fun n N i=>aJ_.loop3 n (fun xy2 xy3=>(aJ_.loop11 n (fun xy5 xy6=>(some ((xy5.length:Int) == (xy6.length:Int)))) n xy2 xy3 0)) N keys docs (i:Int)) _ (fun i w hi ih => ?_) ?_
 · have hA:=gD_ (ks:=keys.take i) (k:=keys.getD i 0) (by simp;omega)
   have hg:decide (kAt (keys.take i) (keys.getD i 0)≥0)=decide (keys.getD i 0 ∈ keys.take i):=by
    have:=qP_ (ks:=keys.take i) (k:=keys.getD i 0)
    by_cases hm:keys.getD i 0 ∈ keys.take i
    · rw [decide_eq_true hm,decide_eq_true];exact Int.not_lt.1 fun h=>this.1 h hm
    · rw [decide_eq_false hm,decide_eq_false];intro h;exact absurd (this.2 hm) (by omega)
   simp only [aJ_.turn3,aJ_.step3,Int.toNat_natCast,List.drop_zero,W_up hi htk,am_,bb_,eD_,ab_ hA,hg,ae_,dB_ ih,cC_ hi,cf_ hi]
   cases decide (keys.getD i 0 ∈ keys.take i)<;>simp<;>omega
 · simp only [aJ_.turn3,aJ_.step3,cn_,cond_false]
   exact hin
end Go.Pi
end
section
namespace Go.Pi
def del {α:Type} (l:List α) (k:Nat):List α:=l.take k++l.drop (k+1)
def hP_ {α:Type} (l:List α) (k:Nat) (x:α):List α:=l.take k++[x]++l.drop k
def rmOp (k:Nat):TOp:=TOp.mk 2 [Lib.itoa k] (aa_.mk 0 0 [] [] [])
def repOp (k:Nat) (j:aa_):TOp:=TOp.mk 3 [Lib.itoa k] j
def addOp (k:Nat) (j:aa_):TOp:=TOp.mk 1 [Lib.itoa k] j
theorem mz_ {α:Type} {l:List α} {k:Nat} (h:k<l.length):(del l k).length+1=l.length:=by
 simp only [del,List.length_append,List.length_take,List.length_drop];omega
theorem pT_ {α:Type} {l:List α} {k:Nat} {x:α} (h:k≤l.length):(hP_ l k x).length=l.length+1:=by
 simp only [hP_,List.length_append,List.length_take,List.length_drop,List.length_cons,List.length_nil];omega
theorem del_mem {α:Type} {l:List α} {k:Nat} {x:α} (h:x ∈ del l k):x ∈ l:=by
 rcases List.mem_append.1 h with h|h
 · exact List.mem_of_mem_take h
 · exact List.mem_of_mem_drop h
theorem pR_ {α:Type} {l:List α} {k:Nat} {x y:α} (h:y ∈ hP_ l k x):y=x∨y ∈ l:=by
 rcases List.mem_append.1 h with h|h
 · rcases List.mem_append.1 h with h|h
   · exact .inr (List.mem_of_mem_take h)
   · exact .inl (List.mem_singleton.1 h)
 · exact .inr (List.mem_of_mem_drop h)
theorem del_map {α β:Type} (f:α→β) (l:List α) (k:Nat):(del l k).map f=del (l.map f) k:=by
 simp only [del,List.map_append,List.map_take,List.map_drop]
theorem pS_ {α β:Type} (f:α→β) (l:List α) (k:Nat) (x:α):(hP_ l k x).map f=hP_ (l.map f) k (f x):=by
 simp only [hP_,List.map_append,List.map_take,List.map_drop,List.map_cons,List.map_nil]
theorem ne_ {ks:List Int} {k:Nat} (h:k<ks.length) (hl:ks.length≤10000000):Ev (fun n _=>c8_ n ks (k:Int)) (del ks k):=by
 refine ap_ ?_
 have hw:=W_up h (show ks.length≤b6_ by simp only [b6_];omega)
 simp only [c8_,hw,eD_,bk_,ae_,Int.toNat_natCast,List.drop_zero,List.nil_append,List.take_length,del,List.length_nil,List.length_take,List.length_drop]
 repeat' (first|apply And.intro)
 all_goals (first|trivial|rfl|omega)
theorem pQ_ {ks:List Int} {k:Nat} {x:Int} (h:k≤ks.length) (hl:ks.length≤10000000):Ev (fun n _=>dt_ n ks (k:Int) x) (hP_ ks k x):=by
 refine ap_ ?_
 simp only [dt_,eD_,bk_,ae_,Int.toNat_natCast,List.drop_zero,List.nil_append,List.take_length,hP_,List.length_nil,List.length_append,List.length_cons,List.length_take,List.length_drop]
 repeat' (first|apply And.intro)
 all_goals (first|trivial|rfl|omega)
def rG_ (nk:List Int) (old:List bo_):Nat→List bo_→List TOp→List bo_ × List TOp
 |0,l,ops=>(l,ops)
 |k+1,l,ops=>if (old.getD k bo_.dflt).key ∈ nk then rG_ nk old k l ops else rG_ nk old k (del l k) (ops++[rmOp k])
theorem oc_ (nk:List Int) (old:List bo_):∀ k l ops,∀ x ∈ (rG_ nk old k l ops).1,x ∈ l
 |0,l,ops,x,h=>h
 |k+1,l,ops,x,h=>by
  simp only [rG_] at h
  split at h
  · exact oc_ nk old k l ops x h
  · exact del_mem (oc_ nk old k (del l k) _ x h)
theorem li_ (nk:List Int) (old:List bo_):∀ k l ops,k≤l.length→(rG_ nk old k l ops).1.length≤l.length∧(rG_ nk old k l ops).2.length≤ops.length+k
 |0,l,ops,_=>⟨Nat.le_refl _,Nat.le_refl _⟩
 |k+1,l,ops,h=>by
  simp only [rG_]
  split
  · have:=li_ nk old k l ops (by omega);omega
  · have hd:=mz_ (l:=l) (k:=k) (by omega)
    have:=li_ nk old k (del l k) (ops++[rmOp k]) (by omega)
    simp only [List.length_append,List.length_cons,List.length_nil] at this;omega
theorem dn_ge {k:Nat}:decide ((k:Int)≥0)=true:=decide_eq_true (by omega)
theorem dn_eq {k:Nat}:(((k+1:Nat):Int) - 1)=(k:Int):=by omega
theorem neg_dec {ks:List Int} {k:Int}:decide (kAt ks k<0) = !decide (k ∈ ks):=by
 have:=qP_ (ks:=ks) (k:=k)
 by_cases h:k ∈ ks
 · rw [decide_eq_true h,decide_eq_false (fun h'=>this.1 h' h)];rfl
 · rw [decide_eq_false h,decide_eq_true (this.2 h)];rfl
theorem fE_ {l:List bo_} {k:Nat} (h:k<l.length):(cg_ l).getD k 0=(l.getD k bo_.dflt).key:=lp_ (fun x:bo_=>x.key) bo_.dflt 0 h
theorem qz_ {old now:List bo_} (hn:now.length≤2000000) (hold:old.length≤2000000) (o t2:List aa_) (K:Nat→List aa_→List Int→List aa_→List Int→List TOp→List Int→Option (List TOp)) (F:List TOp):∀ k l ops,k≤old.length→k≤l.length→l.length≤2000000→ops.length+k≤2000000 →
  Ev (fun n N=>K n o (cg_ old) t2 (cg_ now) (rG_ (cg_ now) old k l ops).2 (cg_ (rG_ (cg_ now) old k l ops).1)) F→Ev (fun n N=>aH_.loop5 n (K n) N o (cg_ old) t2 (cg_ now) ((k:Int) - 1) ops (cg_ l)) F
 |0,l,ops,_,_,_,_,hF=>by
  refine bF_ ?_
  have e:decide ((((0:Nat):Int) - 1)≥0)=false:=rfl
  simp only [aH_.turn5,aH_.step5,e,cond_false]
  exact hF
 |k+1,l,ops,hko,hk,hl,ho,hF=>by
  refine bF_ ?_
  have hko':k<(cg_ old).length:=by rw [cK_];omega
  have hkl:k<l.length:=by omega
  have hkl':k<(cg_ l).length:=by rw [cK_];omega
  have hg:=fE_ (l:=old) (k:=k) (by omega)
  have hA:=gD_ (ks:=cg_ now) (k:=(old.getD k bo_.dflt).key) (by rw [cK_];simp only [b6_];omega)
  have hW:=ne_ hkl' (by rw [cK_];omega)
  have hm:del (cg_ l) k=cg_ (del l k):=(del_map (fun x:bo_=>x.key) l k).symm
  rw [hm] at hW
  simp only [rG_] at hF
  simp only [aH_.turn5,aH_.step5,dn_ge,dn_eq,cond_true,bb_,cf_ hko',Int.toNat_natCast,hg,ab_ hA,neg_dec,am_,W_dn (i:=k) (by simp only [b6_];omega),ab_ (cO_ (x:=(k:Int)) (by omega) (by omega)),bk_,ab_ hW]
  refine ⟨trivial,fun hc => ?_,fun hc => ?_⟩
  · have hc:¬ (old.getD k bo_.dflt).key ∈ cg_ now:=by simpa using hc
    rw [if_neg hc] at hF
    have hd:=mz_ hkl
    exact ⟨by simp only [List.length_cons,List.length_nil];omega,qz_ hn hold o t2 K F k (del l k) _ (by omega) (by omega) (by omega) (by simp only [List.length_append,List.length_cons,List.length_nil];omega) hF⟩
  · have hc:(old.getD k bo_.dflt).key ∈ cg_ now:=by simpa using hc
    rw [if_pos hc] at hF
    exact qz_ hn hold o t2 K F k l ops (by omega) (by omega) hl (by omega) hF
end Go.Pi
end
section
namespace Go.Pi
def hb_ (l:List bo_) (i:Nat) (x:bo_):List bo_ × List TOp :=
 if kAt (cg_ l) x.key=(i:Int) then (l,cond (e5_ 6 (l.getD i bo_.dflt).value x.value) [] [repOp i x.value])
 else if (i:Int)<kAt (cg_ l) x.key then (hP_ (del l (kAt (cg_ l) x.key).toNat) i x,[rmOp (kAt (cg_ l) x.key).toNat,addOp i x.value])
 else (hP_ l i x,[addOp i x.value])
def ji_ (now:List bo_) (s:List bo_ × List TOp):Nat→List bo_ × List TOp
 |0=>s
 |i+1=>((hb_ (ji_ now s i).1 i (now.getD i bo_.dflt)).1,(ji_ now s i).2++(hb_ (ji_ now s i).1 i (now.getD i bo_.dflt)).2)
theorem r0_ {l:List bo_} {k:Int} {i:Nat} (h:(i:Int)<kAt (cg_ l) k):∃ p:Nat,kAt (cg_ l) k=p∧i<p∧p<l.length:=by
 obtain ⟨p,hp⟩:∃ p:Nat,kAt (cg_ l) k=p:=⟨(kAt (cg_ l) k).toNat,by omega⟩
 have:=(pP_ hp).1
 rw [cK_] at this
 exact ⟨p,hp,by omega,this⟩
theorem nQ_ {l:List bo_} {i:Nat} {x:bo_} (h:i≤l.length):i+1≤(hb_ l i x).1.length∧(hb_ l i x).1.length≤l.length+1∧(hb_ l i x).2.length≤2:=by
 unfold hb_
 by_cases h1:kAt (cg_ l) x.key=(i:Int)
 · rw [if_pos h1]
   have:=(pP_ h1).1
   rw [cK_] at this
   refine ⟨by dsimp only;omega,by dsimp only;omega,?_⟩
   dsimp only
   cases e5_ 6 (l.getD i bo_.dflt).value x.value<;>simp
 · rw [if_neg h1]
   by_cases h2:(i:Int)<kAt (cg_ l) x.key
   · rw [if_pos h2]
     obtain ⟨p,hp,h3,h4⟩:=r0_ h2
     rw [hp,Int.toNat_natCast]
     have:=mz_ h4
     have:=pT_ (l:=del l p) (k:=i) (x:=x) (by omega)
     exact ⟨by dsimp only;omega,by dsimp only;omega,Nat.le_refl _⟩
   · rw [if_neg h2]
     have:=pT_ (l:=l) (k:=i) (x:=x) h
     exact ⟨by dsimp only;omega,by dsimp only;omega,by simp⟩
theorem tj_ {l:List bo_} {i:Nat} {x y:bo_} (h:y ∈ (hb_ l i x).1):y=x∨y ∈ l:=by
 unfold hb_ at h
 split at h
 · exact .inr h
 · split at h
   · rcases pR_ h with h|h
     · exact .inl h
     · exact .inr (del_mem h)
   · exact pR_ h
theorem j0_ (now:List bo_) (s:List bo_ × List TOp):∀ i,i≤(ji_ now s i).1.length∧(ji_ now s i).1.length≤s.1.length+i∧(ji_ now s i).2.length≤s.2.length+2*i
 |0=>⟨Nat.zero_le _,Nat.le_refl _,Nat.le_refl _⟩
 |i+1=>by
  have h:=j0_ now s i
  have k:=nQ_ (x:=now.getD i bo_.dflt) h.1
  simp only [ji_,List.length_append];omega
def okK (x:bo_):Prop:=cG_ x.value=true∧ft_ 6 x.value
theorem ll_ {x:bo_} (h:okK x):bE_ 6 x.value≤400:=of_decide_eq_true h.1
structure AddInv (old now:List bo_) (l:List bo_) (i:Nat):Prop where
 len:i≤l.length
 front:∀ j,j<i→(l.getD j bo_.dflt).key=(now.getD j bo_.dflt).key
 from_:∀ x ∈ l,x ∈ old∨∃ j,j<i∧x.key=(now.getD j bo_.dflt).key
def oQ_ (now:List bo_):Prop:=∀ i j,i<j→j<now.length→(now.getD i bo_.dflt).key≠(now.getD j bo_.dflt).key
theorem p2_ {α:Type} (d:α) {a b:List α} {j:Nat} (h:j<a.length):(a++b).getD j d=a.getD j d:=by
 rw [List.getD_eq_getElem?_getD,List.getD_eq_getElem?_getD,List.getElem?_append_left h]
theorem mn_ {l:List bo_} {i j:Nat} {x:bo_} (hi:i≤l.length) (h:j<i):(hP_ l i x).getD j bo_.dflt=l.getD j bo_.dflt:=by
 have hl:(l.take i).length=i:=by simp;omega
 unfold hP_
 rw [List.append_assoc,p2_ _ (by omega),List.getD_eq_getElem?_getD,List.getD_eq_getElem?_getD,List.getElem?_take_of_lt h]
theorem r3_ {l:List bo_} {i:Nat} {x:bo_} (hi:i≤l.length):(hP_ l i x).getD i bo_.dflt=x:=by
 have hl:(l.take i).length=i:=by simp;omega
 unfold hP_
 rw [List.append_assoc,List.getD_eq_getElem?_getD,List.getElem?_append_right (by omega),hl,Nat.sub_self];rfl
theorem del_front {l:List bo_} {p j:Nat} (hp:p≤l.length) (h:j<p):(del l p).getD j bo_.dflt=l.getD j bo_.dflt:=by
 have hl:(l.take p).length=p:=by simp;omega
 unfold del
 rw [p2_ _ (by omega),List.getD_eq_getElem?_getD,List.getD_eq_getElem?_getD,List.getElem?_take_of_lt h]
theorem re_ {old now l:List bo_} {i:Nat} (h:AddInv old now l i) (hi:i<now.length):AddInv old now (hb_ l i (now.getD i bo_.dflt)).1 (i+1):=by
 refine ⟨(nQ_ h.len).1,fun j hj => ?_,fun x hx => ?_⟩
 · unfold hb_
   by_cases h1:kAt (cg_ l) (now.getD i bo_.dflt).key=(i:Int)
   · rw [if_pos h1]
     by_cases e:j=i
     · subst e
       obtain ⟨a,b⟩:=pP_ h1
       rw [cK_] at a
       rw [←b,fE_ a]
     · exact h.front j (by omega)
   · rw [if_neg h1]
     by_cases h2:(i:Int)<kAt (cg_ l) (now.getD i bo_.dflt).key
     · rw [if_pos h2]
       obtain ⟨p,hp,h3,h4⟩:=r0_ h2
       rw [hp,Int.toNat_natCast]
       have hdl:=mz_ h4
       by_cases e:j=i
       · subst e;rw [r3_ (by omega)]
       · rw [mn_ (by omega) (by omega),del_front (by omega) (by omega)];exact h.front j (by omega)
     · rw [if_neg h2]
       by_cases e:j=i
       · subst e;rw [r3_ h.len]
       · rw [mn_ h.len (by omega)];exact h.front j (by omega)
 · rcases tj_ hx with e|hx
   · exact .inr ⟨i,by omega,by rw [e]⟩
   · rcases h.from_ x hx with h' | ⟨j,hj,e⟩
     · exact .inl h'
     · exact .inr ⟨j,by omega,e⟩
theorem nR_ {old now:List bo_} {s:List bo_ × List TOp} (h0:∀ x ∈ s.1,x ∈ old):∀ i,i≤now.length→AddInv old now (ji_ now s i).1 i
 |0,_=>⟨Nat.zero_le _,fun j hj=>by omega,fun x hx=>.inl (h0 x hx)⟩
 |i+1,hi=>re_ (nR_ h0 i (by omega)) (by omega)
theorem ly_ {l:List bo_} {k:Nat} (h:k<l.length):(l.map (·.value)).getD k aa_.dflt=(l.getD k bo_.dflt).value:=lp_ (fun x:bo_=>x.value) bo_.dflt aa_.dflt h
theorem spec_add {old now:List bo_} {s:List bo_ × List TOp} (hnl:now.length≤2000000) (hold:old.length≤2000000) (hsl:s.1.length≤2000000) (hol:s.2.length≤2000000) (hn:∀ x ∈ now,okK x) (ho:∀ x ∈ old,okK x) (h0:∀ x ∈ s.1,x ∈ old)
  (hd:oQ_ now) (hod:∀ x ∈ old,∀ y ∈ old,x.key=y.key→x=y) :
  Ev (fun n _=>aH_.loop13 n (fun xy21=>(some xy21)) n (old.map (·.value)) (cg_ old) (now.map (·.value)) (cg_ now) 0 s.2 (cg_ s.1)) (ji_ now s now.length).2:=by
 refine eE_ (ji_ now s) now.length (fun n N i (z:List bo_ × List TOp)=>aH_.loop13 n (fun xy21=>(some xy21)) N (old.map (·.value)) (cg_ old) (now.map (·.value)) (cg_ now) (i:Int) z.2 (cg_ z.1)) _ (fun i hi F hF => ?_) ?_
 · have hL:=j0_ now s i
   have hI:=nR_ (now:=now) h0 i (by omega)
   simp only [ji_] at hF
   obtain ⟨x,hx⟩:∃ x,x=now.getD i bo_.dflt:=⟨_,rfl⟩
   have hxo:okK x:=by rw [hx];exact hn _ (bX_ bo_.dflt hi)
   have hik:i<(cg_ now).length:=by rw [cK_];exact hi
   have hiv:i<(now.map (·.value)).length:=by simpa using hi
   have hkey:(cg_ now).getD i 0=x.key:=by rw [fE_ hi,hx]
   have hval:(now.map (·.value)).getD i aa_.dflt=x.value:=by rw [ly_ hi,hx]
   rw [←hx] at hF
   generalize ji_ now s i=z at hF hL hI ⊢
   obtain ⟨l,ops⟩:=z
   dsimp only at hF hL hI ⊢
   have hA:=gD_ (ks:=cg_ l) (k:=x.key) (by rw [cK_];simp only [b6_];omega)
   have hC:=ev_ 6 x.value (ll_ hxo)
   have hWi:=cO_ (x:=(i:Int)) (by omega) (by omega)
   simp only [aH_.turn13,aH_.step13,aS_,Int.toNat_natCast,hkey,hval,W_up hik (show (cg_ now).length≤b6_ by rw [cK_];simp only [b6_];omega),cC_ hik,cf_ hik,cf_ hiv,cond_true,bb_,ab_ hA,ab_ hWi]
   refine ⟨trivial,?_⟩
   unfold hb_ at hF
   by_cases h1:kAt (cg_ l) x.key=(i:Int)
   · rw [if_pos h1] at hF
     obtain ⟨hil,hke⟩:=pP_ h1
     rw [cK_] at hil
     rw [fE_ hil] at hke
     have hmem:l.getD i bo_.dflt ∈ old:=by
      rcases hI.from_ _ (bX_ bo_.dflt hil) with h' | ⟨j,hj,e⟩
      · exact h'
      · exact absurd (by rw [←e,hke,hx]) (hd j i hj hi)
     have hin:x.key ∈ cg_ old:=List.mem_map.2 ⟨_,hmem,hke⟩
     obtain ⟨q,hq,hql,hqk⟩:=nA_ hin
     have hqo:q<old.length:=by rwa [cK_] at hql
     have hqe:old.getD q bo_.dflt=l.getD i bo_.dflt:=hod _ (bX_ bo_.dflt hqo) _ hmem (by rw [←fE_ hqo,hqk,hke])
     have hqv:(old.map (·.value)).getD q aa_.dflt=(l.getD i bo_.dflt).value:=by rw [ly_ hqo,hqe]
     have hqi:q<(old.map (·.value)).length:=by simpa using hqo
     have hB:=gD_ (ks:=cg_ old) (k:=x.key) (by rw [cK_];simp only [b6_];omega)
     rw [hq] at hB
     have hoo:=ho _ hmem
     have hK:=fI_ 6 (l.getD i bo_.dflt).value x.value (hc_ 6 _ (ll_ hoo)) hoo.2
     simp only [h1,beq_self_eq_true,cond_true,bb_,ab_ hB,cf_ hqi,cf_ hik,cf_ hiv,Int.toNat_natCast,hqv,ab_ hK,am_,ab_ hC,bk_]
     refine ⟨trivial,trivial,trivial,fun hc => ?_,fun hc => ?_⟩
     · have hc:e5_ 6 (l.getD i bo_.dflt).value x.value=false:=by simpa using hc
       rw [hc] at hF
       exact ⟨trivial,by simp only [List.length_cons,List.length_nil];omega,hF⟩
     · have hc:e5_ 6 (l.getD i bo_.dflt).value x.value=true:=by simpa using hc
       rw [hc] at hF
       simp only [cond_true,List.append_nil] at hF
       exact hF
   · rw [if_neg h1] at hF
     have hne:(kAt (cg_ l) x.key == (i:Int))=false:=beq_eq_false_iff_ne.2 h1
     by_cases h2:(i:Int)<kAt (cg_ l) x.key
     · rw [if_pos h2] at hF
       obtain ⟨p,hp,h3,h4⟩:=r0_ h2
       rw [hp,Int.toNat_natCast] at hF
       rw [hp] at h2 hne
       have hdl:=mz_ h4
       have hpk:p<(cg_ l).length:=by rw [cK_];exact h4
       have hW:=ne_ hpk (by rw [cK_];omega)
       have hm:del (cg_ l) p=cg_ (del l p):=(del_map (fun x:bo_=>x.key) l p).symm
       rw [hm] at hW
       have hN:=pQ_ (ks:=cg_ (del l p)) (k:=i) (x:=x.key) (by rw [cK_];omega) (by rw [cK_];omega)
       have hm2:hP_ (cg_ (del l p)) i x.key=cg_ (hP_ (del l p) i x):=(pS_ (fun x:bo_=>x.key) (del l p) i x).symm
       rw [hm2] at hN
       simp only [hp,hne,decide_eq_true (show (p:Int)≥0 by omega),cond_true,cond_false,ab_ (cO_ (x:=(p:Int)) (by omega) (by omega)),bk_,ab_ hW,bb_,cf_ hik,cf_ hiv,ab_ hC,ab_ hN]
       refine ⟨by simp only [List.length_cons,List.length_nil];omega,trivial,by simp only [List.length_append,List.length_cons,List.length_nil];omega,trivial,?_⟩
       rw [List.append_assoc]
       exact hF
     · rw [if_neg h2] at hF
       have hlt:kAt (cg_ l) x.key<0:=Classical.byContradiction fun hc=>by
        obtain ⟨q,hq⟩:∃ q:Nat,kAt (cg_ l) x.key=q:=⟨(kAt (cg_ l) x.key).toNat,by omega⟩
        have hqi:q<i:=by omega
        obtain ⟨a,b⟩:=pP_ hq
        rw [cK_] at a
        rw [fE_ a,hI.front q hqi,hx] at b
        exact hd q i hqi hi b
       have hN:=pQ_ (ks:=cg_ l) (k:=i) (x:=x.key) (by rw [cK_];omega) (by rw [cK_];omega)
       have hm2:hP_ (cg_ l) i x.key=cg_ (hP_ l i x):=(pS_ (fun x:bo_=>x.key) l i x).symm
       rw [hm2] at hN
       simp only [hne,decide_eq_false (show ¬ kAt (cg_ l) x.key≥0 by omega),cond_false,bb_,cf_ hik,cf_ hiv,ab_ hC,bk_,ab_ hN]
       exact ⟨trivial,by simp only [List.length_cons,List.length_nil];omega,trivial,hF⟩
 · have e:((cg_ now).length:Int)=(now.length:Int):=by rw [cK_]
   simp only [aH_.turn13,aH_.step13,e,cn_,cond_false,ae_]
end Go.Pi
end
section
namespace Go.Pi
def jl_ (kids:List TKid) (id:Int):Int:=gM_ (fun i x=>cond ((kids.getD i TKid.dflt).id_ == id) (kids.getD i TKid.dflt).n_ x) 0 kids.length 0
theorem iS_ {v:bn_} {id:Int} (h:v.kids.length≤b6_):Ev (fun n _=>b5_ n v id) (jl_ v.kids id):=by
 refine ap_ ?_
 simp only [b5_]
 refine mu_ (fun n N i=>b5_.loop3 n (some 0) N id (i:Int) v.q.table v.q.where_ v.q.order v.q.down v.q.first v.q.show_ v.q.kids v.q.kidTable v.q.kidCol v.rows v.kids) _ (fun i u hi ih => ?_) ?_
 · simp only [b5_.turn3,b5_.step3,Int.toNat_natCast,W_up hi h,am_,bb_,ae_,dB_ ih,cC_ hi,cf_ hi]
   cases ((v.kids.getD i TKid.dflt).id_ == id)<;>simp
 · simp only [b5_.turn3,b5_.step3,cn_,cond_false,ae_]
def fc_ (v:bn_):List Int:=v.rows.map fun r=>jl_ v.kids r.id_
theorem view_eta (v:bn_):bn_.mk (ay_.mk v.q.table v.q.where_ v.q.order v.q.down v.q.first v.q.show_ v.q.kids v.q.kidTable v.q.kidCol) v.rows v.kids=v:=rfl
theorem ki_ {v:bn_} (h:v.kids.length≤b6_) (hr:v.rows.length≤fh_):Ev (fun n _=>a9_ n v) (fc_ v):=by
 refine ap_ ?_
 have hl:=hr
 simp only [fh_] at hl
 simp only [a9_]
 refine p7_ TRow.dflt v.rows (fun r=>jl_ v.kids r.id_) (fun n N i s=>a9_.loop4 n (fun xy2=>(some xy2)) N (i:Int) v.q.table v.q.where_ v.q.order v.q.down v.q.first v.q.show_ v.q.kids v.q.kidTable v.q.kidCol v.rows v.kids s) (fc_ v) (fun i s hi hs F hF => ?_) ?_
 · simp only [a9_.turn4,a9_.step4,view_eta,Int.toNat_natCast,W_up hi (show v.rows.length≤b6_ by simp only [b6_];omega),am_,bb_,ab_ (iS_ (v:=v) (id:=(v.rows.getD i TRow.dflt).id_) h),bk_,cC_ hi,cf_ hi]
   exact ⟨fun _=>⟨trivial,by simp;omega,hF⟩,fun h=>by cases h⟩
 · simp only [a9_.turn4,a9_.step4,cn_,cond_false,ae_];rfl
def hN_ (q:ay_) (n:Nat):Nat:=if q.first=0 then n else min n q.first.toNat
theorem e6_ {q:ay_} {n:Nat}:Ev (fun m _=>du_ m q (n:Int)) (hN_ q n:Int):=by
 refine ap_ ?_
 have hmin:∀ a b:Int,Ev (fun m _=>eN_ m a b) (min a b):=fun a b=>ap_ (by simp only [eN_,am_,ae_,decide_eq_true_eq,decide_eq_false_iff_not];constructor<;>intro h<;>omega)
 have hmax:∀ a b:Int,Ev (fun m _=>cJ_ m a b) (max a b):=fun a b=>ap_ (by simp only [cJ_,am_,ae_,decide_eq_true_eq,decide_eq_false_iff_not];constructor<;>intro h<;>omega)
 simp only [du_,am_,ae_,ab_ (hmin _ _),ab_ (hmax _ _),hN_]
 refine ⟨fun h=>by rw [if_pos (by simpa using h)],fun h => ?_⟩
 rw [if_neg (by simpa using h)]
 omega
end Go.Pi
end
section
namespace Go.Pi
def j9_ (g:aa_→aa_) (q:ay_) (rows:List TRow) (kids:List Int) (m:Nat):List aa_:=(List.range m).map fun i=>g (o3_ q (rows.getD i TRow.dflt) (kids.getD i 0))
theorem nY_ {g:aa_→aa_} {q:ay_} {rows:List TRow} {kids:List Int} {m:Nat}:j9_ g q rows kids (m+1)=j9_ g q rows kids m++[g (o3_ q (rows.getD m TRow.dflt) (kids.getD m 0))]:=by
 unfold j9_;rw [List.range_succ,List.map_append];rfl
theorem j8_ {g:aa_→aa_} {q:ay_} {rows:List TRow} {kids:List Int} {m:Nat}:(j9_ g q rows kids m).length=m:=by unfold j9_;simp
abbrev nmCount:Bs:=[99,111,117,110,116]
abbrev kP_:Bs:=[114,111,119,115]
def nS_ (n:Nat) (docs:List aa_):aa_:=aa_.mk 5 0 [] [qJ_ n,aa_.mk 4 0 [] docs []] [nmCount,kP_]
theorem mR_ {q:ay_} {n:Nat}:hN_ q n≤n:=by unfold hN_;split<;>omega
def FDoc (q:ay_) (rows:List TRow) (kids:List Int):aa_:=eL_ (nS_ rows.length (j9_ id q rows kids (hN_ q rows.length)))
theorem sU_ {n:Nat} {docs:List aa_} (hl:docs.length≤b6_) (hd:∀ j ∈ docs,ft_ 4 j):ft_ 6 (nS_ n docs):=by
 refine ⟨⟨Nat.zero_le _,by show 2≤b6_;decide,fun x hx => ?_⟩,by show 2≤b6_;decide,fun x hx => ?_⟩
 · rcases List.mem_cons.1 hx with e|hx
   · rw [e];show 5≤b6_;decide
   · rw [List.mem_singleton.1 hx];show 4≤b6_;decide
 · rcases List.mem_cons.1 hx with e|hx
   · rw [e];exact ln_ 5
   · rw [List.mem_singleton.1 hx]
     exact ⟨⟨Nat.zero_le _,Nat.zero_le _,fun x hx=>(by cases hx)⟩,hl,hd⟩
theorem pI_ {q:ay_} {rows:List TRow} {kids:List Int} (hq:q.show_.length≤1100000) (hs:∀ c ∈ q.show_,i64 c) (hl:rows.length≤2000000) {m:Nat} (hm:m≤rows.length):ft_ 6 (nS_ rows.length (j9_ id q rows kids m)):=by
 refine sU_ (by rw [j8_];simp only [b6_];omega) fun j hj => ?_
 obtain ⟨i,_,e⟩:=List.mem_map.1 hj
 rw [←e];exact ou_ hq hs 4
section
variable {q:ay_} {rows:List TRow} {kids:List Int} (hq:q.show_.length≤1100000) (hs:∀ c ∈ q.show_,i64 c) (hr:hp_ b6_ rows) (hl:rows.length≤2000000)
include hq hs hr hl
theorem n6_ (hk:kids.length≤b6_):Ev (fun n _=>ce_ n q rows kids) (FDoc q rows kids):=by
 refine ap_ ?_
 simp only [ce_]
 have hF:=mR_ (q:=q) (n:=rows.length)
 have eq0:ay_.mk q.table q.where_ q.order q.down q.first q.show_ q.kids q.kidTable q.kidCol=q:=rfl
 have:=eE_ (j9_ id q rows kids) (hN_ q rows.length) (fun n N i (s:List aa_)=>ce_.loop4 n (fun xy4 xy5 xy6 xy7 xy8 xy9 xy10 xy11=>((c6_ n (xy4.length:Int)).bind fun xr12=>((dd_ n (aa_.mk 5 0 [] ([(aa_.re xr12),(aa_.mk xy8 xy9 xy10 xy11 [])]:List aa_) ([[99,111,117,110,116],[114,111,119,115]]:List Bs))).bind fun xr13=>(some (aa_.re xr13))))) N rows kids (i:Int) q.table q.where_ q.order q.down q.first q.show_ q.kids q.kidTable q.kidCol 0 0 [] 4 0 [] s) (FDoc q rows kids) (fun i hi F hF => ?_) ?_
 · exact this
 · have hir:i<rows.length:=by omega
   have hR:∀ k,Ev (fun n _=>bO_ n q (rows.getD i TRow.dflt) k) (o3_ q (rows.getD i TRow.dflt) k):=fun k=>iQ_ hq hs (iE_ hr i)
   rw [nY_] at hF
   simp only [aS_] at hF
   have hlen:=j8_ (g:=id) (q:=q) (rows:=rows) (kids:=kids) (m:=i)
   generalize j9_ id q rows kids i=s at hF hlen
   simp only [ce_.turn4,ce_.step4,eq0,Int.toNat_natCast,aS_,W_up hir (show rows.length≤b6_ by simp only [b6_];omega),ab_ e6_,ab_ (hR _),decide_eq_true (show ((i:Int)<(hN_ q rows.length:Int)) by omega),cf_ hir,cond_true,am_,bb_,bk_]
   refine ⟨fun h=>⟨⟨by omega,by have:=of_decide_eq_true h;omega⟩,trivial,by simp;omega,hF⟩,fun h=>⟨trivial,by simp;omega,?_⟩⟩
   have h:=of_decide_eq_false h
   have e:kids.getD i 0=0:=by rw [List.getD_eq_getElem?_getD,List.getElem?_eq_none (by omega)];rfl
   rw [e] at hF;exact hF
 · have hw:=mj_ (pI_ hq hs hl (kids:=kids) hF)
   unfold nS_ at hw
   simp only [ce_.turn4,ce_.step4,eq0,aS_,ab_ e6_,cn_,cond_false,ab_ mk_,ab_ hw,ae_]
   rfl
end
end Go.Pi
end
section
namespace Go.Pi
def e9_ (v:bn_):aa_:=FDoc v.q v.rows (fc_ v)
theorem rn_ {v:bn_}:(fc_ v).length=v.rows.length:=by unfold fc_;simp
theorem hp_.top {r:List TRow} (h:hp_ cap r):hp_ b6_ r:=⟨Nat.le_trans h.1 (by decide),fun x hx=>Nat.le_trans (h.2 x hx) (by decide)⟩
section
variable {v:bn_} (h:ko_ cap v) (hs:∀ c ∈ v.q.show_,i64 c)
include h hs
theorem gH_:ft_ 6 (e9_ v):=by
 have h1:=h.1.2;have h2:=h.2.1.1
 simp only [cap] at h1 h2
 unfold e9_ FDoc eL_
 have:=pI_ (kids:=fc_ v) (rows:=v.rows) (show v.q.show_.length≤1100000 by omega) hs (by omega) (mR_ (q:=v.q))
 cases cG_ (nS_ v.rows.length (j9_ id v.q v.rows (fc_ v) (hN_ v.q v.rows.length))) with
 |true=>exact this
 |false=>exact ⟨⟨Nat.zero_le _,Nat.zero_le _,fun x hx=>(by cases hx)⟩,Nat.zero_le _,fun x hx=>(by cases hx)⟩
theorem fk_:Ev (fun n _=>dk_ n v) (e9_ v):=by
 refine ap_ ?_
 have h1:=h.1.2;have h2:=h.2.1.1;have h3:=h.2.2
 simp only [cap] at h1 h2 h3
 have hc:=rn_ (v:=v)
 have hD:=n6_ (q:=v.q) (rows:=v.rows) (kids:=fc_ v) (by omega) hs h.2.1.top (by omega) (by simp only [b6_];omega)
 simp only [dk_,aS_,ab_ (ki_ (v:=v) (by simp only [b6_];omega) (by simp only [fh_];omega)),ab_ hD,ae_]
 rfl
end
end Go.Pi
end
section
namespace Go.Pi
def o2_ (old now:List bo_):List TOp:=(ji_ now (rG_ (cg_ now) old old.length old []) now.length).2
def gv_ (docs:List aa_) (keys:List Int) (docs':List aa_) (keys':List Int):List TOp:=cond (kOk docs keys) (cond (kOk docs' keys') (o2_ (o4_ docs keys docs.length) (o4_ docs' keys' docs'.length)) []) []
structure KIs (docs:List aa_) (keys:List Int):Prop where
 len:docs.length=keys.length
 ok:∀ i,i<docs.length→cG_ (docs.getD i aa_.dflt)=true
 no:∀ i,i<docs.length→keys.getD i 0 ∉ keys.take i
theorem k_is {docs:List aa_} {keys:List Int} (h:kOk docs keys=true):KIs docs keys:=by
 unfold kOk at h
 rw [Bool.and_eq_true,e8_] at h
 refine ⟨of_decide_eq_true h.1,fun i hi => ?_,fun i hi => ?_⟩
 · have:=h.2 i hi
   rw [Bool.and_eq_true] at this;exact this.1
 · have:=h.2 i hi
   rw [Bool.and_eq_true] at this
   simpa using this.2
theorem lx_ {docs:List aa_} {keys:List Int} {m i:Nat} (h:i<m):(o4_ docs keys m).getD i bo_.dflt=bo_.mk (keys.getD i 0) (docs.getD i aa_.dflt):=by
 unfold o4_
 rw [lp_ (fun i=>bo_.mk (keys.getD i 0) (docs.getD i aa_.dflt)) 0 bo_.dflt (by simpa using h)]
 have:(List.range m).getD i 0=i:=by
  rw [List.getD_eq_getElem?_getD,List.getElem?_range h];rfl
 rw [this]
theorem np_ {α:Type} (d:α) (l:List α):(List.range l.length).map (fun i=>l.getD i d)=l:=by
 apply List.ext_getElem?
 intro i
 by_cases h:i<l.length
 · rw [List.getElem?_map,List.getElem?_range h,List.getElem?_eq_getElem h]
   simp only [Option.map_some]
   rw [List.getD_eq_getElem?_getD,List.getElem?_eq_getElem h];rfl
 · rw [List.getElem?_eq_none (by simpa using h),List.getElem?_eq_none (by omega)]
theorem lw_ {docs:List aa_} {keys:List Int}:(o4_ docs keys docs.length).map (·.value)=docs:=by
 unfold o4_
 rw [List.map_map]
 exact np_ aa_.dflt docs
theorem o6_ {docs:List aa_} {keys:List Int} (h:docs.length=keys.length):cg_ (o4_ docs keys docs.length)=keys:=by
 unfold cg_ o4_
 rw [List.map_map,h]
 exact np_ 0 keys
theorem oo_ {α:Type} (d:α) {l:List α} {x:α} (h:x ∈ l):∃ i,i<l.length∧l.getD i d=x:=by
 obtain ⟨i,hi,e⟩:=List.mem_iff_getElem.1 h
 exact ⟨i,hi,by rw [List.getD_eq_getElem?_getD,List.getElem?_eq_getElem hi];exact e⟩
theorem n1_ {α:Type} (d:α) {l:List α} {i j:Nat} (h:i<j) (hj:j≤l.length):l.getD i d ∈ l.take j:=by
 have e:(l.take j).getD i d=l.getD i d:=by rw [List.getD_eq_getElem?_getD,List.getD_eq_getElem?_getD,List.getElem?_take_of_lt h]
 rw [←e];exact bX_ d (by simp;omega)
theorem jo_ {docs:List aa_} {keys:List Int} (h:KIs docs keys):oQ_ (o4_ docs keys docs.length):=by
 intro i j hij hj
 rw [it_] at hj
 rw [lx_ (by omega),lx_ hj]
 intro e
 have e:keys.getD i 0=keys.getD j 0:=e
 exact h.no j hj (e ▸ n1_ 0 hij (by have:=h.len;omega))
theorem oP_ {l:List bo_} (h:oQ_ l):∀ x ∈ l,∀ y ∈ l,x.key=y.key→x=y:=by
 intro x hx y hy e
 obtain ⟨i,hi,ei⟩:=oo_ bo_.dflt hx
 obtain ⟨j,hj,ej⟩:=oo_ bo_.dflt hy
 rcases Nat.lt_trichotomy i j with hij|hij|hij
 · exact absurd (by rw [ei,ej,e]) (h i j hij hj)
 · subst hij;rw [←ei,←ej]
 · exact absurd (by rw [ei,ej,e]) (h j i hij hi)
theorem qt_ {docs:List aa_} {keys:List Int} (h:KIs docs keys) (hJ:∀ j ∈ docs,ft_ 6 j):∀ x ∈ o4_ docs keys docs.length,okK x:=by
 intro x hx
 obtain ⟨i,hi,e⟩:=oo_ bo_.dflt hx
 rw [it_] at hi
 rw [lx_ hi] at e
 rw [←e]
 exact ⟨h.ok i hi,hJ _ (bX_ aa_.dflt hi)⟩
section
variable {docs docs':List aa_} {keys keys':List Int} (hd:docs.length≤1500000) (hd':docs'.length≤1500000) (hJ:∀ j ∈ docs,ft_ 6 j) (hJ':∀ j ∈ docs',ft_ 6 j)
include hd hd' hJ hJ'
theorem pm_ (hk:keys.length≤1500000) (hk':keys'.length≤1500000):Ev (fun n _=>eZ_ n docs keys docs' keys') (gv_ docs keys docs' keys'):=by
 refine ap_ ?_
 simp only [eZ_,ab_ (iO_ (docs:=docs) (keys:=keys) (by omega) (by omega) hJ),ab_ (iO_ (docs:=docs') (keys:=keys') (by omega) (by omega) hJ'),am_,ae_,gv_]
 cases h1:kOk docs keys with
 |false=>exact ⟨fun _=>rfl,fun h=>(by cases h)⟩
 |true=>
  cases h2:kOk docs' keys' with
  |false=>exact ⟨fun h=>(by cases h),fun _=>⟨fun _=>rfl,fun h=>(by cases h)⟩⟩
  |true=>
   refine ⟨fun h=>(by cases h),fun _=>⟨fun h=>(by cases h),fun _ => ?_⟩⟩
   simp only [cond_true]
   have k1:=k_is h1
   have k2:=k_is h2
   have o1:=qt_ k1 hJ
   have o2:=qt_ k2 hJ'
   have d1:=oP_ (jo_ k1)
   have d2:=jo_ k2
   have l1:=it_ (docs:=docs) (keys:=keys) (m:=docs.length)
   have l2:=it_ (docs:=docs') (keys:=keys') (m:=docs'.length)
   have hR:Ev (fun n _=>aH_ n docs keys docs' keys') (o2_ (o4_ docs keys docs.length) (o4_ docs' keys' docs'.length)):=by
    have v1:=lw_ (docs:=docs) (keys:=keys)
    have v2:=lw_ (docs:=docs') (keys:=keys')
    have e1:=o6_ k1.len
    have e2:=o6_ k2.len
    generalize o4_ docs keys docs.length=old at o1 l1 d1 v1 e1 ⊢
    generalize o4_ docs' keys' docs'.length=now at o2 l2 d2 v2 e2 ⊢
    subst e1 e2 v1 v2
    simp only [List.length_map] at l1 l2 hd hd'
    have hr:=li_ (cg_ now) old old.length old [] (Nat.le_refl _)
    have hm:=oc_ (cg_ now) old old.length old []
    simp only [List.length_nil] at hr
    refine ap_ ?_
    simp only [aH_,bk_,List.nil_append,List.length_nil,cK_,W_dn (show old.length≤b6_ by simp only [b6_];omega)]
    refine ⟨by omega,?_⟩
    refine dg_ (f:=fun n N=>aH_.loop5 n (fun xy4 xy5 xy6 xy7 xy8 xy9=>(aH_.loop13 n (fun xy21=>(some xy21)) n xy4 xy5 xy6 xy7 0 xy8 xy9)) N (old.map (·.value)) (cg_ old) (now.map (·.value)) (cg_ now) ((old.length:Int) - 1) [] (cg_ old)) (qz_ (old:=old) (by omega) (by omega) _ _ (fun n xy4 xy5 xy6 xy7 xy8 xy9=>(aH_.loop13 n (fun xy21=>(some xy21)) n xy4 xy5 xy6 xy7 0 xy8 xy9)) _ old.length old [] (Nat.le_refl _) (Nat.le_refl _) (by omega) (by simp only [List.length_nil];omega) ?_)
    exact spec_add (by omega) (by omega) (by omega) (by omega) o2 o1 (fun x hx=>hm x hx) d2 d1
   simp only [ab_ hR,ae_]
end
def opK (o:TOp):Prop:=(∃ t:Bs,t.length≤25∧o.way=[t])∧bE_ 6 o.value≤400∧ft_ 6 o.value
theorem null_size:bE_ 6 (aa_.mk 0 0 [] [] [])≤400:=by decide
theorem kr_ {k:Nat} (h:k≤4000000):(Lib.itoa (k:Int)).length≤25:=by
 have:=Lib.itoa_length_le (k:Int) (by omega) (by omega);omega
theorem rmOp_ok {k:Nat} (h:k≤4000000):opK (rmOp k):=⟨⟨_,kr_ h,rfl⟩,null_size,d9_ 6⟩
theorem ob_ (nk:List Int) (old:List bo_):∀ k l ops,k≤4000000→(∀ o ∈ ops,opK o)→∀ o ∈ (rG_ nk old k l ops).2,opK o
 |0,l,ops,_,h=>h
 |k+1,l,ops,hk,h=>by
  simp only [rG_]
  split
  · exact ob_ nk old k l ops (by omega) h
  · refine ob_ nk old k (del l k) _ (by omega) fun o ho => ?_
    rcases List.mem_append.1 ho with ho|ho
    · exact h o ho
    · rw [List.mem_singleton.1 ho];exact rmOp_ok (by omega)
theorem ti_ {l:List bo_} {i:Nat} {x:bo_} (hl:l.length≤4000000) (hi:i≤4000000) (hx:okK x):∀ o ∈ (hb_ l i x).2,opK o:=by
 have ha:∀ k,k≤4000000→opK (addOp k x.value):=fun k hk=>⟨⟨_,kr_ hk,rfl⟩,ll_ hx,hx.2⟩
 have hr:∀ k,k≤4000000→opK (repOp k x.value):=fun k hk=>⟨⟨_,kr_ hk,rfl⟩,ll_ hx,hx.2⟩
 unfold hb_
 by_cases h1:kAt (cg_ l) x.key=(i:Int)
 · rw [if_pos h1]
   dsimp only
   cases e5_ 6 (l.getD i bo_.dflt).value x.value with
   |true=>intro o ho;cases ho
   |false=>intro o ho;rw [List.mem_singleton.1 ho];exact hr i hi
 · rw [if_neg h1]
   by_cases h2:(i:Int)<kAt (cg_ l) x.key
   · rw [if_pos h2]
     obtain ⟨p,hp,h3,h4⟩:=r0_ h2
     intro o ho
     rw [hp,Int.toNat_natCast] at ho
     rcases List.mem_cons.1 ho with e|ho
     · rw [e];exact rmOp_ok (by omega)
     · rw [List.mem_singleton.1 ho];exact ha i hi
   · rw [if_neg h2]
     intro o ho
     rw [List.mem_singleton.1 ho];exact ha i hi
theorem qi_ {now:List bo_} {s:List bo_ × List TOp} (hnl:now.length≤1500000) (hsl:s.1.length≤1500000) (hn:∀ x ∈ now,okK x) (h:∀ o ∈ s.2,opK o):∀ i,i≤now.length→∀ o ∈ (ji_ now s i).2,opK o
 |0,_=>h
 |i+1,hi=>by
  intro o ho
  simp only [ji_] at ho
  have hL:=j0_ now s i
  rcases List.mem_append.1 ho with ho|ho
  · exact qi_ hnl hsl hn h i (by omega) o ho
  · exact ti_ (by omega) (by omega) (hn _ (bX_ bo_.dflt (by omega))) o ho
theorem tn_ {docs docs':List aa_} {keys keys':List Int} (hd:docs.length≤1500000) (hd':docs'.length≤1500000) (hJ:∀ j ∈ docs,ft_ 6 j) (hJ':∀ j ∈ docs',ft_ 6 j):(∀ o ∈ gv_ docs keys docs' keys',opK o)∧(gv_ docs keys docs' keys').length≤docs.length+2*docs'.length:=by
 unfold gv_
 cases h1:kOk docs keys with
 |false=>exact ⟨fun o ho=>(by cases ho),Nat.zero_le _⟩
 |true=>
  cases h2:kOk docs' keys' with
  |false=>exact ⟨fun o ho=>(by cases ho),Nat.zero_le _⟩
  |true=>
   simp only [cond_true,o2_]
   have o2:=qt_ (k_is h2) hJ'
   have l1:=it_ (docs:=docs) (keys:=keys) (m:=docs.length)
   have l2:=it_ (docs:=docs') (keys:=keys') (m:=docs'.length)
   generalize o4_ docs keys docs.length=old at l1 ⊢
   generalize o4_ docs' keys' docs'.length=now at o2 l2 ⊢
   have hr:=li_ (cg_ now) old old.length old [] (Nat.le_refl _)
   have hL:=j0_ now (rG_ (cg_ now) old old.length old []) now.length
   simp only [List.length_nil] at hr
   exact ⟨qi_ (by omega) (by omega) o2 (ob_ _ _ _ _ _ (by omega) fun o ho=>(by cases ho)) now.length (Nat.le_refl _),by omega⟩
def underOp (name:Bs) (o:TOp):TOp:=TOp.mk o.kind (name::o.way) o.value
def qm_ (name:Bs) (l:List TOp):List TOp:=l.map (underOp name)
def lenO (l:List TOp):Prop:=l.length≤6000000∧∀ o ∈ l,o.way.length≤1000000∧bE_ 6 o.value≤400
theorem n3_ {name:Bs} {l:List TOp} (h:lenO l):Ev (fun n _=>cc_ n name l) (qm_ name l):=by
 refine ap_ ?_
 have hl:=h.1
 have ht:l.length≤b6_:=by simp only [b6_];omega
 simp only [cc_]
 refine p7_ TOp.dflt l (underOp name) (fun n N i (s:List TOp)=>cc_.loop4 n (fun xy2=>(some xy2)) N name l (i:Int) s) _ (fun i s hi hs F hF => ?_) ?_
 · have ho:=h.2 _ (bX_ TOp.dflt hi)
   have hC:=ev_ 6 _ ho.2
   have hw:=ho.1
   simp only [cc_.turn4,cc_.step4,aS_,Int.toNat_natCast,W_up hi ht,cC_ hi,cf_ hi,cond_true,bb_,bk_,ab_ hC]
   exact ⟨trivial,trivial,by simp only [List.length_cons,List.length_nil];omega,trivial,by simp only [List.length_cons,List.length_nil];omega,hF⟩
 · simp only [cc_.turn4,cc_.step4,cn_,cond_false,ae_];rfl
end Go.Pi
end
section
namespace Go.Pi
def j4_ (v:bn_):Nat:=hN_ v.q v.rows.length
def en_ (v:bn_):List aa_:=j9_ eL_ v.q v.rows (fc_ v) (j4_ v)
def eg_ (v:bn_):List Int:=(List.range (j4_ v)).map fun i=>(v.rows.getD i TRow.dflt).id_
theorem ip_ (v:bn_):j4_ v≤v.rows.length:=mR_
theorem ids_next (v:bn_) (i:Nat):((List.range (i+1)).map fun i=>(v.rows.getD i TRow.dflt).id_)=((List.range i).map fun i=>(v.rows.getD i TRow.dflt).id_)++[(v.rows.getD i TRow.dflt).id_]:=by
 rw [List.range_succ,List.map_append];rfl
theorem q6_ {v:bn_} {i:Nat} (h:i<v.rows.length):(fc_ v).getD i 0=jl_ v.kids (v.rows.getD i TRow.dflt).id_:=lp_ (fun r:TRow=>jl_ v.kids r.id_) TRow.dflt 0 h
section
variable {v:bn_} (h:ko_ cap v) (hs:∀ c ∈ v.q.show_,i64 c)
include h hs
theorem hW_:Ev (fun n _=>bp_ n v) (en_ v,eg_ v):=by
 refine ap_ ?_
 have h1:=h.1.2;have h2:=h.2.1.1;have h3:=h.2.2
 simp only [cap] at h1 h2 h3
 have hm:=ip_ v
 simp only [bp_]
 let S:Nat→List aa_ × List Int:=fun i=>(j9_ eL_ v.q v.rows (fc_ v) i,(List.range i).map fun i=>(v.rows.getD i TRow.dflt).id_)
 have:=eE_ S (j4_ v) (fun n N i (s:List aa_ × List Int)=>bp_.loop5 n (fun xy4 xy5=>(some (xy4,xy5))) N (i:Int) v.q.table v.q.where_ v.q.order v.q.down v.q.first v.q.show_ v.q.kids v.q.kidTable v.q.kidCol v.rows v.kids s.1 s.2) (en_ v,eg_ v) (fun i hi F hF => ?_) ?_
 · exact this
 · have hir:i<v.rows.length:=by omega
   simp only [S,nY_,ids_next,q6_ hir] at hF ⊢
   have hol:=j8_ (g:=eL_) (q:=v.q) (rows:=v.rows) (kids:=fc_ v) (m:=i)
   have hol2:((List.range i).map fun i=>(v.rows.getD i TRow.dflt).id_).length=i:=by simp
   generalize ((List.range i).map fun i=>(v.rows.getD i TRow.dflt).id_)=s2 at hF hol2 ⊢
   generalize j9_ eL_ v.q v.rows (fc_ v) i=s1 at hF hol ⊢
   have e0:ay_.mk v.q.table v.q.where_ v.q.order v.q.down v.q.first v.q.show_ v.q.kids v.q.kidTable v.q.kidCol=v.q:=rfl
   have e1:bn_.mk v.q v.rows v.kids=v:=rfl
   have hK:=iS_ (v:=v) (id:=(v.rows.getD i TRow.dflt).id_) (by simp only [b6_];omega)
   have hrow:=iE_ h.2.1.top i
   have hRd:Ev (fun n _=>eq_ n v.q (v.rows.getD i TRow.dflt) (jl_ v.kids (v.rows.getD i TRow.dflt).id_)) (eL_ (o3_ v.q (v.rows.getD i TRow.dflt) (jl_ v.kids (v.rows.getD i TRow.dflt).id_))) :=
    ap_ (by simp only [eq_,aS_,ab_ (iQ_ (q:=v.q) (by omega) hs hrow),ab_ (mj_ (ou_ (q:=v.q) (by omega) hs 6)),ae_])
   have hlt:decide ((i:Int)<(hN_ v.q v.rows.length:Int))=true:=decide_eq_true (by unfold j4_ at hi;omega)
   simp only [bp_.turn5,bp_.step5,e0,e1,aS_,Int.toNat_natCast,W_up hir (show v.rows.length≤b6_ by simp only [b6_];omega),ab_ e6_,hlt,cf_ hir,cond_true,bb_,ab_ hK,ab_ hRd,bk_]
   exact ⟨trivial,trivial,by simp only [List.length_cons,List.length_nil];omega,trivial,by simp only [List.length_cons,List.length_nil];omega,hF⟩
 · have e0:ay_.mk v.q.table v.q.where_ v.q.order v.q.down v.q.first v.q.show_ v.q.kids v.q.kidTable v.q.kidCol=v.q:=rfl
   have hlt:decide ((j4_ v:Int)<(hN_ v.q v.rows.length:Int))=false:=decide_eq_false (by unfold j4_;omega)
   simp only [bp_.turn5,bp_.step5,e0,ab_ e6_,hlt,cond_false,ae_]
   rfl
theorem iB_:∀ j ∈ en_ v,ft_ 6 j:=by
 have h1:=h.1.2
 simp only [cap] at h1
 intro j hj
 obtain ⟨i,_,e⟩:=List.mem_map.1 hj
 rw [←e]
 unfold eL_
 cases cG_ (o3_ v.q (v.rows.getD i TRow.dflt) ((fc_ v).getD i 0)) with
 |true=>exact ou_ (by omega) hs 6
 |false=>exact d9_ 6
end
theorem gf_ (v:bn_):(en_ v).length=j4_ v:=j8_
theorem nT_ (v:bn_):(eg_ v).length=j4_ v:=by unfold eg_;simp
def hD_ (a b:bn_):List TOp:=cond (!decide (a.rows.length=b.rows.length)) [TOp.mk 3 [nmCount] (eL_ (qJ_ b.rows.length))] []
def d3_ (a b:bn_):List TOp:=cond (kF_ a.q b.q) (hD_ a b++qm_ kP_ (gv_ (en_ a) (eg_ a) (en_ b) (eg_ b))) []
theorem n4_ {n:Nat}:Ev (fun m _=>eO_ m (n:Int)) (eL_ (qJ_ n)):=by
 refine ap_ ?_
 have:=da_ (ln_ (n:=(n:Int)) 6)
 unfold eL_
 unfold qJ_ at this ⊢
 simp only [eO_,ab_ this,am_,ae_,g5_]
 cases cG_ (aa_.mk 2 (n:Int) [] [] [])<;>simp
section
variable {a b:bn_} (ha:ko_ cap a) (hb:ko_ cap b) (hsa:∀ c ∈ a.q.show_,i64 c) (hsb:∀ c ∈ b.q.show_,i64 c)
include ha hb hsa hsb
theorem lZ_:lenO (gv_ (en_ a) (eg_ a) (en_ b) (eg_ b))∧(∀ o ∈ gv_ (en_ a) (eg_ a) (en_ b) (eg_ b),opK o)∧(gv_ (en_ a) (eg_ a) (en_ b) (eg_ b)).length≤a.rows.length+2*b.rows.length:=by
 have h1:=ha.2.1.1;have h2:=hb.2.1.1
 simp only [cap] at h1 h2
 have:=ip_ a
 have:=ip_ b
 obtain ⟨k1,k2⟩:=tn_ (keys:=eg_ a) (keys':=eg_ b) (by rw [gf_];omega) (by rw [gf_];omega) (iB_ ha hsa) (iB_ hb hsb)
 rw [gf_,gf_] at k2
 refine ⟨⟨by omega,fun o ho=>⟨?_,(k1 o ho).2.1⟩⟩,k1,by omega⟩
 obtain ⟨t,_,e⟩:=(k1 o ho).1
 rw [e];exact (by decide:1≤1000000)
theorem g3_:Ev (fun n _=>c9_ n a b) (d3_ a b):=by
 refine ap_ ?_
 have h1:=ha.2.1.1;have h2:=hb.2.1.1
 simp only [cap] at h1 h2
 have n1:=ip_ a
 have n2:=ip_ b
 obtain ⟨r1,_,r3⟩:=lZ_ ha hb hsa hsb
 have hR:=pm_ (docs:=en_ a) (keys:=eg_ a) (docs':=en_ b) (keys':=eg_ b) (by rw [gf_];omega) (by rw [gf_];omega) (iB_ ha hsa) (iB_ hb hsb) (by rw [nT_];omega) (by rw [nT_];omega)
 have hU:=n3_ (name:=kP_) r1
 have hq:tr_ b6_ a.q:=⟨Nat.le_trans ha.1.1 (by decide),Nat.le_trans ha.1.2 (by decide)⟩
 have hUl:(qm_ kP_ (gv_ (en_ a) (eg_ a) (en_ b) (eg_ b))).length=(gv_ (en_ a) (eg_ a) (en_ b) (eg_ b)).length:=List.length_map _
 simp only [c9_,ab_ (kj_ hq),rM_,am_,aS_,ab_ n4_,ab_ (hW_ ha hsa),ab_ (hW_ hb hsb),ab_ hR,ab_ hU,bk_,ae_,List.nil_append,List.length_nil,d3_,hD_]
 cases kF_ a.q b.q with
 |false=>exact ⟨fun _=>rfl,fun h=>(by cases h)⟩
 |true=>
  refine ⟨fun h=>(by cases h),fun _=>⟨fun hc=>⟨?_,?_,?_⟩,fun hc=>⟨?_,?_⟩⟩⟩
  · simp only [List.length_cons,List.length_nil];omega
  · simp only [List.length_cons,List.length_nil];omega
  · rw [hc];rfl
  · omega
  · rw [hc];rfl
theorem kQ_ (hab:a.rows.length+b.rows.length≤1500000):kR_ (d3_ a b):=by
 obtain ⟨r1,r2,r3⟩:=lZ_ ha hb hsa hsb
 unfold d3_
 cases kF_ a.q b.q with
 |false=>exact ⟨Nat.zero_le _,fun o ho=>(by cases ho)⟩
 |true=>
  have hUl:(qm_ kP_ (gv_ (en_ a) (eg_ a) (en_ b) (eg_ b))).length=(gv_ (en_ a) (eg_ a) (en_ b) (eg_ b)).length:=List.length_map _
  have hcl:(hD_ a b).length≤1:=by unfold hD_;cases (!decide (a.rows.length=b.rows.length))<;>simp
  refine ⟨by simp only [cond_true,List.length_append];omega,fun o ho => ?_⟩
  rw [cond_true] at ho
  rcases List.mem_append.1 ho with ho|ho
  · unfold hD_ at ho
    cases hc:(!decide (a.rows.length=b.rows.length))<;>rw [hc] at ho
    · cases ho
    · rw [List.mem_singleton.1 ho]
      refine ⟨⟨by show 1≤b6_;decide,fun x hx => ?_⟩,?_⟩
      · rw [List.mem_singleton.1 hx];show 5≤b6_;decide
      · show ft_ 6 (eL_ (qJ_ b.rows.length))
        unfold eL_
        cases cG_ (qJ_ b.rows.length) with
        |true=>exact ln_ 6
        |false=>exact d9_ 6
  · obtain ⟨o',ho',e⟩:=List.mem_map.1 ho
    obtain ⟨⟨t,ht,e2⟩,_,hv⟩:=r2 o' ho'
    rw [←e]
    refine ⟨⟨?_,fun x hx => ?_⟩,hv⟩
    · show (kP_::o'.way).length≤b6_
      rw [e2];show 2≤b6_;decide
    · have hx:x ∈ kP_::o'.way:=hx
      rw [e2] at hx
      rcases List.mem_cons.1 hx with e3|hx
      · rw [e3];show 4≤b6_;decide
      · rw [List.mem_singleton.1 hx];simp only [b6_];omega
end
end Go.Pi
end
section
namespace Go.Pi
theorem kk_ {l:List TOp} (h:kR_ l):Ev (fun n _=>a5_ n l) (em_ l):=by
 refine ap_ ?_
 have hl:=h.1
 have ht:l.length≤b6_:=by simp only [b6_];omega
 have hb:ff_ l≤l.length:=List.findIdx_le_length
 simp only [a5_]
 have:=eE_ (fun i=>(l.take i).map cF_) (ff_ l) (fun n N i (o:List aa_)=>a5_.loop4 n (fun xy2 xy3 xy4 xy5=>((cZ_ n (aa_.mk xy2 xy3 xy4 xy5 [])).bind fun xr6=>(cond (xr6 == []) (some (-1)) (some (xr6.length:Int))))) N l (i:Int) 4 0 [] o) (em_ l) (fun i hi F hF => ?_) ?_
 · exact this
 · have hi2:i<l.length:=by omega
   have hx:=ew_ (h.2 _ (bX_ TOp.dflt hi2))
   rw [op_ cF_ TOp.dflt hi2] at hF
   have hol:((l.take i).map cF_).length≤i:=by simp;omega
   generalize (l.take i).map cF_=o at hF hol ⊢
   simp only [a5_.turn4,a5_.step4,aS_,hH_,Int.toNat_natCast,W_up hi2 ht,cC_ hi2,cf_ hi2,kD_ hi,cond_true,cond_false,bb_,bk_,ab_ hx]
   exact ⟨trivial,by simp;omega,hF⟩
 · by_cases hp:ff_ l<l.length
   · have hx:=ew_ (h.2 _ (bX_ TOp.dflt hp))
     simp only [a5_.turn4,a5_.step4,aS_,hH_,Int.toNat_natCast,cC_ hp,cf_ hp,bad_at hp,cond_true,bb_,ab_ hx,ae_]
     unfold em_
     rw [decide_eq_true hp]
     exact ⟨trivial,rfl⟩
   · have e:ff_ l=l.length:=by omega
     have hE:=dQ_ (jK_ h)
     unfold em_
     rw [decide_eq_false hp,cond_false]
     unfold eh_ at hE ⊢
     rw [e,List.take_length]
     simp only [a5_.turn4,a5_.step4,cn_,cond_false,ab_ hE,am_,ae_]
     generalize bx_ _=s
     cases (s == [])<;>simp
end Go.Pi
end
section
namespace Go.Pi
end Go.Pi
end
section
namespace Go.Pi
def j5_ (a b:bn_):Bool:=decide (((d3_ a b).length:Int)≤40)&&(decide (em_ (d3_ a b)≥0)&&decide (em_ (d3_ a b)<((bx_ (e9_ b)).length:Int)))
section
variable {a b:bn_} (ha:ko_ cap a) (hb:ko_ cap b) (hsa:∀ c ∈ a.q.show_,i64 c) (hsb:∀ c ∈ b.q.show_,i64 c) (hab:a.rows.length+b.rows.length≤1500000)
include ha hb hsa hsb hab
theorem lJ_:Ev (fun n _=>d5_ n a b) (j5_ a b):=by
 refine ap_ ?_
 have hP:=kk_ (kQ_ ha hb hsa hsb hab)
 have hE:=dQ_ (gH_ hb hsb)
 simp only [d5_,aS_,ab_ (g3_ ha hb hsa hsb),ab_ hP,am_,ab_ (fk_ hb hsb),ab_ hE,ae_,j5_]
 cases decide (((d3_ a b).length:Int)≤40)<;>cases decide (em_ (d3_ a b)≥0)<;>simp
end
end Go.Pi
end
section
namespace Go.Pi
end Go.Pi
end
section
namespace Go.Pi
def FDue (x:cp_):Bool:=!x.began || !gw_ (e9_ x.view) (e9_ x.last)
def intsS (x:cp_):Prop:=(∀ c ∈ x.view.q.show_,i64 c)∧∀ c ∈ x.last.q.show_,i64 c
theorem lL_ {x:cp_} (h:lenS cap x) (hi:intsS x):Ev (fun n _=>d7_ n x) (FDue x):=by
 refine ap_ ?_
 simp only [d7_,aS_,ab_ (fk_ h.1 hi.1),ab_ (fk_ h.2 hi.2),ab_ (fW_ (gH_ h.1 hi.1) (gH_ h.2 hi.2)),am_,ae_,FDue]
 cases x.began<;>simp
end Go.Pi
end
section
namespace Go.Pi
def noEv:aX_:=aX_.mk 0 0 0 (aa_.mk 0 0 [] [] []) []
def FEvOf (x:cp_):aX_:=cond (x.began&&j5_ x.last x.view) (aX_.mk 2 x.version x.lastVersion (aa_.mk 0 0 [] [] []) (d3_ x.last x.view)) (aX_.mk 1 x.version 0 (e9_ x.view) [])
def FTaken (x:cp_):cp_:=cp_.mk x.view x.version x.view x.version true
def gt_ (x:cp_):cp_ × aX_ × Bool:=cond (FDue x) (FTaken x,FEvOf x,true) (x,noEv,false)
section
variable {x:cp_} (h:lenS cap x) (hi:intsS x) (hr:x.last.rows.length+x.view.rows.length≤1500000)
include h hi hr
theorem k8_:Ev (fun n _=>df_ n x) (gt_ x):=by
 have hR:lenS fh_ x:=⟨h.1.upto (by decide),h.2.upto (by decide)⟩
 refine ap_ ?_
 simp only [df_,aS_,pN_ hR,ab_ (lL_ h hi),am_,ab_ (fk_ h.1 hi.1),ab_ (lJ_ h.2 h.1 hi.2 hi.1 hr),ab_ (g3_ h.2 h.1 hi.2 hi.1),h7_ hR.1,ae_,gt_,FTaken,FEvOf,noEv]
 cases FDue x<;>cases x.began<;>cases j5_ x.last x.view<;>simp
end
end Go.Pi
end
section
namespace Go.Pi
def fa_ (v:bn_) (l:List aV_):bn_:=l.foldl kI_ v
theorem rp_ {c:Nat} {v:bn_} {x:aV_} (h:ko_ c v) (hx:qs_ c x):ko_ (c+2) (kI_ v x):=by
 have hr:hp_ (c+1) (su_ v x):=by
  have h1:=mS_ (id:=x.old.id_) h.2.1
  unfold su_
  cases (x.table == v.q.table)<;>cases (x.has&&gc_ v.q x.new)<;>cases x.had<;>simp only [cond_true,cond_false]
  all_goals (first|exact lt_ h1 hx.2|exact lt_ h.2.1 hx.2|exact h1.upto (by omega)|exact h.2.1.upto (by omega))
 have hk:(sv_ v x).length≤c+2:=by
  have h0:=h.2.2
  have h1:=lv_ (kids:=v.kids) (id:=gx_ x.old v.q.kidCol) (by_:=-1)
  have h2:=lv_ (kids:=v.kids) (id:=gx_ x.new v.q.kidCol) (by_:=1)
  have h3:=lv_ (kids:=FKid v.kids (gx_ x.old v.q.kidCol) (-1)) (id:=gx_ x.new v.q.kidCol) (by_:=1)
  unfold sv_
  cases (v.q.kids&&(x.table == v.q.kidTable))<;>cases x.has<;>cases x.had<;>simp only [cond_true,cond_false]<;>omega
 exact ⟨⟨Nat.le_trans h.1.1 (by omega),Nat.le_trans h.1.2 (by omega)⟩,hr.upto (by omega),hk⟩
theorem k3_ {c:Nat} {v:bn_} {l:List aV_} (h:ko_ c v) (hl:∀ x ∈ l,qs_ c x):ko_ (c+2*l.length) (fa_ v l):=by
 have key:∀ (l:List aV_) (d:Nat) (v:bn_),c≤d→ko_ d v→(∀ x ∈ l,qs_ c x)→ko_ (d+2*l.length) (fa_ v l):=by
  intro l
  induction l with
  |nil=>intro d v _ h _;exact h
  |cons x l ih=>
   intro d v hd h hl
   have hx:=hl x (List.mem_cons_self ..)
   have:=ih (d+2) (kI_ v x) (by omega) (rp_ h ⟨Nat.le_trans hx.1 hd,Nat.le_trans hx.2 hd⟩) (fun y hy=>hl y (List.mem_cons_of_mem _ hy))
   simp only [List.length_cons]
   rw [show d+2*(l.length+1)=d+2+2*l.length by omega]
   exact this
 exact key l c v (Nat.le_refl _) h hl
section
variable {v:bn_} {l:List aV_} (h:ko_ cap v) (hl:l.length≤cap) (hx:∀ x ∈ l,qs_ cap x)
include h hl hx
omit hl in
theorem qe_ {i:Nat} (hi:i<l.length):ko_ (cap+2*i) (fa_ v (l.take i))∧qs_ (cap+2*i) (l.getD i aV_.dflt)∧fa_ v (l.take (i+1))=kI_ (fa_ v (l.take i)) (l.getD i aV_.dflt):=by
 refine ⟨?_,?_,?_⟩
 · have:=k3_ (l:=l.take i) h fun x h=>hx x (List.mem_of_mem_take h)
   rwa [List.length_take,Nat.min_eq_left (by omega)] at this
 · have:=hx _ (bX_ aV_.dflt hi)
   exact ⟨Nat.le_trans this.1 (by omega),Nat.le_trans this.2 (by omega)⟩
 · rw [cB_ aV_.dflt hi];simp only [fa_,List.foldl_append,List.foldl_cons,List.foldl_nil]
theorem i3_:Ev (fun n _=>aT_ n v l) (fa_ v l):=by
 refine ap_ ?_
 simp only [cap] at hl
 have ht:l.length≤b6_:=by simp only [b6_];omega
 simp only [aT_,h7_ (h.upto (show cap≤fh_ by decide))]
 refine eE_ (fun i=>fa_ v (l.take i)) l.length (fun n N i (s:bn_)=>aT_.loop4 n (fun xy3 xy4 xy5 xy6 xy7 xy8 xy9 xy10 xy11 xy12 xy13 xy14 xy15 xy16 xy17 xy18 xy19 xy20=>(some (bn_.mk (ay_.mk xy10 xy17 xy11 xy12 xy13 xy18 xy14 xy15 xy16) xy19 xy20))) N l (i:Int) 0 0 false 0 false 0 0 s.q.table s.q.order s.q.down s.q.first s.q.kids s.q.kidTable s.q.kidCol s.q.where_ s.q.show_ s.rows s.kids) _ (fun i hi F hF => ?_) ?_
 · obtain ⟨a,b,e⟩:=qe_ h hx hi
   have hs:=ju_ a b (by simp only [fh_,cap];omega)
   rw [e] at hF
   simp only [aT_.turn4,aT_.step4,Int.toNat_natCast,W_up hi ht,am_,bb_,cC_ hi,cf_ hi]
   refine ⟨fun _=>⟨trivial,?_⟩,fun h=>by cases h⟩
   exact (ab_ hs).2 hF
 · simp only [aT_.turn4,aT_.step4,cn_,cond_false,ae_,List.take_length]
end
def o1_ (x:cp_) (l:List aV_):cp_:={ x with view:=fa_ x.view l,version:=W (x.version+1) }
section
variable {x:cp_} {l:List aV_} (h:lenS cap x) (hl:l.length≤cap) (hx:∀ x ∈ l,qs_ cap x)
include h hl hx
omit hl hx in
theorem lenS.toR:lenS fh_ x:=⟨h.1.upto (by decide),h.2.upto (by decide)⟩
theorem mZ_:Ev (fun n _=>dT_ n x l) (o1_ x l):=by
 refine ap_ ?_
 simp only [dT_,pN_ (lenS.toR h),ab_ (i3_ h.1 hl hx),ae_]
 rfl
end
end Go.Pi
end
section
namespace Go.Pi
def ls_ (s:ax_) (q:ay_):cp_ × Bool:=cond (g2_ s q).2 (cp_.mk (g2_ s q).1 s.version sx_ 0 false,true) (cp_.mk sx_ 0 sx_ 0 false,false)
theorem lK_ {s:ax_} {q:ay_} {c:Nat} (hl:fC_ c s) (hq:tr_ 100000 q) (hc:c≤100000):Ev (fun n _=>d6_ n s q) (ls_ s q):=by
 refine ap_ ?_
 simp only [d6_,ab_ (mY_ hl hq hc),am_,ae_]
 unfold ls_
 cases (g2_ s q).2<;>simp [sx_,zeroQ]
theorem jp_ (c:Nat):ko_ c sx_:=⟨⟨Nat.zero_le _,Nat.zero_le _⟩,⟨Nat.zero_le _,fun x hx=>(by cases hx)⟩,Nat.zero_le _⟩
theorem ri_ {s:ax_} {q:ay_} {c:Nat} (hl:fC_ c s) (hq:tr_ c q):ko_ (c+c) (g2_ s q).1:=by
 have hT:∀ i,hp_ c (s.tables.getD i []):=fun i=>fR_ hl.2.2 i
 unfold g2_
 cases FSQ s q
 · exact jp_ _
 · refine ⟨⟨Nat.le_trans hq.1 (Nat.le_add_right _ _),Nat.le_trans hq.2 (Nat.le_add_right _ _)⟩,?_,?_⟩
   · show hp_ (c+c) (hC_ s q)
     unfold hC_
     cases FSQ s q
     · exact ⟨Nat.zero_le _,fun x hx=>(by cases hx)⟩
     · have:=mN_ (c:=c) (q:=q) (rows:=s.tables.getD q.table.toNat []) (o:=[]) (k:=0) ⟨Nat.zero_le _,fun x hx=>(by cases hx)⟩ (hT _).2
       exact this.upto (by have:=(hT q.table.toNat).1;omega)
   · show (lu_ s q).length≤c+c
     unfold lu_
     cases q.kids
     · exact Nat.zero_le _
     · have:=mP_ (q:=q) (rows:=s.tables.getD q.kidTable.toNat []) (k:=[])
       have:=(hT q.kidTable.toNat).1
       simp only [cond_true,List.length_nil] at *
       omega
structure SsIn (c:Nat) (x:cp_):Prop where
 len:lenS c x
 v:∀ y ∈ x.view.q.show_,0≤y∧y≤1000
 l:∀ y ∈ x.last.q.show_,0≤y∧y≤1000
theorem SsIn.ints {c:Nat} {x:cp_} (h:SsIn c x):intsS x:=⟨fun y hy=>by have:=h.v y hy;unfold i64;omega,fun y hy=>by have:=h.l y hy;unfold i64;omega⟩
theorem SsIn.upto {c d:Nat} {x:cp_} (h:SsIn c x) (hc:c≤d):SsIn d x:=⟨⟨h.len.1.upto hc,h.len.2.upto hc⟩,h.v,h.l⟩
theorem sE_ {s:ax_} {q:ay_} {c:Nat} (hs:fC_ c s) (hq:QIn q) (hc:1010≤c):SsIn (c+c) (ls_ s q).1:=by
 have hV:=ri_ hs (q:=q) ⟨Nat.le_trans hq.len.1 hc,Nat.le_trans hq.len.2 hc⟩
 unfold ls_
 cases h2:(g2_ s q).2
 · exact ⟨⟨jp_ _,jp_ _⟩,fun y hy=>(by cases hy),fun y hy=>(by cases hy)⟩
 · refine ⟨⟨hV,jp_ _⟩,?_,fun y hy=>(by cases hy)⟩
   show ∀ y ∈ (g2_ s q).1.q.show_,_
   unfold g2_ at h2 ⊢
   cases h:FSQ s q<;>rw [h] at h2
   · cases h2
   · exact hq.show_
theorem qB_ {x:cp_} {c:Nat} (h:SsIn c x):SsIn c (gt_ x).1:=by
 unfold gt_
 cases FDue x
 · exact h
 · exact ⟨⟨h.len.1,h.len.1⟩,h.v,h.v⟩
theorem changes_q (l:List aV_) (v:bn_):(fa_ v l).q=v.q:=by
 unfold fa_
 induction l generalizing v with
 |nil=>rfl
 |cons x l ih=>rw [List.foldl_cons,ih];rfl
theorem sessGo_in {x:cp_} {l:List aV_} {c:Nat} (h:SsIn c x) (hl:∀ y ∈ l,qs_ c y) (h5:l.length≤5):SsIn (c+10) (o1_ x l):=by
 refine ⟨⟨(k3_ h.len.1 hl).upto (by omega),h.len.2.upto (by omega)⟩,?_,h.l⟩
 show ∀ y ∈ (fa_ x.view l).q.show_,_
 rw [changes_q];exact h.v
theorem SsIn.take {c:Nat} {x:cp_} (h:SsIn c x) (hc:c≤700000):Ev (fun n _=>df_ n x) (gt_ x) :=
 k8_ ⟨h.len.1.upto (by simp only [cap];omega),h.len.2.upto (by simp only [cap];omega)⟩ h.ints (by have:=h.len.1.2.1.1;have:=h.len.2.2.1.1;omega)
theorem SsIn.go {c:Nat} {x:cp_} {l:List aV_} (h:SsIn c x) (hc:c≤700000) (hl:∀ y ∈ l,qs_ c y) (h5:l.length≤5):Ev (fun n _=>dT_ n x l) (o1_ x l) :=
 mZ_ ⟨h.len.1.upto (by simp only [cap];omega),h.len.2.upto (by simp only [cap];omega)⟩ (by simp only [cap];omega) fun y hy=>⟨Nat.le_trans (hl y hy).1 (by simp only [cap];omega),Nat.le_trans (hl y hy).2 (by simp only [cap];omega)⟩
theorem sess_etaD (x:cp_):cp_.mk x.view x.version x.last x.lastVersion x.began=x:=rfl
theorem view_etaD (x:bn_):bn_.mk x.q x.rows x.kids=x:=rfl
end Go.Pi
end
section
namespace Go.Pi
theorem l16loop {K:Nat→as_.K5} {P:ax_ × cp_ × af_→Prop} {t21 t30 t32 t33 t34 t36 t37 t38 t311 t312 t314 t315 t316 t318 t319 t320 t323 t324} (hK:∀ c s x,DwOk c→StIn 1100 s→SsIn 6000 x→Ans (fun n _=>K n c.b c.i c.h t21 t30 t32 t33 t34 t36 t37 t38 t311 t312 t314 t315 t316 t318 t319 t320 t323 t324 s.schema.cols s.version s.tables x.view.q.table x.view.q.where_ x.view.q.order x.view.q.down x.view.q.first x.view.q.show_ x.view.q.kids x.view.q.kidTable x.view.q.kidCol x.view.rows x.view.kids x.version x.last.q.table x.last.q.where_ x.last.q.order x.last.q.down x.last.q.first x.last.q.show_ x.last.q.kids x.last.q.kidTable x.last.q.kidCol x.last.rows x.last.kids x.lastVersion x.began) P)
  {c:af_} {s:ax_} {x:cp_} (hc:DwOk c) (hs:StIn 1010 s) (hx:SsIn 5000 x):Ans (fun n _=>as_.loop5 n (K n) n 0 c.b c.i c.h t21 t30 t32 t33 t34 t36 t37 t38 t311 t312 t314 t315 t316 t318 t319 t320 t323 t324 s.schema.cols s.version s.tables x.view.q.table x.view.q.where_ x.view.q.order x.view.q.down x.view.q.first x.view.q.show_ x.view.q.kids x.view.q.kidTable x.view.q.kidCol x.view.rows x.view.kids x.version x.last.q.table x.last.q.where_ x.last.q.order x.last.q.down x.last.q.first x.last.q.show_ x.last.q.kids x.last.q.kidTable x.last.q.kidCol x.last.rows x.last.kids x.lastVersion x.began) P:=by
 have key:∀ (m i:Nat) (c:af_) (s:ax_) (x:cp_),i+m=6→DwOk c→StIn (1010+3*i) s→SsIn (5000+10*i) x→Ans (fun n N=>as_.loop5 n (K n) N (i:Int) c.b c.i c.h t21 t30 t32 t33 t34 t36 t37 t38 t311 t312 t314 t315 t316 t318 t319 t320 t323 t324 s.schema.cols s.version s.tables x.view.q.table x.view.q.where_ x.view.q.order x.view.q.down x.view.q.first x.view.q.show_ x.view.q.kids x.view.q.kidTable x.view.q.kidCol x.view.rows x.view.kids x.version x.last.q.table x.last.q.where_ x.last.q.order x.last.q.down x.last.q.first x.last.q.show_ x.last.q.kids x.last.q.kidTable x.last.q.kidCol x.last.rows x.last.kids x.lastVersion x.began) P:=by
  intro m
  induction m with
  |zero=>
   intro i c s x hi hc hs hx
   refine cE_ ?_
   simp only [as_.turn5,as_.step5,c4_]
   refine av_ (br_ hc) fun r hr => ?_
   have h1:=hr.lo;have h2:=hr.hi
   rw [decide_eq_false (by omega)]
   simp only [cond_false]
   exact hK _ _ _ hr.cur (hs.upto (by omega)) (hx.upto (by omega))
  |succ m ih=>
   intro i c s x hi hc hs hx
   refine cE_ ?_
   simp only [as_.turn5,as_.step5,c4_]
   refine av_ (br_ hc) fun r hr => ?_
   simp only [ba_]
   refine ⟨fun _ => ?_,fun _=>hK _ _ _ hr.cur (hs.upto (by omega)) (hx.upto (by omega))⟩
   refine av_ (fe_ hr.cur) fun r2 h2 => ?_
   have hgo:∀ (y:cp_),SsIn (5000+10*i) y→Ans (fun n N=>(aC_ n r2.2 s).bind fun xr57=>((bC_ n s xr57.1).bind fun xr58=>(cond xr58.2.2 ((dT_ n y xr58.2.1).bind fun xr59=>(as_.loop5 n (K n) N (W ((i:Int)+1)) xr57.2.b xr57.2.i xr57.2.h t21 t30 t32 t33 t34 t36 t37 t38 t311 t312 t314 t315 t316 t318 t319 t320 t323 t324 xr58.1.schema.cols xr58.1.version xr58.1.tables xr59.view.q.table xr59.view.q.where_ xr59.view.q.order xr59.view.q.down xr59.view.q.first xr59.view.q.show_ xr59.view.q.kids xr59.view.q.kidTable xr59.view.q.kidCol xr59.view.rows xr59.view.kids xr59.version xr59.last.q.table xr59.last.q.where_ xr59.last.q.order xr59.last.q.down xr59.last.q.first xr59.last.q.show_ xr59.last.q.kids xr59.last.q.kidTable xr59.last.q.kidCol xr59.last.rows xr59.last.kids xr59.lastVersion xr59.began)) (as_.loop5 n (K n) N (W ((i:Int)+1)) xr57.2.b xr57.2.i xr57.2.h t21 t30 t32 t33 t34 t36 t37 t38 t311 t312 t314 t315 t316 t318 t319 t320 t323 t324 s.schema.cols s.version s.tables y.view.q.table y.view.q.where_ y.view.q.order y.view.q.down y.view.q.first y.view.q.show_ y.view.q.kids y.view.q.kidTable y.view.q.kidCol y.view.rows y.view.kids y.version y.last.q.table y.last.q.where_ y.last.q.order y.last.q.down y.last.q.first y.last.q.show_ y.last.q.kids y.last.q.kidTable y.last.q.kidCol y.last.rows y.last.kids y.lastVersion y.began)))) P:=by
    intro y hy
    refine av_ (me_ h2 hs (by omega) (by omega)) fun b hb => ?_
    have hm:mb_ (1010+3*i) b.1:=fun z hz=>Nat.le_trans (hb.2.1 z hz) (by omega)
    have hB:=lS_ (l:=b.1) hs.len hm (by have:=hb.1;omega)
    have hL:=k4_ (l:=b.1) hs.len hm
    have hI:=rq_ (l:=b.1) hs hm
    have hC:∀ z ∈ (fr_ s b.1).2.1,qs_ (5000+10*i) z:=fun z hz=>⟨Nat.le_trans (hL.2.2 z hz).1 (by have:=hb.1;omega),Nat.le_trans (hL.2.2 z hz).2 (by have:=hb.1;omega)⟩
    have e1:=up1 (show i≤1000000 by omega)
    rw [a2_ hB]
    simp only [ba_,a2_ (hy.go (by omega) hC hL.2.1),e1]
    refine ⟨fun _=>ih (i+1) b.2 (fr_ s b.1).1 (o1_ y (fr_ s b.1).2.1) (by omega) hb.2.2 (hI.upto (by have:=hb.1;omega)) ?_,fun _=>ih (i+1) b.2 s y (by omega) hb.2.2 (hs.upto (by omega)) (hy.upto (by omega))⟩
    exact (sessGo_in hy hC hL.2.1).upto (by omega)
   simp only [as_.tail10,gi_,fz_,km_,view_etaD,sess_etaD,c4_,ba_,a2_ (hx.take (by omega))]
   exact ⟨fun _=>hgo _ (qB_ hx),fun _=>hgo _ hx⟩
 exact ei_ (key 6 0 c s x rfl hc hs hx)
theorem la_ {c:af_} (hc:DwOk c):Ans (fun n _=>as_ n c) fun r=>StIn 1100 r.1∧SsIn 6000 r.2.1∧DwOk r.2.2:=by
 refine b8_ ?_
 simp only [as_]
 refine av_ (md_ hc) fun r hr => ?_
 simp only [as_.tail1,gi_,fz_,c4_]
 refine av_ (mc_ hr.2 hr.1.col) fun q hq => ?_
 have hN:=lK_ (s:=r.1) (q:=q.1) hr.1.len ⟨Nat.le_trans hq.1.len.1 (by decide),Nat.le_trans hq.1.len.2 (by decide)⟩ (by decide)
 rw [a2_ hN]
 exact l16loop (fun c s x h1 h2 h3=>aM_.2 ⟨h2,h3,h1⟩) hq.2 hr.1 ((sE_ hr.1.len hq.1 (Nat.le_refl _)).upto (by decide))
end Go.Pi
end
section
namespace Go.Pi
structure EvDw (e:aX_):Prop where
 len:ov_ e
 doc:aa_.size e.doc≤2000000000
 few:e.ops.length≤3900000
section
variable {a b:bn_} (ha:ko_ cap a) (hb:ko_ cap b) (hsa:∀ c ∈ a.q.show_,i64 c) (hsb:∀ c ∈ b.q.show_,i64 c)
include ha hb hsa hsb
theorem patch_few (hab:a.rows.length+b.rows.length≤1500000):(d3_ a b).length≤3900000:=by
 obtain ⟨r1,r2,r3⟩:=lZ_ ha hb hsa hsb
 unfold d3_
 cases kF_ a.q b.q with
 |false=>exact Nat.zero_le _
 |true=>
  have hUl:(qm_ kP_ (gv_ (en_ a) (eg_ a) (en_ b) (eg_ b))).length=(gv_ (en_ a) (eg_ a) (en_ b) (eg_ b)).length:=List.length_map _
  have hcl:(hD_ a b).length≤1:=by unfold hD_;cases (!decide (a.rows.length=b.rows.length))<;>simp
  simp only [cond_true,List.length_append];omega
end
theorem evOf_in {x:cp_} {c:Nat} (h:SsIn c x) (hc:c≤700000):EvDw (FEvOf x):=by
 have k1:ko_ cap x.view:=h.len.1.upto (by simp only [cap];omega)
 have k2:ko_ cap x.last:=h.len.2.upto (by simp only [cap];omega)
 unfold FEvOf
 cases (x.began&&j5_ x.last x.view)
 · refine ⟨⟨gH_ k1 h.ints.1,Nat.zero_le _,fun o ho=>(by cases ho)⟩,?_,Nat.zero_le _⟩
   have:cG_ (e9_ x.view)=true∨e9_ x.view=g5_:=by
    unfold e9_ FDoc eL_
    cases h:cG_ (nS_ x.view.rows.length (j9_ id x.view.q x.view.rows (fc_ x.view) (hN_ x.view.q x.view.rows.length)))
    · exact .inr rfl
    · exact .inl h
   rcases this with h|h
   · have h:=of_decide_eq_true h
     have:=r1_ 6 _ h
     show aa_.size (e9_ x.view)≤_;omega
   · show aa_.size (e9_ x.view)≤_;rw [h];decide
 · have hab:x.last.rows.length+x.view.rows.length≤1500000:=by have:=h.len.1.2.1.1;have:=h.len.2.2.1.1;omega
   exact ⟨⟨d9_ 6,kQ_ k2 k1 h.ints.2 h.ints.1 hab⟩,show aa_.size (aa_.mk 0 0 [] [] [])≤2000000000 by decide,patch_few k2 k1 h.ints.2 h.ints.1 hab⟩
theorem sessEv_in {x:cp_} {c:Nat} (h:SsIn c x) (hc:c≤700000):EvDw (gt_ x).2.1:=by
 unfold gt_
 cases FDue x
 · exact ⟨⟨d9_ 6,Nat.zero_le _,fun o ho=>(by cases ho)⟩,show aa_.size (aa_.mk 0 0 [] [] [])≤2000000000 by decide,Nat.zero_le _⟩
 · exact evOf_in h hc
theorem ev_etaD (e:aX_):aX_.mk e.kind e.version e.base e.doc e.ops=e:=rfl
end Go.Pi
end
section
namespace Go.Pi
theorem rJ_ (ns:List Bs) (x:Bs):gY_ ns x≤gX_ ns x:=by unfold gX_;split<;>omega
theorem sumL_cut {α:Type} (f:α→Nat) (l:List α) {a b:Nat} (h:a≤b):er_ f (l.take a)+er_ f (l.drop b)≤er_ f l:=by
 have e:er_ f l=er_ f (l.take a)+er_ f (l.drop a):=by rw [←gC_,List.take_append_drop]
 have e2:er_ f (l.drop a)=er_ f ((l.drop a).take (b - a))+er_ f (l.drop b):=by
  rw [←gC_];congr 1
  have:l.drop b=(l.drop a).drop (b - a):=by rw [List.drop_drop];congr 1;omega
  rw [this,List.take_append_drop]
 omega
theorem pp_ {α:Type} (f:α→Nat) (ns:List Bs) (x:Bs) (l:List α) (y:α):e0_ f (l3_ ns x l y)≤e0_ f l+1+f y:=by
 have h:=rJ_ ns x
 have h1:=sumL_cut f l h
 have h2:(l.take (gY_ ns x)).length+(l.drop (gX_ ns x)).length≤l.length:=by simp;omega
 unfold e0_ l3_
 rw [gC_,gC_]
 simp only [List.length_append,List.length_cons,List.length_nil,er_]
 omega
def jB:Nat→Nat
 |0=>100
 |d+1=>10*jB d+1000
theorem oB_ (k n:Int) (s:Bs) (l:List aa_) (ns:List Bs):aa_.size (aa_.mk k n s l ns)=s.length+(e0_ aa_.size l+e0_ szB ns):=aa_.size_eq _
theorem qa_ {x:Bs} (h:x ∈ ([[97],[98],[99],[105,100],[110],[114,111,119,115],[],[97,47,98],[126]]:List Bs)):x.length≤4:=by
 simp only [List.mem_cons,List.not_mem_nil,or_false] at h
 rcases h with rfl|rfl|rfl|rfl|rfl|rfl|rfl|rfl|rfl<;>decide
theorem m6_ {c:af_} (hc:DwOk c):Ans (fun n _=>dc_ n c) fun r=>r.1.length≤4∧DwOk r.2:=by
 refine b8_ ?_
 simp only [dc_]
 exact av_ (gd_ hc (by simp)) fun r hr=>aM_.2 ⟨qa_ hr.1,hr.2⟩
section
variable {R:Nat→af_→Int→Option (aa_ × af_)} {B:Nat} {append:Int} {P:aa_ × af_→Prop}
theorem tc_ {K:Nat→ac_.K20_1} {t40 t41 t42 t60 t61 t62} (hR:∀ c,DwOk c→Ans (fun n _=>R n c (W (append - 1))) fun r=>aa_.size r.1≤B∧DwOk r.2)
  (hK:∀ c o,DwOk c→o.length≤5→er_ aa_.size o≤5*B→Ans (fun n _=>K n c.b c.i c.h t40 t41 t42 t60 t61 t62 o) P) {c:af_} (hc:DwOk c) :
  Ans (fun n _=>ac_.loop20 n (R n) (K n) n append 0 c.b c.i c.h t40 t41 t42 t60 t61 t62 []) P:=by
 have key:∀ (m i:Nat) (c:af_) (o:List aa_),i+m=5→DwOk c→o.length=i→er_ aa_.size o≤i*B→Ans (fun n N=>ac_.loop20 n (R n) (K n) N append (i:Int) c.b c.i c.h t40 t41 t42 t60 t61 t62 o) P:=by
  intro m
  induction m with
  |zero=>
   intro i c o hi hc ho hs
   obtain rfl:i=5:=by omega
   refine cE_ ?_
   simp only [ac_.turn20,ac_.step20,c4_]
   refine av_ (br_ hc) fun r hr => ?_
   have h1:=hr.lo;have h2:=hr.hi
   rw [decide_eq_false (by omega)]
   simp only [cond_false]
   exact hK _ _ hr.cur (by omega) hs
  |succ m ih=>
   intro i c o hi hc ho hs
   have hiB:i*B≤5*B:=Nat.mul_le_mul_right _ (by omega)
   refine cE_ ?_
   simp only [ac_.turn20,ac_.step20,c4_]
   refine av_ (br_ hc) fun r hr => ?_
   simp only [ba_]
   refine ⟨fun _=>av_ (hR _ hr.cur) fun r2 h2 => ?_,fun _=>hK _ _ hr.cur (by omega) (by omega)⟩
   simp only [dC_,up1 (show i≤1000000 by omega),aS_]
   refine ⟨by simp;omega,ih (i+1) r2.2 _ (by omega) h2.2 (by simp;omega) ?_⟩
   rw [gC_,Nat.add_mul,Nat.one_mul]
   have e:er_ aa_.size [r2.1]=aa_.size r2.1:=by simp only [er_,Nat.add_zero]
   rw [e]
   have:=h2.1
   omega
 exact ei_ (key 5 0 c [] rfl hc rfl (Nat.zero_le _))
theorem tb_ {K:Nat→ac_.K28_1} {t40 t41 t42} (hR:∀ c,DwOk c→Ans (fun n _=>R n c (W (append - 1))) fun r=>aa_.size r.1≤B∧DwOk r.2)
  (hK:∀ c j,DwOk c→aa_.size j≤5*B+50→j.list.length=j.names.length→Ans (fun n _=>K n c.b c.i c.h t40 t41 t42 j.kind j.n_ j.s j.list j.names) P) {c:af_} (hc:DwOk c) (hB:B≤100000000) :
  Ans (fun n _=>ac_.loop28 n (R n) (K n) n append 0 c.b c.i c.h t40 t41 t42 5 0 [] [] []) P:=by
 have key:∀ (m i:Nat) (c:af_) (j:aa_),i+m=5→DwOk c→aa_.size j≤i*(B+10)→j.list.length=j.names.length→j.names.length≤i→Ans (fun n N=>ac_.loop28 n (R n) (K n) N append (i:Int) c.b c.i c.h t40 t41 t42 j.kind j.n_ j.s j.list j.names) P:=by
  intro m
  induction m with
  |zero=>
   intro i c j hi hc hs hl hn
   obtain rfl:i=5:=by omega
   refine cE_ ?_
   simp only [ac_.turn28,ac_.step28,c4_]
   refine av_ (br_ hc) fun r hr => ?_
   have h1:=hr.lo;have h2:=hr.hi
   rw [decide_eq_false (by omega)]
   simp only [cond_false]
   exact hK _ _ hr.cur (by omega) hl
  |succ m ih=>
   intro i c j hi hc hs hl hn
   have hiB:i*(B+10)≤5*(B+10):=Nat.mul_le_mul_right _ (by omega)
   have hin:(i+1)*(B+10)=i*(B+10)+(B+10):=by rw [Nat.add_mul,Nat.one_mul]
   refine cE_ ?_
   simp only [ac_.turn28,ac_.step28,c4_,dE_]
   refine av_ (br_ hc) fun r hr => ?_
   simp only [ba_]
   refine ⟨fun _=>av_ (m6_ hr.cur) fun nm hnm => ?_,fun _=>hK _ _ hr.cur (by omega) hl⟩
   have hA:=hV_ (j:=j) (x:=nm.1) (by simp only [b6_];omega)
   rw [a2_ hA]
   simp only [ba_,up1 (show i≤1000000 by omega)]
   refine ⟨fun hneg=>av_ (hR _ hnm.2) fun r2 h2 => ?_,fun _=>ih (i+1) nm.2 j (by omega) hnm.2 (by omega) hl (by omega)⟩
   have hneg:=of_decide_eq_true hneg
   have hno:∀ q,q<j.names.length→(j.names.getD q [] == nm.1)=false:=by
    intro q hq
    unfold FIdx at hneg
    split at hneg
    · omega
    · rename_i hf
      have:=List.findIdx_eq_length.1 (show j.names.findIdx (fun y=>y == nm.1)=j.names.length from Nat.le_antisymm List.findIdx_le_length (by omega)) _ (bX_ [] hq)
      exact this
   have hP:=hi_ (o:=j) (j:=r2.1) (x:=nm.1) (by omega) hl (fun _=>less_ne) (fun q _ h2=>hno q h2)
   simp only [aS_,a2_ hP]
   have p1:=pp_ aa_.size j.names nm.1 j.list r2.1
   have p2:=pp_ szB j.names nm.1 j.names nm.1
   have e:=aa_.size_eq j
   have hr2:=h2.1
   have hnl:=hnm.1
   have hsz:szB nm.1=nm.1.length:=rfl
   have q1:(l3_ j.names nm.1 j.list r2.1).length=(l3_ j.names nm.1 j.names nm.1).length:=by
    unfold l3_;simp only [List.length_append,List.length_take,List.length_drop,List.length_cons,List.length_nil];omega
   refine ih (i+1) r2.2 (aa_.mk 5 0 [] (l3_ j.names nm.1 j.list r2.1) (l3_ j.names nm.1 j.names nm.1)) (by omega) h2.2 ?_ q1 ?_
   · rw [oB_];simp only [List.length_nil];omega
   · show (l3_ j.names nm.1 j.names nm.1).length≤i+1
     have:=rJ_ j.names nm.1
     unfold l3_;simp only [List.length_append,List.length_take,List.length_drop,List.length_cons,List.length_nil];omega
 exact ei_ (key 5 0 c (aa_.mk 5 0 [] [] []) rfl hc (by rw [oB_];simp [e0_,er_]) rfl (Nat.le_refl _))
end
theorem jB_mono {a b:Nat} (h:a≤b):jB a≤jB b:=by
 induction b with
 |zero=>obtain rfl:a=0:=by omega
        exact Nat.le_refl _
 |succ b ih=>
  by_cases e:a=b+1
  · rw [e];exact Nat.le_refl _
  · have:=ih (by omega);simp only [jB];omega
theorem kY_ {x:Bs} (h:x ∈ ([[],[120],[97,34,98],[97,92,92,98],[104,101,108,108,111,32,116,104,101,114,101],[126,49]]:List Bs)):x.length≤20:=by
 simp only [List.mem_cons,List.not_mem_nil,or_false] at h
 rcases h with rfl|rfl|rfl|rfl|rfl|rfl<;>decide
theorem pJ_ {k n:Int} {s:Bs} {B:Nat} (h:s.length≤20) (hB:100≤B):aa_.size (aa_.mk k n s [] [])≤B:=by
 rw [oB_];simp [e0_,er_];omega
theorem jB_ge (d:Nat):100≤jB d:=jB_mono (a:=0) (Nat.zero_le d)
theorem gl_:∀ (d:Nat) (depth:Int) (c:af_),d≤4→depth≤(d:Int)+1 → -1000000≤depth→DwOk c→Ans (fun n _=>ac_ n c depth) fun r=>aa_.size r.1≤jB d∧DwOk r.2:=by
 intro d
 induction d with
 |zero=>
  intro depth c hd h1 h2 hc
  have hge:=jB_ge 0
  refine b8_ ?_
  simp only [ac_]
  repeat' (first
   |(refine av_ (br_ (by assumption)) fun _ hd => ?_;obtain ⟨_,_,_⟩:=hd)
   |(refine av_ (eS_ (by assumption) (by simp)) fun _ hd => ?_;obtain ⟨_,_⟩:=hd)
   |(refine av_ (gd_ (by assumption) (by simp)) fun _ hd => ?_;obtain ⟨_,_⟩:=hd)
   |(with_reducible refine ba_.2 ⟨fun _ => ?_,fun _ => ?_⟩)
   |((with_reducible refine aM_.2 ?_);exact ⟨pJ_ (by first|exact Nat.zero_le _|(exact kY_ (by assumption))) hge,by assumption⟩)
   |(exfalso;simp only [beq_iff_eq,beq_eq_false_iff_ne,decide_eq_true_eq,decide_eq_false_iff_not,ne_eq] at *;omega))
 |succ d ih=>
  intro depth c hd h1 h2 hc
  have hge:=jB_ge (d+1)
  have e0:jB (d+1)=10*jB d+1000:=rfl
  have hB:jB d≤100000000:=Nat.le_trans (jB_mono (show d≤4 by omega)) (by decide)
  have hge0:=jB_ge d
  have hR:¬ depth≤1→∀ c,DwOk c→Ans (fun n _=>ac_ n c (W (depth - 1))) fun r=>aa_.size r.1≤jB d∧DwOk r.2:=fun hn c hc=>by
   rw [Wn (by omega) (by omega)]
   exact ih (depth - 1) c (by omega) (by omega) (by omega) hc
  refine b8_ ?_
  simp only [ac_]
  repeat' (first
   |(refine av_ (br_ (by assumption)) fun _ hd => ?_;obtain ⟨_,_,_⟩:=hd)
   |(refine av_ (eS_ (by assumption) (by simp)) fun _ hd => ?_;obtain ⟨_,_⟩:=hd)
   |(refine av_ (gd_ (by assumption) (by simp)) fun _ hd => ?_;obtain ⟨_,_⟩:=hd)
   |(with_reducible refine ba_.2 ⟨fun _ => ?_,fun _ => ?_⟩)
   |((with_reducible refine aM_.2 ?_);exact ⟨pJ_ (by first|exact Nat.zero_le _|(exact kY_ (by assumption))) hge,by assumption⟩)
   |(exfalso;simp only [beq_iff_eq,beq_eq_false_iff_ne,decide_eq_true_eq,decide_eq_false_iff_not,ne_eq] at *;omega)
   |(refine tc_ (hR (by simp only [decide_eq_false_iff_not] at *;assumption)) (fun _ o hc' ho hs=>aM_.2 ⟨?_,hc'⟩) (by assumption))
   |(refine tb_ (hR (by simp only [decide_eq_false_iff_not] at *;assumption)) (fun _ j hc' hs hl=>aM_.2 ⟨?_,hc'⟩) (by assumption) hB))
  all_goals (first
   |(show aa_.size (aa_.mk _ _ _ _ _)≤_;rw [oB_];simp only [e0_,er_,List.length_nil];omega)
   |(show aa_.size (aa_.mk _ _ _ _ _)≤_;rw [dE_];exact Nat.le_trans hs (by omega)))
end Go.Pi
end
section
namespace Go.Pi
def FPos (s:Bs):Int:=match (List.range 1000).find? (fun x:Nat=>Lib.itoa (x:Int) == s) with
 |some x=>(x:Int)
 |none => -1
theorem sX_ {x y:Nat} (hx:x≤999) (hy:y≤999) (h:Lib.itoa (x:Int)=Lib.itoa (y:Int)):x=y:=by
 have h1:=jY_ (n:=(x:Int)) (by omega) (by omega)
 have h2:=jY_ (n:=(y:Int)) (by omega) (by omega)
 rw [h,h2] at h1
 cases h1;rfl
theorem pos_itoa {x:Nat} (h:x≤999):FPos (Lib.itoa (x:Int))=x:=by
 unfold FPos
 cases e:(List.range 1000).find? (fun y:Nat=>Lib.itoa (y:Int) == Lib.itoa (x:Int)) with
 |none=>
  have:=List.find?_eq_none.1 e x (List.mem_range.2 (by omega))
  simp at this
 |some y=>
  have h1:=List.find?_some e
  have h3:=List.mem_range.1 (List.mem_of_find?_eq_some e)
  have h2:=sX_ (x:=y) (y:=x) (by omega) h (eq_of_beq h1)
  show ((y:Nat):Int)=(x:Int)
  rw [h2]
theorem pos_none {s:Bs} (h:∀ x:Nat,x≤999→Lib.itoa (x:Int)≠s):FPos s = -1:=by
 unfold FPos
 rw [List.find?_eq_none.2 fun x hx=>by have:=h x (by have:=List.mem_range.1 hx;omega);simp;exact this]
theorem jF_ (s:Bs):(∃ x:Nat,x≤999∧s=Lib.itoa (x:Int)∧FPos s=x)∨((∀ x:Nat,x≤999→Lib.itoa (x:Int)≠s)∧FPos s = -1):=by
 by_cases h:∃ x:Nat,x≤999∧s=Lib.itoa (x:Int)
 · obtain ⟨x,h1,rfl⟩:=h
   exact .inl ⟨x,h1,rfl,pos_itoa h1⟩
 · have h':∀ x:Nat,x≤999→Lib.itoa (x:Int)≠s:=fun x hx e=>h ⟨x,hx,e.symm⟩
   exact .inr ⟨h',pos_none h'⟩
theorem pos_range (s:Bs) : -1≤FPos s∧FPos s≤999:=by
 rcases jF_ s with ⟨x,h,_,e⟩|⟨_,e⟩<;>rw [e]<;>omega
theorem r2_ (x:Nat):Lib.itoa (x:Int)=Lib.decDigits x:=by
 unfold Lib.itoa
 rw [if_neg (by omega)]
 simp
def FVal (x:Nat):Bs→Option Nat
 |[]=>some x
 |c::l=>if 48≤c.toNat∧c.toNat≤57 then FVal (10*x+(c.toNat - 48)) l else none
theorem r9_:∀ (x:Nat) (l:Bs),(∀ c ∈ l,fu_ c)→FVal x l=some (jq_ x l)
 |_,[],_=>rfl
 |x,c::l,h=>by
  unfold FVal
  rw [if_pos (show 48≤c.toNat∧c.toNat≤57 from h c (List.mem_cons_self ..)),r9_ _ l fun y hy=>h y (List.mem_cons_of_mem _ hy),iu_]
theorem fval_lt:∀ (l:Bs) (x i y:Nat),x<10 ^ i→FVal x l=some y→y<10 ^ (i+l.length)
 |[],x,i,y,hx,h=>by
  simp only [FVal,Option.some.injEq] at h
  subst h;simpa using hx
 |c::l,x,i,y,hx,h=>by
  unfold FVal at h
  split at h
  · rename_i hc
    have:=fval_lt l _ (i+1) y (by rw [Nat.pow_succ];omega) h
    rw [List.length_cons,show i+(l.length+1)=i+1+l.length by omega]
    exact this
  · cases h
def FPos1 (s:Bs):Option Nat→Int
 |some y=>cond (!(Lib.itoa (y:Int) == s)) (-1) y
 |none => -1
theorem lP_ {s:Bs}:Ev (fun n _=>bB_ n s) (FPos s):=by
 refine ap_ ?_
 simp only [bB_,am_,ae_]
 refine ⟨fun h => ?_,fun _=>⟨fun h => ?_,fun hl => ?_⟩⟩
 · have:s=[]:=by simpa using h
   subst this
   rcases jF_ [] with ⟨x,h1,h2,h3⟩|⟨_,e⟩
   · obtain ⟨c,t,e,_⟩:=g7_ (x:Int)
     rw [e] at h2;cases h2
   · exact e.symm
 · rcases jF_ s with ⟨x,h1,h2,h3⟩|⟨_,e⟩
   · have h:=of_decide_eq_true h
     have:=oR_ 2 x (by omega)
     rw [h2,r2_] at h
     omega
   · exact e.symm
 · have hl:s.length≤3:=by have:=of_decide_eq_false hl;omega
   have key:∀ (m i x:Nat),i+m=s.length→x<10 ^ i →
     Ev (fun n N=>bB_.loop7 n (fun xy1 xy2=>((aK_ n xy2).bind fun xr3=>(cond (!(xr3 == xy1)) (some (-1)) (some xy2)))) N s (x:Int) (i:Int)) (FPos1 s (FVal x (s.drop i))):=by
    intro m
    induction m with
    |zero=>
     intro i x hi hx
     have:i=s.length:=by omega
     subst this
     have hx3:10 ^ s.length≤10 ^ 3:=Nat.pow_le_pow_right (by omega) hl
     refine bF_ ?_
     simp only [bB_.turn7,bB_.step7,cn_,cond_false,List.drop_length,FVal,FPos1,ab_ (cO_ (x:=(x:Int)) (by omega) (by omega)),am_,ae_]
     cases (!(Lib.itoa (x:Int) == s))<;>simp
    |succ m ih=>
     intro i x hi hx
     have hlt:i<s.length:=by omega
     have hx3:10 ^ i≤10 ^ 3:=Nat.pow_le_pow_right (by omega) (by omega)
     have hW:=W_up hlt (show s.length≤b6_ by simp only [b6_];omega)
     have hd:=es_ 0 hlt
     refine bF_ ?_
     simp only [bB_.turn7,bB_.step7,cC_ hlt,cond_true,bb_,cf_ hlt,true_and,Int.toNat_natCast,hW,am_,ae_]
     rw [hd,FVal]
     have hc:(s.getD i 0).toNat≤255:=by have:=(s.getD i 0).toNat_lt;omega
     refine ⟨fun h => ?_,fun h=>⟨fun h2 => ?_,fun h2 => ?_⟩⟩
     · have h:=of_decide_eq_true h
       rw [if_neg (by omega)];rfl
     · have h2:=of_decide_eq_true h2
       rw [if_neg (by omega)];rfl
     · have h:=of_decide_eq_false h
       have h2:=of_decide_eq_false h2
       rw [if_pos (by omega)]
       have e:W (W (W (10*(x:Int))+W ((s.getD i 0).toNat:Int)) - 48)=((10*x+((s.getD i 0).toNat - 48):Nat):Int):=by
        rw [W_id (n:=10*(x:Int)) (by omega) (by omega),W_id (n:=((s.getD i 0).toNat:Int)) (by omega) (by omega),W_id (n:=10*(x:Int)+((s.getD i 0).toNat:Int)) (by omega) (by omega),W_id (by omega) (by omega)]
        omega
       rw [e]
       exact ih (i+1) _ (by omega) (by rw [Nat.pow_succ];omega)
   have hk:=key s.length 0 0 (by omega) (by omega)
   have e:FPos1 s (FVal 0 (s.drop 0))=FPos s:=by
    rw [List.drop_zero]
    rcases jF_ s with ⟨x,h1,h2,h3⟩|⟨h,e⟩
    · rw [h3]
      have:FVal 0 s=some x:=by rw [h2,r2_,r9_ _ _ (hv_ x),lz_]
      rw [this,FPos1,←h2]
      simp
    · rw [e]
      cases hv:FVal 0 s with
      |none=>rfl
      |some y=>
       have:=fval_lt s 0 0 y (by omega) hv
       have hx3:10 ^ (0+s.length)≤10 ^ 3:=Nat.pow_le_pow_right (by omega) (by omega)
       have:=h y (by omega)
       have hb:(Lib.itoa (y:Int) == s)=false:=beq_eq_false_iff_ne.2 this
       simp only [FPos1,hb,Bool.not_false,cond_true]
   rw [e] at hk
   exact dg_ (f:=fun n N=>bB_.loop7 n (fun xy1 xy2=>((aK_ n xy2).bind fun xr3=>(cond (!(xr3 == xy1)) (some (-1)) (some xy2)))) N s 0 0) hk
end Go.Pi
end
section
namespace Go.Pi
def FAt (j:aa_) (s:Bs):Int:=cond (j.kind == 5) (FIdx j.names s) (cond (j.kind == 4) (cond (decide (FPos s<(j.list.length:Int))) (FPos s) (-1)) (-1))
theorem idx_low (l:List Bs) (x:Bs) : -1≤FIdx l x∧FIdx l x<(l.length:Int):=by
 unfold FIdx
 split<;>omega
theorem pl_ {j:aa_} {s:Bs} (hn:j.names.length≤b6_):Ev (fun n _=>fj_ n j s) (FAt j s):=by
 refine ap_ ?_
 simp only [fj_,aS_,am_,ab_ (hV_ (x:=s) hn),ab_ lP_,ae_,FAt]
 cases (j.kind == 5)<;>cases (j.kind == 4)<;>cases (decide (FPos s<(j.list.length:Int)))<;>simp
theorem at_range (j:aa_) (s:Bs) (he:j.kind=5→j.list.length=j.names.length) : -1≤FAt j s∧FAt j s<(j.list.length:Int):=by
 have h1:=idx_low j.names s
 have h2:=pos_range s
 unfold FAt
 cases h5:(j.kind == 5)
 · cases h4:(j.kind == 4)
   · simp;omega
   · simp only [cond_false,cond_true]
     cases hd:decide (FPos s<(j.list.length:Int))
     · simp;omega
     · have:=of_decide_eq_true hd
       simp only [cond_true];omega
 · have hk:j.kind=5:=by simpa using h5
   have:=he hk
   simp only [cond_true];omega
end Go.Pi
end
section
namespace Go.Pi
theorem ma_ (j:aa_) (h:aa_.size j≤b6_):aa_.len j:=by
 have e:=aa_.size_eq j
 have e1:e0_ aa_.size j.list=j.list.length+er_ aa_.size j.list:=rfl
 have e2:e0_ szB j.names=j.names.length+er_ szB j.names:=rfl
 have hx:∀ x ∈ j.list,aa_.len x:=fun x hx=>ma_ x (by have:=i1_ aa_.size hx;omega)
 exact (aa_.len_iff j).2 ⟨by omega,⟨by omega,hx⟩,by omega,fun x hx=>by have:=i1_ szB hx;show x.length≤b6_;have:szB x=x.length:=rfl;omega⟩
termination_by SizeOf.sizeOf j.list
decreasing_by exact aa_.dec hx
theorem h6_ {j:aa_} {B:Nat} (h:aa_.size j≤B) (hB:B≤b6_):ft_ 6 j:=rW_ 6 _ (ma_ j (Nat.le_trans h hB))
abbrev dB:Nat:=1000000
theorem nj_:∀ n:Nat,er_ aa_.size (List.replicate n aa_.dflt)=0
 |0=>rfl
 |n+1=>by rw [List.replicate_succ];simp only [er_,nj_ n];decide
theorem pick3_len {x:Bs} (h:x ∈ ([[120],[1],[127]]:List Bs)):x.length≤1:=by
 simp only [List.mem_cons,List.not_mem_nil,or_false] at h
 rcases h with rfl|rfl|rfl<;>decide
theorem nx_ {c:af_} (hc:DwOk c):Ans (fun n _=>bz_ n c) fun r=>aa_.size r.1≤dB∧DwOk r.2:=by
 have hj3:jB 3=211000:=rfl
 have hW:∀ x:Int,0≤x→x<2∨x=0→W (399+x)=399+x:=fun x h1 h2=>Wn (by omega) (by omega)
 refine b8_ ?_
 simp only [bz_]
 refine av_ (gl_ 3 4 c (by decide) (by decide) (by decide) hc) fun j hj => ?_
 obtain ⟨hs,hcu⟩:=hj
 rw [hj3] at hs
 have e:=aa_.size_eq j.1
 have key:∀ (m i:Nat) (c:af_) (q:aa_),i+m=5→DwOk c→aa_.size q≤211000+i→Ans (fun n N=>bz_.loop10 n (fun xy6 xy7 xy8 xy9 xy10 xy11 xy12 xy13 xy14 xy15 xy16=>(some ((aa_.mk xy12 xy13 xy14 xy15 xy16),(af_.mk xy6 xy7 xy8)))) N (i:Int) c.b c.i c.h 0 0 [] q.kind q.n_ q.s q.list q.names) fun r=>aa_.size r.1≤dB∧DwOk r.2:=by
  intro m
  induction m with
  |zero=>
   intro i c q hi hc hq
   obtain rfl:i=5:=by omega
   refine cE_ ?_
   simp only [bz_.turn10,bz_.step10]
   rw [decide_eq_false (by omega)]
   simp only [cond_false,dE_,c4_,aM_]
   exact ⟨by simp only [dB];omega,hc⟩
  |succ m ih=>
   intro i c q hi hc hq
   refine cE_ ?_
   simp only [bz_.turn10,bz_.step10,dE_]
   rw [decide_eq_true (by omega)]
   simp only [cond_true,up1 (show i≤1000000 by omega)]
   refine ih (i+1) c (aa_.mk 4 0 [] [q] []) (by omega) hc ?_
   rw [oB_]
   simp only [e0_,er_,List.length_cons,List.length_nil];omega
 repeat' (first
  |(refine av_ (br_ (by assumption)) fun _ hd => ?_;obtain ⟨_,_,_⟩:=hd)
  |(refine av_ (eS_ (by assumption) (by simp)) fun _ hd => ?_;obtain ⟨_,_⟩:=hd)
  |(refine av_ (gd_ (by assumption) (by simp)) fun _ hd => ?_;obtain ⟨hpk,_⟩:=hd)
  |(with_reducible refine ba_.2 ⟨fun _ => ?_,fun _ => ?_⟩)
  |(with_reducible refine dC_.2 ⟨?_,?_⟩)
  |((with_reducible refine aM_.2 ?_);refine ⟨?_,by assumption⟩)
  |(exact ei_ (key 5 0 _ j.1 rfl (by assumption) (by omega))))
 all_goals (try simp only [aS_,dE_])
 all_goals (first
  |(show aa_.size j.1≤dB;simp only [dB];omega)
  |(show aa_.size (aa_.mk _ _ _ _ _)≤dB;rw [oB_];simp only [dB];omega)
  |skip)
 · show aa_.size (aa_.mk _ _ _ _ _)≤dB
   have:_≤1:=pick3_len hpk
   rw [oB_];simp only [dB];omega
 · have:e0_ szB j.1.names=j.1.names.length+er_ szB j.1.names:=rfl
   simp;omega
 · show aa_.size (aa_.mk _ _ _ _ _)≤dB
   have h1:e0_ szB j.1.names=j.1.names.length+er_ szB j.1.names:=rfl
   have h2:e0_ szB (j.1.names++[[97]])=(j.1.names.length+1)+(er_ szB j.1.names+1):=by
    unfold e0_;rw [gC_,List.length_append];rfl
   rw [oB_,h2];simp only [dB];omega
 · rename_i x _ h1 h2 _ _ _ _
   show aa_.size (aa_.mk _ _ _ _ _)≤dB
   rw [oB_,hW _ h1 h2]
   unfold e0_
   rw [nj_]
   simp only [List.length_replicate,er_,List.length_nil,dB];omega
 · exfalso;rename_i x _ h1 h2 _ _ _ h;rw [hW _ h1 h2] at h;have:=of_decide_eq_false h;omega
 · exfalso;rename_i x _ h1 h2 _ _ h;rw [hW _ h1 h2] at h;have:=of_decide_eq_false h;omega
 · exfalso;rename_i h;exact of_decide_eq_false h trivial
def wayIn (w:List Bs):Prop:=w.length≤8∧∀ x ∈ w,x.length≤20
theorem pick7_len {x:Bs} (h:x ∈ ([[97],[48],[49],[45],[114,111,119,115],[48,48],[122,122]]:List Bs)):x.length≤20:=by
 simp only [List.mem_cons,List.not_mem_nil,or_false] at h
 rcases h with rfl|rfl|rfl|rfl|rfl|rfl|rfl<;>decide
theorem m5_ {c:af_} (hc:DwOk c):Ans (fun n _=>bl_ n c (aa_.mk 0 0 [] [] [])) fun r=>(r.1.length≤1∧∀ x ∈ r.1,x.length≤20)∧DwOk r.2:=by
 refine b8_ ?_
 simp only [bl_]
 refine ei_ (f:=fun n N=>bl_.loop4 n (fun xy4 xy5 xy6 xy7=>((cm_ n (af_.mk xy4 xy5 xy6) 5).bind fun xr8=>(cond xr8.1 ((c5_ n xr8.2 ([[97],[48],[49],[45],[114,111,119,115],[48,48],[122,122]]:List Bs)).bind fun xr9=>(bf_ (xy7.length+([xr9.1]:List Bs).length) 16 (some ((xy7++([xr9.1]:List Bs)),xr9.2)))) (some (xy7,xr8.2))))) N 0 c.b c.i c.h 0 0 [] [] [] []) (cE_ ?_)
 simp only [bl_.turn4,bl_.step4,c4_,show decide ((0:Int)<5)=true from rfl,show decide ((([]:List aa_).length:Int) > 0)=false from rfl,cond_true,cond_false]
 refine av_ (fe_ hc) fun r hr => ?_
 simp only [ba_,aM_]
 refine ⟨fun _=>av_ (gd_ hr (by simp)) fun r2 h2 => ?_,fun _=>⟨⟨Nat.zero_le _,fun x hx=>(by cases hx)⟩,hr⟩⟩
 simp only [dC_,aM_]
 exact ⟨by simp,⟨by simp,fun x hx=>by
  have hx':x ∈ [r2.1]:=by simpa using hx
  rw [List.mem_singleton.1 hx'];exact pick7_len h2.1⟩,h2.2⟩
theorem Get_null {w:List Bs} (h:w.length≤1):Ans (fun n _=>cM_ n (aa_.mk 0 0 [] [] []) w) fun r=>r.1=aa_.mk 0 0 [] [] []:=by
 have hJ:=da_ (j:=aa_.mk 0 0 [] [] []) (d9_ 6)
 have hok:cG_ (aa_.mk 0 0 [] [] [])=true:=by decide
 rw [hok] at hJ
 have hC:=ev_ 6 (aa_.mk 0 0 [] [] []) (of_decide_eq_true hok)
 refine b8_ ?_
 simp only [cM_,aS_,a2_ hJ,Bool.not_true,cond_false]
 cases w with
 |nil=>
  refine ei_ (f:=fun n N=>cM_.loop6 n (fun xy3 xy4 xy5 xy6 xy7 xy8 xy9 xy10=>((bc_ n (aa_.mk xy3 xy4 xy5 xy6 xy7)).bind fun xr11=>(some (xr11,true)))) N [] 0 0 0 [] [] [] 0 0 []) (cE_ ?_)
  simp only [cM_.turn6,cM_.step6,List.length_nil,show decide ((0:Int)<((0:Nat):Int))=false from rfl,cond_false,a2_ hC,aM_]
 |cons x l=>
  have hl:l=[]:=by simpa using h
  subst hl
  have hA:=pl_ (j:=aa_.mk 0 0 [] [] []) (s:=x) (Nat.zero_le _)
  have hr:=at_range (aa_.mk 0 0 [] [] []) x (fun h=>by cases h)
  have hneg:FAt (aa_.mk 0 0 [] [] []) x<0:=by
   have:((aa_.mk 0 0 [] [] []).list.length:Int)=0:=rfl
   omega
  refine ei_ (f:=fun n N=>cM_.loop6 n (fun xy3 xy4 xy5 xy6 xy7 xy8 xy9 xy10=>((bc_ n (aa_.mk xy3 xy4 xy5 xy6 xy7)).bind fun xr11=>(some (xr11,true)))) N [x] 0 0 0 [] [] [] 0 0 []) (cE_ ?_)
  simp only [cM_.turn6,cM_.step6,List.length_singleton,show decide ((0:Int)<((1:Nat):Int))=true from rfl,cond_true,fb_]
  refine ⟨by omega,?_⟩
  rw [show ([x]:List Bs).getD (0:Int).toNat []=x from rfl,a2_ hA,decide_eq_true hneg]
  simp only [cond_true,aM_]
theorem oy_ {c:af_} (hc:DwOk c):Ans (fun n _=>dL_ n c (aa_.mk 0 0 [] [] [])) fun r=>(wayIn r.1.way∧aa_.size r.1.value≤dB)∧DwOk r.2:=by
 have hz:aa_.size (aa_.mk 0 0 [] [] [])≤dB:=by decide
 have hj1:jB 1≤dB:=by decide
 refine b8_ ?_
 simp only [dL_,aS_]
 refine av_ (br_ hc) fun k hk => ?_
 refine av_ (m5_ hk.cur) fun w hw => ?_
 obtain ⟨⟨w1,w2⟩,hcu⟩:=hw
 have hw:wayIn w.1:=⟨by omega,w2⟩
 have hw1:wayIn (w.1++[[1]]):=⟨by simp;omega,fun x hx=>by
  rcases List.mem_append.1 hx with h|h
  · exact w2 x h
  · rw [List.mem_singleton.1 h];decide⟩
 have hw7:wayIn [[97],[97],[97],[97],[97],[97],[97]]:=⟨by decide,by decide⟩
 repeat' (first
  |(refine av_ (br_ (by assumption)) fun _ hd => ?_;obtain ⟨_,_,_⟩:=hd)
  |(refine av_ (fe_ (by assumption)) fun _ _ => ?_)
  |(refine av_ (gl_ 1 2 _ (by decide) (by decide) (by decide) (by assumption)) fun _ hd => ?_;obtain ⟨_,_⟩:=hd)
  |(refine av_ (nx_ (by assumption)) fun _ hd => ?_;obtain ⟨_,_⟩:=hd)
  |(refine av_ (Get_null w1) fun _ hg => ?_)
  |(with_reducible refine ba_.2 ⟨fun _ => ?_,fun _ => ?_⟩)
  |(with_reducible refine dC_.2 ⟨by simp;omega,?_⟩)
  |((with_reducible refine aM_.2 ?_);refine ⟨⟨by first|exact hw|exact hw1|exact hw7,?_⟩,by assumption⟩))
 all_goals (first|exact hz|assumption|(refine Nat.le_trans ?_ hj1;assumption)|(simp only [hg];exact hz)|skip)
end Go.Pi
end
section
namespace Go.Pi
end Go.Pi
end
section
namespace Go.Pi
end Go.Pi
end
section
namespace Go.Pi
end Go.Pi
end
section
namespace Go.Pi
end Go.Pi
end
section
namespace Go.Pi
end Go.Pi
end
section
namespace Go.Pi
end Go.Pi
end
section
namespace Go.Pi
end Go.Pi
end
section
namespace Go.Pi
end Go.Pi
end
section
namespace Go.Pi
end Go.Pi
end
section
namespace Go.Pi
end Go.Pi
end
section
namespace Go.Pi
end Go.Pi
end
section
namespace Go.Pi
end Go.Pi
end
section
namespace Go.Pi
end Go.Pi
end
section
namespace Go.Pi
end Go.Pi
end
section
namespace Go.Pi
end Go.Pi
end
section
namespace Go.Pi
theorem hI_ {c:af_} (hc:DwOk c):Ans (fun n _=>cQ_ n c) fun r=>EvDw r.1∧DwOk r.2:=by
 have hj:jB 4≤2200000:=by decide
 refine b8_ ?_
 simp only [cQ_,aS_]
 refine av_ (fe_ hc) fun r hr => ?_
 with_reducible refine ba_.2 ⟨fun _ => ?_,fun _ => ?_⟩
 · refine av_ (br_ hr) fun k hk => ?_
   refine av_ (gl_ 4 4 _ (by decide) (by decide) (by decide) hk.cur) fun j hj4 => ?_
   exact aM_.2 ⟨⟨⟨h6_ hj4.1 (Nat.le_trans hj (by decide)),Nat.zero_le _,fun o ho=>(by cases ho)⟩,Nat.le_trans hj4.1 (Nat.le_trans hj (by decide)),Nat.zero_le _⟩,hj4.2⟩
 · refine av_ (la_ hr) fun x hx => ?_
   simp only [a2_ (hx.2.1.take (by omega)),ev_etaD]
   with_reducible refine ba_.2 ⟨fun _ => ?_,fun _ => ?_⟩
   · exact aM_.2 ⟨⟨⟨d9_ 6,Nat.zero_le _,fun o ho=>(by cases ho)⟩,show aa_.size (aa_.mk 0 0 [] [] [])≤2000000000 by decide,Nat.zero_le _⟩,hx.2.2⟩
   · exact aM_.2 ⟨sessEv_in hx.2.1 (by omega),hx.2.2⟩
structure EvL (e:aX_):Prop where
 len:ov_ e
 doc:aa_.size e.doc≤2000000000
theorem EvDw.l {e:aX_} (h:EvDw e):EvL e:=⟨h.len,h.doc⟩
theorem lenOp_dw {o:TOp} (hw:wayIn o.way) (hv:aa_.size o.value≤dB):fD_ o :=
 ⟨⟨Nat.le_trans hw.1 (by decide),fun x hx=>Nat.le_trans (hw.2 x hx) (by decide)⟩,h6_ hv (by decide)⟩
theorem qO_ {c:af_} (hc:DwOk c):Ans (fun n _=>d4_ n c) fun r=>EvL r.1∧DwOk r.2:=by
 refine b8_ ?_
 simp only [d4_,aS_]
 refine av_ (hI_ hc) fun r hr => ?_
 obtain ⟨he,hcu⟩:=hr
 refine av_ (br_ hcu) fun k hk => ?_
 have hk:=hk.cur
 refine ba_.2 ⟨fun _=>av_ (br_ hk) fun x hx=>aM_.2 ⟨⟨he.len,he.doc⟩,hx.cur⟩,fun _ => ?_⟩
 refine ba_.2 ⟨fun _=>av_ (eS_ hk (by simp)) fun x hx=>aM_.2 ⟨⟨he.len,he.doc⟩,hx.2⟩,fun _ => ?_⟩
 refine ba_.2 ⟨fun _=>av_ (br_ hk) fun x hx=>aM_.2 ⟨⟨he.len,he.doc⟩,hx.cur⟩,fun _ => ?_⟩
 refine ba_.2 ⟨fun _=>av_ (nx_ hk) fun x hx=>aM_.2 ⟨⟨⟨h6_ hx.1 (by decide),he.len.2⟩,Nat.le_trans hx.1 (by decide)⟩,hx.2⟩,fun _ => ?_⟩
 refine ba_.2 ⟨fun _=>av_ (oy_ hk) fun x hx => ?_,fun _=>aM_.2 ⟨⟨he.len,he.doc⟩,hk⟩⟩
 have hf:=he.few
 with_reducible refine dC_.2 ⟨by simp;omega,?_⟩
 refine aM_.2 ⟨⟨⟨he.len.1,?_,fun o ho => ?_⟩,he.doc⟩,hx.2⟩
 · simp only [List.length_append,List.length_singleton];omega
 · rcases List.mem_append.1 ho with h|h
   · exact he.len.2.2 o h
   · rw [List.mem_singleton.1 h];exact lenOp_dw hx.1.1 hx.1.2
end Go.Pi
end
section
namespace Go.Pi
end Go.Pi
end
section
namespace Go.Pi
theorem text_le (e:aX_):(ck_ e).length≤10000:=by
 cases h:c2_ e with
 |true=>exact g9_ h
 |false=>unfold ck_;rw [h];exact Nat.zero_le _
theorem kJ_ {eX_:List Int} (hc:eX_.length≤1048576):Ans (fun n _=>cU_ n eX_) EvL:=by
 refine b8_ ?_
 simp only [cU_,aS_,mv_]
 exact av_ (pM_ hc) fun c h=>av_ (qO_ h) fun e he=>aM_.2 he.1
theorem kK_ {eX_:List Int} (hc:eX_.length≤1048576):Ans (fun n _=>cy_ n eX_) fun r=>r.length≤30000:=by
 refine b8_ ?_
 simp only [cy_,aS_,mv_]
 refine av_ (pM_ hc) fun c h=>av_ (hI_ h) fun e he => ?_
 have ht:=text_le e.1
 rw [a2_ (eQ_ he.1.len)]
 generalize ck_ e.1=t at ht ⊢
 rw [Wn (by omega) (by omega)]
 refine av_ (br_ he.2) fun k hk => ?_
 obtain ⟨k0,k1,k2⟩:=hk
 have hw:((t.take k.1.toNat).drop 0).length≤10000:=by simp;omega
 have hr:((t.take (t.length:Int).toNat).drop k.1.toNat).length≤10000:=by simp;omega
 generalize (t.take k.1.toNat).drop 0=w at hw ⊢
 generalize (t.take (t.length:Int).toNat).drop k.1.toNat=r at hr ⊢
 refine av_ (br_ k2) fun x hx => ?_
 have hcu:=hx.cur
 with_reducible refine ba_.2 ⟨fun _ => ?_,fun _ => ?_⟩
 · with_reducible refine jZ_.2 ⟨by omega,aM_.2 (by omega)⟩
 · with_reducible refine ba_.2 ⟨fun _ => ?_,fun _=>aM_.2 (by omega)⟩
   with_reducible refine jZ_.2 ⟨by omega,?_⟩
   refine av_ (gd_ hcu (by simp)) fun p hp => ?_
   have hpl:p.1.length≤20:=by
    have:=hp.1
    simp only [List.mem_cons,List.not_mem_nil,or_false] at this
    rcases this with e|e|e|e|e|e<;>rw [e]<;>decide
   rw [decide_eq_true (by omega)]
   simp only [cond_true]
   with_reducible refine jZ_.2 ⟨by omega,?_⟩
   rw [decide_eq_true (by simp only [List.length_append];omega)]
   simp only [cond_true]
   exact aM_.2 (by simp only [List.length_append];omega)
end Go.Pi
end
section
namespace Go.Pi
theorem big_ev {eX_:List Int}:Ev (fun n _=>f8_ n eX_) (decide ((eX_.length:Int) > 1048576)):=ap_ (by simp only [f8_,ae_])
end Go.Pi
end
section
namespace Go.Pi
theorem rd_none {s:Bs} (hs:s.length≤4194304) (h:(FRd s).2=false):FRd s=(sy_,false):=by
 rcases (rd_is hs).1 with e|⟨g,_,_⟩
 · exact e
 · rw [g] at h;cases h
theorem rd_some {s:Bs} (hs:s.length≤4194304) (h:(FRd s).2=true):c2_ (FRd s).1=true∧ck_ (FRd s).1=s:=by
 rcases (rd_is hs).1 with e|⟨_,g,g2⟩
 · rw [e] at h;cases h
 · exact ⟨g,g2⟩
theorem ql_ {eX_:List Int} (hg:(pG_ lenI) eX_):∃ n,laws_FnEvents n eX_=some true:=by
 have key:Ans (fun n _=>laws_FnEvents n eX_) fun b=>b=true:=by
  refine b8_ ?_
  simp only [laws_FnEvents,a2_ big_ev,aS_,mv_]
  refine ba_.2 ⟨fun _=>aM_.2 rfl,fun hb => ?_⟩
  have hb:=of_decide_eq_false hb
  have hc:eX_.length≤1048576:=by omega
  have hend:Ans (fun n _=>((cy_ n eX_).bind fun xr8=>((cu_ n xr8).bind fun xr9=>((ad_ n xr8).bind fun xr10=>(cond (xr9.2 == xr10.2) (cond (!xr9.2) (cond (xr9.1.kind == 0) (some true) (cond xr9.2 ((co_ n xr9.1).bind fun xr11=>(cond (xr11 == xr8) ((cT_ n xr9.1).bind fun xr12=>(some xr12)) (some false))) (some false))) (cond xr9.2 ((co_ n xr9.1).bind fun xr13=>(cond (xr13 == xr8) ((cT_ n xr9.1).bind fun xr14=>(some xr14)) (some false))) (some false))) (some false)))))) fun b=>b=true:=by
   refine av_ (kK_ hc) fun s hs => ?_
   obtain ⟨_,r1,r2⟩:=rd_is (s:=s) (by omega)
   rw [a2_ r2,a2_ r1]
   simp only [beq_self_eq_true,cond_true]
   cases h:(FRd s).2
   · rw [rd_none (by omega) h]
     exact aM_.2 rfl
   · obtain ⟨e1,e2⟩:=rd_some (by omega) h
     simp only [Bool.not_true,cond_true,cond_false]
     rw [a2_ (ek_ (lo_ e1)),e2]
     simp only [beq_self_eq_true,cond_true]
     rw [a2_ (gm_ (lo_ e1)),e1]
     exact aM_.2 rfl
  refine av_ (kJ_ hc) fun e he => ?_
  rw [a2_ (ek_ he.len),a2_ (eQ_ he.len)]
  simp only [beq_self_eq_true,Bool.not_true,cond_false]
  rw [a2_ (gm_ he.len)]
  cases ho:c2_ e with
  |false=>
   have ht:ck_ e=[]:=by unfold ck_;rw [ho];rfl
   rw [ht]
   exact hend
  |true=>
   have hne:(ck_ e == [])=false:=beq_eq_false_iff_ne.2 (mw_ ho)
   have hl:=g9_ ho
   obtain ⟨_,r1,r2⟩:=rd_is (s:=ck_ e) (by omega)
   rw [rd_text ho] at r2
   simp only [hne,Bool.not_false,beq_self_eq_true,Bool.not_true,cond_true,cond_false]
   rw [a2_ r2]
   simp only [bne_self_eq_false,Bool.not_true,cond_true,cond_false]
   rw [a2_ (ek_ he.len)]
   simp only [beq_self_eq_true,Bool.not_true,cond_false]
   exact hend
 obtain ⟨v,hv,rfl⟩:=key
 exact ev_ex hv
end Go.Pi
end
section
namespace Go.Pi
theorem good_sl {t:TC} {xs:List (El t)} (h:Good (.sl .v t xs)):xs.length≤b6_∧∀ x ∈ xs,∀ c ∈ ai_.enc .v t x,Good c:=by
 cases h with
 |sl t xs h1 h2=>exact ⟨h1,h2⟩
end Go.Pi
end
section
namespace Go.Pi
theorem good_str {l:Bs} (h:Good (.s l)):lenB l:=by
 cases h with
 |s l h=>exact h
theorem good_IntS {a:List Int} (h:Good (.sl .v .u8 a)):(pG_ lenI) a:=⟨(good_sl (t:=.u8) h).1,fun x0 hx0=>trivial⟩
end Go.Pi
end
section
namespace Go.Pi
open Go.Proofs Go.Proofs.YtmgcfhlcdhlafaaGreatDoor
namespace laws_FnEvents
theorem pure_law:Pure:=fun o h0=>ql_ (good_IntS (h0 _ (by simp)))
theorem proved:Rows.FnEventsCardSaid:=card pure_law
end laws_FnEvents
end Go.Pi
end
namespace Go.Proofs.YtmgcfhlcdhlafaaGreatDoor
theorem fnEvents_holds:Rows.FnEventsCardSaid:=Go.Pi.laws_FnEvents.proved
#print axioms fnEvents_holds
end Go.Proofs.YtmgcfhlcdhlafaaGreatDoor
