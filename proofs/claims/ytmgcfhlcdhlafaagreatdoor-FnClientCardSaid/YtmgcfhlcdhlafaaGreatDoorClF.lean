/- FnClient: of drawn events that follow each other whoever listens has the last one's version, or is bad; once bad always. No condition. Text 6 of 7. -/
import Derived.Test.YtmgcfhlcdhlafaaGreatDoorClE
import Derived.Lib.ItoaLen
set_option linter.unusedVariables false
set_option maxRecDepth 100000
set_option linter.unusedSimpArgs false
section
namespace Go.Pi
structure DwOk (c:ac_):Prop where
 lo:0≤c.i
 hi:c.i≤(c.b.length:Int)
 len:c.b.length≤1048576
abbrev and64 (x y:Int):Int:=IntKind.i64.wrap (BitVec.ofInt (IntKind.bits .i64) x &&& BitVec.ofInt (IntKind.bits .i64) y).toNat
theorem qH_ (x:Int) (m:Nat) (hm:m<2 ^ 31):0≤and64 x (m:Int)∧and64 x (m:Int)≤m:=by
 have h1:(BitVec.ofInt (IntKind.bits .i64) x &&& BitVec.ofInt (IntKind.bits .i64) (m:Int)).toNat≤m:=by
  rw [BitVec.toNat_and]
  refine Nat.le_trans Nat.and_le_right ?_
  rw [BitVec.ofInt_natCast,BitVec.toNat_ofNat]
  exact Nat.mod_le _ _
 show 0≤W _∧W _≤_
 generalize (BitVec.ofInt (IntKind.bits .i64) x &&& BitVec.ofInt (IntKind.bits .i64) (m:Int)).toNat=k at h1
 rw [W_id (by omega) (by omega)]
 omega
theorem cur_next {c:ac_} (h:DwOk c) (hlt:c.i<(c.b.length:Int)) (z:Int):DwOk (ac_.mk c.b (W (c.i+1)) z):=by
 have h1:=h.lo;have h2:=h.len
 have e:W (c.i+1)=c.i+1:=W_id (by omega) (by omega)
 exact ⟨by show 0≤W (c.i+1);rw [e];omega,by show W (c.i+1)≤(c.b.length:Int);rw [e];omega,h2⟩
theorem cur_same {c:ac_} (h:DwOk c) (z:Int):DwOk (ac_.mk c.b c.i z):=⟨h.lo,h.hi,h.len⟩
theorem cu_ (c:ac_):ac_.mk c.b c.i c.h=c:=rfl
theorem oa_ {eJ_:List Int} (hc:eJ_.length≤1048576):Ans (fun n _=>bS_ n eJ_) DwOk:=by
 have key:∀ (m i:Nat) (h:Int),i+m=eJ_.length→Ans (fun n N=>bS_.loop4 n (fun xy2 xy3=>(some (ac_.mk xy2 0 xy3))) N eJ_ h (i:Int)) DwOk:=by
  intro m
  induction m with
  |zero=>
   intro i h hi
   have e:i=eJ_.length:=by omega
   subst e
   refine cg_ ?_
   simp only [bS_.turn4,bS_.step4,ca_,cond_false,aD_]
   exact ⟨Int.le_refl _,by simp,hc⟩
  |succ m ih=>
   intro i h hi
   have hlt:i<eJ_.length:=by omega
   have hW:=W_up hlt (show eJ_.length≤bV_ by simp only [bV_];omega)
   refine cg_ ?_
   simp only [bS_.turn4,bS_.step4,cy_ hlt,cond_true,bh_,do_,aD_,hW]
   exact ⟨fun _=>⟨by omega,ih (i+1) _ (by omega)⟩,fun _=>⟨Int.le_refl _,by simp,hc⟩⟩
 refine b5_ ?_
 simp only [bS_]
 exact d0_ (key eJ_.length 0 _ (by omega))
theorem gq_ {c:ac_} (hc:DwOk c):Ans (fun n _=>c4_ n c) fun r=>0≤r.1∧r.1≤255∧DwOk r.2:=by
 refine b5_ ?_
 simp only [c4_,bh_,do_,aD_]
 refine ⟨fun h => ?_,fun _ => ?_⟩
 · have h:=of_decide_eq_true h
   exact ⟨⟨hc.lo,h⟩,(qH_ _ 255 (by decide)).1,(qH_ _ 255 (by decide)).2,cur_next hc h _⟩
 · exact ⟨(qH_ _ 255 (by decide)).1,(qH_ _ 255 (by decide)).2,cur_same hc _⟩
structure Drawn (n:Int) (r:Int × ac_):Prop where
 lo:0≤r.1
 hi:r.1<n∨r.1=0
 cur:DwOk r.2
theorem bc_ {c:ac_} {k:Int} (hc:DwOk c):Ans (fun n _=>ag_ n c k) (Drawn k):=by
 refine b5_ ?_
 simp only [ag_,bh_,aD_]
 refine ⟨fun _=>⟨Int.le_refl _,.inr rfl,hc⟩,fun h0=>⟨fun h1 => ?_,fun h1 => ?_⟩⟩
 · have h0:=of_decide_eq_false h0
   refine ax_ (gq_ hc) fun r hr => ?_
   simp only [bh_,qG_,aD_]
   refine ⟨fun h=>by have:=of_decide_eq_true h;omega,fun _=>⟨Int.tmod_nonneg _ hr.1,.inl (Int.tmod_lt_of_pos _ (by omega)),hr.2.2⟩⟩
 · have h0:=of_decide_eq_false h0
   refine ax_ (gq_ hc) fun r1 h2=>ax_ (gq_ h2.2.2) fun r2 h3=>ax_ (gq_ h3.2.2) fun r3 h4=>ax_ (gq_ h4.2.2) fun r4 h5 => ?_
   simp only [bh_,qG_,aD_]
   refine ⟨fun h=>by have:=of_decide_eq_true h;omega,fun _ => ?_⟩
   obtain ⟨a1,a2,_⟩:=h2
   obtain ⟨b1,b2,_⟩:=h3
   obtain ⟨c1,c2,_⟩:=h4
   obtain ⟨d1,d2,hq⟩:=h5
   have e1:W (r1.1*16777216)=r1.1*16777216:=W_id (by omega) (by omega)
   have e2:W (r2.1*65536)=r2.1*65536:=W_id (by omega) (by omega)
   have e3:W (r3.1*256)=r3.1*256:=W_id (by omega) (by omega)
   rw [e1,e2,e3,W_id (n:=r1.1*16777216+r2.1*65536) (by omega) (by omega),W_id (n:=r1.1*16777216+r2.1*65536+r3.1*256) (by omega) (by omega),W_id (n:=r1.1*16777216+r2.1*65536+r3.1*256+r4.1) (by omega) (by omega)]
   exact ⟨Int.tmod_nonneg _ (by omega),.inl (Int.tmod_lt_of_pos _ (by omega)),hq⟩
theorem ez_ {c:ac_} {k:Int} (hc:DwOk c):Ans (fun n _=>b1_ n c k) fun r=>DwOk r.2:=by
 refine b5_ ?_
 simp only [b1_]
 exact ax_ (bc_ hc) fun r hr=>aD_.2 hr.cur
theorem ey_ {c:ac_} {l:List Int} (hc:DwOk c) (hl:l≠[]):Ans (fun n _=>bj_ n c l) fun r=>r.1 ∈ l∧DwOk r.2:=by
 have hp:0<l.length:=List.length_pos_iff.2 hl
 refine b5_ ?_
 simp only [bj_]
 refine ax_ (bc_ hc) fun r hr => ?_
 have h1:=hr.lo
 have h2:=hr.hi
 simp only [do_,aD_]
 exact ⟨⟨h1,by omega⟩,bw_ _ (by omega),hr.cur⟩
theorem gp_ {c:ac_} {l:List Bs} (hc:DwOk c) (hl:l≠[]):Ans (fun n _=>cU_ n c l) fun r=>r.1 ∈ l∧DwOk r.2:=by
 have hp:0<l.length:=List.length_pos_iff.2 hl
 refine b5_ ?_
 simp only [cU_]
 refine ax_ (bc_ hc) fun r hr => ?_
 have h1:=hr.lo
 have h2:=hr.hi
 simp only [do_,aD_]
 exact ⟨⟨h1,by omega⟩,bw_ _ (by omega),hr.cur⟩
end Go.Pi
end
section
namespace Go.Pi
def rC_ (c:Nat) (q:av_):Prop:=q.where_.length≤c∧q.show_.length≤c
def gD_ (c:Nat) (r:List TRow):Prop:=r.length≤c∧∀ x ∈ r,x.cells.length≤c
def jj_ (c:Nat) (v:a8_):Prop:=rC_ c v.q∧gD_ c v.rows∧v.kids.length≤c
end Go.Pi
end
section
namespace Go.Pi
def lenS (c:Nat) (s:b3_):Prop:=jj_ c s.view∧jj_ c s.last
end Go.Pi
end
section
namespace Go.Pi
section
variable {β:Type} {x lo hi:Int} {g:Nat→Nat→Bool→Option β} {v:β}
end
def fO_ (s:aP_):Bool:=hY_ (fun i=>inn (s.cols.getD i 0) 1 4) s.cols.length&&inn s.cols.length 1 3
theorem gY_ {s:aP_} (hs:s.cols.length≤bV_):Ev (fun n _=>aV_ n s) (fO_ s):=by
 refine au_ ?_
 simp only [aV_]
 refine eG_ (fun n N i=>aV_.loop3 n _ N (i:Int) s.cols) _ (fun i w hi ih => ?_) ?_
 · simp only [aV_.turn3,aV_.step3,Int.toNat_natCast,am_,bB_,fj_,af_,W_up hi hs,dj_ ih,cy_ hi,cf_ hi]
   grind
 · simp only [aV_.turn3,aV_.step3,ca_,cond_false,fj_,af_]
end Go.Pi
end
section
namespace Go.Pi
def FConds (w:Int) (c:List bJ_):Bool:=hY_ (fun i=>inn (c.getD i bJ_.dflt).col 0 (W (w - 1))&&(inn (c.getD i bJ_.dflt).op 1 4&&inn (c.getD i bJ_.dflt).v (-1000000000) 1000000000)) c.length
def FShow (w:Int) (s:List Int):Bool:=hY_ (fun i=>inn (s.getD i 0) 0 (W (w - 1))&&(decide (i=0)||decide (s.getD (i - 1) 0<s.getD i 0))) s.length
def FKids (s:aP_) (q:av_):Bool:=cond q.kids (inn q.kidTable 0 (W ((s.cols.length:Int) - 1))&&inn q.kidCol 0 (W ((s.cols.getD q.kidTable.toNat 0) - 1))) ((q.kidTable == 0)&&(q.kidCol == 0))
def ia_ (s:aP_) (q:av_):Bool:=fO_ s&&(inn q.table 0 (W ((s.cols.length:Int) - 1))&&(decide (q.where_.length≤3)&&(FConds (s.cols.getD q.table.toNat 0) q.where_&&(FShow (s.cols.getD q.table.toNat 0) q.show_ &&
 (inn q.order 0 (s.cols.getD q.table.toNat 0)&&(inn q.first 0 24&&(!((q.order == 0)&&q.down)&&FKids s q)))))))
section
variable {w:Int} {cols sh:List Int} {wh:List bJ_} {t o f kt kc:Int} {d ks v:Bool}
theorem iA_ {k:Nat→az_.K7} (hl:wh.length≤bV_) (hk:Ev (fun n N=>k n w cols t wh o d f sh ks kt kc) v) :
  Ev (fun n _=>az_.loop7 n (k n) n w 0 cols t wh o d f sh ks kt kc) (FConds w wh&&v):=by
 refine eG_ (fun n N i=>az_.loop7 n (k n) N w (i:Int) cols t wh o d f sh ks kt kc) _ (fun i u hi ih => ?_) ?_
 · simp only [az_.turn7,az_.step7,Int.toNat_natCast,W_up hi hl,am_,bB_,fj_,af_,dj_ ih,cy_ hi,cf_ hi]
   clear ih hk
   repeat' (first|apply And.intro|intro _)
   all_goals (try rw [Bool.eq_iff_iff])
   all_goals (try simp only [Bool.not_eq_true',Bool.not_eq_false',decide_eq_true_eq,decide_eq_false_iff_not,beq_iff_eq,beq_eq_false_iff_ne,Bool.and_eq_true,Bool.or_eq_true,Bool.and_eq_false_iff,Bool.or_eq_false_iff] at *)
   all_goals grind
 · simp only [az_.turn7,az_.step7,ca_,cond_false]
   exact hk
theorem ie_ {k:Nat→az_.K16} (hl:sh.length≤bV_) (hk:Ev (fun n N=>k n w cols t wh o d f sh ks kt kc) v) :
  Ev (fun n _=>az_.loop16 n (k n) n w 0 cols t wh o d f sh ks kt kc) (FShow w sh&&v):=by
 refine eG_ (fun n N i=>az_.loop16 n (k n) N w (i:Int) cols t wh o d f sh ks kt kc) _ (fun i u hi ih => ?_) ?_
 · simp only [az_.turn16,az_.step16,Int.toNat_natCast,W_up hi hl,W_dn (i:=i) (by omega),kd_,am_,bB_,fj_,af_,dj_ ih,cy_ hi,cf_ hi]
   clear ih hk
   repeat' (first|apply And.intro|intro _)
   all_goals (try rw [Bool.eq_iff_iff])
   all_goals (try simp only [Bool.not_eq_true',Bool.not_eq_false',decide_eq_true_eq,decide_eq_false_iff_not,beq_iff_eq,beq_eq_false_iff_ne,Bool.and_eq_true,Bool.or_eq_true,Bool.and_eq_false_iff,Bool.or_eq_false_iff] at *)
   all_goals grind
 · simp only [az_.turn16,az_.step16,ca_,cond_false]
   exact hk
end
theorem el_ {β:Type} {s:aP_} (hs:s.cols.length≤bV_) {g:Nat→Nat→Bool→Option β} {v:β}:Ev (fun n N=>(aV_ n s).bind (g n N)) v↔Ev (fun n N=>g n N (fO_ s)) v:=ad_ (gY_ hs)
theorem he_ {s:aP_} {q:av_} (hs:s.cols.length≤bV_) (hq:rC_ bV_ q):Ev (fun n _=>az_ n s q) (ia_ s q):=by
 refine au_ ?_
 have e:=@W_dn s.cols.length hs
 simp only [az_,el_ hs,fj_,am_,bB_,af_]
 refine ⟨fun h=>by simp at h;simp [ia_,h],fun h1=>⟨fun h=>by simp at h;simp [ia_,h],fun h2=>⟨fun h=>by simp at h;simp [ia_];grind,fun h3=>⟨by simp at h2;have:=gE_ h2;omega,?_⟩⟩⟩⟩
 refine fB_ (iA_ (k:=fun n=>_) hq.1 (ie_ (k:=fun n=>_) (v:=inn q.order 0 (s.cols.getD q.table.toNat 0)&&(inn q.first 0 24&&(!((q.order == 0)&&q.down)&&FKids s q))) hq.2 ?_)) ?_
 · simp only [fj_,am_,bB_,af_,FKids]
   repeat' (first|apply And.intro|intro _)
   all_goals (try rw [Bool.eq_iff_iff])
   all_goals (try simp only [inn,cond_true,cond_false,Bool.not_eq_true',Bool.not_eq_false',decide_eq_true_eq,decide_eq_false_iff_not,beq_iff_eq,beq_eq_false_iff_ne,Bool.and_eq_true,Bool.or_eq_true,Bool.and_eq_false_iff,Bool.or_eq_false_iff] at *)
   all_goals grind
 · simp [ia_];grind
end Go.Pi
end
section
namespace Go.Pi
def fQ_ (r:TRow) (col:Int):Int:=cond (inn col 0 (W ((r.cells.length:Int) - 1))) (r.cells.getD col.toNat 0) 0
theorem eE_ {r:TRow} {col:Int} (hr:r.cells.length≤bV_):Ev (fun n _=>bC_ n r col) (fQ_ r col):=by
 refine au_ ?_
 have e:=@W_dn r.cells.length hr
 simp only [bC_,fj_,am_,bB_,af_,fQ_]
 cases hi:inn col 0 (W ((r.cells.length:Int) - 1)) with
 |false=>simp
 |true=>have:=gE_ hi;exact ⟨fun h=>(by cases h),fun _=>⟨by omega,rfl⟩⟩
theorem hS_ {rows:List TRow} (hr:gD_ bV_ rows) (i:Nat):(rows.getD i TRow.dflt).cells.length≤bV_:=by
 by_cases h:i<rows.length
 · exact hr.2 _ (bw_ _ h)
 · rw [List.getD_eq_getElem?_getD,List.getElem?_eq_none (by omega)];exact Nat.zero_le _
end Go.Pi
end
section
namespace Go.Pi
def FCells (c:List Int):Bool:=hY_ (fun i=>inn (c.getD i 0) (-1000000000) 1000000000) c.length
def FRow (s:aP_) (t:Int) (r:TRow):Bool:=fO_ s&&(inn t 0 (W ((s.cols.length:Int) - 1))&&(inn r.id_ 1 999&&(decide ((r.cells.length:Int)=s.cols.getD t.toNat 0)&&FCells r.cells)))
theorem iz_ {s:aP_} {t:Int} {r:TRow} (hs:s.cols.length≤bV_) (hr:r.cells.length≤bV_):Ev (fun n _=>bZ_ n s t r) (FRow s t r):=by
 refine au_ ?_
 have e:=@W_dn s.cols.length hs
 have hl:Ev (fun n _=>bZ_.loop6 n (some true) n 0 r.id_ r.cells) (FCells r.cells&&true):=by
  refine eG_ (fun n N i=>bZ_.loop6 n (some true) N (i:Int) r.id_ r.cells) _ (fun i u hi ih => ?_) ?_
  · simp only [bZ_.turn6,bZ_.step6,Int.toNat_natCast,W_up hi hr,am_,bB_,fj_,af_,dj_ ih,cy_ hi,cf_ hi]
    clear ih
    grind
  · simp only [bZ_.turn6,bZ_.step6,ca_,cond_false,af_]
 simp only [bZ_,el_ hs,fj_,am_,bB_,af_,dj_ hl]
 clear hl
 repeat' (first|apply And.intro|intro _)
 all_goals (try rw [Bool.eq_iff_iff])
 all_goals (try simp only [FRow,inn,bne_iff_ne,bne_eq_false_iff_eq,Bool.not_eq_true',Bool.not_eq_false',decide_eq_true_eq,decide_eq_false_iff_not,beq_iff_eq,beq_eq_false_iff_ne,Bool.and_eq_true,Bool.or_eq_true,Bool.and_eq_false_iff,Bool.or_eq_false_iff] at *)
 all_goals grind
def oS_ (c:bJ_) (r:TRow):Bool:=inn c.col 0 (W ((r.cells.length:Int) - 1))&&(cond (c.op == 1) (r.cells.getD c.col.toNat 0 == c.v) (cond (c.op == 2) (decide (r.cells.getD c.col.toNat 0<c.v)) (cond (c.op == 3) (decide (r.cells.getD c.col.toNat 0 > c.v)) (cond (c.op == 4) (r.cells.getD c.col.toNat 0 != c.v) false))))
theorem kv_ {c:bJ_} {r:TRow} (hr:r.cells.length≤bV_):Ev (fun n _=>dq_ n c r) (oS_ c r):=by
 refine au_ ?_
 have e:=@W_dn r.cells.length hr
 simp only [dq_,fj_,am_,bB_,af_,oS_]
 repeat' (first|apply And.intro|intro _)
 all_goals (try simp only [inn,Bool.not_eq_true',Bool.not_eq_false',decide_eq_true_eq,decide_eq_false_iff_not,Bool.and_eq_true,Bool.and_eq_false_iff] at *)
 all_goals simp_all
 all_goals omega
def fD_ (q:av_) (r:TRow):Bool:=hY_ (fun i=>oS_ (q.where_.getD i bJ_.dflt) r) q.where_.length
theorem hf_ {q:av_} {r:TRow} (hq:q.where_.length≤bV_) (hr:r.cells.length≤bV_):Ev (fun n _=>bA_ n q r) (fD_ q r):=by
 refine au_ ?_
 simp only [bA_]
 have hH:∀ (c:bJ_) (g:Nat→Nat→Bool→Option Bool) (v:Bool),Ev (fun n N=>(dq_ n c (TRow.mk r.id_ r.cells)).bind (g n N)) v↔Ev (fun n N=>g n N (oS_ c r)) v:=fun c g v=>ad_ (kv_ hr)
 refine fB_ (eG_ (fun n N i=>bA_.loop3 n (some true) N (i:Int) q.table q.where_ q.order q.down q.first q.show_ q.kids q.kidTable q.kidCol r.id_ r.cells) (fun i=>oS_ (q.where_.getD i bJ_.dflt) r) (len:=q.where_.length) (v:=true) (fun i u hi ih => ?_) ?_) (by rw [Bool.and_true];rfl)
 · simp only [bA_.turn3,bA_.step3,Int.toNat_natCast,W_up hi hq,am_,bB_,hH,af_,dj_ ih,cy_ hi,cf_ hi]
   clear ih hH
   grind
 · simp only [bA_.turn3,bA_.step3,ca_,cond_false,af_]
def ft_ (rows:List TRow) (id:Int):Int:=f7_ (fun i x=>cond ((rows.getD i TRow.dflt).id_ == id) (i:Int) x) (-1) rows.length 0
theorem gy_ {rows:List TRow} {id:Int} (hr:rows.length≤bV_):Ev (fun n _=>bW_ n rows id) (ft_ rows id):=by
 refine au_ ?_
 simp only [bW_]
 refine la_ (fun n N i=>bW_.loop3 n (some (-1)) N rows id (i:Int)) _ (fun i u hi ih => ?_) ?_
 · simp only [bW_.turn3,bW_.step3,Int.toNat_natCast,W_up hi hr,am_,bB_,af_,dj_ ih,cy_ hi,cf_ hi]
   clear ih
   grind
 · simp only [bW_.turn3,bW_.step3,ca_,cond_false,af_]
def g5_ (q:av_) (a b:TRow):Bool:=cond (q.order == 0) (decide (a.id_<b.id_)) (cond (fQ_ a (W (q.order - 1)) == fQ_ b (W (q.order - 1))) (decide (a.id_<b.id_)) (cond q.down (decide (fQ_ a (W (q.order - 1)) > fQ_ b (W (q.order - 1)))) (decide (fQ_ a (W (q.order - 1))<fQ_ b (W (q.order - 1))))))
theorem mG_ {q:av_} {a b:TRow} (ha:a.cells.length≤bV_) (hb:b.cells.length≤bV_):Ev (fun n _=>ed_ n q a b) (g5_ q a b):=by
 refine au_ ?_
 simp only [ed_,ad_ (eE_ ha),ad_ (eE_ hb),am_,af_,g5_]
 generalize fQ_ a (W (q.order - 1))=x
 generalize fQ_ b (W (q.order - 1))=y
 cases hd:q.down<;>grind
section
variable {cols sh:List Int} {wh:List bJ_} {t o f kt kc:Int} {d ks v:Bool} {rows:List TRow} {kids:List TKid}
end
end Go.Pi
end
section
namespace Go.Pi
def lenRR (c:Nat) (t:List (List TRow)):Prop:=t.length≤c∧∀ x ∈ t,gD_ c x
def e3_ (c:Nat) (s:ar_):Prop:=s.schema.cols.length≤c∧lenRR c s.tables
theorem fk_ {c:Nat} {t:List (List TRow)} (h:∀ x ∈ t,gD_ c x) (i:Nat):gD_ c (t.getD i []):=by
 by_cases hi:i<t.length
 · exact h _ (bw_ [] hi)
 · rw [List.getD_eq_getElem?_getD,List.getElem?_eq_none (by omega)]
   exact ⟨Nat.zero_le _,fun x hx=>by cases hx⟩
theorem hK_ (s:aP_):aP_.mk s.cols=s:=rfl
def pL_ (s:aP_) (t:Int) (rows:List TRow):Bool :=
 hY_ (fun i=>FRow s t (rows.getD i TRow.dflt)&&(decide (i=0)||decide ((rows.getD (i - 1) TRow.dflt).id_<(rows.getD i TRow.dflt).id_))) rows.length&&(fO_ s&&(inn t 0 (W ((s.cols.length:Int) - 1))&&decide ((rows.length:Int)≤24)))
theorem lG_ {s:aP_} {t:Int} {rows:List TRow} (hs:s.cols.length≤bV_) (hr:gD_ bV_ rows):Ev (fun n _=>bM_ n s t rows) (pL_ s t rows):=by
 refine au_ ?_
 simp only [bM_]
 refine eG_ (fun n N i=>bM_.loop3 n _ N t rows (i:Int) s.cols) _ (fun i u hi ih => ?_) ?_
 · simp only [hK_,bM_.turn3,bM_.step3,Int.toNat_natCast,W_up hi hr.1,W_dn (i:=i) (by have:=hr.1;omega),kd_,am_,bB_,ad_ (iz_ (s:=s) (t:=t) (r:=rows.getD i TRow.dflt) hs (hS_ hr i)),af_,dj_ ih,cy_ hi,cf_ hi]
   clear ih
   repeat' (first|apply And.intro|intro _)
   all_goals (try rw [Bool.eq_iff_iff])
   all_goals (try simp only [Bool.not_eq_true',Bool.not_eq_false',decide_eq_true_eq,decide_eq_false_iff_not,beq_iff_eq,beq_eq_false_iff_ne,Bool.and_eq_true,Bool.or_eq_true,Bool.and_eq_false_iff,Bool.or_eq_false_iff] at *)
   all_goals grind
 · simp only [hK_,bM_.turn3,bM_.step3,ca_,cond_false,el_ (s:=s) hs,fj_,am_,af_]
   repeat' (first|apply And.intro|intro _)
   all_goals (try simp_all)
def FTables (s:aP_) (t:List (List TRow)):Bool:=hY_ (fun i=>pL_ s (i:Int) (t.getD i [])) t.length
def e1_ (s:ar_):Bool:=fO_ s.schema&&(inn s.version 0 100000&&(decide (s.tables.length=s.schema.cols.length)&&FTables s.schema s.tables))
theorem eU_ {s:ar_} (h:e3_ bV_ s):Ev (fun n _=>bp_ n s) (e1_ s):=by
 refine au_ ?_
 have hl:Ev (fun n _=>bp_.loop6 n (some true) n 0 s.schema.cols s.version s.tables) (FTables s.schema s.tables&&true):=by
  refine eG_ (fun n N i=>bp_.loop6 n (some true) N (i:Int) s.schema.cols s.version s.tables) _ (fun i u hi ih => ?_) ?_
  · simp only [hK_,bp_.turn6,bp_.step6,Int.toNat_natCast,W_up hi h.2.1,am_,bB_,ad_ (lG_ (s:=s.schema) (t:=(i:Int)) h.1 (fk_ h.2.2 i)),af_,dj_ ih,cy_ hi,cf_ hi]
    clear ih
    repeat' (first|apply And.intro|intro _)
    all_goals (try simp_all)
  · simp only [hK_,bp_.turn6,bp_.step6,ca_,cond_false,af_]
 simp only [bp_,el_ h.1,fj_,am_,af_,dj_ hl,e1_]
 clear hl
 repeat' (first|apply And.intro|intro _)
 all_goals (try simp_all)
 all_goals (intros;omega)
section
variable {β:Type} {g:Nat→Nat→List Int→Option β} {gr:Nat→Nat→TRow→Option β} {v:β}
theorem f3_ {r:TRow} (h:r.cells.length≤eR_):Ev (fun n N=>(cc_ n r).bind (gr n N)) v↔Ev (fun n N=>gr n N r) v :=
 ad_ (au_ (by simp only [cc_,bO_,af_,List.nil_append,and_true];simp only [eR_] at h;simp;omega))
end
theorem k9_ {c:Nat} {rows:List TRow} (hr:gD_ c rows) (i:Nat):(rows.getD i TRow.dflt).cells.length≤c:=by
 by_cases hi:i<rows.length
 · exact hr.2 _ (bw_ TRow.dflt hi)
 · rw [List.getD_eq_getElem?_getD,List.getElem?_eq_none (by omega)]
   exact Nat.zero_le _
theorem n9_ {rows:List TRow} (h:gD_ eR_ rows):Ev (fun n _=>bG_ n rows) rows:=by
 refine au_ ?_
 have hl:=h.1
 simp only [eR_] at hl
 simp only [bG_]
 refine qu_ TRow.dflt rows id (fun n N i s=>bG_.loop4 n _ N rows (i:Int) s) rows (fun i s hi hs F hF => ?_) ?_
 · simp only [bG_.turn4,bG_.step4,Int.toNat_natCast,W_up hi (show rows.length≤bV_ by simp only [bV_];omega),am_,bB_,f3_ (k9_ h i),bO_,cy_ hi,cf_ hi]
   exact ⟨fun _=>⟨trivial,by simp;omega,hF⟩,fun h=>by cases h⟩
 · simp only [bG_.turn4,bG_.step4,ca_,cond_false,af_,List.map_id]
theorem l9_ {β:Type} {s:aP_} {g:Nat→Nat→aP_→Option β} {v:β} (h:s.cols.length≤eR_):Ev (fun n N=>(c6_ n s).bind (g n N)) v↔Ev (fun n N=>g n N s) v :=
 ad_ (au_ (by simp only [c6_,bO_,af_,List.nil_append,and_true];simp only [eR_] at h;simp;omega))
theorem kU_ {s:ar_} (h:e3_ eR_ s):Ev (fun n _=>bm_ n s) s:=by
 refine au_ ?_
 have hl:=h.2.1
 simp only [eR_] at hl
 simp only [bm_,l9_ h.1]
 refine qu_ [] s.tables id (fun n N i q=>bm_.loop4 n _ N (i:Int) s.schema.cols s.version s.tables 0 s.version s.schema.cols q) s (fun i q hi hs F hF => ?_) ?_
 · simp only [bm_.turn4,bm_.step4,Int.toNat_natCast,W_up hi (show s.tables.length≤bV_ by simp only [bV_];omega),am_,bB_,ad_ (n9_ (fk_ h.2.2 i)),bO_,cy_ hi,cf_ hi]
   exact ⟨fun _=>⟨trivial,by simp;omega,hF⟩,fun h=>by cases h⟩
 · simp only [bm_.turn4,bm_.step4,ca_,cond_false,af_,List.map_id]
end Go.Pi
end
section
namespace Go.Pi
theorem mv_ (rows:List TRow) (id:Int):ft_ rows id=if rows.findIdx (fun r=>r.id_ == id)<rows.length then (rows.findIdx (fun r=>r.id_ == id):Int) else -1:=f6_ TRow.dflt (fun r=>r.id_ == id) rows
def i7_ (rows:List TRow) (id:Int):List TRow:=rows.eraseIdx (rows.findIdx (fun r=>r.id_ == id))
def hx_ (rows:List TRow) (at_ i:Nat):List TRow:=(rows.take i).eraseIdx at_
theorem pq_ {rows:List TRow} {i:Nat} (h:i<rows.length):hx_ rows i (i+1)=hx_ rows i i:=by
 unfold hx_
 rw [cP_ TRow.dflt h]
 have e:(rows.take i).length=i:=by rw [List.length_take];omega
 rw [List.eraseIdx_of_length_le (l:=rows.take i) (by omega),List.eraseIdx_append_of_length_le (by omega),e,Nat.sub_self]
 simp
theorem ox_ {rows:List TRow} {at_ i:Nat} (h:i<rows.length) (hne:i≠at_):hx_ rows at_ (i+1)=hx_ rows at_ i++[rows.getD i TRow.dflt]:=by
 unfold hx_
 rw [cP_ TRow.dflt h]
 have e:(rows.take i).length=i:=by rw [List.length_take];omega
 by_cases hlt:at_<i
 · rw [List.eraseIdx_append_of_lt_length (by omega)]
 · rw [List.eraseIdx_of_length_le (l:=rows.take i) (by omega),List.eraseIdx_of_length_le (by simp;omega)]
theorem ri_ {rows:List TRow} {at_ i:Nat}:(hx_ rows at_ i).length≤rows.length:=by
 unfold hx_
 have:=List.length_eraseIdx_le (rows.take i) at_
 rw [List.length_take] at this
 omega
theorem fG_ {rows:List TRow} {id:Int} (h:gD_ eR_ rows):Ev (fun n _=>a6_ n rows id) (i7_ rows id):=by
 refine au_ ?_
 have hl:=h.1
 simp only [eR_] at hl
 have ht:rows.length≤bV_:=by simp only [bV_];omega
 simp only [a6_,ad_ (gy_ (rows:=rows) (id:=id) ht)]
 obtain ⟨p,hp⟩:∃ p,p=rows.findIdx (fun r=>r.id_ == id):=⟨_,rfl⟩
 have hat:∀ i:Nat,i<rows.length→(((i:Int) != ft_ rows id)=true↔i≠p):=fun i hi=>by
  rw [mv_,←hp,bne_iff_ne]
  split<;>omega
 have hF:i7_ rows id=hx_ rows p rows.length:=by unfold i7_ hx_;rw [List.take_length,hp]
 rw [hF]
 refine eo_ (fun i=>hx_ rows p i) rows.length (fun n N i s=>a6_.loop5 n (fun xy3=>some xy3) N rows (ft_ rows id) (i:Int) s) _ (fun i hi F hF => ?_) ?_
 · have hlen:=ri_ (rows:=rows) (at_:=p) (i:=i)
   simp only [a6_.turn5,a6_.step5,Int.toNat_natCast,W_up hi ht,am_,bB_,f3_ (k9_ h i),bO_,cy_ hi,cf_ hi]
   refine ⟨fun _=>⟨fun hne=>⟨trivial,by simp;omega,?_⟩,fun heq => ?_⟩,fun h=>by cases h⟩
   · rw [←ox_ hi ((hat i hi).1 hne)];exact hF
   · have:i=p:=Classical.byContradiction fun hn=>by rw [(hat i hi).2 hn] at heq;cases heq
     subst this
     rw [←pq_ hi];exact hF
 · simp only [a6_.turn5,a6_.step5,ca_,cond_false,af_]
end Go.Pi
end
section
namespace Go.Pi
def sameC (x y:bJ_):Bool:=cond (x.col == y.col) (cond (x.op == y.op) (cond (x.v == y.v) true false) false) false
def pQ_ (a b:List bJ_):Bool:=decide (a.length=b.length)&&hY_ (fun i=>sameC (a.getD i bJ_.dflt) (b.getD i bJ_.dflt)) a.length
def FInts2 (a b:List Int):Bool:=decide (a.length=b.length)&&hY_ (fun i=>a.getD i 0 == b.getD i 0) a.length
def jC_ (a b:av_):Bool:=(a.table == b.table)&&(pQ_ a.where_ b.where_&&((a.order == b.order)&&((a.down == b.down)&&((a.first == b.first)&&(FInts2 a.show_ b.show_&&((a.kids == b.kids)&&((a.kidTable == b.kidTable)&&(a.kidCol == b.kidCol))))))))
theorem qc_ {n m:Nat} {p:Nat→Bool}:(hY_ p (min n m)&&decide (n=m))=(decide (n=m)&&hY_ p n):=by
 by_cases h:n=m
 · subst h;simp [Nat.min_self,Bool.and_comm]
 · simp [h]
theorem kw_ {a b:List bJ_} (ha:a.length≤bV_):Ev (fun n _=>bu_ n a b) (pQ_ a b):=by
 refine au_ ?_
 simp only [bu_]
 refine fB_ (eG_ (fun n N i=>bu_.loop3 n (fun x y=>some ((x.length:Int) == (y.length:Int))) N a b (i:Int)) (fun i=>sameC (a.getD i bJ_.dflt) (b.getD i bJ_.dflt)) (len:=min a.length b.length) (v:=decide (a.length=b.length)) (fun i u hi ih => ?_) ?_) qc_
 · have h1:i<a.length:=by omega
   have h2:i<b.length:=by omega
   simp only [bu_.turn3,bu_.step3,Int.toNat_natCast,W_up h1 ha,am_,bB_,af_,dj_ ih,cy_ h1,cf_ h1,cy_ h2,cf_ h2]
   clear ih
   simp only [sameC]
   generalize (cond ((a.getD i bJ_.dflt).col == (b.getD i bJ_.dflt).col) (cond ((a.getD i bJ_.dflt).op == (b.getD i bJ_.dflt).op) (cond ((a.getD i bJ_.dflt).v == (b.getD i bJ_.dflt).v) true false) false) false)=c
   cases c<;>simp
 · simp only [bu_.turn3,bu_.step3,am_,af_,bB_]
   grind
theorem lB_ {a b:List Int} (ha:a.length≤bV_):Ev (fun n _=>bK_ n a b) (FInts2 a b):=by
 refine au_ ?_
 simp only [bK_]
 refine fB_ (eG_ (fun n N i=>bK_.loop3 n (fun x y=>some ((x.length:Int) == (y.length:Int))) N a b (i:Int)) (fun i=>a.getD i 0 == b.getD i 0) (len:=min a.length b.length) (v:=decide (a.length=b.length)) (fun i u hi ih => ?_) ?_) qc_
 · have h1:i<a.length:=by omega
   have h2:i<b.length:=by omega
   simp only [bK_.turn3,bK_.step3,Int.toNat_natCast,W_up h1 ha,am_,bB_,af_,dj_ ih,cy_ h1,cf_ h1,cy_ h2,cf_ h2]
   clear ih
   generalize a.getD i 0=x
   generalize b.getD i 0=y
   grind
 · simp only [bK_.turn3,bK_.step3,am_,af_,bB_]
   grind
theorem je_ {a b:av_} (ha:rC_ bV_ a):Ev (fun n _=>da_ n a b) (jC_ a b):=by
 refine au_ ?_
 simp only [da_,ad_ (kw_ ha.1),ad_ (lB_ ha.2),am_,af_,jC_]
 generalize pQ_ a.where_ b.where_=c
 generalize FInts2 a.show_ b.show_=d
 cases c<;>cases d<;>grind
end Go.Pi
end
section
namespace Go.Pi
end Go.Pi
end
section
namespace Go.Pi
def iF_ (rows:List TRow) (id:Int):Nat:=rows.findIdx (fun x=>decide (x.id_ > id))
def hD_ (rows:List TRow) (r:TRow):List TRow :=
 cond (decide (ft_ rows r.id_≥0)) (rows.set (ft_ rows r.id_).toNat r) (rows.take (iF_ rows r.id_)++[r]++rows.drop (iF_ rows r.id_))
theorem atCases (rows:List TRow) (id:Int):(∃ p,p<rows.length∧ft_ rows id=(p:Int)∧rows.findIdx (fun r=>r.id_ == id)=p)∨(ft_ rows id = -1∧i7_ rows id=rows):=by
 rw [mv_]
 by_cases h:rows.findIdx (fun r=>r.id_ == id)<rows.length
 · exact .inl ⟨_,h,if_pos h,rfl⟩
 · refine .inr ⟨if_neg h,?_⟩
   unfold i7_
   rw [List.eraseIdx_of_length_le (by omega)]
theorem idx_down (rows:List TRow) (P:TRow→Bool) {j:Nat} (hj:j<rows.length) :
  j+(rows.drop j).findIdx P=cond (P (rows.getD j TRow.dflt)) j (j+1+(rows.drop (j+1)).findIdx P):=by
 rw [ep_ TRow.dflt hj,List.findIdx_cons]
 cases P (rows.getD j TRow.dflt)<;>simp only [cond_true,cond_false]<;>omega
theorem h2_ {rows:List TRow} {r:TRow} (h:gD_ eR_ rows) (hr:r.cells.length≤eR_):Ev (fun n _=>bs_ n rows r) (hD_ rows r):=by
 refine au_ ?_
 have hl:=h.1
 simp only [eR_] at hl
 have ht:rows.length≤bV_:=by simp only [bV_];omega
 have e0:∀ r:TRow,TRow.mk r.id_ r.cells=r:=fun _=>rfl
 simp only [bs_,ad_ (fG_ (id:=r.id_) h),ad_ (gy_ (rows:=rows) (id:=r.id_) ht),am_]
 rcases atCases rows r.id_ with ⟨p,hp,e1,e2⟩|⟨e1,e2⟩
 · have hd:i7_ rows r.id_=rows.take p++rows.drop (p+1):=by unfold i7_;rw [e2,List.eraseIdx_eq_take_drop_succ]
   have hdl:(i7_ rows r.id_).length=rows.length - 1:=by rw [hd];simp;omega
   refine ⟨fun _ => ?_,fun h=>by rw [e1] at h;simp at h⟩
   rw [e1]
   simp only [jw_,bO_,f3_ hr,af_,Int.toNat_natCast,List.length_nil,List.nil_append,List.drop_zero,hdl]
   refine ⟨by omega,by simp;omega,by simp;omega,by omega,by simp;omega,?_⟩
   unfold hD_
   rw [e1,decide_eq_true (by omega),cond_true,Int.toNat_natCast,hd,List.set_eq_take_append_cons_drop,if_pos hp]
   have t1:(rows.take p++rows.drop (p+1)).take p=rows.take p:=by rw [List.take_append_of_le_length (by simp;omega),List.take_take,Nat.min_self]
   have t2:((rows.take p++rows.drop (p+1)).take (rows.length - 1)).drop p=rows.drop (p+1):=by
    rw [List.take_of_length_le (by simp;omega),List.drop_append_of_le_length (by simp;omega),List.drop_eq_nil_of_le (by simp;omega),List.nil_append]
   rw [t1,t2];simp
 · refine ⟨fun h=>by rw [e1] at h;simp at h,fun _ => ?_⟩
   rw [e2]
   have hF:hD_ rows r=rows.take (iF_ rows r.id_)++[r]++rows.drop (iF_ rows r.id_):=by unfold hD_;rw [e1];rfl
   rw [hF]
   obtain ⟨S,hS⟩:∃ S:Nat→Int,S=fun i=>(((rows.length - i)+(rows.drop (rows.length - i)).findIdx (fun x=>decide (x.id_ > r.id_)):Nat):Int):=⟨_,rfl⟩
   have hS0:S 0=(rows.length:Int):=by rw [hS];simp
   have:=eo_ S rows.length (fun n N i (s:Int)=>bs_.loop6 n (fun xy5 xy6 xy7 xy8=>(gI_ 0 xy5 xy8.length (bq_ (([]:List TRow).length+((xy8.take xy5.toNat).drop 0).length) 32 ((cc_ n (TRow.mk xy6 xy7)).bind fun xr9=>(bq_ ((([]:List TRow)++((xy8.take xy5.toNat).drop 0)).length+([xr9]:List TRow).length) 32 (gI_ xy5 (xy8.length:Int) xy8.length (bq_ (((([]:List TRow)++((xy8.take xy5.toNat).drop 0))++([xr9]:List TRow)).length+((xy8.take ((xy8.length:Int).toNat)).drop xy5.toNat).length) 32 (some (((([]:List TRow)++((xy8.take xy5.toNat).drop 0))++([xr9]:List TRow))++((xy8.take ((xy8.length:Int).toNat)).drop xy5.toNat)))))))))) N s (((rows.length - i:Nat):Int) - 1) r.id_ r.cells rows) (rows.take (iF_ rows r.id_)++[r]++rows.drop (iF_ rows r.id_)) (fun i hi F hF => ?_) ?_
   · rw [hS0] at this
     rw [W_dn ht]
     simpa using this
   · obtain ⟨j,hj⟩:∃ j,j=rows.length - i - 1:=⟨_,rfl⟩
     have hji:rows.length - i=j+1:=by omega
     have hji2:rows.length - (i+1)=j:=by omega
     have hjl:j<rows.length:=by omega
     have hstep:=idx_down rows (fun x=>decide (x.id_ > r.id_)) hjl
     have s1:S i=((j+1+(rows.drop (j+1)).findIdx (fun x=>decide (x.id_ > r.id_)):Nat):Int):=by rw [hS];simp only [hji]
     have s2:S (i+1)=((j+(rows.drop j).findIdx (fun x=>decide (x.id_ > r.id_)):Nat):Int):=by rw [hS];simp only [hji2]
     have ei:((rows.length - i:Nat):Int) - 1=(j:Int):=by omega
     have ei2:W ((j:Int) - 1)=((rows.length - (i+1):Nat):Int) - 1:=by rw [W_dn (by omega),hji2]
     rw [s2,hstep] at hF
     rw [ei,s1]
     simp only [bs_.turn6,bs_.step6,am_,bB_,Int.toNat_natCast,ei2]
     refine ⟨fun _=>⟨by omega,fun hc => ?_,fun hc => ?_⟩,fun h=>by simp at h⟩
     · rw [hc] at hF;exact hF
     · rw [hc] at hF;exact hF
   · have s1:S rows.length=(iF_ rows r.id_:Int):=by rw [hS];simp [iF_]
     have hpl:iF_ rows r.id_≤rows.length:=List.findIdx_le_length
     rw [s1]
     simp only [bs_.turn6,bs_.step6,Nat.sub_self,e0]
     rw [show decide (((0:Nat):Int) - 1≥0)=false from by simp]
     simp only [cond_false,jw_,bO_,f3_ hr,af_,Int.toNat_natCast,List.length_nil,List.nil_append,List.drop_zero]
     refine ⟨by omega,by simp;omega,by simp;omega,by omega,by simp;omega,?_⟩
     rw [List.take_length]
end Go.Pi
end
section
namespace Go.Pi
def n6_ (c:Nat) (x:aT_):Prop:=x.old.cells.length≤c∧x.new.cells.length≤c
theorem gw_ {c n:Nat} (h:n≤c) (hc:c≤eR_):n≤bV_:=by simp only [eR_] at hc;simp only [bV_];omega
theorem gD_.upto {c d:Nat} {r:List TRow} (h:gD_ c r) (hc:c≤d):gD_ d r:=⟨Nat.le_trans h.1 hc,fun x hx=>Nat.le_trans (h.2 x hx) hc⟩
theorem e3_.upto {c d:Nat} {s:ar_} (h:e3_ c s) (hc:c≤d):e3_ d s:=⟨Nat.le_trans h.1 hc,Nat.le_trans h.2.1 hc,fun x hx=>(h.2.2 x hx).upto hc⟩
theorem lu_ {c:Nat} {rows:List TRow} {id:Int} (h:gD_ c rows):gD_ c (i7_ rows id):=by
 unfold i7_
 exact ⟨Nat.le_trans (List.length_eraseIdx_le _ _) h.1,fun x hx=>h.2 x (List.mem_of_mem_eraseIdx hx)⟩
theorem lq_ {c:Nat} {rows:List TRow} {r:TRow} (h:gD_ c rows) (hr:r.cells.length≤c):gD_ (c+1) (hD_ rows r):=by
 unfold hD_
 have h1:=h.1
 cases decide (ft_ rows r.id_≥0)<;>simp only [cond_true,cond_false]
 · refine ⟨by simp;omega,fun x hx => ?_⟩
   rcases List.mem_append.1 hx with hx|hx
   · rcases List.mem_append.1 hx with hx|hx
     · exact Nat.le_succ_of_le (h.2 x (List.mem_of_mem_take hx))
     · rw [List.mem_singleton.1 hx];omega
   · exact Nat.le_succ_of_le (h.2 x (List.mem_of_mem_drop hx))
 · refine ⟨by simp;omega,fun x hx => ?_⟩
   rcases List.mem_or_eq_of_mem_set hx with hx|rfl
   · exact Nat.le_succ_of_le (h.2 x hx)
   · omega
end Go.Pi
end
section
namespace Go.Pi
def ac_.size (s:ac_):Nat:=(ei_ szI) s.b
def ac_.len (s:ac_):Prop:=(n3_ lenI) s.b
def aP_.size (s:aP_):Nat:=(ei_ szI) s.cols
def aP_.len (s:aP_):Prop:=(n3_ lenI) s.cols
def TRow.size (s:TRow):Nat:=(ei_ szI) s.cells
def TRow.len (s:TRow):Prop:=(n3_ lenI) s.cells
def ar_.size (s:ar_):Nat:=aP_.size s.schema+(ei_ (ei_ TRow.size)) s.tables
def ar_.len (s:ar_):Prop:=aP_.len s.schema∧(n3_ (n3_ TRow.len)) s.tables
def bJ_.size (s:bJ_):Nat:=0
def bJ_.len (s:bJ_):Prop:=True
def av_.size (s:av_):Nat:=(ei_ bJ_.size) s.where_+(ei_ szI) s.show_
def av_.len (s:av_):Prop:=(n3_ bJ_.len) s.where_∧(n3_ lenI) s.show_
def TKid.size (s:TKid):Nat:=0
def TKid.len (s:TKid):Prop:=True
def a8_.size (s:a8_):Nat:=av_.size s.q+(ei_ TRow.size) s.rows+(ei_ TKid.size) s.kids
def a8_.len (s:a8_):Prop:=av_.len s.q∧(n3_ TRow.len) s.rows∧(n3_ TKid.len) s.kids
def b3_.size (s:b3_):Nat:=a8_.size s.view+a8_.size s.last
def b3_.len (s:b3_):Prop:=a8_.len s.view∧a8_.len s.last
mutual
def aa_.size:aa_→Nat
 |⟨_,_,s,l,ns⟩=>s.length+((l.length+aa_.sizes l)+ei_ szB ns)
def aa_.sizes:List aa_→Nat
 |[]=>0
 |x::l=>aa_.size x+aa_.sizes l
end
mutual
def aa_.len:aa_→Prop
 |⟨_,_,s,l,ns⟩=>s.length≤bV_∧(l.length≤bV_∧aa_.lens l)∧n3_ lenB ns
def aa_.lens:List aa_→Prop
 |[]=>True
 |x::l=>aa_.len x∧aa_.lens l
end
theorem aa_.sizes_eq:∀ l:List aa_,aa_.sizes l=eD_ aa_.size l
 |[]=>by simp only [aa_.sizes,eD_]
 |x::l=>by simp only [aa_.sizes,eD_,aa_.sizes_eq l]
theorem aa_.lens_iff:∀ l:List aa_,aa_.lens l↔∀ x ∈ l,aa_.len x
 |[]=>by simp [aa_.lens]
 |x::l=>by simp [aa_.lens,aa_.lens_iff l]
theorem aa_.size_eq (j:aa_):aa_.size j=j.s.length+(ei_ aa_.size j.list+ei_ szB j.names):=by
 cases j;simp only [aa_.size,aa_.sizes_eq,ei_]
theorem aa_.len_iff (j:aa_):aa_.len j↔j.s.length≤bV_∧n3_ aa_.len j.list∧n3_ lenB j.names:=by
 cases j;simp only [aa_.len,aa_.lens_iff,n3_]
theorem aa_.re_eq (j:aa_):aa_.re j=j:=by cases j;rfl
theorem aa_.dec {x:aa_} {a:List aa_} (h:x ∈ a):SizeOf.sizeOf x.list<SizeOf.sizeOf a:=by
 have h1:=List.sizeOf_lt_of_mem h
 have h2:SizeOf.sizeOf x.list<SizeOf.sizeOf x:=by cases x;simp;omega
 omega
def TOp.size (s:TOp):Nat:=(ei_ szB) s.way+aa_.size s.value
def TOp.len (s:TOp):Prop:=(n3_ lenB) s.way∧aa_.len s.value
theorem TOp.eta (x:TOp):TOp.mk x.kind x.way x.value=x:=rfl
def aE_.size (s:aE_):Nat:=aa_.size s.doc+(ei_ TOp.size) s.ops
def aE_.len (s:aE_):Prop:=aa_.len s.doc∧(n3_ TOp.len) s.ops
theorem aE_.eta (x:aE_):aE_.mk x.kind x.version x.base x.doc x.ops=x:=rfl
def TMut.size (s:TMut):Nat:=TRow.size s.row
def TMut.len (s:TMut):Prop:=TRow.len s.row
def aT_.size (s:aT_):Nat:=TRow.size s.old+TRow.size s.new
def aT_.len (s:aT_):Prop:=TRow.len s.old∧TRow.len s.new
def aX_.size (s:aX_):Nat:=aa_.size s.doc
def aX_.len (s:aX_):Prop:=aa_.len s.doc
theorem aX_.eta (x:aX_):aX_.mk x.doc x.version x.began x.bad=x:=rfl
end Go.Pi
end
section
namespace Go.Pi
def hN_ (s:aP_):ar_:=⟨s,0,List.replicate s.cols.length []⟩
theorem lenSt_new {c:Nat} {s:aP_} (hs:s.cols.length≤c):e3_ c (hN_ s):=by
 refine ⟨hs,?_,fun x hx => ?_⟩
 · simp only [hN_,List.length_replicate];exact hs
 · simp only [hN_] at hx
   rw [List.eq_of_mem_replicate hx]
   exact ⟨Nat.zero_le _,fun x hx=>by cases hx⟩
def zStore:ar_:=⟨⟨[]⟩,0,[]⟩
def FNew (s:aP_):ar_ × Bool:=cond (fO_ s) (hN_ s,true) (zStore,false)
theorem jY_ {s:aP_} (hs:s.cols.length≤cap):Ev (fun n _=>dl_ n s) (FNew s):=by
 refine au_ ?_
 simp only [cap] at hs
 simp only [dl_,el_ (show s.cols.length≤bV_ by simp only [bV_];omega),l9_ (show s.cols.length≤eR_ by simp only [eR_];omega),am_,af_,dh_,FNew,hN_,zStore,Int.toNat_natCast]
 repeat' (first|apply And.intro|intro _)
 all_goals (try simp_all)
 all_goals (try omega)
end Go.Pi
end
section
namespace Go.Pi
theorem Wn {x:Int} (h1 : -1000000000000≤x) (h2:x≤1000000000000):W x=x:=W_id (by omega) (by omega)
theorem ix_ {a b:Int}:Ev (fun n _=>cp_ n a b) (max a b):=by
 refine au_ ?_
 simp only [cp_,am_,af_]
 exact ⟨fun h=>by have:=of_decide_eq_true h;omega,fun h=>by have:=of_decide_eq_false h;omega⟩
theorem j4_ {c:ac_} (hc:DwOk c):Ans (fun n _=>aK_ n c) fun r=>r.1.cols.length≤3∧(∀ x ∈ r.1.cols,x≤4)∧DwOk r.2:=by
 have key:∀ (m i:Nat) (c:ac_) (o:List Int),i+m=3→DwOk c→o.length=i→(∀ x ∈ o,x≤4) →
   Ans (fun n N=>aK_.loop4 n (fun xy3 xy4 xy5 xy6=>(some ((aP_.mk xy6),(ac_.mk xy3 xy4 xy5)))) N (i:Int) c.b c.i c.h o) fun r=>r.1.cols.length≤3∧(∀ x ∈ r.1.cols,x≤4)∧DwOk r.2:=by
  intro m
  induction m with
  |zero=>
   intro i c o hi hc ho hx
   refine cg_ ?_
   simp only [aK_.turn4,aK_.step4,cu_]
   refine ax_ (bc_ hc) fun r hr => ?_
   have h1:=hr.lo;have h2:=hr.hi
   rw [Wn (by omega) (by omega),decide_eq_false (by omega)]
   simp only [cond_false,cu_,aD_]
   exact ⟨by omega,hx,hr.cur⟩
  |succ m ih=>
   intro i c o hi hc ho hx
   refine cg_ ?_
   simp only [aK_.turn4,aK_.step4,cu_]
   refine ax_ (bc_ hc) fun r hr => ?_
   simp only [bh_,cu_,aD_]
   refine ⟨fun _=>ax_ (bc_ hr.cur) fun r2 hr2 => ?_,fun _=>⟨by omega,hx,hr.cur⟩⟩
   have h1:=hr2.lo;have h2:=hr2.hi
   have e1:W ((i:Int)+1)=((i+1:Nat):Int):=by rw [Wn (by omega) (by omega)];rfl
   rw [Wn (x:=1+r2.1) (by omega) (by omega),e1]
   simp only [d4_]
   refine ⟨by simp;omega,ih (i+1) r2.2 _ (by omega) hr2.cur (by simp;omega) fun x hx' => ?_⟩
   rcases List.mem_append.1 hx' with h|h
   · exact hx x h
   · rw [List.mem_singleton.1 h];omega
 refine b5_ ?_
 simp only [aK_]
 exact d0_ (key 3 0 c [] rfl hc rfl fun x hx=>(by cases hx))
theorem iM_ {c:ac_} {cols:Int} (hc:DwOk c) (hcol:cols≤1000):Ans (fun n _=>aZ_ n c cols) fun r=>r.1.cells.length≤1000∧DwOk r.2:=by
 have key:∀ (m i:Nat) (c:ac_) (id:Int) (o:List Int),i+m=1000→DwOk c→o.length=i →
   Ans (fun n N=>aZ_.loop4 n (fun xy3 xy4 xy5 xy6 xy7 xy8=>(some ((TRow.mk xy7 xy8),(ac_.mk xy3 xy4 xy5)))) N cols (i:Int) c.b c.i c.h 0 id o) fun r=>r.1.cells.length≤1000∧DwOk r.2:=by
  intro m
  induction m with
  |zero=>
   intro i c id o hi hc ho
   refine cg_ ?_
   simp only [aZ_.turn4,aZ_.step4,cu_]
   rw [decide_eq_false (by omega)]
   simp only [cond_false,cu_,aD_]
   exact ⟨by omega,hc⟩
  |succ m ih=>
   intro i c id o hi hc ho
   refine cg_ ?_
   simp only [aZ_.turn4,aZ_.step4,cu_,bh_,aD_]
   refine ⟨fun _=>ax_ (bc_ hc) fun r2 hr2 => ?_,fun _=>⟨by omega,hc⟩⟩
   have e1:W ((i:Int)+1)=((i+1:Nat):Int):=by rw [Wn (by omega) (by omega)];rfl
   rw [e1]
   simp only [d4_]
   exact ⟨by simp;omega,ih (i+1) r2.2 _ _ (by omega) hr2.cur (by simp;omega)⟩
 refine b5_ ?_
 simp only [aZ_]
 exact ax_ (bc_ hc) fun r hr=>d0_ (key 1000 0 r.2 _ [] rfl hr.cur rfl)
theorem lM_ {c:ac_} {cols:Int} (hc:DwOk c) (hcol:cols≤1000):Ans (fun n _=>aU_ n c cols) fun r=>gD_ 1010 r.1∧DwOk r.2:=by
 have key:∀ (m i:Nat) (c:ac_) (o:List TRow),i+m=9→DwOk c→gD_ (1000+i) o →
   Ans (fun n N=>aU_.loop4 n (fun xy4 xy5 xy6 xy7=>(some (xy7,(ac_.mk xy4 xy5 xy6)))) N cols (i:Int) c.b c.i c.h o) fun r=>gD_ 1010 r.1∧DwOk r.2:=by
  intro m
  induction m with
  |zero=>
   intro i c o hi hc ho
   refine cg_ ?_
   simp only [aU_.turn4,aU_.step4,cu_]
   refine ax_ (bc_ hc) fun r hr => ?_
   have h1:=hr.lo;have h2:=hr.hi
   rw [decide_eq_false (by omega)]
   simp only [cond_false,cu_,aD_]
   exact ⟨ho.upto (by omega),hr.cur⟩
  |succ m ih=>
   intro i c o hi hc ho
   refine cg_ ?_
   simp only [aU_.turn4,aU_.step4,cu_]
   refine ax_ (bc_ hc) fun r hr => ?_
   simp only [bh_,cu_,aD_]
   refine ⟨fun _=>ax_ (iM_ hr.cur hcol) fun r2 hr2 => ?_,fun _=>⟨ho.upto (by omega),hr.cur⟩⟩
   have e1:W ((i:Int)+1)=((i+1:Nat):Int):=by rw [Wn (by omega) (by omega)];rfl
   have hP:=h2_ (rows:=o) (r:=r2.1) (ho.upto (by simp only [eR_];omega)) (by have:=hr2.1;simp only [eR_];omega)
   rw [bf_ hP,e1]
   exact ih (i+1) r2.2 _ (by omega) hr2.2 (by rw [←Nat.add_assoc];exact lq_ ho (by have:=hr2.1;omega))
 refine b5_ ?_
 simp only [aU_]
 exact d0_ (key 9 0 c [] rfl hc ⟨Nat.zero_le _,fun x hx=>(by cases hx)⟩)
structure StIn (c:Nat) (s:ar_):Prop where
 len:e3_ c s
 col:∀ x ∈ s.schema.cols,x≤1000
theorem StIn.upto {c d:Nat} {s:ar_} (h:StIn c s) (hc:c≤d):StIn d s:=⟨h.len.upto hc,h.col⟩
theorem StIn.getD {c:Nat} {s:ar_} (h:StIn c s) (i:Nat):s.schema.cols.getD i 0≤1000:=by
 by_cases hi:i<s.schema.cols.length
 · exact h.col _ (bw_ _ hi)
 · rw [List.getD_eq_getElem?_getD,List.getElem?_eq_none (by omega)];decide
theorem hq_ {c:ac_} (hc:DwOk c):Ans (fun n _=>aL_ n c) fun r=>StIn 1010 r.1∧DwOk r.2:=by
 have key:∀ (m i:Nat) (c:ac_) (s:ar_),i+m=s.tables.length→s.tables.length≤s.schema.cols.length→DwOk c→StIn 1010 s →
   Ans (fun n N=>aL_.loop4 n (fun xy5 xy6 xy7 xy8 xy9 xy10 xy11=>((ag_ n (ac_.mk xy5 xy6 xy7) 5).bind fun xr12=>(some ((ar_.mk (aP_.mk xy10) xr12.1 xy11),xr12.2)))) N (i:Int) c.b c.i c.h 0 s.version s.schema.cols s.tables) fun r=>StIn 1010 r.1∧DwOk r.2:=by
  intro m
  induction m with
  |zero=>
   intro i c s hi hl hc hs
   have e:i=s.tables.length:=by omega
   subst e
   refine cg_ ?_
   simp only [aL_.turn4,aL_.step4,ca_,cond_false,cu_]
   exact ax_ (bc_ hc) fun r hr=>aD_.2 ⟨⟨hs.len,hs.col⟩,hr.cur⟩
  |succ m ih=>
   intro i c s hi hl hc hs
   have hlt:i<s.tables.length:=by omega
   have h3:=hs.len.2.1
   have hW:=W_up hlt (show s.tables.length≤bV_ by simp only [bV_];omega)
   refine cg_ ?_
   simp only [aL_.turn4,aL_.step4,cy_ hlt,cond_true,cu_,do_,Int.toNat_natCast]
   refine ⟨⟨by omega,by omega⟩,ax_ (lM_ hc (hs.getD i)) fun r hr => ?_⟩
   simp only [do_,hW]
   refine ⟨⟨by omega,by omega⟩,?_⟩
   have:=ih (i+1) r.2 (ar_.mk s.schema s.version (s.tables.set i r.1)) (by simp;omega) (by simp;exact hl) hr.2 ⟨⟨hs.len.1,by simp only [List.length_set];exact h3,fun x hx=>by
    rcases List.mem_or_eq_of_mem_set hx with hx|rfl
    · exact hs.len.2.2 x hx
    · exact hr.1⟩,hs.col⟩
   exact this
 refine b5_ ?_
 simp only [aL_]
 refine ax_ (j4_ hc) fun r hr => ?_
 have hN:=jY_ (s:=r.1) (by have:=hr.1;simp only [cap];omega)
 rw [bf_ hN]
 refine d0_ (f:=fun n N=>aL_.loop4 n (fun xy5 xy6 xy7 xy8 xy9 xy10 xy11=>((ag_ n (ac_.mk xy5 xy6 xy7) 5).bind fun xr12=>(some ((ar_.mk (aP_.mk xy10) xr12.1 xy11),xr12.2)))) N 0 r.2.b r.2.i r.2.h 0 (FNew r.1).1.version (FNew r.1).1.schema.cols (FNew r.1).1.tables) (key (FNew r.1).1.tables.length 0 r.2 (FNew r.1).1 (Nat.zero_add _) ?_ hr.2.2 ?_)
 · unfold FNew
   cases fO_ r.1
   · exact Nat.le_refl _
   · simp [hN_]
 · unfold FNew
   cases fO_ r.1
   · exact ⟨⟨Nat.zero_le _,Nat.zero_le _,fun x hx=>(by cases hx)⟩,fun x hx=>(by cases hx)⟩
   · exact ⟨lenSt_new (Nat.le_trans hr.1 (by decide)),fun x hx=>Int.le_trans (hr.2.1 x hx) (by decide)⟩
end Go.Pi
end
section
namespace Go.Pi
def n0_:TRow:=TRow.mk 0 []
def noCh:aT_:=aT_.mk 0 false false n0_ n0_
def zeroSt:ar_:=ar_.mk (aP_.mk []) 0 []
def i5_ (s:aP_) (m:TMut):Bool:=cond (m.kind == 3) (fO_ s&&(inn m.table 0 (W ((s.cols.length:Int) - 1))&&(inn m.row.id_ 1 999&&((m.row.cells.length:Int) == 0)))) (inn m.kind 1 2&&FRow s m.table m.row)
def fh_ (s:ar_) (m:TMut):List TRow:=s.tables.getD m.table.toNat []
def pO_ (s:ar_) (m:TMut):Bool:=(decide (ft_ (fh_ s m) m.row.id_≥0) == (m.kind != 1)) && !((m.kind == 1)&&(((fh_ s m).length:Int) == 24))
def FDo (s:ar_) (m:TMut):ar_:=ar_.mk s.schema s.version (s.tables.set m.table.toNat (cond (m.kind != 3) (hD_ (fh_ s m) m.row) (i7_ (fh_ s m) m.row.id_)))
def FDoCh (s:ar_) (m:TMut):aT_:=aT_.mk m.table (m.kind != 1) (m.kind != 3) (cond (m.kind != 1) ((fh_ s m).getD (ft_ (fh_ s m) m.row.id_).toNat TRow.dflt) n0_) (cond (m.kind != 3) m.row n0_)
def f9_ (s:ar_) (m:TMut):ar_ × aT_ × Bool:=cond (e1_ s) (cond (i5_ s.schema m&&pO_ s m) (FDo s m,FDoCh s m,true) (s,noCh,false)) (zeroSt,noCh,false)
theorem ke_ (r:TRow):TRow.mk r.id_ r.cells=r:=rfl
theorem es_ (s:ar_):ar_.mk s.schema s.version s.tables=s:=rfl
theorem eM_ (s:aP_):aP_.mk s.cols=s:=rfl
theorem mW_ (m:TMut):TMut.mk m.kind m.table m.row=m:=rfl
theorem mE_ {s:aP_} {m:TMut} (hs:s.cols.length≤bV_) (hr:m.row.cells.length≤bV_):Ev (fun n _=>ex_ n s m) (i5_ s m):=by
 refine au_ ?_
 simp only [ex_,ad_ (gY_ hs),ad_ (iz_ (t:=m.table) hs hr),fj_,am_,af_,i5_]
 generalize (m.kind == 3)=a
 generalize fO_ s=b
 generalize inn m.table 0 _=c
 generalize inn m.row.id_ 1 999=d
 generalize inn m.kind 1 2=e
 cases a<;>cases b<;>cases c<;>cases d<;>cases e<;>simp
theorem pa_ {s:ar_} {m:TMut} (hs:e1_ s=true) (hm:i5_ s.schema m=true) (hc:s.schema.cols.length≤bV_):0≤m.table∧m.table<(s.tables.length:Int):=by
 have e:=@W_dn s.schema.cols.length hc
 have hl:s.tables.length=s.schema.cols.length:=by
  unfold e1_ at hs
  simp only [Bool.and_eq_true] at hs
  exact of_decide_eq_true hs.2.2.1
 have:inn m.table 0 (W ((s.schema.cols.length:Int) - 1))=true:=by
  unfold i5_ at hm
  cases h3:(m.kind == 3)<;>rw [h3] at hm
  · simp only [cond_false,Bool.and_eq_true] at hm
    have:=hm.2
    unfold FRow at this
    simp only [Bool.and_eq_true] at this
    exact this.2.1
  · simp only [cond_true,Bool.and_eq_true] at hm
    exact hm.2.1
 have:=gF_.1 this
 rw [e] at this
 omega
theorem o3_ (rows:List TRow) (id:Int):ft_ rows id = -1∨0≤ft_ rows id∧ft_ rows id<(rows.length:Int):=by
 rcases atCases rows id with ⟨p,h1,h2,_⟩|⟨h,_⟩
 · exact .inr ⟨by omega,by omega⟩
 · exact .inl h
theorem nI_ {s:ar_} {m:TMut} (hl:e3_ eR_ s) (hr:m.row.cells.length≤eR_) (ht:0≤m.table∧m.table<(s.tables.length:Int)):Ev (fun n _=>eS_ n s m) (cond (pO_ s m) (FDo s m,FDoCh s m,true) (s,noCh,false)):=by
 have hT:gD_ eR_ (fh_ s m):=fk_ hl.2.2 _
 have hT1:(fh_ s m).length≤bV_:=gw_ hT.1 (Nat.le_refl _)
 have hrow:∀ i,((fh_ s m).getD i TRow.dflt).cells.length≤eR_:=fun i=>by
  by_cases hi:i<(fh_ s m).length
  · exact hT.2 _ (bw_ _ hi)
  · rw [List.getD_eq_getElem?_getD,List.getElem?_eq_none (by omega)];exact Nat.zero_le _
 have hat:=o3_ (fh_ s m) m.row.id_
 have e0:s.tables.getD m.table.toNat []=fh_ s m:=rfl
 refine au_ ?_
 simp only [eS_,e0,ke_,bB_,ht,true_and,and_true,ad_ (gy_ (id:=m.row.id_) hT1),f3_ (hrow _),f3_ hr,ad_ (h2_ hT hr),ad_ (fG_ (id:=m.row.id_) hT),am_,af_]
 unfold pO_ FDo FDoCh noCh n0_
 generalize hD_ (fh_ s m) m.row=p
 generalize i7_ (fh_ s m) m.row.id_=q
 generalize ft_ (fh_ s m) m.row.id_=a at hat ⊢
 have hb:(m.kind == 1)=true→(m.kind != 1)=false:=by simp [bne]
 have hb':(m.kind == 1)=false→(m.kind != 1)=true:=by intro h;simp [bne,h]
 generalize (m.kind != 1)=k1 at hb hb' ⊢
 cases hk:(m.kind == 1)<;>rw [hk] at hb hb'
 · have:=hb' rfl
   subst this
   cases ha:decide (a≥0)
   · simp
   · have ha:=of_decide_eq_true ha
     cases (m.kind != 3)<;>simp<;>omega
 · have:=hb rfl
   subst this
   cases ha:decide (a≥0)<;>cases (((fh_ s m).length:Int) == 24)<;>cases (m.kind != 3)<;>simp
theorem iB_ {s:ar_} {m:TMut} (hl:e3_ eR_ s) (hr:m.row.cells.length≤eR_):Ev (fun n _=>ec_ n s m) (f9_ s m):=by
 have hs:s.schema.cols.length≤bV_:=gw_ hl.1 (Nat.le_refl _)
 have hrt:m.row.cells.length≤bV_:=gw_ hr (Nat.le_refl _)
 refine au_ ?_
 simp only [ec_,es_,mW_,ke_,ad_ (eU_ (hl.upto (show eR_≤bV_ by decide))),ad_ (mE_ hs hrt),ad_ (kU_ hl),am_,af_]
 unfold f9_
 cases h1:e1_ s
 · exact ⟨fun _=>rfl,fun h=>(by cases h)⟩
 · refine ⟨fun h=>(by cases h),fun _ => ?_⟩
   cases h2:i5_ s.schema m
   · exact ⟨fun _=>rfl,fun h=>(by cases h)⟩
   · refine ⟨fun h=>(by cases h),fun _ => ?_⟩
     simp only [ad_ (nI_ hl hr (pa_ h1 h2 hs)),am_,af_]
     cases pO_ s m<;>simp [noCh,n0_,ad_ (kU_ hl),af_]
theorem FDo_len {c:Nat} {s:ar_} {m:TMut} (h:e3_ c s) (hr:m.row.cells.length≤c):e3_ (c+1) (FDo s m):=by
 have hT:gD_ c (fh_ s m):=fk_ h.2.2 _
 refine ⟨Nat.le_succ_of_le h.1,by simp only [FDo,List.length_set];exact Nat.le_succ_of_le h.2.1,fun x hx => ?_⟩
 rcases List.mem_or_eq_of_mem_set hx with hx|rfl
 · exact (h.2.2 x hx).upto (Nat.le_succ _)
 · cases (m.kind != 3)
   · exact (lu_ hT).upto (Nat.le_succ _)
   · exact lq_ hT hr
theorem FDoCh_len {c:Nat} {s:ar_} {m:TMut} (h:e3_ c s) (hr:m.row.cells.length≤c):n6_ c (FDoCh s m):=by
 have hT:gD_ c (fh_ s m):=fk_ h.2.2 _
 refine ⟨?_,?_⟩
 · show (cond (m.kind != 1) _ n0_).cells.length≤c
   cases (m.kind != 1)
   · exact Nat.zero_le _
   · by_cases hi:(ft_ (fh_ s m) m.row.id_).toNat<(fh_ s m).length
     · exact hT.2 _ (bw_ _ hi)
     · simp only [cond_true];rw [List.getD_eq_getElem?_getD,List.getElem?_eq_none (by omega)];exact Nat.zero_le _
 · show (cond (m.kind != 3) m.row n0_).cells.length≤c
   cases (m.kind != 3)
   · exact Nat.zero_le _
   · exact hr
theorem jE_ {c:Nat} {s:ar_} {m:TMut} (h:e3_ c s) (hr:m.row.cells.length≤c):e3_ (c+1) (f9_ s m).1∧n6_ c (f9_ s m).2.1:=by
 have z:n6_ c noCh:=⟨Nat.zero_le _,Nat.zero_le _⟩
 unfold f9_
 cases e1_ s
 · exact ⟨⟨Nat.zero_le _,Nat.zero_le _,fun x hx=>(by cases hx)⟩,z⟩
 · cases (i5_ s.schema m&&pO_ s m)
   · exact ⟨h.upto (Nat.le_succ _),z⟩
   · exact ⟨FDo_len h hr,FDoCh_len h hr⟩
end Go.Pi
end
section
namespace Go.Pi
def fR_:ar_→List TMut→List aT_→Option (ar_ × List aT_)
 |s,[],l=>some (s,l)
 |s,m::r,l=>cond (f9_ s m).2.2 (fR_ (f9_ s m).1 r (l++[(f9_ s m).2.1])) none
def lv_ (s:ar_):Option (ar_ × List aT_)→ar_ × List aT_ × Bool
 |some p=>(ar_.mk p.1.schema (W (s.version+1)) p.1.tables,p.2,true)
 |none=>(s,[],false)
def eg_ (s:ar_) (l:List TMut):ar_ × List aT_ × Bool:=cond (e1_ s) (cond (inn (l.length:Int) 1 5 && !(s.version == 100000)) (lv_ s (fR_ s l [])) (s,[],false)) (zeroSt,[],false)
def j3_ (c:Nat) (l:List TMut):Prop:=∀ m ∈ l,m.row.cells.length≤c
theorem hg_ {c:Nat} {s:ar_} {l:List TMut} (hl:e3_ c s) (hm:j3_ c l) (hc:c+l.length≤1000000):Ev (fun n _=>a7_ n s l) (eg_ s l):=by
 have hcR:e3_ eR_ s:=hl.upto (by simp only [eR_];omega)
 have hC:=kU_ hcR
 refine au_ ?_
 simp only [a7_,es_,ad_ (eU_ (hcR.upto (show eR_≤bV_ by decide))),fj_,ad_ hC,am_,af_]
 unfold eg_
 cases h1:e1_ s
 · exact ⟨fun _=>rfl,fun h=>(by cases h)⟩
 refine ⟨fun h=>(by cases h),fun _ => ?_⟩
 cases h2:inn (l.length:Int) 1 5
 · exact ⟨fun _=>rfl,fun h=>(by cases h)⟩
 refine ⟨fun h=>(by cases h),fun _ => ?_⟩
 cases h3:(s.version == 100000)
 · refine ⟨fun h=>(by cases h),fun _ => ?_⟩
   have key:∀ (m i:Nat) (t:ar_) (o:List aT_),i+m=l.length→e3_ (c+i) t→o.length≤i →
     Ev (fun n N=>a7_.loop12 n (fun xy8 xy9 xy10 xy11 xy12 xy13 xy14 xy15=>(some ((ar_.mk (aP_.mk xy14) (W (xy9+1)) xy15),xy13,true))) N l (i:Int) s.schema.cols s.version s.tables 0 [] t.version o t.schema.cols t.tables) (lv_ s (fR_ t (l.drop i) o)):=by
    intro m
    induction m with
    |zero=>
     intro i t o hi ht ho
     have e:i=l.length:=by omega
     subst e
     refine b4_ ?_
     simp only [a7_.turn12,a7_.step12,ca_,cond_false,af_,List.drop_length,fR_,lv_]
    |succ m ih=>
     intro i t o hi ht ho
     have hlt:i<l.length:=by omega
     have hr:=hm _ (bw_ TMut.dflt hlt)
     have hD:=iB_ (m:=l.getD i TMut.dflt) (ht.upto (show c+i≤eR_ by simp only [eR_];omega)) (Nat.le_trans hr (by simp only [eR_];omega))
     have hW:=W_up hlt (show l.length≤bV_ by simp only [bV_];omega)
     have hn:=jE_ (m:=l.getD i TMut.dflt) ht (Nat.le_trans hr (Nat.le_add_right _ _))
     rw [ep_ TMut.dflt hlt]
     refine b4_ ?_
     simp only [a7_.turn12,a7_.step12,eM_,es_,mW_,ke_,cy_ hlt,cond_true,bB_,cf_ hlt,true_and,Int.toNat_natCast,hW,ad_ hD,am_,af_,ad_ hC,bO_,fR_]
     cases hq:(f9_ t (l.getD i TMut.dflt)).2.2
     · exact ⟨fun _=>rfl,fun h=>(by cases h)⟩
     · exact ⟨fun h=>(by cases h),fun _=>⟨by simp;omega,ih (i+1) _ _ (by omega) (by rw [←Nat.add_assoc];exact hn.1) (by simp;omega)⟩⟩
   exact d3_ (key l.length 0 s [] (by omega) hl (Nat.le_refl _))
 · exact ⟨fun _=>rfl,fun h=>(by cases h)⟩
theorem lx_ {c:Nat}:∀ {l:List TMut} {s:ar_} {o:List aT_} {k:Nat},e3_ (c+k) s→j3_ c l→(∀ x ∈ o,n6_ (c+k) x)→∀ p,fR_ s l o=some p→e3_ (c+k+l.length) p.1∧p.2.length=o.length+l.length∧∀ x ∈ p.2,n6_ (c+k+l.length) x
 |[],s,o,k,h,_,ho,p,e=>by cases e;exact ⟨h,rfl,ho⟩
 |m::r,s,o,k,h,hm,ho,p,e=>by
  unfold fR_ at e
  cases hq:(f9_ s m).2.2<;>rw [hq] at e
  · cases e
  · have hr:=hm m (List.mem_cons_self ..)
    have hn:=jE_ (m:=m) h (Nat.le_trans hr (Nat.le_add_right _ _))
    have:=lx_ (l:=r) (k:=k+1) (by rw [←Nat.add_assoc];exact hn.1) (fun x hx=>hm x (List.mem_cons_of_mem _ hx)) (fun x hx=>by
     rcases List.mem_append.1 hx with hx|hx
     · exact ⟨Nat.le_succ_of_le (ho x hx).1,Nat.le_succ_of_le (ho x hx).2⟩
     · rw [List.mem_singleton.1 hx];exact ⟨Nat.le_succ_of_le hn.2.1,Nat.le_succ_of_le hn.2.2⟩) p e
    simp only [List.length_append,List.length_cons,List.length_nil] at this ⊢
    refine ⟨this.1.upto (by omega),by omega,fun x hx=>⟨Nat.le_trans (this.2.2 x hx).1 (by omega),Nat.le_trans (this.2.2 x hx).2 (by omega)⟩⟩
theorem hG_ {c:Nat} {s:ar_} {l:List TMut} (h:e3_ c s) (hm:j3_ c l):e3_ (c+l.length) (eg_ s l).1∧(eg_ s l).2.1.length≤5∧∀ x ∈ (eg_ s l).2.1,n6_ (c+l.length) x:=by
 unfold eg_
 cases e1_ s
 · exact ⟨⟨Nat.zero_le _,Nat.zero_le _,fun x hx=>(by cases hx)⟩,Nat.zero_le _,fun x hx=>(by cases hx)⟩
 · cases h2:(inn (l.length:Int) 1 5 && !(s.version == 100000))
   · exact ⟨h.upto (Nat.le_add_right _ _),Nat.zero_le _,fun x hx=>(by cases hx)⟩
   · simp only [cond_true]
     cases hb:fR_ s l [] with
     |none=>exact ⟨h.upto (Nat.le_add_right _ _),Nat.zero_le _,fun x hx=>(by cases hx)⟩
     |some p=>
      have:=lx_ (c:=c) (k:=0) (o:=[]) h hm (fun x hx=>(by cases hx)) p hb
      rw [Bool.and_eq_true] at h2
      have h5:=gF_.1 h2.1
      simp only [Nat.add_zero,List.length_nil,Nat.zero_add] at this
      exact ⟨this.1,by show p.2.length≤5;omega,this.2.2⟩
end Go.Pi
end
section
namespace Go.Pi
structure QIn (q:av_):Prop where
 len:rC_ 1010 q
 show_:∀ x ∈ q.show_,0≤x∧x≤1000
theorem up1 {i:Nat} (h:i≤1000000):W ((i:Int)+1)=((i+1:Nat):Int):=by rw [Wn (by omega) (by omega)];rfl
theorem l9loop7 {K:Nat→aj_.K7} {P:av_ × ac_→Prop} {t6 t30 t40 t42 t43 t44 t46 t47 t48 t50 t52 t53 t54 t56 t57 t58} (hK:∀ c o,DwOk c→o.length≤3→Ans (fun n _=>K n t6 c.b c.i c.h t30 t40 t42 t43 t44 t46 t47 t48 t50 t52 t53 t54 t56 t57 t58 o) P) {c:ac_} (hc:DwOk c) :
  Ans (fun n _=>aj_.loop7 n (K n) n t6 0 c.b c.i c.h t30 t40 t42 t43 t44 t46 t47 t48 t50 t52 t53 t54 t56 t57 t58 []) P:=by
 have key:∀ (m i:Nat) (c:ac_) (o:List bJ_),i+m=3→DwOk c→o.length=i→Ans (fun n N=>aj_.loop7 n (K n) N t6 (i:Int) c.b c.i c.h t30 t40 t42 t43 t44 t46 t47 t48 t50 t52 t53 t54 t56 t57 t58 o) P:=by
  intro m
  induction m with
  |zero=>
   intro i c o hi hc ho
   refine cg_ ?_
   simp only [aj_.turn7,aj_.step7,cu_]
   refine ax_ (bc_ hc) fun r hr => ?_
   have h1:=hr.lo;have h2:=hr.hi
   rw [decide_eq_false (by omega)]
   simp only [cond_false]
   exact hK _ _ hr.cur (by omega)
  |succ m ih=>
   intro i c o hi hc ho
   refine cg_ ?_
   simp only [aj_.turn7,aj_.step7,cu_]
   refine ax_ (bc_ hc) fun r hr => ?_
   simp only [bh_]
   refine ⟨fun _=>ax_ (bc_ hr.cur) fun r2 h2=>ax_ (bc_ h2.cur) fun r3 h3=>ax_ (bc_ h3.cur) fun r4 h4 => ?_,fun _=>hK _ _ hr.cur (by omega)⟩
   simp only [d4_,up1 (show i≤1000000 by omega)]
   exact ⟨by simp;omega,ih (i+1) r4.2 _ (by omega) h4.cur (by simp;omega)⟩
 exact d0_ (key 3 0 c [] rfl hc rfl)
theorem l9loop16 {K:Nat→aj_.K16} {P:av_ × ac_→Prop} {t6 t30 t40 t42 t43 t44 t46 t47 t48 t50 t52 t53 t54 t56 t57 t58 t51} (h6:t6≤1000) (hK:∀ c o,DwOk c→o.length≤1000→(∀ x ∈ o,0≤x∧x≤1000)→Ans (fun n _=>K n c.b c.i c.h t30 t40 t42 t43 t44 t46 t47 t48 t50 t52 t53 t54 t56 t57 t58 t51 o) P) {c:ac_} (hc:DwOk c) :
  Ans (fun n _=>aj_.loop16 n (K n) n t6 0 c.b c.i c.h t30 t40 t42 t43 t44 t46 t47 t48 t50 t52 t53 t54 t56 t57 t58 t51 []) P:=by
 have key:∀ (m i:Nat) (c:ac_) (o:List Int),i+m=1000→DwOk c→o.length≤i→(∀ x ∈ o,0≤x∧x≤1000)→Ans (fun n N=>aj_.loop16 n (K n) N t6 (i:Int) c.b c.i c.h t30 t40 t42 t43 t44 t46 t47 t48 t50 t52 t53 t54 t56 t57 t58 t51 o) P:=by
  intro m
  induction m with
  |zero=>
   intro i c o hi hc ho hx
   refine cg_ ?_
   simp only [aj_.turn16,aj_.step16,cu_]
   rw [decide_eq_false (by omega)]
   simp only [cond_false]
   exact hK _ _ hc (by omega) hx
  |succ m ih=>
   intro i c o hi hc ho hx
   refine cg_ ?_
   simp only [aj_.turn16,aj_.step16,cu_,bh_]
   refine ⟨fun _=>ax_ (ez_ hc) fun r hr => ?_,fun _=>hK _ _ hc (by omega) hx⟩
   simp only [bh_,d4_,up1 (show i≤1000000 by omega)]
   refine ⟨fun _=>⟨by simp;omega,ih (i+1) r.2 _ (by omega) hr (by simp;omega) fun x hx' => ?_⟩,fun _=>ih (i+1) r.2 _ (by omega) hr (by omega) hx⟩
   rcases List.mem_append.1 hx' with h|h
   · exact hx x h
   · rw [List.mem_singleton.1 h];omega
 exact d0_ (key 1000 0 c [] rfl hc (Nat.le_refl _) fun x hx=>(by cases hx))
theorem hp_ {c:ac_} {s:aP_} (hc:DwOk c) (hs:∀ x ∈ s.cols,x≤1000):Ans (fun n _=>aj_ n c s) fun r=>QIn r.1∧DwOk r.2:=by
 have hg:∀ i,s.cols.getD i 0≤1000:=fun i=>by
  by_cases hi:i<s.cols.length
  · exact hs _ (bw_ _ hi)
  · rw [List.getD_eq_getElem?_getD,List.getElem?_eq_none (by omega)];decide
 have hm:∀ i,max (s.cols.getD i 0) 1≤1000:=fun i=>by have:=hg i;omega
 refine b5_ ?_
 simp only [aj_]
 repeat' (first
  |(rw [bf_ ix_])
  |(refine ax_ (bc_ (by assumption)) fun _ hd => ?_;obtain ⟨_,_,_⟩:=hd)
  |(refine ax_ (ez_ (by assumption)) fun _ _ => ?_)
  |(refine ax_ (ey_ (by assumption) (by simp)) fun _ hd => ?_;obtain ⟨_,_⟩:=hd)
  |(with_reducible refine bh_.2 ⟨fun _ => ?_,fun _ => ?_⟩)
  |(with_reducible refine do_.2 ⟨⟨?_,?_⟩,?_⟩)
  |(refine l9loop7 (fun _ _ _ _ => ?_) (by assumption))
  |(refine l9loop16 (by first|exact hm _|decide) (fun _ _ _ _ _ => ?_) (by assumption))
  |((with_reducible refine aD_.2 ?_);refine ⟨⟨⟨?_,?_⟩,?_⟩,?_⟩))
 all_goals (first|assumption|(simp only [decide_eq_true_eq] at *;assumption)|(refine Nat.le_trans ?_ (show 3≤1010 by decide);assumption)|(refine Nat.le_trans ?_ (show 1000≤1010 by decide);assumption))
theorem m5_ {k:Nat} {c:ac_} {s:ar_} (hc:DwOk c) (hs:StIn k s):Ans (fun n _=>c7_ n c s) fun r=>r.1.row.cells.length≤1000∧DwOk r.2:=by
 refine b5_ ?_
 simp only [c7_]
 repeat' (first
  |(rw [bf_ ix_])
  |(refine ax_ (bc_ (by assumption)) fun _ hd => ?_;obtain ⟨_,_,_⟩:=hd)
  |(refine ax_ (ez_ (by assumption)) fun _ _ => ?_)
  |(refine ax_ (ey_ (by assumption) (by simp)) fun _ hd => ?_;obtain ⟨_,_⟩:=hd)
  |(refine ax_ (iM_ (by assumption) (hs.getD _)) fun _ hd => ?_;obtain ⟨_,_⟩:=hd)
  |(with_reducible refine bh_.2 ⟨fun _ => ?_,fun _ => ?_⟩)
  |(with_reducible refine do_.2 ⟨⟨?_,?_⟩,?_⟩)
  |(with_reducible refine aD_.2 ⟨?_,by assumption⟩))
 all_goals (first|assumption|exact Nat.zero_le _|(simp only [decide_eq_true_eq,decide_eq_false_iff_not] at *;omega))
theorem FMutDo_in {k:Nat} {s:ar_} {m:TMut} (h:StIn k s) (hr:m.row.cells.length≤k):StIn (k+1) (f9_ s m).1:=by
 refine ⟨(jE_ h.len hr).1,?_⟩
 unfold f9_
 cases e1_ s
 · exact fun x hx=>(by cases hx)
 · cases (i5_ s.schema m&&pO_ s m)<;>exact h.col
theorem lw_ {k:Nat} {s:ar_} {l:List TMut} (h:StIn k s) (hm:j3_ k l):StIn (k+l.length) (eg_ s l).1:=by
 refine ⟨(hG_ h.len hm).1,?_⟩
 unfold eg_
 cases e1_ s
 · exact fun x hx=>(by cases hx)
 · cases (inn (l.length:Int) 1 5 && !(s.version == 100000))
   · exact h.col
   · have key:∀ (l:List TMut) (t:ar_) (o:List aT_),(∀ x ∈ t.schema.cols,x≤1000)→∀ p,fR_ t l o=some p→∀ x ∈ p.1.schema.cols,x≤1000:=by
      intro l
      induction l with
      |nil=>intro t o ht p e;cases e;exact ht
      |cons m r ih=>
       intro t o ht p e
       unfold fR_ at e
       cases hq:(f9_ t m).2.2<;>rw [hq] at e
       · cases e
       · refine ih _ _ ?_ p e
         unfold f9_
         cases e1_ t
         · exact fun x hx=>(by cases hx)
         · cases (i5_ t.schema m&&pO_ t m)<;>exact ht
     simp only [cond_true]
     cases hb:fR_ s l [] with
     |none=>exact h.col
     |some p=>exact key l s [] h.col p hb
theorem hr_ {k:Nat} {c:ac_} {s:ar_} (hc:DwOk c) (hs:StIn k s) (hk:1000≤k) (hk2:k≤90000):Ans (fun n _=>aw_ n c s) fun r=>r.1.length≤3∧j3_ 1000 r.1∧DwOk r.2:=by
 have key:∀ (m i:Nat) (c:ac_) (s:ar_) (o:List TMut),i+m=3→DwOk c→StIn (k+i) s→o.length≤i→j3_ 1000 o →
   Ans (fun n N=>aw_.loop5 n (fun xy14 xy15 xy16 xy17=>(some (xy17,(ac_.mk xy14 xy15 xy16)))) N (i:Int) c.b c.i c.h s.schema.cols s.version s.tables o) fun r=>r.1.length≤3∧j3_ 1000 r.1∧DwOk r.2:=by
  intro m
  induction m with
  |zero=>
   intro i c s o hi hc hs ho hm
   refine cg_ ?_
   simp only [aw_.turn5,aw_.step5,cu_]
   refine ax_ (bc_ hc) fun r hr => ?_
   have h1:=hr.lo;have h2:=hr.hi
   rw [Wn (x:=1+r.1) (by omega) (by omega),decide_eq_false (by omega)]
   simp only [cond_false,cu_,aD_]
   exact ⟨by omega,hm,hr.cur⟩
  |succ m ih=>
   intro i c s o hi hc hs ho hm
   refine cg_ ?_
   simp only [aw_.turn5,aw_.step5,cu_]
   refine ax_ (bc_ hc) fun r hr => ?_
   simp only [bh_,cu_,aD_,eM_,es_]
   refine ⟨fun _=>ax_ (m5_ hr.cur hs) fun r2 h2 => ?_,fun _=>⟨by omega,hm,hr.cur⟩⟩
   have hD:=iB_ (s:=s) (m:=r2.1) (hs.len.upto (by simp only [eR_];omega)) (Nat.le_trans h2.1 (by decide))
   have hn:=FMutDo_in (m:=r2.1) hs (Nat.le_trans h2.1 (by omega))
   have hm2:j3_ 1000 (o++[r2.1]):=fun x hx=>by
    rcases List.mem_append.1 hx with h|h
    · exact hm x h
    · rw [List.mem_singleton.1 h];exact h2.1
   have e1:=up1 (show i≤1000000 by omega)
   have hnow:StIn (k+(i+1)) s:=hs.upto (by omega)
   have hgo:∀ (t:ar_) (c:ac_) (q:List TMut),StIn (k+(i+1)) t→DwOk c→q.length≤i+1→j3_ 1000 q→Ans (fun n N=>aw_.loop5 n (fun xy14 xy15 xy16 xy17=>(some (xy17,(ac_.mk xy14 xy15 xy16)))) N ((i+1:Nat):Int) c.b c.i c.h t.schema.cols t.version t.tables q) fun r=>r.1.length≤3∧j3_ 1000 r.1∧DwOk r.2:=fun t c q h1 h2 h3 h4=>ih (i+1) c t q (by omega) h2 h1 h3 h4
   simp only [aw_.tail9,eM_,es_,mW_,ke_,bf_ hD,e1,cu_]
   repeat' (first
    |(with_reducible refine bh_.2 ⟨fun _ => ?_,fun _ => ?_⟩)
    |(refine ax_ (ez_ h2.2) fun r3 h3 => ?_)
    |(with_reducible refine d4_.2 ⟨by simp;omega,?_⟩))
   all_goals (first
    |exact hgo _ _ _ hn h2.2 (by simp;omega) hm2
    |exact hgo _ _ _ hn (by assumption) (by simp;omega) hm2
    |exact hgo _ _ _ hn (by assumption) (by omega) hm
    |exact hgo s _ _ hnow h2.2 (by simp;omega) hm2
    |exact hgo s _ _ hnow (by assumption) (by simp;omega) hm2
    |exact hgo s _ _ hnow (by assumption) (by omega) hm)
 refine b5_ ?_
 simp only [aw_]
 exact d0_ (key 3 0 c s [] rfl hc hs (Nat.le_refl _) fun x hx=>(by cases hx))
end Go.Pi
end
section
namespace Go.Pi
def FPut (q:av_) (rows:List TRow) (r:TRow):List TRow:=rows.take (rows.findIdx (fun x=>g5_ q r x))++[r]++rows.drop (rows.findIdx (fun x=>g5_ q r x))
theorem take_mid {α:Type} (d:α) {a m:List α} {i p:Nat} (hi:i<a.length) (h:p≤i):a.take p++m++(a.take (i+1)).drop p=a.take p++m++(a.take i).drop p++[a.getD i d]:=by
 rw [cP_ d hi,List.drop_append_of_le_length (by simp;omega)]
 simp
theorem ahead_idx {q:av_} {r:TRow} {rows:List TRow} {i:Nat} (hi:i<rows.length) (hle:i≤rows.findIdx (fun x=>g5_ q r x)):g5_ q r (rows.getD i TRow.dflt)=decide (i=rows.findIdx (fun x=>g5_ q r x)):=by
 rw [List.getD_eq_getElem?_getD,List.getElem?_eq_getElem hi,Option.getD_some]
 by_cases h:i=rows.findIdx (fun x=>g5_ q r x)
 · rw [decide_eq_true h]
   have:=List.findIdx_getElem (xs:=rows) (p:=fun x=>g5_ q r x) (w:=by omega)
   simp only [←h] at this
   exact this
 · rw [decide_eq_false h]
   have:=List.not_of_lt_findIdx (xs:=rows) (p:=fun x=>g5_ q r x) (i:=i) (by omega)
   simpa using this
theorem gb_ {q:av_} {rows:List TRow} {r:TRow} (h:gD_ eR_ rows) (hr:r.cells.length≤eR_):Ev (fun n _=>bE_ n q rows r) (FPut q rows r):=by
 refine au_ ?_
 have hl:=h.1
 simp only [eR_] at hl
 have ht:rows.length≤bV_:=by simp only [bV_];omega
 have hrt:r.cells.length≤bV_:=by simp only [bV_];simp only [eR_] at hr;omega
 simp only [bE_]
 have e0:∀ r:TRow,TRow.mk r.id_ r.cells=r:=fun _=>rfl
 have hA:∀ (x:TRow) (g:Nat→Nat→Bool→Option (List TRow)) (v:List TRow),x.cells.length≤bV_→(Ev (fun n N=>(ed_ n (av_.mk q.table q.where_ q.order q.down q.first q.show_ q.kids q.kidTable q.kidCol) r x).bind (g n N)) v↔Ev (fun n N=>g n N (g5_ q r x)) v):=fun x g v hx=>ad_ (mG_ hrt hx)
 obtain ⟨p,hp⟩:∃ p,p=rows.findIdx (fun x=>g5_ q r x):=⟨_,rfl⟩
 have hpl:p≤rows.length:=by rw [hp];exact List.findIdx_le_length
 let S:Nat→Bool × List TRow:=fun i=>if i≤p then (false,rows.take i) else (true,rows.take p++[r]++(rows.take i).drop p)
 have hS0:S 0=(false,[]):=by simp [S]
 have:=eo_ S rows.length (fun n N i (s:Bool × List TRow)=>bE_.loop5 n (fun xy3 xy4 xy5 xy6=>(cond (!xy3) ((cc_ n (TRow.mk xy4 xy5)).bind fun xr7=>(bq_ (xy6.length+([xr7]:List TRow).length) 32 (some (xy6++([xr7]:List TRow))))) (some xy6))) N rows s.1 (i:Int) q.table q.where_ q.order q.down q.first q.show_ q.kids q.kidTable q.kidCol r.id_ r.cells s.2) (FPut q rows r) (fun i hi F hF => ?_) ?_
 · rw [hS0] at this;exact this
 · simp only [bE_.turn5,bE_.step5,Int.toNat_natCast,W_up hi ht,e0]
   have hx:=ahead_idx (q:=q) (r:=r) hi
   rw [←hp] at hx
   have hlt:(S i).2.length≤rows.length+1:=by simp only [S];split<;>simp<;>omega
   simp only [am_,bB_,hA _ _ _ (hS_ (rows:=rows) ⟨ht,fun x hx=>by have:=h.2 x hx;simp only [eR_] at this;simp only [bV_];omega⟩ i),f3_ hr,bO_,cy_ hi,cf_ hi]
   refine ⟨fun _=>⟨fun hn=>⟨trivial,fun ha=>⟨by simp;omega,trivial,by simp;omega,?_⟩,fun ha=>⟨trivial,by simp;omega,?_⟩⟩,fun hn=>⟨trivial,by simp;omega,?_⟩⟩,fun h=>by cases h⟩
   all_goals (by_cases hle:i≤p)
   · have e:i=p:=by rw [hx hle] at ha;exact of_decide_eq_true ha
     subst e
     simp only [S,if_neg (show ¬ i+1≤i by omega),if_pos (Nat.le_refl i),cP_ TRow.dflt hi,List.drop_append_of_le_length (show i≤(rows.take i).length by simp;omega),List.drop_eq_nil_of_le (show (rows.take i).length≤i by simp;omega),List.nil_append] at hF ⊢
     exact hF
   · simp only [S,if_neg hle] at hn;cases hn
   · have e:i≠p:=by rw [hx hle] at ha;exact of_decide_eq_false ha
     simp only [S,if_pos hle,if_pos (show i+1≤p by omega),cP_ TRow.dflt hi] at hF ⊢
     exact hF
   · simp only [S,if_neg hle] at hn;cases hn
   · simp only [S,if_pos hle] at hn;cases hn
   · simp only [S,if_neg hle,if_neg (show ¬ i+1≤p by omega),take_mid TRow.dflt hi (show p≤i by omega)] at hF ⊢
     exact hF
 · simp only [bE_.turn5,bE_.step5,ca_,cond_false,e0,am_,f3_ hr,bO_,af_]
   unfold FPut
   rw [←hp]
   by_cases hle:rows.length≤p
   · have e:rows.length=p:=by omega
     simp only [S,if_pos hle,←e]
     simp;omega
   · simp only [S,if_neg hle]
     simp
end Go.Pi
end
section
namespace Go.Pi
def f4_ (kids:List TKid) (id:Int):Nat:=kids.findIdx (fun k=>decide (k.id_≥id))
def oc_ (k:TKid) (id by_:Int):List TKid :=
 cond (k.id_ == id) (cond (decide (W (k.n_+by_) > 0)) [TKid.mk id (W (k.n_+by_))] []) (cond (decide (by_ > 0)) [TKid.mk id by_,k] [k])
def FKid (kids:List TKid) (id by_:Int):List TKid :=
 cond (decide (f4_ kids id<kids.length)) (kids.take (f4_ kids id)++oc_ (kids.getD (f4_ kids id) TKid.dflt) id by_++kids.drop (f4_ kids id+1)) (cond (decide (by_ > 0)) (kids++[TKid.mk id by_]) kids)
theorem kid_idx {kids:List TKid} {id:Int} {i:Nat} (hi:i<kids.length) (hle:i≤f4_ kids id):((kids.getD i TKid.dflt).id_≥id↔i=f4_ kids id)∧((kids.getD i TKid.dflt).id_<id↔i≠f4_ kids id):=by
 have key:(kids.getD i TKid.dflt).id_≥id↔i=f4_ kids id:=by
  rw [List.getD_eq_getElem?_getD,List.getElem?_eq_getElem hi,Option.getD_some]
  unfold f4_ at hle ⊢
  constructor
  · intro h
    refine Classical.byContradiction fun hne => ?_
    have:=List.not_of_lt_findIdx (xs:=kids) (p:=fun k=>decide (k.id_≥id)) (i:=i) (by omega)
    rw [decide_eq_true h] at this;cases this
  · intro h
    have:=List.findIdx_getElem (xs:=kids) (p:=fun k=>decide (k.id_≥id)) (w:=by omega)
    simp only [←h] at this
    exact of_decide_eq_true this
 exact ⟨key,fun h e=>by have:=key.2 e;omega,fun h=>by have:=fun g=>h (key.1 g);omega⟩
theorem jl_ (k:TKid) (id by_:Int):(oc_ k id by_).length≤2:=by
 unfold oc_
 cases (k.id_ == id)<;>simp only [cond_true,cond_false]
 · cases decide (by_ > 0)<;>simp
 · cases decide (W (k.n_+by_) > 0)<;>simp
theorem take_midK {a m:List TKid} {i p:Nat} (hi:i<a.length) (h:p+1≤i):a.take p++m++(a.take (i+1)).drop (p+1)=a.take p++m++(a.take i).drop (p+1)++[a.getD i TKid.dflt]:=by
 rw [cP_ TKid.dflt hi,List.drop_append_of_le_length (by simp;omega)]
 simp
theorem fc_ {kids:List TKid} {id by_:Int} (h:kids.length≤eR_):Ev (fun n _=>aN_ n kids id by_) (FKid kids id by_):=by
 refine au_ ?_
 have hl:=h
 simp only [eR_] at hl
 have ht:kids.length≤bV_:=by simp only [bV_];omega
 simp only [aN_]
 obtain ⟨p,hp⟩:∃ p,p=f4_ kids id:=⟨_,rfl⟩
 have hpl:p≤kids.length:=by rw [hp];exact List.findIdx_le_length
 obtain ⟨m,hm⟩:∃ m,m=oc_ (kids.getD p TKid.dflt) id by_:=⟨_,rfl⟩
 have hml:m.length≤2:=by rw [hm];exact jl_ _ _ _
 let S:Nat→Bool × List TKid:=fun i=>if i≤p then (false,kids.take i) else (true,kids.take p++m++(kids.take i).drop (p+1))
 have hS0:S 0=(false,[]):=by simp [S]
 have:=eo_ S kids.length (fun n N i (s:Bool × List TKid)=>aN_.loop5 n (fun xy1 xy2 xy3 xy4=>(cond (!xy3) (cond (decide (xy2 > 0)) (bq_ (xy4.length+([(TKid.mk xy1 xy2)]:List TKid).length) 16 (some (xy4++([(TKid.mk xy1 xy2)]:List TKid)))) (some xy4)) (some xy4))) N kids id by_ s.1 (i:Int) s.2) (FKid kids id by_) (fun i hi F hF => ?_) ?_
 · rw [hS0] at this;exact this
 · have hx:=kid_idx (kids:=kids) (id:=id) hi
   rw [←hp] at hx
   have hlt:(S i).2.length≤kids.length+2:=by simp only [S];split<;>simp<;>omega
   obtain ⟨k,hk⟩:∃ k,k=kids.getD i TKid.dflt:=⟨_,rfl⟩
   simp only [aN_.turn5,aN_.step5,Int.toNat_natCast,W_up hi ht,am_,bB_,bO_,cy_ hi,cf_ hi,←hk]
   refine ⟨fun _=>⟨trivial,?_⟩,fun h=>by cases h⟩
   by_cases hle:i≤p
   · have s1:S i=(false,kids.take i):=by simp only [S,if_pos hle]
     rw [s1] at hlt ⊢
     by_cases e:i=p
     · have hge:k.id_≥id:=by rw [hk];exact (hx hle).1.2 e
       subst e
       have s2:S (i+1)=(true,kids.take i++m):=by
        simp only [S,if_neg (show ¬ i+1≤i by omega)]
        rw [List.drop_eq_nil_of_le (by simp;omega),List.append_nil]
       rw [s2,hm,←hk] at hF
       unfold oc_ at hF
       simp only [hge,decide_true,Bool.not_false,cond_true] at hF ⊢
       cases h1:(k.id_ == id)<;>cases h2:decide (by_ > 0)<;>cases h3:decide (W (k.n_+by_) > 0)<;>simp only [h1,h2,h3,cond_true,cond_false] at hF ⊢
       all_goals (repeat' (first|apply And.intro|intro _))
       all_goals (first|contradiction|exact hF|(simpa using hF)|(simp;omega))
     · have hlt2:¬ k.id_≥id:=by rw [hk];exact fun h=>e ((hx hle).1.1 h)
       have s2:S (i+1)=(false,kids.take i++[k]):=by
        simp only [S,if_pos (show i+1≤p by omega),hk,cP_ TKid.dflt hi]
       rw [s2] at hF
       simp only [hlt2,decide_false]
       repeat' (first|apply And.intro|intro _)
       all_goals (first|contradiction|exact hF|(simpa using hF)|(simp;omega))
   · have s1:S i=(true,kids.take p++m++(kids.take i).drop (p+1)):=by simp only [S,if_neg hle]
     have s2:S (i+1)=(true,kids.take p++m++(kids.take i).drop (p+1)++[k]):=by
      simp only [S,if_neg (show ¬ i+1≤p by omega),hk]
      rw [take_midK hi (by omega)]
     rw [s1] at hlt ⊢
     rw [s2] at hF
     repeat' (first|apply And.intro|intro _)
     all_goals (first|contradiction|exact hF|(simp at hlt ⊢;omega))
 · simp only [aN_.turn5,aN_.step5,ca_,cond_false,am_,bO_,af_]
   unfold FKid
   rw [←hp,←hm]
   by_cases hle:kids.length≤p
   · have e:p=kids.length:=by omega
     have s1:S kids.length=(false,kids):=by simp only [S,if_pos hle,List.take_length]
     rw [s1,decide_eq_false (show ¬ p<kids.length by omega)]
     simp only [cond_false]
     refine ⟨fun _=>⟨fun h=>⟨by simp;omega,by rw [h];rfl⟩,fun h=>by rw [h];rfl⟩,fun h=>by cases h⟩
   · have s1:S kids.length=(true,kids.take p++m++kids.drop (p+1)):=by simp only [S,if_neg hle,List.take_length]
     rw [s1,decide_eq_true (show p<kids.length by omega)]
     exact ⟨fun h=>(by cases h),fun _=>rfl⟩
end Go.Pi
end
section
namespace Go.Pi
theorem jj_.upto {c d:Nat} {v:a8_} (h:jj_ c v) (hc:c≤d):jj_ d v:=⟨⟨Nat.le_trans h.1.1 hc,Nat.le_trans h.1.2 hc⟩,h.2.1.upto hc,Nat.le_trans h.2.2 hc⟩
section
variable {β:Type}
theorem qi_ {q:av_} (h:rC_ eR_ q) {g:Nat→Nat→av_→Option β} {v:β}:Ev (fun n N=>(dT_ n q).bind (g n N)) v↔Ev (fun n N=>g n N q) v :=
 ad_ (au_ (by have h1:=h.1;have h2:=h.2;simp only [eR_] at h1 h2;simp only [dT_,bO_,af_,List.nil_append,and_true,List.length_nil];omega))
theorem hs_ {x:a8_} (h:jj_ eR_ x) {g:Nat→Nat→a8_→Option β} {v:β}:Ev (fun n N=>(cB_ n x).bind (g n N)) v↔Ev (fun n N=>g n N x) v :=
 ad_ (au_ (by have h1:=h.2.2;simp only [eR_] at h1;simp only [cB_,qi_ h.1,ad_ (n9_ h.2.1),bO_,af_,List.nil_append,and_true,List.length_nil];omega))
theorem ob_ {x:b3_} (h:lenS eR_ x) {g:Nat→Nat→b3_→Option β} {v:β}:Ev (fun n N=>(ds_ n x).bind (g n N)) v↔Ev (fun n N=>g n N x) v :=
 ad_ (au_ (by simp only [ds_,hs_ h.1,hs_ h.2,af_]))
end
def qK_ (v:a8_) (c:aT_):List TRow :=
 cond (c.table == v.q.table) (cond (c.has&&fD_ v.q c.new) (FPut v.q (cond c.had (i7_ v.rows c.old.id_) v.rows) c.new) (cond c.had (i7_ v.rows c.old.id_) v.rows)) v.rows
def qL_ (v:a8_) (c:aT_):List TKid :=
 cond (v.q.kids&&(c.table == v.q.kidTable)) (cond c.has (FKid (cond c.had (FKid v.kids (fQ_ c.old v.q.kidCol) (-1)) v.kids) (fQ_ c.new v.q.kidCol) 1) (cond c.had (FKid v.kids (fQ_ c.old v.q.kidCol) (-1)) v.kids)) v.kids
def jF_ (v:a8_) (c:aT_):a8_:=⟨v.q,qK_ v c,qL_ v c⟩
theorem km_ {c:Nat} {q:av_} {rows:List TRow} {r:TRow} (h:gD_ c rows) (hr:r.cells.length≤c):gD_ (c+1) (FPut q rows r):=by
 unfold FPut
 refine ⟨by have:=h.1;simp;omega,fun x hx => ?_⟩
 rcases List.mem_append.1 hx with hx|hx
 · rcases List.mem_append.1 hx with hx|hx
   · exact Nat.le_succ_of_le (h.2 x (List.mem_of_mem_take hx))
   · rw [List.mem_singleton.1 hx];omega
 · exact Nat.le_succ_of_le (h.2 x (List.mem_of_mem_drop hx))
theorem ko_ {kids:List TKid} {id by_:Int}:(FKid kids id by_).length≤kids.length+1:=by
 unfold FKid
 have:=jl_ (kids.getD (f4_ kids id) TKid.dflt) id by_
 by_cases h:f4_ kids id<kids.length
 · rw [decide_eq_true h,cond_true];simp only [List.length_append,List.length_take,List.length_drop];omega
 · rw [decide_eq_false h];cases decide (by_ > 0)<;>simp
theorem iy_ {c:Nat} {v:a8_} {x:aT_} (h:jj_ c v) (hx:n6_ c x) (hc:c+1≤eR_):Ev (fun n _=>cX_ n v x) (jF_ v x):=by
 refine au_ ?_
 have hv:=h.upto (show c≤eR_ by omega)
 have hd:=lu_ (id:=x.old.id_) hv.2.1
 have hr:x.new.cells.length≤eR_:=by have:=hx.2;omega
 have hk:=hv.2.2
 have hk2:∀ id b,(FKid v.kids id b).length≤eR_:=fun id b=>by have:=ko_ (kids:=v.kids) (id:=id) (by_:=b);have:=h.2.2;omega
 simp only [cX_,hs_ hv,am_,ad_ (fG_ (id:=x.old.id_) hv.2.1),ad_ (hf_ (q:=v.q) (r:=x.new) (gw_ hv.1.1 (Nat.le_refl _)) (gw_ hr (Nat.le_refl _))),ad_ (gb_ (q:=v.q) (r:=x.new) hd hr),ad_ (gb_ (q:=v.q) (r:=x.new) hv.2.1 hr),
  ad_ (eE_ (r:=x.old) (col:=v.q.kidCol) (gw_ hx.1 (by omega))),ad_ (eE_ (r:=x.new) (col:=v.q.kidCol) (gw_ hx.2 (by omega))),
  ad_ (fc_ (kids:=v.kids) (id:=fQ_ x.old v.q.kidCol) (by_:=-1) hk),ad_ (fc_ (kids:=v.kids) (id:=fQ_ x.new v.q.kidCol) (by_:=1) hk),ad_ (fc_ (id:=fQ_ x.new v.q.kidCol) (by_:=1) (hk2 (fQ_ x.old v.q.kidCol) (-1))),af_]
 unfold jF_ qK_ qL_
 cases h1:(x.table == v.q.table)<;>cases h2:x.had<;>cases h3:x.has<;>cases h4:fD_ v.q x.new<;>cases h5:v.q.kids<;>cases h6:(x.table == v.q.kidTable)<;>simp
end Go.Pi
end
section
namespace Go.Pi
def jB_ (q:av_) (o:List TRow) (rows:List TRow):List TRow:=rows.foldl (fun o r=>cond (fD_ q r) (FPut q o r) o) o
def FSQ (s:ar_) (q:av_):Bool:=e1_ s&&ia_ s.schema q
def gO_ (s:ar_) (q:av_):List TRow:=cond (FSQ s q) (jB_ q [] (s.tables.getD q.table.toNat [])) []
def iq_ (q:av_) (k:List TKid) (rows:List TRow):List TKid:=rows.foldl (fun k r=>FKid k (r.cells.getD q.kidCol.toNat 0) 1) k
def kn_ (s:ar_) (q:av_):List TKid:=cond q.kids (iq_ q [] (s.tables.getD q.kidTable.toNat [])) []
def zeroQ:av_:=av_.mk 0 [] 0 false 0 [] false 0 0
def qN_:a8_:=a8_.mk zeroQ [] []
def gi_ (s:ar_) (q:av_):a8_ × Bool:=cond (FSQ s q) (a8_.mk q (gO_ s q) (kn_ s q),true) (qN_,false)
theorem hL_ (q:av_):av_.mk q.table q.where_ q.order q.down q.first q.show_ q.kids q.kidTable q.kidCol=q:=rfl
structure SQ (s:ar_) (q:av_):Prop where
 tab:0≤q.table∧q.table<(s.tables.length:Int)
 kid:0≤q.kidTable∧q.kidTable<(s.tables.length:Int)
 col:q.kids=true→∀ r ∈ s.tables.getD q.kidTable.toNat [],0≤q.kidCol∧q.kidCol<(r.cells.length:Int)
theorem sq_of {s:ar_} {q:av_} (h:FSQ s q=true) (hc:s.schema.cols.length≤bV_) (hct:s.tables.length≤bV_) (hrl:∀ x ∈ s.tables,x.length≤bV_∧∀ r ∈ x,r.cells.length≤bV_):SQ s q:=by
 have e:=@W_dn s.schema.cols.length hc
 unfold FSQ at h
 rw [Bool.and_eq_true] at h
 obtain ⟨h1,h2⟩:=h
 unfold e1_ at h1
 simp only [Bool.and_eq_true] at h1
 have hl:s.tables.length=s.schema.cols.length:=of_decide_eq_true h1.2.2.1
 have hT:=h1.2.2.2
 unfold ia_ at h2
 simp only [Bool.and_eq_true] at h2
 have ht:=gF_.1 h2.2.1
 rw [e] at ht
 have hcl:1≤s.schema.cols.length:=by omega
 have hk:FKids s.schema q=true:=by
  have:=h2.2.2.2.2.2
  grind
 unfold FKids at hk
 cases hkk:q.kids<;>rw [hkk] at hk
 · simp only [cond_false,Bool.and_eq_true,beq_iff_eq] at hk
   exact ⟨by omega,by omega,fun h=>by rw [hkk] at h;cases h⟩
 · simp only [cond_true,Bool.and_eq_true] at hk
   have k1:=gF_.1 hk.1
   have k2:=gF_.1 hk.2
   rw [e] at k1
   refine ⟨by omega,by omega,fun _ r hr => ?_⟩
   have hi:q.kidTable.toNat<s.tables.length:=by omega
   have hrow:=fg_.1 hT q.kidTable.toNat hi
   unfold pL_ at hrow
   obtain ⟨j,hj,rfl⟩:=List.mem_iff_getElem.1 hr
   simp only [Bool.and_eq_true] at hrow
   have hf:FRow s.schema (q.kidTable.toNat:Int) ((s.tables.getD q.kidTable.toNat []).getD j TRow.dflt)=true:=by
    have:=fg_.1 hrow.1 j hj
    simp only [Bool.and_eq_true] at this
    exact this.1
   unfold FRow at hf
   simp only [Bool.and_eq_true] at hf
   have hlen:=of_decide_eq_true hf.2.2.2.1
   rw [List.getD_eq_getElem?_getD,List.getElem?_eq_getElem hj,Option.getD_some,Int.toNat_natCast] at hlen
   have hle:((s.tables.getD q.kidTable.toNat [])[j]).cells.length≤bV_:=(hrl _ (bw_ _ hi)).2 _ hr
   rw [←hlen,W_dn hle] at k2
   omega
theorem lp_ {c:Nat} {q:av_}:∀ {rows o:List TRow} {k:Nat},gD_ (c+k) o→(∀ r ∈ rows,r.cells.length≤c)→gD_ (c+k+rows.length) (jB_ q o rows)
 |[],o,k,h,_=>h
 |r::rows,o,k,h,hr=>by
  have h1:=hr r (List.mem_cons_self ..)
  have h2:gD_ (c+(k+1)) (cond (fD_ q r) (FPut q o r) o):=by
   cases fD_ q r
   · exact h.upto (by omega)
   · exact km_ h (Nat.le_trans h1 (Nat.le_add_right _ _))
  have:=lp_ (q:=q) (rows:=rows) h2 fun x hx=>hr x (List.mem_cons_of_mem _ hx)
  exact this.upto (by simp;omega)
theorem oR_ {kids:List TKid} {id by_:Int}:(FKid kids id by_).length≤kids.length+1:=by
 have:=jl_ (kids.getD (f4_ kids id) TKid.dflt) id by_
 unfold FKid
 cases h:decide (f4_ kids id<kids.length)
 · cases decide (by_ > 0)<;>simp
 · have:=of_decide_eq_true h
   simp only [cond_true,List.length_append,List.length_take,List.length_drop];omega
theorem lr_ {q:av_}:∀ {rows:List TRow} {k:List TKid},(iq_ q k rows).length≤k.length+rows.length
 |[],k=>Nat.le_refl _
 |r::rows,k=>by
  have h1:=oR_ (kids:=k) (id:=r.cells.getD q.kidCol.toNat 0) (by_:=1)
  have h2:=lr_ (q:=q) (rows:=rows) (k:=FKid k (r.cells.getD q.kidCol.toNat 0) 1)
  show (iq_ q _ rows).length≤_
  simp only [List.length_cons];omega
section
variable {s:ar_} {q:av_} {c:Nat} (hl:e3_ c s) (hq:rC_ 100000 q) (hc:c≤100000)
include hl hq hc
theorem kB_:Ev (fun n _=>bv_ n s q) (gO_ s q):=by
 have hs:s.schema.cols.length≤bV_:=gw_ (Nat.le_trans hl.1 hc) (by decide)
 have hL:e3_ bV_ s:=hl.upto (Nat.le_trans hc (by decide))
 have hqT:rC_ bV_ q:=⟨Nat.le_trans hq.1 (by decide),Nat.le_trans hq.2 (by decide)⟩
 refine au_ ?_
 simp only [bv_,ad_ (eU_ hL),ad_ (he_ hs hqT),am_,af_,bB_]
 unfold gO_ FSQ
 cases h1:e1_ s
 · exact ⟨fun _=>rfl,fun h=>(by cases h)⟩
 refine ⟨fun h=>(by cases h),fun _ => ?_⟩
 cases h2:ia_ s.schema q
 · exact ⟨fun _=>rfl,fun h=>(by cases h)⟩
 refine ⟨fun h=>(by cases h),fun _ => ?_⟩
 have hS:=sq_of (s:=s) (q:=q) (by unfold FSQ;rw [h1,h2];rfl) hs hL.2.1 hL.2.2
 refine ⟨hS.tab,?_⟩
 have hT:gD_ c (s.tables.getD q.table.toNat []):=fk_ hl.2.2 _
 simp only [Bool.and_self,cond_true]
 generalize s.tables.getD q.table.toNat []=rows at hT ⊢
 have key:∀ (m i:Nat) (o:List TRow),i+m=rows.length→gD_ (c+i) o→Ev (fun n N=>bv_.loop8 n (fun xy5=>(some xy5)) N rows (i:Int) q.table q.where_ q.order q.down q.first q.show_ q.kids q.kidTable q.kidCol o) (jB_ q o (rows.drop i)):=by
  intro m
  induction m with
  |zero=>
   intro i o hi ho
   have e:i=rows.length:=by omega
   subst e
   refine b4_ ?_
   simp only [bv_.turn8,bv_.step8,ca_,cond_false,af_,List.drop_length,jB_,List.foldl_nil]
  |succ m ih=>
   intro i o hi ho
   have hlt:i<rows.length:=by omega
   have h1:=hT.1
   have hr:=hT.2 _ (bw_ TRow.dflt hlt)
   have hM:=hf_ (q:=q) (r:=rows.getD i TRow.dflt) hqT.1 (by simp only [bV_];omega)
   have hP:=gb_ (q:=q) (rows:=o) (r:=rows.getD i TRow.dflt) (ho.upto (by simp only [eR_];omega)) (by simp only [eR_];omega)
   have hW:=W_up hlt (show rows.length≤bV_ by simp only [bV_];omega)
   have e1:jB_ q o (rows.drop i)=jB_ q (cond (fD_ q (rows.getD i TRow.dflt)) (FPut q o (rows.getD i TRow.dflt)) o) (rows.drop (i+1)):=by rw [ep_ TRow.dflt hlt];rfl
   rw [e1]
   refine b4_ ?_
   simp only [bv_.turn8,bv_.step8,hL_,cy_ hlt,cond_true,bB_,cf_ hlt,true_and,Int.toNat_natCast,hW,ad_ hM,ad_ hP,am_]
   cases hf:fD_ q (rows.getD i TRow.dflt)
   · exact ⟨fun h=>(by cases h),fun _=>ih (i+1) _ (by omega) (ho.upto (by omega))⟩
   · exact ⟨fun _=>ih (i+1) _ (by omega) (km_ ho (Nat.le_trans hr (Nat.le_add_right _ _))),fun h=>(by cases h)⟩
 exact d3_ (key rows.length 0 [] (by omega) ⟨Nat.zero_le _,fun x hx=>(by cases hx)⟩)
theorem lE_:Ev (fun n _=>bL_ n s q) (gi_ s q):=by
 have hs:s.schema.cols.length≤bV_:=gw_ (Nat.le_trans hl.1 hc) (by decide)
 have hL:e3_ bV_ s:=hl.upto (Nat.le_trans hc (by decide))
 have hR:=kB_ hl hq hc
 have hqT:rC_ bV_ q:=⟨Nat.le_trans hq.1 (by decide),Nat.le_trans hq.2 (by decide)⟩
 refine au_ ?_
 simp only [bL_,ad_ (eU_ hL),ad_ (he_ hs hqT),am_,af_]
 unfold gi_
 have e0:FSQ s q=(e1_ s&&ia_ s.schema q):=rfl
 cases h1:e1_ s
 · rw [e0,h1];exact ⟨fun _=>rfl,fun h=>(by cases h)⟩
 refine ⟨fun h=>(by cases h),fun _ => ?_⟩
 cases h2:ia_ s.schema q
 · rw [e0,h1,h2];exact ⟨fun _=>rfl,fun h=>(by cases h)⟩
 refine ⟨fun h=>(by cases h),fun _ => ?_⟩
 have hS:=sq_of (s:=s) (q:=q) (by rw [e0,h1,h2];rfl) hs hL.2.1 hL.2.2
 have hqR:rC_ eR_ q:=⟨Nat.le_trans hq.1 (by decide),Nat.le_trans hq.2 (by decide)⟩
 rw [e0,h1,h2]
 simp only [qi_ hqR,ad_ hR,bB_,Bool.and_self,cond_true]
 refine ⟨hS.kid,?_⟩
 have hT:gD_ c (s.tables.getD q.kidTable.toNat []):=fk_ hl.2.2 _
 have hcol:=hS.col
 unfold kn_
 generalize s.tables.getD q.kidTable.toNat []=rows at hT hcol ⊢
 have key:∀ (m i:Nat) (k:List TKid),i+m=rows.length→k.length≤i→Ev (fun n N=>bL_.loop8 n (fun xy6 xy7 xy8 xy9 xy10 xy11 xy12 xy13 xy14 xy15 xy16 xy17 xy18 xy19 xy20 xy21 xy22 xy23=>(some ((a8_.mk (av_.mk xy13 xy20 xy14 xy15 xy16 xy21 xy17 xy18 xy19) xy22 xy23),true))) N rows (i:Int) q.table q.where_ q.order q.down q.first q.show_ q.kids q.kidTable q.kidCol 0 0 false 0 false 0 0 q.table q.order q.down q.first q.kids q.kidTable q.kidCol q.where_ q.show_ (gO_ s q) k) (a8_.mk q (gO_ s q) (cond q.kids (iq_ q k (rows.drop i)) k),true):=by
  intro m
  induction m with
  |zero=>
   intro i k hi ho
   have e:i=rows.length:=by omega
   subst e
   refine b4_ ?_
   simp only [bL_.turn8,bL_.step8,ca_,cond_false,af_,List.drop_length,iq_,List.foldl_nil]
   have e:(cond q.kids k k)=k:=by cases q.kids<;>rfl
   rw [e]
  |succ m ih=>
   intro i k hi ho
   have hlt:i<rows.length:=by omega
   have h1:=hT.1
   have hP:=fc_ (kids:=k) (id:=(rows.getD i TRow.dflt).cells.getD q.kidCol.toNat 0) (by_:=1) (by simp only [eR_];omega)
   have hW:=W_up hlt (show rows.length≤bV_ by simp only [bV_];omega)
   have hn:=oR_ (kids:=k) (id:=(rows.getD i TRow.dflt).cells.getD q.kidCol.toNat 0) (by_:=1)
   have e1:iq_ q k (rows.drop i)=iq_ q (FKid k ((rows.getD i TRow.dflt).cells.getD q.kidCol.toNat 0) 1) (rows.drop (i+1)):=by rw [ep_ TRow.dflt hlt];rfl
   refine b4_ ?_
   simp only [bL_.turn8,bL_.step8,hL_,cy_ hlt,cond_true,bB_,cf_ hlt,true_and,Int.toNat_natCast,hW,ad_ hP,am_,af_]
   cases hk:q.kids
   · exact ⟨fun h=>(by cases h),fun _=>rfl⟩
   · refine ⟨fun _=>⟨hcol hk _ (bw_ TRow.dflt hlt),?_⟩,fun h=>(by cases h)⟩
     have:=ih (i+1) (FKid k ((rows.getD i TRow.dflt).cells.getD q.kidCol.toNat 0) 1) (by omega) (by omega)
     rw [hk] at this
     simp only [cond_true,e1] at this ⊢
     exact this
 exact d3_ (key rows.length 0 [] (by omega) (Nat.le_refl _))
end
end Go.Pi
end
section
namespace Go.Pi
theorem aW_ (j:aa_):aa_.re j=j:=by cases j;rfl
def i0_ (s:Bs):Bool:=hY_ (fun i=>inn ((s.getD i 0).toNat:Int) 32 126) s.length&&decide ((s.length:Int)≤60)
theorem byte_W (b:UInt8):W ((b.toNat:Int))=(b.toNat:Int):=W_id (by omega) (by have:=b.toNat_lt;omega)
theorem ga_ {s:Bs} (hs:s.length≤bV_):Ev (fun n _=>bP_ n s) (i0_ s):=by
 refine au_ ?_
 simp only [bP_]
 refine eG_ (fun n N i=>bP_.loop3 n (fun xy1=>(some (decide ((xy1.length:Int)≤60)))) N s (i:Int)) _ (fun i w hi ih => ?_) ?_
 · simp only [bP_.turn3,bP_.step3,Int.toNat_natCast,am_,bB_,af_,W_up hi hs,dj_ ih,cy_ hi,cf_ hi]
   clear ih
   simp only [inn]
   by_cases h1:(((s.getD i 0).toNat:Nat):Int)<32<;>by_cases h2:(((s.getD i 0).toNat:Nat):Int) > 126<;>simp [h1,h2]<;>(intros;omega)
 · simp only [bP_.turn3,bP_.step3,ca_,cond_false,af_]
theorem gf_ {s:Bs} (hs:s.length≤bV_):Ev (fun n _=>ay_ n s) (i0_ s):=by
 refine au_ ?_
 simp only [ay_]
 refine eG_ (fun n N i=>ay_.loop3 n (fun xy1=>(some (decide ((xy1.length:Int)≤60)))) N s (s.length:Int) (i:Int)) _ (fun i w hi ih => ?_) ?_
 · simp only [ay_.turn3,ay_.step3,Int.toNat_natCast,am_,bB_,hI_,byte_W,af_,W_up hi hs,dj_ ih,cy_ hi,cf_ hi]
   clear ih
   grind
 · simp only [ay_.turn3,ay_.step3,ca_,cond_false,af_]
def q1_ (c:Nat) (l:List Bs):Prop:=l.length≤c∧∀ x ∈ l,x.length≤c
theorem iO_ {c:Nat} {l:List Bs} (h:q1_ c l) (i:Nat):(l.getD i []).length≤c:=by
 by_cases hi:i<l.length
 · exact h.2 _ (bw_ [] hi)
 · rw [List.getD_eq_getElem?_getD,List.getElem?_eq_none (by omega)];exact Nat.zero_le _
def i4_ (l:List Bs):Bool:=hY_ (fun i=>i0_ (l.getD i [])&&(decide (i=0)||Op.bytesLess (l.getD (i - 1) []) (l.getD i []))) l.length
theorem k4_ {l:List Bs} (h:q1_ bV_ l):Ev (fun n _=>as_ n l) (i4_ l):=by
 refine au_ ?_
 simp only [as_]
 refine fB_ (eG_ (fun n N i=>as_.loop3 n (some true) N l l (l.length:Int) (i:Int)) (fun i=>i0_ (l.getD i [])&&(decide (i=0)||Op.bytesLess (l.getD (i - 1) []) (l.getD i []))) (len:=l.length) (v:=true) (fun i w hi ih => ?_) ?_) (by rw [Bool.and_true];rfl)
 · simp only [as_.turn3,as_.step3,Int.toNat_natCast,W_up hi h.1,W_dn (i:=i) (by have:=h.1;omega),kd_,am_,bB_,ad_ (gf_ (iO_ h i)),af_,dj_ ih,cy_ hi,cf_ hi]
   clear ih
   repeat' (first|apply And.intro|intro _)
   all_goals (try rw [Bool.eq_iff_iff])
   all_goals (try simp only [Bool.not_eq_true',Bool.not_eq_false',decide_eq_true_eq,decide_eq_false_iff_not,Bool.and_eq_true,Bool.or_eq_true,Bool.and_eq_false_iff,Bool.or_eq_false_iff] at *)
   all_goals grind
 · simp only [as_.turn3,as_.step3,ca_,cond_false,af_]
def pN_ (j:aa_):Bool:=cond (j.kind != 5) ((j.names.length:Int) == 0) (i4_ j.names&&((j.names.length:Int) == (j.list.length:Int)))
theorem kx_ {j:aa_} (h:q1_ bV_ j.names):Ev (fun n _=>ae_ n j) (pN_ j):=by
 refine au_ ?_
 have hl:Ev (fun n _=>ae_.loop6 n (fun xy2 xy3 xy4 xy5 xy6=>(some ((xy6.length:Int) == (xy5.length:Int)))) n 0 j.kind j.n_ j.s j.list j.names) (i4_ j.names&&((j.names.length:Int) == (j.list.length:Int))):=by
  refine eG_ (fun n N i=>ae_.loop6 n (fun xy2 xy3 xy4 xy5 xy6=>(some ((xy6.length:Int) == (xy5.length:Int)))) N (i:Int) j.kind j.n_ j.s j.list j.names) _ (fun i w hi ih => ?_) ?_
  · simp only [ae_.turn6,ae_.step6,Int.toNat_natCast,W_up hi h.1,W_dn (i:=i) (by have:=h.1;omega),kd_,am_,bB_,ad_ (ga_ (iO_ h i)),af_,dj_ ih,cy_ hi,cf_ hi]
    clear ih
    repeat' (first|apply And.intro|intro _)
    all_goals (try rw [Bool.eq_iff_iff])
    all_goals (try simp only [Bool.not_eq_true',Bool.not_eq_false',decide_eq_true_eq,decide_eq_false_iff_not,Bool.and_eq_true,Bool.or_eq_true,Bool.and_eq_false_iff,Bool.or_eq_false_iff] at *)
    all_goals grind
  · simp only [ae_.turn6,ae_.step6,ca_,cond_false,af_]
 simp only [ae_,am_,af_,dj_ hl,pN_]
 cases (j.kind != 5)<;>simp
end Go.Pi
end
section
namespace Go.Pi
theorem kZ_ (k:Int):k=0∨k=1∨k=2∨k=3∨k=4∨k=5∨(k≠0∧k≠1∧k≠2∧k≠3∧k≠4∧k≠5):=by omega
theorem m0_ {α:Type} (l:List α):decide (l.length=0) = !decide ((l.length:Int) > 0):=by
 by_cases hz:l.length=0
 · rw [hz];rfl
 · rw [decide_eq_false hz,decide_eq_true (show (l.length:Int) > 0 by omega)];rfl
def FOwnK (j:aa_):Bool :=
 cond (j.kind == 1) (inn j.n_ 0 1) (cond (j.kind == 2) (inn j.n_ (-1000000000) 1000000000) (cond (j.kind == 3) (i0_ j.s) (cond (j.kind == 5) (((j.names.length:Int) == (j.list.length:Int))&&i4_ j.names) ((j.kind == 0)||(j.kind == 4)))))
def FOwn (j:aa_):Bool :=
 (decide (j.list.length=0)||((j.kind == 4)||(j.kind == 5)))&&((decide (j.names.length=0)||(j.kind == 5))&&(((j.n_ == 0)||((j.kind == 1)||(j.kind == 2)))&&(((j.s == [])||(j.kind == 3))&&FOwnK j)))
def lenJ1 (j:aa_):Prop:=j.s.length≤bV_∧q1_ bV_ j.names
theorem nd_ {j:aa_} (h:lenJ1 j):Ev (fun n _=>eB_ n j) (FOwn j):=by
 refine au_ ?_
 simp only [eB_,am_,hI_,isNum_b,ad_ (gf_ h.1),ad_ (k4_ h.2),af_]
 unfold FOwn FOwnK
 have e1:=m0_ j.list
 have e2:=m0_ j.names
 rw [e1,e2]
 generalize decide ((j.list.length:Int) > 0)=a
 generalize decide ((j.names.length:Int) > 0)=b
 generalize (j.s == [])=c
 have e3:(j.n_ != 0) = !(j.n_ == 0):=rfl
 rw [e3]
 generalize hd:(j.n_ == 0)=d
 generalize i0_ j.s=ft
 generalize i4_ j.names=fn
 generalize ((j.names.length:Int) == (j.list.length:Int))=eq
 rcases kZ_ j.kind with hk|hk|hk|hk|hk|hk|⟨k0,k1,k2,k3,k4,k5⟩
 all_goals (first|simp only [hk]|simp only [beq_eq_false_iff_ne.2 k0,beq_eq_false_iff_ne.2 k1,beq_eq_false_iff_ne.2 k2,beq_eq_false_iff_ne.2 k3,beq_eq_false_iff_ne.2 k4,beq_eq_false_iff_ne.2 k5,bne])
 all_goals (cases a<;>cases b<;>cases c<;>cases d<;>simp)
 all_goals (cases eq<;>simp)
def b7_:Nat→aa_→Nat
 |0,_=>401
 |d+1,j=>cond (FOwn j) (min 401 (1+eD_ (b7_ d) j.list)) 401
theorem FSize_le:∀ (d:Nat) (j:aa_),b7_ d j≤401
 |0,_=>Nat.le_refl _
 |d+1,j=>by
  simp only [b7_]
  cases FOwn j<;>simp only [cond_true,cond_false]<;>omega
def ff_:Nat→aa_→Prop
 |0,_=>True
 |d+1,j=>lenJ1 j∧j.list.length≤bV_∧∀ x ∈ j.list,ff_ d x
theorem getD_json {d:Nat} {l:List aa_} (h:∀ x ∈ l,ff_ d x) {i:Nat} (hi:i<l.length):ff_ d (l.getD i aa_.dflt):=h _ (bw_ _ hi)
theorem h4_:∀ (d:Nat) (j:aa_),d≤1000→ff_ d j→Ev (fun n _=>bt_ n j (d:Int)) (b7_ d j:Int)
 |0,j,_,_=>by
  refine au_ ?_
  simp only [bt_,am_,af_]
  exact ⟨fun _=>rfl,fun h=>by simp at h⟩
 |d+1,j,hd,h=>by
  refine au_ ?_
  have hW:W (((d+1:Nat):Int) - 1)=(d:Int):=by rw [W_id (by omega) (by omega)];omega
  simp only [bt_,aW_,am_,ad_ (nd_ h.1),af_,b7_]
  refine ⟨fun hc=>by have:=of_decide_eq_true hc;omega,fun _ => ?_⟩
  cases ho:FOwn j with
  |false=>exact ⟨fun _=>rfl,fun h=>by cases h⟩
  |true=>
   refine ⟨fun h=>(by cases h),fun _ => ?_⟩
   have ht:=h.2.1
   have key:∀ (k i:Nat) (s:Nat),k+i=j.list.length→s≤400→Ev (fun n N=>bt_.loop7 n (bt_ n) (fun xy3=>some xy3) N ((d+1:Nat):Int) (s:Int) j.list (j.list.length:Int) (i:Int)) ((min 401 (s+eD_ (b7_ d) (j.list.drop i)):Nat):Int):=by
    intro k
    induction k with
    |zero=>
     intro i s hi hs
     have:i=j.list.length:=by omega
     subst this
     refine b4_ ?_
     simp only [bt_.turn7,bt_.step7,ca_,cond_false,af_,List.drop_length,eD_]
     omega
    |succ k ih=>
     intro i s hi hs
     have hlt:i<j.list.length:=by omega
     refine b4_ ?_
     have hc:=h4_ d (j.list.getD i aa_.dflt) (by omega) (getD_json h.2.2 hlt)
     have hle:=FSize_le d (j.list.getD i aa_.dflt)
     have hw:W ((s:Int)+(b7_ d (j.list.getD i aa_.dflt):Int))=((s+b7_ d (j.list.getD i aa_.dflt):Nat):Int):=by rw [W_id (by omega) (by omega)];omega
     simp only [bt_.turn7,bt_.step7,aW_,Int.toNat_natCast,hW,W_up hlt ht,am_,bB_,cy_ hlt,cf_ hlt,ad_ hc,hw,af_]
     rw [nF_ (b7_ d) aa_.dflt hlt]
     refine ⟨fun _=>⟨trivial,fun hg => ?_,fun hg => ?_⟩,fun h=>(by cases h)⟩
     · have:=of_decide_eq_true hg;omega
     · have:=of_decide_eq_false hg
       rw [show s+(b7_ d (j.list.getD i aa_.dflt)+eD_ (b7_ d) (j.list.drop (i+1)))=(s+b7_ d (j.list.getD i aa_.dflt))+eD_ (b7_ d) (j.list.drop (i+1)) by omega]
       exact ih (i+1) _ (by omega) (by omega)
   have:=key j.list.length 0 1 (by omega) (by omega)
   rw [List.drop_zero] at this
   exact d3_ (f:=fun n N=>bt_.loop7 n (bt_ n) (fun xy3=>some xy3) N ((d+1:Nat):Int) 1 j.list (j.list.length:Int) 0) this
def bF_ (j:aa_):Bool:=decide (b7_ 6 j≤400)
theorem ee_ {j:aa_} (h:ff_ 6 j):Ev (fun n _=>cN_ n j) (bF_ j):=by
 refine au_ ?_
 have e:Ev (fun n _=>bt_ n j 6) (b7_ 6 j:Int):=h4_ 6 j (by omega) h
 simp only [cN_,aW_,ad_ e,af_,bF_]
 by_cases hq:b7_ 6 j≤400
 · rw [decide_eq_true hq,decide_eq_true (by omega)]
 · rw [decide_eq_false hq,decide_eq_false (by omega)]
end Go.Pi
end
section
namespace Go.Pi
def Great (d:Nat) (j:aa_):Prop:=∃ v:Nat,v≤401+401*d∧min 401 v=b7_ d j∧Ev (fun n _=>aO_ n j (d:Int)) (v:Int)
theorem ra_ {d:Nat} {l:List aa_} (hd:d≤1000) (ht:l.length≤bV_) (ih:∀ x ∈ l,Great d x) (kd nn:Int) (s:Bs) (ns:List Bs) :
  ∃ w:Nat,w≤401+401*(d+1)∧min 401 w=min 401 (1+eD_ (b7_ d) l)∧∀ (K:Nat→aO_.K23_1) (F:Int),Ev (fun n N=>K n 401 (w:Int) kd nn s l ns) F→Ev (fun n _=>aO_.loop23 n (aO_ n) (K n) n ((d+1:Nat):Int) 401 1 0 kd nn s l ns) F:=by
 have hW:W (((d+1:Nat):Int) - 1)=(d:Int):=by rw [W_id (by omega) (by omega)];omega
 have key:∀ (k i:Nat) (m:Nat),k+i=l.length→m≤401+401*(d+1)→∃ w:Nat,w≤401+401*(d+1)∧min 401 w=min 401 (m+eD_ (b7_ d) (l.drop i))∧∀ (K:Nat→aO_.K23_1) (F:Int),Ev (fun n N=>K n 401 (w:Int) kd nn s l ns) F →
   Ev (fun n N=>aO_.loop23 n (aO_ n) (K n) N ((d+1:Nat):Int) 401 (m:Int) (i:Int) kd nn s l ns) F:=by
  intro k
  induction k with
  |zero=>
   intro i m hi hm
   have:i=l.length:=by omega
   subst this
   refine ⟨m,hm,by simp [eD_],fun K F hF=>b4_ ?_⟩
   simp only [aO_.turn23,aO_.step23,ca_,cond_false]
   exact hF
  |succ k ihk=>
   intro i m hi hm
   have hlt:i<l.length:=by omega
   by_cases hg:m≤400
   · obtain ⟨v,hv1,hv2,hv3⟩:=ih _ (bw_ aa_.dflt hlt)
     have hw:W ((m:Int)+(v:Int))=((m+v:Nat):Int):=by rw [W_id (by omega) (by omega)];omega
     obtain ⟨w,a1,a2,a3⟩:=ihk (i+1) (m+v) (by omega) (by omega)
     refine ⟨w,a1,?_,fun K F hF=>b4_ ?_⟩
     · rw [a2,nF_ (b7_ d) aa_.dflt hlt,←hv2];omega
     · simp only [aO_.turn23,aO_.step23,aW_,Int.toNat_natCast,hW,W_up hlt ht,am_,bB_,cy_ hlt,cf_ hlt,ad_ hv3,hw]
       exact ⟨fun _=>⟨fun _=>⟨trivial,a3 K F hF⟩,fun h=>by have:=of_decide_eq_false h;omega⟩,fun h=>(by cases h)⟩
   · refine ⟨m,hm,by omega,fun K F hF=>b4_ ?_⟩
     simp only [aO_.turn23,aO_.step23,Int.toNat_natCast,am_,cy_ hlt]
     exact ⟨fun _=>⟨fun h=>by have:=of_decide_eq_true h;omega,fun _=>hF⟩,fun h=>(by cases h)⟩
 obtain ⟨w,a1,a2,a3⟩:=key l.length 0 1 (by omega) (by omega)
 rw [List.drop_zero] at a2
 exact ⟨w,a1,a2,fun K F hF=>d3_ (f:=fun n N=>aO_.loop23 n (aO_ n) (K n) N ((d+1:Nat):Int) 401 1 0 kd nn s l ns) (a3 K F hF)⟩
theorem cA_ (j:aa_):aa_.mk j.kind j.n_ j.s j.list j.names=j:=by cases j;rfl
theorem hb_:∀ (d:Nat) (j:aa_),d≤1000→ff_ d j→Great d j
 |0,j,_,_=>by
  refine ⟨401,by omega,rfl,au_ ?_⟩
  simp only [aO_,am_,af_]
  exact ⟨fun _=>rfl,fun h=>by simp at h⟩
 |d+1,j,hd,h=>by
  obtain ⟨w,w1,w2,w3⟩:=ra_ (d:=d) (l:=j.list) (by omega) h.2.1 (fun x hx=>hb_ d x (by omega) (h.2.2 x hx)) j.kind j.n_ j.s j.names
  have hz:((((d+1:Nat):Int)) == 0)=false:=by simp;omega
  have hN:=kx_ (j:=j) h.1.2
  obtain ⟨v,hv⟩:∃ v:Nat,v=cond (FOwn j) (cond ((j.kind == 4)||(j.kind == 5)) w 1) 401:=⟨_,rfl⟩
  refine ⟨v,?_,?_,au_ ?_⟩
  · rw [hv];cases FOwn j<;>cases ((j.kind == 4)||(j.kind == 5))<;>simp only [cond_true,cond_false]<;>omega
  · rw [hv]
    simp only [b7_]
    cases ho:FOwn j with
    |false=>rfl
    |true=>
     cases hk:((j.kind == 4)||(j.kind == 5)) with
     |true=>simp only [cond_true];exact w2
     |false=>
      have:j.list=[]:=by
       unfold FOwn at ho
       rw [hk,Bool.or_false] at ho
       simp only [Bool.and_eq_true,decide_eq_true_eq] at ho
       exact List.eq_nil_of_length_eq_zero ho.1
      rw [this];rfl
  · have hT:=ga_ (s:=j.s) h.1.1
    have e1:=m0_ j.list
    have e2:=m0_ j.names
    have e4:((j.names.length:Int) == 0) = !decide ((j.names.length:Int) > 0):=by
     by_cases hz:j.names.length=0
     · rw [hz];rfl
     · rw [beq_eq_false_iff_ne.2 (show (j.names.length:Int)≠0 by omega),decide_eq_true (show (j.names.length:Int) > 0 by omega)];rfl
    subst hv
    unfold FOwn FOwnK
    unfold pN_ at hN
    rw [e1,e2]
    rw [e4] at hN
    simp only [aO_,aW_,hz,cond_false,am_,fj_,ad_ hT,ad_ hN,af_,bne]
    rcases kZ_ j.kind with hk|hk|hk|hk|hk|hk|⟨k0,k1,k2,k3,k4,k5⟩
    case inr.inr.inr.inr.inl=>
     have hj:aa_.mk 4 j.n_ j.s j.list j.names=j:=by rw [←hk];exact cA_ j
     rw [hk] at w3
     simp only [hk,Int.reduceBEq,Int.reduceLT,Int.reduceLE,Int.reduceNeg,ge_iff_le,gt_iff_lt,decide_true,decide_false,Bool.not_false,Bool.not_true,Bool.or_true,Bool.true_or,Bool.or_false,Bool.false_or,Bool.and_true,Bool.true_and,Bool.not_not,forall_const,reduceCtorEq,false_implies,true_and,and_true,implies_true,cond_true,cond_false] at hN ⊢
     refine w3 _ _ ?_
     simp only [hj,am_,ad_ hN,af_,Int.reduceBEq,Int.reduceLT,Int.reduceLE,Int.reduceNeg,ge_iff_le,gt_iff_lt,decide_true,decide_false,Bool.not_false,Bool.not_true,Bool.or_true,Bool.true_or,Bool.or_false,Bool.false_or,Bool.and_true,Bool.true_and,Bool.not_not,forall_const,reduceCtorEq,false_implies,true_and,and_true,implies_true,cond_true,cond_false]
     clear hN w3 hT e1 e2 e4 hj
     generalize decide (0<(j.names.length:Int))=b
     generalize (j.s == [])=c
     generalize hd:(j.n_ == 0)=dd
     cases b<;>cases c<;>cases dd<;>simp
    case inr.inr.inr.inr.inr.inl=>
     have hj:aa_.mk 5 j.n_ j.s j.list j.names=j:=by rw [←hk];exact cA_ j
     rw [hk] at w3
     simp only [hk,Int.reduceBEq,Int.reduceLT,Int.reduceLE,Int.reduceNeg,ge_iff_le,gt_iff_lt,decide_true,decide_false,Bool.not_false,Bool.not_true,Bool.or_true,Bool.true_or,Bool.or_false,Bool.false_or,Bool.and_true,Bool.true_and,Bool.not_not,forall_const,reduceCtorEq,false_implies,true_and,and_true,implies_true,cond_true,cond_false] at hN ⊢
     refine w3 _ _ ?_
     simp only [hj,am_,ad_ hN,af_,Int.reduceBEq,Int.reduceLT,Int.reduceLE,Int.reduceNeg,ge_iff_le,gt_iff_lt,decide_true,decide_false,Bool.not_false,Bool.not_true,Bool.or_true,Bool.true_or,Bool.or_false,Bool.false_or,Bool.and_true,Bool.true_and,Bool.not_not,forall_const,reduceCtorEq,false_implies,true_and,and_true,implies_true,cond_true,cond_false]
     clear hN w3 hT e1 e2 e4 hj
     generalize i4_ j.names=fn
     generalize ((j.names.length:Int) == (j.list.length:Int))=eq
     generalize (j.s == [])=c
     generalize hd:(j.n_ == 0)=dd
     cases fn<;>cases eq<;>cases c<;>cases dd<;>simp
    case inr.inr.inr.inr.inr.inr=>
     simp only [beq_eq_false_iff_ne.2 k0,beq_eq_false_iff_ne.2 k1,beq_eq_false_iff_ne.2 k2,beq_eq_false_iff_ne.2 k3,beq_eq_false_iff_ne.2 k4,beq_eq_false_iff_ne.2 k5,Int.reduceBEq,Int.reduceLT,Int.reduceLE,Int.reduceNeg,ge_iff_le,gt_iff_lt,decide_true,decide_false,Bool.not_false,Bool.not_true,Bool.or_true,Bool.true_or,Bool.or_false,Bool.false_or,Bool.and_true,Bool.true_and,Bool.not_not,forall_const,reduceCtorEq,false_implies,true_and,and_true,implies_true,cond_true,cond_false,Bool.and_false,Bool.false_and]
     rfl
    all_goals (
     simp only [hk,Int.reduceBEq,Int.reduceLT,Int.reduceLE,Int.reduceNeg,ge_iff_le,gt_iff_lt,decide_true,decide_false,Bool.not_false,Bool.not_true,Bool.or_true,Bool.true_or,Bool.or_false,Bool.false_or,Bool.and_true,Bool.true_and,Bool.not_not,forall_const,reduceCtorEq,false_implies,true_and,and_true,implies_true,cond_true,cond_false]
     clear hN w3 hT e1 e2 e4
     generalize decide (0<(j.names.length:Int))=b
     generalize decide (0<(j.list.length:Int))=a
     generalize (j.s == [])=c
     generalize hd:(j.n_ == 0)=dd
     generalize inn j.n_ 0 1=i1
     generalize inn j.n_ (-1000000000) 1000000000=i2
     generalize i0_ j.s=ft
     cases a<;>cases b<;>cases c<;>cases dd<;>cases i1<;>cases i2<;>cases ft<;>simp)
theorem cD_ {j:aa_} (h:ff_ 6 j):Ev (fun n _=>ch_ n j) (bF_ j):=by
 refine au_ ?_
 obtain ⟨v,v1,v2,v3⟩:=hb_ 6 j (by omega) h
 have e:Ev (fun n _=>aO_ n j 6) (v:Int):=v3
 simp only [ch_,aW_,ad_ e,af_,bF_]
 by_cases hq:b7_ 6 j≤400
 · rw [decide_eq_true hq,decide_eq_true (by omega)]
 · rw [decide_eq_false hq,decide_eq_false (by omega)]
end Go.Pi
end
section
namespace Go.Pi
def deepJ:Nat→aa_→Prop
 |0,_=>False
 |d+1,j=>∀ x ∈ j.list,deepJ d x
theorem e9_:∀ (d:Nat) (j:aa_),b7_ d j≤400→deepJ d j
 |0,j,h=>by simp only [b7_] at h;omega
 |d+1,j,h=>fun x hx=>by
  refine e9_ d x ?_
  simp only [b7_] at h
  have:=gx_ (b7_ d) hx
  cases ho:FOwn j with
  |false=>rw [ho] at h;simp only [cond_false] at h;omega
  |true=>rw [ho] at h;simp only [cond_true] at h;omega
def jA_ (a b:List Bs):Bool:=decide (a.length=b.length)&&hY_ (fun i=>a.getD i [] == b.getD i []) a.length
def eh_:Nat→aa_→aa_→Bool
 |0,_,_=>true
 |d+1,a,b=>(a.kind == b.kind)&&((a.n_ == b.n_)&&((a.s == b.s)&&(jA_ a.names b.names&&(decide (a.list.length=b.list.length)&&hY_ (fun i=>eh_ d (a.list.getD i aa_.dflt) (b.list.getD i aa_.dflt)) a.list.length))))
theorem qb_ {n m:Nat}:((n:Int) != (m:Int)) = !decide (n=m):=by
 by_cases h:n=m
 · rw [h,decide_eq_true rfl];simp
 · rw [decide_eq_false h];simp;omega
theorem eb_:∀ (d:Nat) (a b:aa_),deepJ d a→ff_ d a→Ev (fun n _=>an_ n a b) (eh_ d a b)
 |0,a,b,h,_=>h.elim
 |d+1,a,b,h,hl=>by
  refine au_ ?_
  simp only [an_,qb_,am_,af_,eh_,jA_]
  by_cases hq:a.list.length=b.list.length
  · by_cases hq2:a.names.length=b.names.length
    · have hN:Ev (fun n _=>an_.loop14 n (an_ n) (some true) n 0 a.kind a.n_ a.s a.list a.names b.kind b.n_ b.s b.list b.names) (hY_ (fun i=>a.names.getD i [] == b.names.getD i []) a.names.length):=by
       refine fB_ (eG_ (fun n N i=>an_.loop14 n (an_ n) (some true) N (i:Int) a.kind a.n_ a.s a.list a.names b.kind b.n_ b.s b.list b.names) (fun i=>a.names.getD i [] == b.names.getD i []) (len:=a.names.length) (v:=true) (fun i w hi ih => ?_) ?_) (by rw [Bool.and_true])
       · simp only [an_.turn14,an_.step14,Int.toNat_natCast,W_up hi hl.1.2.1,am_,bB_,af_,dj_ ih,cy_ hi,cf_ hi,cf_ (hq2 ▸ hi)]
         cases (a.names.getD i [] == b.names.getD i [])<;>simp
       · simp only [an_.turn14,an_.step14,ca_,cond_false,af_]
      have hL:Ev (fun n _=>an_.loop6 n (an_ n) (fun xy2 xy3 xy4 xy5 xy6 xy7 xy8 xy9 xy10 xy11=>(an_.loop14 n (an_ n) (some true) n 0 xy2 xy3 xy4 xy5 xy6 xy7 xy8 xy9 xy10 xy11)) n 0 a.kind a.n_ a.s a.list a.names b.kind b.n_ b.s b.list b.names) (hY_ (fun i=>eh_ d (a.list.getD i aa_.dflt) (b.list.getD i aa_.dflt)) a.list.length&&hY_ (fun i=>a.names.getD i [] == b.names.getD i []) a.names.length):=by
       refine eG_ (fun n N i=>an_.loop6 n (an_ n) (fun xy2 xy3 xy4 xy5 xy6 xy7 xy8 xy9 xy10 xy11=>(an_.loop14 n (an_ n) (some true) n 0 xy2 xy3 xy4 xy5 xy6 xy7 xy8 xy9 xy10 xy11)) N (i:Int) a.kind a.n_ a.s a.list a.names b.kind b.n_ b.s b.list b.names) _ (fun i w hi ih => ?_) ?_
       · have hx:=eb_ d (a.list.getD i aa_.dflt) (b.list.getD i aa_.dflt) (h _ (bw_ _ hi)) (hl.2.2 _ (bw_ _ hi))
         simp only [an_.turn6,an_.step6,aW_,Int.toNat_natCast,W_up hi hl.2.1,am_,bB_,ad_ hx,af_,dj_ ih,cy_ hi,cf_ hi,cf_ (hq ▸ hi)]
         cases eh_ d (a.list.getD i aa_.dflt) (b.list.getD i aa_.dflt)<;>simp
       · simp only [an_.turn6,an_.step6,ca_,cond_false]
         exact hN
      rw [decide_eq_true hq,decide_eq_true hq2]
      simp only [dj_ hL,bne]
      generalize hY_ (fun i=>eh_ d (a.list.getD i aa_.dflt) (b.list.getD i aa_.dflt)) a.list.length=u
      generalize hY_ (fun i=>a.names.getD i [] == b.names.getD i []) a.names.length=w
      cases (a.kind == b.kind)<;>cases (a.n_ == b.n_)<;>cases (a.s == b.s)<;>cases u<;>cases w<;>simp
    · rw [decide_eq_false hq2]
      simp only [bne]
      cases (a.kind == b.kind)<;>cases (a.n_ == b.n_)<;>cases (a.s == b.s)<;>cases decide (a.list.length=b.list.length)<;>simp
  · rw [decide_eq_false hq]
    simp only [bne]
    cases (a.kind == b.kind)<;>cases (a.n_ == b.n_)<;>cases (a.s == b.s)<;>simp
end Go.Pi
end
section
namespace Go.Pi
theorem ly_ {a b:List Bs} (ha:a.length≤bV_):Ev (fun n _=>aH_ n a b) (jA_ a b):=by
 refine au_ ?_
 simp only [aH_,qb_,am_,af_]
 unfold jA_
 by_cases hl:a.length=b.length
 · rw [decide_eq_true hl]
   refine ⟨fun h=>(by cases h),fun _ => ?_⟩
   refine fB_ (eG_ (fun n N i=>aH_.loop6 n (some true) N a b (a.length:Int) (i:Int)) (fun i=>a.getD i [] == b.getD i []) (len:=a.length) (v:=true) (fun i w hi ih => ?_) ?_) (by rw [Bool.and_true,Bool.true_and])
   · simp only [aH_.turn6,aH_.step6,Int.toNat_natCast,W_up hi ha,am_,bB_,af_,dj_ ih,cy_ hi,cf_ hi,cf_ (hl ▸ hi)]
     cases (a.getD i [] == b.getD i [])<;>simp
   · simp only [aH_.turn6,aH_.step6,ca_,cond_false,af_]
 · rw [decide_eq_false hl]
   exact ⟨fun _=>rfl,fun h=>(by cases h)⟩
theorem iN_:∀ (d:Nat) (a b:aa_),deepJ d a→ff_ d a→Ev (fun n _=>dy_ n a b) (eh_ d a b)
 |0,a,b,h,_=>h.elim
 |d+1,a,b,h,hl=>by
  refine au_ ?_
  have hE:Ev (fun n _=>ai_ n a.list b.list) (decide (a.list.length=b.list.length)&&hY_ (fun i=>eh_ d (a.list.getD i aa_.dflt) (b.list.getD i aa_.dflt)) a.list.length):=by
   refine au_ ?_
   simp only [ai_,qb_,am_,af_]
   by_cases hq:a.list.length=b.list.length
   · rw [decide_eq_true hq]
     refine ⟨fun h=>(by cases h),fun _ => ?_⟩
     refine fB_ (eG_ (fun n N i=>ai_.loop6 n (dy_ n) (some true) N b.list a.list (a.list.length:Int) (i:Int)) (fun i=>eh_ d (a.list.getD i aa_.dflt) (b.list.getD i aa_.dflt)) (len:=a.list.length) (v:=true) (fun i w hi ih => ?_) ?_) (by rw [Bool.and_true,Bool.true_and])
     · have hx:=iN_ d (a.list.getD i aa_.dflt) (b.list.getD i aa_.dflt) (h _ (bw_ _ hi)) (hl.2.2 _ (bw_ _ hi))
       simp only [ai_.turn6,ai_.step6,aW_,Int.toNat_natCast,W_up hi hl.2.1,am_,bB_,ad_ hx,af_,dj_ ih,cy_ hi,cf_ hi,cf_ (hq ▸ hi)]
       cases eh_ d (a.list.getD i aa_.dflt) (b.list.getD i aa_.dflt)<;>simp
     · simp only [ai_.turn6,ai_.step6,ca_,cond_false,af_]
   · rw [decide_eq_false hq]
     exact ⟨fun _=>rfl,fun h=>(by cases h)⟩
  simp only [dy_,am_,ad_ (ly_ (b:=b.names) hl.1.2.1),ad_ hE,af_,eh_]
  cases (a.kind == b.kind)<;>cases (a.n_ == b.n_)<;>cases (a.s == b.s)<;>cases jA_ a.names b.names<;>simp
end Go.Pi
end
section
namespace Go.Pi
def bi (l:Bs):List Int:=l.map fun c=>((c.toNat:Nat):Int)
theorem toBs_bi (l:Bs):qP_ (bi l)=l:=by
 unfold qP_ bi
 rw [List.map_map]
 refine (List.map_congr_left fun c _ => ?_).trans (List.map_id l)
 simp
theorem oF_ (l:Bs):(bi l).length=l.length:=List.length_map _
theorem bi_app (a b:Bs):bi (a++b)=bi a++bi b:=List.map_append
theorem qE_ (c:UInt8) (k:Nat) (d:UInt8) (hd:d.toNat=k):(((c.toNat:Nat):Int) == (k:Int))=decide (c=d):=by
 by_cases h:c=d
 · subst h;rw [hd];simp
 · rw [decide_eq_false h,beq_eq_false_iff_ne]
   intro e
   exact h (UInt8.toNat_inj.1 (by omega))
theorem byte34 (c:UInt8):(((c.toNat:Nat):Int) == 34)=decide (c=34):=qE_ c 34 34 rfl
theorem byte92 (c:UInt8):(((c.toNat:Nat):Int) == 92)=decide (c=92):=qE_ c 92 92 rfl
theorem byte126 (c:UInt8):(((c.toNat:Nat):Int) == 126)=decide (c=126):=qE_ c 126 126 rfl
theorem byte47 (c:UInt8):(((c.toNat:Nat):Int) == 47)=decide (c=47):=qE_ c 47 47 rfl
theorem fA_ (f:UInt8→Bs) (h:∀ c,(f c).length≤2):∀ s:Bs,(s.flatMap f).length≤2*s.length
 |[]=>Nat.le_refl _
 |c::s=>by
  have:=fA_ f h s
  have:=h c
  simp only [List.flatMap_cons,List.length_append,List.length_cons];omega
theorem os_ (f:UInt8→Bs) {s:Bs} {i:Nat} (h:i<s.length):(s.take (i+1)).flatMap f=(s.take i).flatMap f++f (s.getD i 0):=by
 rw [cP_ 0 h,List.flatMap_append];simp
def ny_ (c:UInt8):Bs:=if c=34∨c=92 then [92,c] else [c]
theorem iE_ (c:UInt8):(ny_ c).length≤2:=by unfold ny_;split<;>simp
def hE_ (s:Bs):Bs:=34::s.flatMap ny_++[34]
theorem gu_ (s:Bs):(hE_ s).length≤2*s.length+2:=by
 have:=fA_ ny_ iE_ s
 simp only [hE_,List.cons_append,List.length_cons,List.length_append,List.length_nil];omega
theorem q2 (o:Bs) (c:UInt8):bi (34::(o++[92,c]))=(bi (34::o)++[92])++[((c.toNat:Nat):Int)]:=by simp [bi]
theorem q1 (o:Bs) (c:UInt8):bi (34::(o++[c]))=bi (34::o)++[((c.toNat:Nat):Int)]:=by simp [bi]
theorem qEnd (o:Bs):qP_ (bi (34::o)++[34])=34::o++[34]:=by
 have:bi (34::o)++[34]=bi (34::o++[34]):=by simp [bi]
 rw [this,toBs_bi]
theorem ha_ {s:Bs} (hs:s.length≤1000000):Ev (fun n _=>bi_ n s) (hE_ s):=by
 refine au_ ?_
 have ht:s.length≤bV_:=by simp only [bV_];omega
 simp only [bi_]
 have:=eo_ (fun i=>bi (34::(s.take i).flatMap ny_)) s.length (fun n N i (o:List Int)=>bi_.loop4 n (fun xy1=>(bq_ (xy1.length+([34]:List Int).length) 1 (some (qP_ (xy1++([34]:List Int)))))) N s (i:Int) o) (hE_ s) (fun i hi F hF => ?_) ?_
 · exact this
 · have hl:=fA_ ny_ iE_ (s.take i)
   rw [List.length_take] at hl
   rw [os_ ny_ hi] at hF
   generalize (s.take i).flatMap ny_=o at hF hl ⊢
   have hb:=oF_ (34::o)
   simp only [List.length_cons] at hb
   simp only [bi_.turn4,bi_.step4,Int.toNat_natCast,W_up hi ht,am_,bB_,bO_,cy_ hi,cf_ hi,byte34,byte92]
   generalize s.getD i 0=c at hF ⊢
   unfold ny_ at hF
   by_cases h1:c=34
   · rw [if_pos (.inl h1),q2] at hF
     simp only [h1,decide_true] at hF ⊢
     repeat' (first|apply And.intro|intro _)
     all_goals (first|contradiction|exact hF|trivial|(simp [hb];omega))
   · by_cases h2:c=92
     · rw [if_pos (.inr h2),q2] at hF
       simp only [h2,decide_true] at hF ⊢
       repeat' (first|apply And.intro|intro _)
       all_goals (first|contradiction|exact hF|trivial|(simp [hb];omega))
     · rw [if_neg (fun h=>h.elim h1 h2),q1] at hF
       simp only [h1,h2,decide_false] at hF ⊢
       repeat' (first|apply And.intro|intro _)
       all_goals (first|contradiction|exact hF|trivial|(simp [hb];omega))
 · have hl:=fA_ ny_ iE_ s
   have hb:=oF_ (34::s.flatMap ny_)
   simp only [List.length_cons] at hb
   simp only [bi_.turn4,bi_.step4,ca_,cond_false,bO_,List.take_length,af_,qEnd]
   exact ⟨by simp only [hb,List.length_cons,List.length_nil];omega,rfl⟩
theorem h5_ {s:Bs} (hs:s.length≤1000000):Ev (fun n _=>bH_ n s) (hE_ s):=by
 refine au_ ?_
 have ht:s.length≤bV_:=by simp only [bV_];omega
 simp only [bH_]
 have:=eo_ (fun i=>bi (34::(s.take i).flatMap ny_)) s.length (fun n N i (o:List Int)=>bH_.loop4 n (fun xy1=>(bq_ (xy1.length+([34]:List Int).length) 1 (some (qP_ (xy1++([34]:List Int)))))) N s (s.length:Int) (i:Int) o) (hE_ s) (fun i hi F hF => ?_) ?_
 · exact this
 · have hl:=fA_ ny_ iE_ (s.take i)
   rw [List.length_take] at hl
   rw [os_ ny_ hi] at hF
   generalize (s.take i).flatMap ny_=o at hF hl ⊢
   have hb:=oF_ (34::o)
   simp only [List.length_cons] at hb
   simp only [bH_.turn4,bH_.step4,Int.toNat_natCast,W_up hi ht,am_,bB_,bO_,cy_ hi,cf_ hi,byte34,byte92]
   generalize s.getD i 0=c at hF ⊢
   unfold ny_ at hF
   by_cases h1:c=34
   · rw [if_pos (.inl h1),q2] at hF
     simp only [h1,decide_true] at hF ⊢
     repeat' (first|apply And.intro|intro _)
     all_goals (first|contradiction|exact hF|trivial|(simp [hb];omega))
   · by_cases h2:c=92
     · rw [if_pos (.inr h2),q2] at hF
       simp only [h2,decide_true] at hF ⊢
       repeat' (first|apply And.intro|intro _)
       all_goals (first|contradiction|exact hF|trivial|(simp [hb];omega))
     · rw [if_neg (fun h=>h.elim h1 h2),q1] at hF
       simp only [h1,h2,decide_false] at hF ⊢
       repeat' (first|apply And.intro|intro _)
       all_goals (first|contradiction|exact hF|trivial|(simp [hb];omega))
 · have hl:=fA_ ny_ iE_ s
   have hb:=oF_ (34::s.flatMap ny_)
   simp only [List.length_cons] at hb
   simp only [bH_.turn4,bH_.step4,ca_,cond_false,bO_,List.take_length,af_,qEnd]
   exact ⟨by simp only [hb,List.length_cons,List.length_nil];omega,rfl⟩
end Go.Pi
end
section
namespace Go.Pi
theorem hP_ (a b:UInt8) (l:Bs):Lib.index (b::l) [a]=if a=b then 0 else if Lib.index l [a] = -1 then -1 else Lib.index l [a]+1:=by
 rw [Lib.index]
 have:List.isPrefixOf [a] (b::l)=decide (a=b):=by
  simp only [List.isPrefixOf,Bool.and_true]
  exact Bool.eq_iff_iff.2 (by simp)
 rw [this]
 by_cases h:a=b
 · rw [decide_eq_true h,if_pos rfl,if_pos h]
 · rw [decide_eq_false h,if_neg (by simp),if_neg h]
   by_cases h2:Lib.index l [a] = -1
   · rw [h2,if_pos rfl,if_pos (by decide)]
   · rw [if_neg h2,if_neg (by simpa using h2)]
theorem o4_ {a b:UInt8} (h:a≠b) (new l:Bs):∀ k,Lib.replaceK [a] new k (b::l)=b::Lib.replaceK [a] new k l
 |0=>rfl
 |k+1=>by
  rw [Lib.replaceK,Lib.replaceK,hP_,if_neg h]
  by_cases h2:Lib.index l [a] = -1
  · rw [if_pos h2,if_pos (by decide),h2,if_pos (by decide)]
  · have:=Lib.index_ge l [a]
    obtain ⟨i,hi⟩:∃ i:Nat,Lib.index l [a]=i:=⟨(Lib.index l [a]).toNat,by omega⟩
    rw [if_neg h2,if_neg (by rw [hi];simp<;>omega),if_neg (by rw [hi];simp<;>omega),hi,show ((i:Int)+1).toNat=i+1 by omega,show ((i:Int)).toNat=i by omega]
    rfl
theorem o5_ (a:UInt8) (new l:Bs) (k:Nat):Lib.replaceK [a] new (k+1) (a::l)=new++Lib.replaceK [a] new k l:=by
 rw [Lib.replaceK,hP_,if_pos rfl,if_neg (by decide)]
 rfl
theorem hk_ (a:UInt8) (new:Bs):∀ (s:Bs) (k:Nat),s.count a≤k→Lib.replaceK [a] new k s=s.flatMap fun c=>if c=a then new else [c]
 |[],0,_=>rfl
 |[],k+1,_=>by
  rw [Lib.replaceK]
  have:Lib.index [] [a] = -1:=rfl
  rw [this,if_pos (by decide)];rfl
 |b::l,k,h=>by
  by_cases e:b=a
  · subst e
    rw [List.count_cons_self] at h
    obtain ⟨k,rfl⟩:∃ m,k=m+1:=⟨k - 1,by omega⟩
    rw [o5_,hk_ b new l k (by omega),List.flatMap_cons,if_pos rfl]
  · rw [List.count_cons_of_ne e] at h
    rw [o4_ (fun h=>e h.symm),hk_ a new l k h,List.flatMap_cons,if_neg e];rfl
theorem gJ_ (a:UInt8):∀ (s:Bs) (f:Nat),s.length<f→Lib.countFrom [a] f s=s.count a
 |[],f+1,_=>by
  rw [Lib.countFrom]
  have:Lib.index [] [a] = -1:=rfl
  rw [this,if_pos (by decide)];rfl
 |b::l,f+1,h=>by
  have hl:l.length<f:=by simpa using h
  by_cases e:a=b
  · subst e
    rw [List.count_cons_self,Lib.countFrom,hP_,if_pos rfl,if_neg (by decide)]
    show 1+Lib.countFrom [a] f l=_
    rw [gJ_ a l f hl];omega
  · rw [List.count_cons_of_ne (fun h=>e h.symm),←gJ_ a l (f+1) (by omega),Lib.countFrom,Lib.countFrom,hP_,if_neg e]
    by_cases h2:Lib.index l [a] = -1
    · rw [if_pos h2,if_pos (by decide),h2,if_pos (by decide)]
    · have:=Lib.index_ge l [a]
      obtain ⟨i,hi⟩:∃ i:Nat,Lib.index l [a]=i:=⟨(Lib.index l [a]).toNat,by omega⟩
      rw [if_neg h2,if_neg (by rw [hi];simp<;>omega),if_neg (by rw [hi];simp<;>omega),hi,show ((i:Int)+1).toNat=i+1 by omega,show ((i:Int)).toNat=i by omega]
      rfl
theorem oB_ (a:UInt8) (s:Bs):Lib.count s [a]=s.count a:=gJ_ a s _ (Nat.lt_succ_self _)
theorem lJ_ (a:UInt8) (new s:Bs) (hne:([a] == new)=false):Lib.replaceAll s [a] new=s.flatMap fun c=>if c=a then new else [c]:=by
 unfold Lib.replaceAll Lib.replace Lib.replaceNum
 rw [hne,if_neg (by simp),if_pos (.inl (by decide)),oB_]
 exact hk_ a new s _ (Nat.le_refl _)
theorem iX_ {a b c:UInt8} {s:Bs} (hs:s.length≤1000000) (hne:([a] == [b,c])=false):Ev (fun n _=>strings_ReplaceAll n s [a] [b,c]) (s.flatMap fun x=>if x=a then [b,c] else [x]):=by
 refine au_ ?_
 have:=List.count_le_length (a:=a) (l:=s)
 simp only [strings_ReplaceAll,gC_,oB_,lJ_ a [b,c] s hne,am_,af_,dh_]
 refine ⟨fun _=>trivial,fun h => ?_⟩
 have e1:decide (s.length<4294967281)=true:=decide_eq_true (by omega)
 have e2:decide (1≤[a].length)=true:=rfl
 have e3:decide (s.length+List.count a s*[b,c].length≤140737488355328)=true:=decide_eq_true (by simp only [List.length_cons,List.length_nil];omega)
 rw [e1,e2,e3] at h;cases h
def pT_ (c:UInt8):Bs:=if c=126 then [126,48] else if c=47 then [126,49] else [c]
theorem pS_ (c:UInt8):(pT_ c).length≤2:=by
 unfold pT_
 split
 · simp
 · split<;>simp
theorem wesc_two (s:Bs):((s.flatMap fun x=>if x=126 then [126,48] else [x]).flatMap fun x=>if x=47 then [126,49] else [x])=s.flatMap pT_:=by
 induction s with
 |nil=>rfl
 |cons c s ih=>
  rw [List.flatMap_cons,List.flatMap_append,ih,List.flatMap_cons]
  congr 1
  unfold pT_
  by_cases h1:c=126
  · subst h1;rfl
  · by_cases h2:c=47
    · subst h2;rfl
    · rw [if_neg h1,if_neg h1,if_neg h2];simp [h2]
def FWay (w:List Bs):Bs:=w.flatMap fun s=>47::s.flatMap pT_
theorem pU_ {w:List Bs} {i:Nat} (h:i<w.length):FWay (w.take (i+1))=FWay (w.take i)++(47::(w.getD i []).flatMap pT_):=by
 unfold FWay
 rw [cP_ [] h,List.flatMap_append];simp
theorem nt_ {w:List Bs} {c:Nat} (h:∀ s ∈ w,s.length≤c):(FWay w).length≤w.length*(2*c+1):=by
 induction w with
 |nil=>exact Nat.zero_le _
 |cons s w ih=>
  have h1:=fA_ pT_ pS_ s
  have h2:=h s (List.mem_cons_self ..)
  have h3:=ih fun x hx=>h x (List.mem_cons_of_mem _ hx)
  have e:FWay (s::w)=(47::s.flatMap pT_)++FWay w:=rfl
  rw [e,List.length_append,List.length_cons,List.length_cons,Nat.add_mul];omega
theorem pX_ {w:List Bs} {c:Nat} (h:∀ s ∈ w,s.length≤c) (i:Nat):∀ s ∈ w.take i,s.length≤c:=fun s hs=>h s (List.mem_of_mem_take hs)
theorem k5_ {w:List Bs} (hw:w.length≤6) (hs:∀ s ∈ w,s.length≤60):Ev (fun n _=>bI_ n w) (FWay w):=by
 refine au_ ?_
 have ht:w.length≤bV_:=by simp only [bV_];omega
 simp only [bI_]
 have:=eo_ (fun i=>FWay (w.take i)) w.length (fun n N i (o:Bs)=>bI_.loop4 n (fun xy3=>(some xy3)) N o w (w.length:Int) (i:Int)) (FWay w) (fun i hi F hF => ?_) ?_
 · exact this
 · have h1:=hs _ (bw_ [] hi)
   have h2:=fA_ pT_ pS_ (w.getD i [])
   have h3:=nt_ (pX_ hs i)
   rw [List.length_take] at h3
   rw [pU_ hi] at hF
   have r1:=iX_ (a:=126) (b:=126) (c:=48) (s:=w.getD i []) (by omega) (by decide)
   have h4:=fA_ (fun x=>if x=126 then [126,48] else [x]) (fun c=>by split<;>simp) (w.getD i [])
   have r2:=iX_ (a:=47) (b:=126) (c:=49) (s:=(w.getD i []).flatMap fun x=>if x=126 then [126,48] else [x]) (by omega) (by decide)
   rw [wesc_two] at r2
   generalize FWay (w.take i)=o at hF h3 ⊢
   simp only [bI_.turn4,bI_.step4,Int.toNat_natCast,W_up hi ht,am_,bB_,dh_,cy_ hi,cf_ hi,ad_ r1,ad_ r2]
   generalize (w.getD i []).flatMap pT_=e at hF h2 ⊢
   have e2:([47]:Bs)++e=47::e:=rfl
   rw [e2]
   refine ⟨fun _=>⟨trivial,fun _=>⟨fun _=>hF,fun h => ?_⟩,fun h => ?_⟩,fun h=>(by cases h)⟩
   · have h:=of_decide_eq_false h
     simp only [List.length_cons] at h;omega
   · have h:=of_decide_eq_false h
     simp only [List.length_cons,List.length_nil] at h;omega
 · simp only [bI_.turn4,bI_.step4,ca_,cond_false,List.take_length,af_]
theorem md_ {α:Type} {i len:Nat} {x:Option α} (h:i<len):inB (i:Int) len x=x:=by
 unfold inB
 rw [decide_eq_true (by omega),decide_eq_true (by omega)];rfl
theorem mL_ {α:Type} {n b:Nat} {x:Option α} (h:n*b≤140737488355328):bq_ n b x=x:=by
 unfold bq_
 rw [decide_eq_true h];rfl
theorem ev_of_ge {α:Type} {f g:Nat→Nat→Option α} {v:α} (M:Nat) (h:∀ n N,M≤n→f n N=g n N) (hg:Ev g v):Ev f v:=by
 obtain ⟨M',hM⟩:=hg
 exact ⟨max M M',fun n N h1 h2=>by rw [h n N (by omega)];exact hM n N (by omega) (by omega)⟩
theorem nB_ (n:Nat) (k2:List Bs→Int→List Int→Option Bs) {w:List Bs} {i:Nat} (hi:i<w.length) (hl:(w.getD i []).length≤1000000):∀ (d j m:Nat) (o:List Int),j+d=(w.getD i []).length→d<m→o.length+2*d≤100000000 →
  aC_.loop10 n k2 m w (i:Int) (j:Int) o=k2 w (i:Int) (o++bi (((w.getD i []).drop j).flatMap pT_))
 |0,j,m+1,o,hj,_,_=>by
  have e:(j:Int)=((w.getD i []).length:Int):=by omega
  have e2:(w.getD i []).drop j=[]:=List.drop_eq_nil_of_le (by omega)
  rw [aC_.turn10,aC_.step10,Int.toNat_natCast,md_ hi,e,ca_,e2]
  simp [bi]
 |d+1,j,m+1,o,hj,hm,ho=>by
  have hjl:j<(w.getD i []).length:=by omega
  have ih:=fun o=>nB_ n k2 hi hl d (j+1) m o (by omega) (by omega)
  have e1:(w.getD i []).drop j=(w.getD i []).getD j 0::(w.getD i []).drop (j+1):=ep_ 0 hjl
  rw [aC_.turn10,aC_.step10,Int.toNat_natCast,Int.toNat_natCast,md_ hi,md_ hi,md_ hi,md_ hjl,md_ hjl,cy_ hjl,W_up hjl (show (w.getD i []).length≤bV_ by simp only [bV_];omega),byte126,byte47,e1,List.flatMap_cons,bi_app,←List.append_assoc]
  generalize (w.getD i []).getD j 0=c
  rw [mL_ (by simp;omega),mL_ (by simp;omega),mL_ (by simp;omega)]
  unfold pT_
  by_cases h1:c=126
  · rw [decide_eq_true h1,if_pos h1]
    exact ih _ (by simp;omega)
  · by_cases h2:c=47
    · rw [decide_eq_false h1,decide_eq_true h2,if_neg h1,if_pos h2]
      exact ih _ (by simp;omega)
    · rw [decide_eq_false h1,decide_eq_false h2,if_neg h1,if_neg h2]
      exact ih _ (by simp;omega)
theorem ky_ {w:List Bs} (hw:w.length≤6) (hs:∀ s ∈ w,s.length≤60):Ev (fun n _=>aC_ n w) (FWay w):=by
 refine au_ ?_
 have ht:w.length≤bV_:=by simp only [bV_];omega
 simp only [aC_]
 have:=eo_ (fun i=>bi (FWay (w.take i))) w.length (fun n N i (o:List Int)=>aC_.loop4 n (fun xy4=>(some (qP_ xy4))) N w (i:Int) o) (FWay w) (fun i hi F hF => ?_) ?_
 · exact this
 · have h1:=hs _ (bw_ [] hi)
   have h3:=nt_ (pX_ hs i)
   rw [List.length_take] at h3
   rw [pU_ hi] at hF
   generalize FWay (w.take i)=o at hF h3 ⊢
   have hb:=oF_ o
   simp only [aC_.turn4,aC_.step4,cy_ hi,cond_true,bO_]
   refine ⟨by simp [hb];omega,ev_of_ge 61 (fun n N hn=>nB_ n _ hi (by omega) (w.getD i []).length 0 n _ (by omega) (by omega) (by simp only [hb,List.length_append,List.length_cons,List.length_nil];omega)) ?_⟩
   simp only [W_up hi ht,List.drop_zero]
   have e:bi (o++47::(w.getD i []).flatMap pT_)=bi o++([47]:List Int)++bi ((w.getD i []).flatMap pT_):=by simp [bi]
   rw [e] at hF
   exact hF
 · simp only [aC_.turn4,aC_.step4,ca_,cond_false,List.take_length,af_,toBs_bi]
end Go.Pi
end
section
namespace Go.Pi
def digs (u:Nat):Bs:=if u=0 then [] else Lib.decDigits u
theorem digs_step {u:Nat} (h:u≠0):digs u=digs (u / 10)++[UInt8.ofNat (48+u % 10)]:=by
 unfold digs
 rw [if_neg h,Lib.decDigits]
 by_cases h1:u<10
 · rw [dif_pos h1,if_pos (by omega),Nat.mod_eq_of_lt h1];rfl
 · rw [dif_neg h1,if_neg (by omega)]
theorem qy_ {d:Nat} (h:d<10):qP_ ([(IntKind.u8.wrap (W (48+(d:Int))))]:List Int)=[UInt8.ofNat (48+d)]:=by
 have e1:W (48+(d:Int))=((48+d:Nat):Int):=by rw [W_id (by omega) (by omega)];omega
 rw [e1]
 have e2:IntKind.u8.wrap (((48+d:Nat):Int))=((48+d:Nat):Int):=by
  have:d=0∨d=1∨d=2∨d=3∨d=4∨d=5∨d=6∨d=7∨d=8∨d=9:=by omega
  rcases this with rfl|rfl|rfl|rfl|rfl|rfl|rfl|rfl|rfl|rfl<;>rfl
 rw [e2]
 rfl
theorem dB_ {x:Int} (h0 : -9223372036854775808≤x) (h1:x≤9223372036854775807):Ev (fun n _=>aQ_ n x) (Lib.itoa x):=by
 refine au_ ?_
 simp only [aQ_,am_,af_]
 refine ⟨fun h => ?_,fun h => ?_⟩
 · have:x=0:=by simpa using h
   subst this
   unfold Lib.itoa
   rw [if_neg (by decide)]
   show _=Lib.decDigits 0
   rw [Lib.decDigits_one (by decide)];rfl
 have hx0:x≠0:=by simpa using h
 have key:∀ (k:Nat) (y:Int) (out:Bs),y.natAbs<10 ^ k → -9223372036854775808≤y→y≤9223372036854775807→out.length+k≤100 →
   Ev (fun n N=>aQ_.loop7 n (fun xy3 xy4=>(cond xy3 (cond (decide ([45].length+xy4.length≤9223372036854775807)) (some (([45]:Bs)++xy4)) none) (some xy4))) N y (decide (x<0)) out) (cond (decide (x<0)) ([45]++(digs y.natAbs++out)) (digs y.natAbs++out)):=by
  intro k
  induction k with
  |zero=>
   intro y out hy _ _ ho
   have:y=0:=by simp at hy;omega
   subst this
   refine b4_ ?_
   simp only [aQ_.turn7,aQ_.step7,bne_self_eq_false,cond_false,am_,af_,dh_]
   refine ⟨fun hb=>⟨fun _=>by rw [hb];rfl,fun hc=>by have:=of_decide_eq_false hc;simp at this;omega⟩,fun hb=>by rw [hb];rfl⟩
  |succ k ih=>
   intro y out hy hy0 hy1 ho
   by_cases hz:y=0
   · subst hz
     refine b4_ ?_
     simp only [aQ_.turn7,aQ_.step7,bne_self_eq_false,cond_false,am_,af_,dh_]
     refine ⟨fun hb=>⟨fun _=>by rw [hb];rfl,fun hc=>by have:=of_decide_eq_false hc;simp at this;omega⟩,fun hb=>by rw [hb];rfl⟩
   · have hm:(Int.tmod y 10).natAbs=y.natAbs % 10:=by rw [Int.natAbs_tmod];rfl
     have hd:(Int.tdiv y 10).natAbs=y.natAbs / 10:=by rw [Int.natAbs_tdiv];rfl
     have hW:W (Int.tdiv y 10)=Int.tdiv y 10:=W_id (by omega) (by omega)
     have hlt:y.natAbs % 10<10:=Nat.mod_lt _ (by decide)
     have hdl:(Int.tdiv y 10).natAbs<10 ^ k:=by rw [hd];rw [Nat.pow_succ] at hy;omega
     have hrec:=ih (Int.tdiv y 10) ([UInt8.ofNat (48+y.natAbs % 10)]++out) hdl (by omega) (by omega) (by simp;omega)
     have hdig:digs (Int.tdiv y 10).natAbs++([UInt8.ofNat (48+y.natAbs % 10)]++out)=digs y.natAbs++out:=by rw [hd,digs_step (show y.natAbs≠0 by omega),List.append_assoc]
     rw [hdig] at hrec
     have hne:(y != 0)=true:=by simpa using hz
     refine b4_ ?_
     simp only [aQ_.turn7,aQ_.step7,hne,cond_true,am_,dh_,hW]
     refine ⟨fun hneg => ?_,fun hneg => ?_⟩
     · have hneg:=of_decide_eq_true hneg
       have e:W (0 - Int.tmod y 10)=((y.natAbs % 10:Nat):Int):=by rw [W_id (by omega) (by omega)];omega
       rw [e,qy_ hlt]
       exact ⟨fun _=>hrec,fun hc=>by have:=of_decide_eq_false hc;simp at this;omega⟩
     · have hneg:=of_decide_eq_false hneg
       have e:Int.tmod y 10=((y.natAbs % 10:Nat):Int):=by omega
       rw [e,qy_ hlt]
       exact ⟨fun _=>hrec,fun hc=>by have:=of_decide_eq_false hc;simp at this;omega⟩
 have hfin:=key 19 x [] (by omega) h0 h1 (by simp)
 have hv:Lib.itoa x=cond (decide (x<0)) ([45]++(digs x.natAbs++[])) (digs x.natAbs++[]):=by
  unfold Lib.itoa digs
  rw [if_neg (show x.natAbs≠0 by omega)]
  by_cases hn:x<0
  · rw [if_pos hn,decide_eq_true hn];simp
  · rw [if_neg hn,decide_eq_false hn,cond_false,List.append_nil,show x.toNat=x.natAbs by omega]
 rw [hv]
 exact d3_ hfin
theorem pH_ {x:Int} (h0 : -9223372036854775808≤x) (h1:x≤9223372036854775807):Ev (fun n _=>strconv_Itoa n x) (Lib.itoa x) :=
 au_ (by simp only [strconv_Itoa,nItoa,am_,af_,dh_];exact ⟨fun _=>trivial,fun h=>by simp at h;omega⟩)
end Go.Pi
end
section
namespace Go.Pi
theorem join_snoc (x sep:Bs):∀ l:List Bs,Lib.join (l++[x]) sep=if l=[] then x else Lib.join l sep++sep++x
 |[]=>by rw [if_pos rfl];exact Lib.join_one x sep
 |y::l=>by
  rw [if_neg (by simp),List.cons_append,Lib.join_cons,Lib.join_cons]
  simp [Lib.joinTail]
theorem fU_ {α:Type} (f:α→Nat):∀ a b:List α,eD_ f (a++b)=eD_ f a+eD_ f b
 |[],b=>by simp [eD_]
 |x::a,b=>by simp only [List.cons_append,eD_,fU_ f a b];omega
theorem pY_ {α:Type} (f:α→Nat) (h:∀ x,1≤f x):∀ a:List α,a.length≤eD_ f a
 |[]=>Nat.le_refl _
 |x::a=>by have:=pY_ f h a;have:=h x;simp only [eD_,List.length_cons];omega
theorem FSize_pos:∀ (d:Nat) (j:aa_),1≤b7_ d j
 |0,_=>by simp only [b7_];omega
 |d+1,j=>by
  simp only [b7_]
  cases FOwn j<;>simp only [cond_true,cond_false]<;>omega
theorem iZ_ {s:Bs} (h:i0_ s=true):s.length≤60:=by
 unfold i0_ at h
 rw [Bool.and_eq_true] at h
 have:=of_decide_eq_true h.2;omega
theorem hV_ {l:List Bs} (h:i4_ l=true) {i:Nat} (hi:i<l.length):(l.getD i []).length≤60:=by
 have:=fg_.1 h i hi
 rw [Bool.and_eq_true] at this
 exact iZ_ this.1
structure Own (j:aa_):Prop where
 kind:j.kind=0∨j.kind=1∨j.kind=2∨j.kind=3∨j.kind=4∨j.kind=5
 list:j.kind≠4→j.kind≠5→j.list=[]
 bool:j.kind=1→0≤j.n_∧j.n_≤1
 num:j.kind=2 → -1000000000≤j.n_∧j.n_≤1000000000
 text:j.kind=3→j.s.length≤60
 obj:j.kind=5→j.names.length=j.list.length∧i4_ j.names=true
theorem FOwn_own {j:aa_} (h:FOwn j=true):Own j:=by
 unfold FOwn FOwnK at h
 simp only [Bool.and_eq_true,Bool.or_eq_true] at h
 obtain ⟨h1,h2,h3,h4,h5⟩:=h
 refine ⟨?_,fun k4 k5 => ?_,fun hk => ?_,fun hk => ?_,fun hk => ?_,fun hk => ?_⟩
 · rcases kZ_ j.kind with hk|hk|hk|hk|hk|hk|⟨k0,k1,k2,k3,k4,k5⟩
   · exact .inl hk
   · exact .inr (.inl hk)
   · exact .inr (.inr (.inl hk))
   · exact .inr (.inr (.inr (.inl hk)))
   · exact .inr (.inr (.inr (.inr (.inl hk))))
   · exact .inr (.inr (.inr (.inr (.inr hk))))
   · simp only [beq_eq_false_iff_ne.2 k0,beq_eq_false_iff_ne.2 k1,beq_eq_false_iff_ne.2 k2,beq_eq_false_iff_ne.2 k3,beq_eq_false_iff_ne.2 k4,beq_eq_false_iff_ne.2 k5,cond_false,Bool.or_false] at h5
     cases h5
 · rcases h1 with h1|h1|h1
   · exact List.eq_nil_of_length_eq_zero (of_decide_eq_true h1)
   · exact absurd (by simpa using h1) k4
   · exact absurd (by simpa using h1) k5
 · simp only [hk,Int.reduceBEq,cond_true,cond_false] at h5;exact gE_ h5
 · simp only [hk,Int.reduceBEq,cond_true,cond_false] at h5;exact gE_ h5
 · simp only [hk,Int.reduceBEq,cond_true,cond_false] at h5;exact iZ_ h5
 · simp only [hk,Int.reduceBEq,cond_true,cond_false,Bool.and_eq_true] at h5
   exact ⟨by have:=h5.1;simp at this;omega,h5.2⟩
def gj_ (enc:aa_→Bs) (j:aa_) (i:Nat):Bs:=cond (j.kind == 5) (hE_ (j.names.getD i [])++([58]++enc (j.list.getD i aa_.dflt))) (enc (j.list.getD i aa_.dflt))
def gR_ (enc:aa_→Bs) (j:aa_) (m:Nat):Bs:=Lib.join ((List.range m).map (gj_ enc j)) [44]
def FEnc:Nat→aa_→Bs
 |0,_=>[]
 |d+1,j=>cond (j.kind == 0) [110,117,108,108] (cond (j.kind == 1) (cond (j.n_ == 1) [116,114,117,101] [102,97,108,115,101]) (cond (j.kind == 2) (Lib.itoa j.n_) (cond (j.kind == 3) (hE_ j.s)
   (cond (j.kind == 5) ([123]++gR_ (FEnc d) j j.list.length++[125]) ([91]++gR_ (FEnc d) j j.list.length++[93])))))
theorem i6_ (enc:aa_→Bs) (j:aa_):gR_ enc j 1=gj_ enc j 0:=Lib.join_one _ _
theorem hW_ (enc:aa_→Bs) (j:aa_) {m:Nat} (h:0<m):gR_ enc j (m+1)=gR_ enc j m++[44]++gj_ enc j m:=by
 unfold gR_
 rw [List.range_succ,List.map_append,List.map_cons,List.map_nil,join_snoc,if_neg]
 intro e
 have:=congrArg List.length e
 simp at this;omega
theorem dZ_ {d:Nat} {j:aa_} (h:b7_ (d+1) j≤400):Own j∧b7_ (d+1) j=1+eD_ (b7_ d) j.list:=by
 simp only [b7_] at h ⊢
 cases ho:FOwn j with
 |false=>rw [ho,cond_false] at h;omega
 |true=>
  rw [ho,cond_true] at h
  exact ⟨FOwn_own ho,by rw [cond_true];omega⟩
theorem enc_len:∀ (d:Nat) (j:aa_),b7_ d j≤400→(FEnc d j).length+150≤300*b7_ d j
 |0,j,h=>by simp only [b7_] at h;omega
 |d+1,j,h=>by
  obtain ⟨ho,hs⟩:=dZ_ h
  have hJ:∀ m,m≤j.list.length→(gR_ (FEnc d) j m).length≤300*eD_ (b7_ d) (j.list.take m):=by
   intro m
   induction m with
   |zero=>intro _;exact Nat.zero_le _
   |succ m ih=>
    intro hm
    have hi:m<j.list.length:=by omega
    have h1:=ih (by omega)
    have h2:=gx_ (b7_ d) (bw_ aa_.dflt hi)
    have h3:=enc_len d (j.list.getD m aa_.dflt) (by omega)
    have h4:(gj_ (FEnc d) j m).length≤123+(FEnc d (j.list.getD m aa_.dflt)).length:=by
     unfold gj_
     cases hk:(j.kind == 5) with
     |false=>rw [cond_false];omega
     |true=>
      obtain ⟨e1,e2⟩:=ho.obj (by simpa using hk)
      have:=hV_ e2 (i:=m) (by omega)
      have:=gu_ (j.names.getD m [])
      rw [cond_true];simp only [List.length_append,List.length_cons,List.length_nil];omega
    rw [cP_ aa_.dflt hi,fU_]
    simp only [eD_,Nat.mul_add]
    by_cases h0:m=0
    · subst h0;rw [i6_];omega
    · rw [hW_ _ _ (by omega)];simp only [List.length_append,List.length_cons,List.length_nil];omega
  have hL:=hJ j.list.length (Nat.le_refl _)
  rw [List.take_length] at hL
  rw [hs]
  rcases ho.kind with hk|hk|hk|hk|hk|hk
  · simp only [FEnc,hk,Int.reduceBEq,cond_true,cond_false,List.length_cons,List.length_nil];omega
  · simp only [FEnc,hk,Int.reduceBEq,cond_true,cond_false]
    cases (j.n_ == 1)<;>simp only [cond_true,cond_false,List.length_cons,List.length_nil]<;>omega
  · have:=ho.num hk
    have:=Lib.itoa_length_le j.n_ (by omega) (by omega)
    simp only [FEnc,hk,Int.reduceBEq,cond_true,cond_false];omega
  · have:=ho.text hk
    have:=gu_ j.s
    simp only [FEnc,hk,Int.reduceBEq,cond_true,cond_false];omega
  · simp only [FEnc,hk,Int.reduceBEq,cond_true,cond_false,List.length_append,List.length_cons,List.length_nil];omega
  · simp only [FEnc,hk,Int.reduceBEq,cond_true,cond_false,List.length_append,List.length_cons,List.length_nil];omega
structure Part (d:Nat) (j:aa_) (i:Nat):Prop where
 size:b7_ d (j.list.getD i aa_.dflt)≤400
 enc:(FEnc d (j.list.getD i aa_.dflt)).length≤120000
 name:j.kind=5→i<j.names.length∧(j.names.getD i []).length≤60
theorem kO_ {d:Nat} {j:aa_} (h:b7_ (d+1) j≤400) {i:Nat} (hi:i<j.list.length):Part d j i:=by
 obtain ⟨ho,hs⟩:=dZ_ h
 have h2:=gx_ (b7_ d) (bw_ aa_.dflt hi)
 have h3:=enc_len d (j.list.getD i aa_.dflt) (by omega)
 exact ⟨by omega,by omega,fun hk=>⟨by have:=(ho.obj hk).1;omega,hV_ (ho.obj hk).2 (by have:=(ho.obj hk).1;omega)⟩⟩
theorem na_ {d:Nat} {j:aa_} (h:b7_ (d+1) j≤400):∀ m,m≤j.list.length→(gR_ (FEnc d) j m).length≤m*120200:=by
 intro m
 induction m with
 |zero=>intro _;exact Nat.zero_le _
 |succ m ih=>
  intro hm
  have hp:=kO_ h (i:=m) (by omega)
  have h1:=ih (by omega)
  have h4:(gj_ (FEnc d) j m).length≤123+120000:=by
   have:=hp.enc
   unfold gj_
   cases hk:(j.kind == 5) with
   |false=>rw [cond_false];omega
   |true=>
    have:=(hp.name (by simpa using hk)).2
    have:=gu_ (j.names.getD m [])
    rw [cond_true];simp only [List.length_append,List.length_cons,List.length_nil];omega
  by_cases h0:m=0
  · subst h0;rw [i6_];omega
  · rw [hW_ _ _ (by omega)];simp only [List.length_append,List.length_cons,List.length_nil];omega
theorem f0_ {d:Nat} {j:aa_} (h:b7_ (d+1) j≤400):j.list.length≤400:=by
 have:=(dZ_ h).2
 have:=pY_ (b7_ d) (FSize_pos d) j.list
 omega
end Go.Pi
end
section
namespace Go.Pi
theorem gX_:∀ (d:Nat) (j:aa_),b7_ d j≤400→Ev (fun n _=>aM_ n j) (FEnc d j)
 |0,j,h=>by simp only [b7_] at h;omega
 |d+1,j,h=>by
  have ho:=(dZ_ h).1
  have hll:=f0_ h
  refine au_ ?_
  have hloop:(j.kind=4∨j.kind=5)→∀ (K:Nat→Bs→Int→Int→Bs→List aa_→List Bs→Option Bs) (v:Bs),Ev (fun n N=>K n (gR_ (FEnc d) j j.list.length) j.kind j.n_ j.s j.list j.names) v→Ev (fun n _=>aM_.loop17 n (aM_ n) (K n) n [] 0 j.kind j.n_ j.s j.list j.names) v:=by
   intro hk45 K v hK
   refine eo_ (fun i=>gR_ (FEnc d) j i) j.list.length (fun n N i (o:Bs)=>aM_.loop17 n (aM_ n) (K n) N o (i:Int) j.kind j.n_ j.s j.list j.names) v (fun i hi F hF => ?_) ?_
   · have hp:=kO_ h hi
     have hx:=gX_ d (j.list.getD i aa_.dflt) hp.size
     have hjl:=na_ h i (by omega)
     have he:=hp.enc
     have hW:=W_up hi (show j.list.length≤bV_ by simp only [bV_];omega)
     rcases hk45 with hk|hk
     · have h5:(j.kind == 5)=false:=by rw [hk];rfl
       by_cases h0:i=0
       · have hg:decide ((i:Int) > 0)=false:=decide_eq_false (by omega)
         have e0:gR_ (FEnc d) j i=[]:=by rw [h0];rfl
         have e1:gR_ (FEnc d) j (i+1)=gj_ (FEnc d) j i:=by rw [h0];exact i6_ _ _
         rw [e1] at hF
         unfold gj_ at hF
         rw [h5,cond_false] at hF
         simp only [e0,aM_.turn17,aM_.step17,aW_,Int.toNat_natCast,hW,h5,hg,reduceCtorEq,false_implies,true_implies,true_and,and_true,am_,bB_,dh_,cy_ hi,cf_ hi,ad_ hx,List.nil_append]
         generalize FEnc d (j.list.getD i aa_.dflt)=x at hF he ⊢
         repeat' (first|apply And.intro|intro _)
         all_goals (first|contradiction|exact hF|trivial|(rename_i hc;have hc:=of_decide_eq_false hc;simp only [List.length_append,List.length_cons,List.length_nil] at hc;omega))
       · rw [hW_ _ _ (by omega)] at hF
         unfold gj_ at hF
         rw [h5,cond_false] at hF
         have hg:decide ((i:Int) > 0)=true:=decide_eq_true (by omega)
         simp only [aM_.turn17,aM_.step17,aW_,Int.toNat_natCast,hW,h5,hg,am_,bB_,dh_,cy_ hi,cf_ hi,ad_ hx]
         generalize FEnc d (j.list.getD i aa_.dflt)=x at hF he ⊢
         generalize gR_ (FEnc d) j i=o at hF hjl ⊢
         repeat' (first|apply And.intro|intro _)
         all_goals (first|contradiction|exact hF|trivial|(rename_i hc;have hc:=of_decide_eq_false hc;simp only [List.length_append,List.length_cons,List.length_nil] at hc;omega))
     · have h5:(j.kind == 5)=true:=by rw [hk];rfl
       have hn:=hp.name hk
       have hq:=ha_ (s:=j.names.getD i []) (by omega)
       have hql:=gu_ (j.names.getD i [])
       by_cases h0:i=0
       · have hg:decide ((i:Int) > 0)=false:=decide_eq_false (by omega)
         have e0:gR_ (FEnc d) j i=[]:=by rw [h0];rfl
         have e1:gR_ (FEnc d) j (i+1)=gj_ (FEnc d) j i:=by rw [h0];exact i6_ _ _
         rw [e1] at hF
         unfold gj_ at hF
         rw [h5,cond_true] at hF
         simp only [e0,aM_.turn17,aM_.step17,aW_,Int.toNat_natCast,hW,h5,hg,reduceCtorEq,false_implies,true_implies,true_and,and_true,am_,bB_,dh_,cy_ hi,cf_ hi,cf_ hn.1,ad_ hx,ad_ hq,List.nil_append]
         generalize FEnc d (j.list.getD i aa_.dflt)=x at hF he ⊢
         generalize hE_ (j.names.getD i [])=y at hF hql ⊢
         rw [←List.append_assoc] at hF
         repeat' (first|apply And.intro|intro _)
         all_goals (first|contradiction|exact hF|trivial|(rename_i hc;have hc:=of_decide_eq_false hc;simp only [List.length_append,List.length_cons,List.length_nil] at hc;omega))
       · rw [hW_ _ _ (by omega)] at hF
         unfold gj_ at hF
         rw [h5,cond_true] at hF
         have hg:decide ((i:Int) > 0)=true:=decide_eq_true (by omega)
         simp only [aM_.turn17,aM_.step17,aW_,Int.toNat_natCast,hW,h5,hg,am_,bB_,dh_,cy_ hi,cf_ hi,cf_ hn.1,ad_ hx,ad_ hq]
         generalize FEnc d (j.list.getD i aa_.dflt)=x at hF he ⊢
         generalize hE_ (j.names.getD i [])=y at hF hql ⊢
         generalize gR_ (FEnc d) j i=o at hF hjl ⊢
         rw [←List.append_assoc,←List.append_assoc] at hF
         repeat' (first|apply And.intro|intro _)
         all_goals (first|contradiction|exact hF|trivial|(rename_i hc;have hc:=of_decide_eq_false hc;simp only [List.length_append,List.length_cons,List.length_nil] at hc;omega))
   · simp only [aM_.turn17,aM_.step17,ca_,cond_false]
     exact hK
  have hjl:=na_ h j.list.length (Nat.le_refl _)
  simp only [aM_,aW_]
  rcases ho.kind with hk|hk|hk|hk|hk|hk
  · simp only [FEnc,hk,Int.reduceBEq,cond_true,af_]
  · simp only [FEnc,hk,Int.reduceBEq,cond_true,cond_false,am_,af_]
    cases (j.n_ == 1)<;>simp
  · have hn:=ho.num hk
    simp only [FEnc,hk,Int.reduceBEq,cond_true,cond_false,ad_ (dB_ (x:=j.n_) (by omega) (by omega)),af_]
  · have hs:=ho.text hk
    simp only [FEnc,hk,Int.reduceBEq,cond_true,cond_false,ad_ (ha_ (s:=j.s) (by omega)),af_]
  all_goals (
   have e0:(j.kind == 0)=false:=by rw [hk];rfl
   have e1:(j.kind == 1)=false:=by rw [hk];rfl
   have e2:(j.kind == 2)=false:=by rw [hk];rfl
   have e3:(j.kind == 3)=false:=by rw [hk];rfl
   simp only [FEnc,e0,e1,e2,e3,cond_false]
   refine hloop (by omega) _ _ ?_
   generalize gR_ (FEnc d) j j.list.length=o at hjl ⊢
   simp only [hk,Int.reduceBEq,cond_true,cond_false,am_,af_,dh_]
   refine ⟨fun _=>⟨fun _=>trivial,fun hc => ?_⟩,fun hc => ?_⟩
   · have hc:=of_decide_eq_false hc
     simp only [List.length_append,List.length_cons,List.length_nil] at hc;omega
   · have hc:=of_decide_eq_false hc
     simp only [List.length_append,List.length_cons,List.length_nil] at hc;omega)
theorem Join_ev {l:List Bs} {sep:Bs} (hl:l.length≤1000000) (hj:(Lib.join l sep).length≤1000000000):Ev (fun n _=>strings_Join n l sep) (Lib.join l sep):=by
 refine au_ ?_
 simp only [strings_Join,nJoin,am_,af_,dh_]
 refine ⟨fun _=>trivial,fun h => ?_⟩
 rw [decide_eq_true (by omega),decide_eq_true (by omega)] at h;cases h
theorem hu_:∀ (d:Nat) (j:aa_),b7_ d j≤400→Ev (fun n _=>a1_ n j) (FEnc d j)
 |0,j,h=>by simp only [b7_] at h;omega
 |d+1,j,h=>by
  have ho:=(dZ_ h).1
  have hll:=f0_ h
  refine au_ ?_
  have hloop:∀ (K:Nat→Int→Int→Bs→List aa_→List Bs→List Bs→Option Bs) (v:Bs),Ev (fun n N=>K n j.kind j.n_ j.s j.list j.names ((List.range j.list.length).map (gj_ (FEnc d) j))) v→Ev (fun n _=>a1_.loop4 n (a1_ n) (K n) n j.list (j.list.length:Int) 0 j.kind j.n_ j.s j.list j.names []) v:=by
   intro K v hK
   refine eo_ (fun i=>(List.range i).map (gj_ (FEnc d) j)) j.list.length (fun n N i (o:List Bs)=>a1_.loop4 n (a1_ n) (K n) N j.list (j.list.length:Int) (i:Int) j.kind j.n_ j.s j.list j.names o) v (fun i hi F hF => ?_) ?_
   · have hp:=kO_ h hi
     have hx:=hu_ d (j.list.getD i aa_.dflt) hp.size
     have he:=hp.enc
     have hW:=W_up hi (show j.list.length≤bV_ by simp only [bV_];omega)
     have hol:((List.range i).map (gj_ (FEnc d) j)).length=i:=by simp
     rw [List.range_succ,List.map_append,List.map_cons,List.map_nil] at hF
     unfold gj_ at hF
     cases h5:(j.kind == 5) with
     |false=>
      simp only [h5,cond_false] at hF
      unfold gj_ at hol ⊢
      simp only [h5,cond_false] at hol ⊢
      simp only [a1_.turn4,a1_.step4,aW_,Int.toNat_natCast,hW,h5,cond_false,am_,bB_,dh_,bO_,cy_ hi,cf_ hi,ad_ hx]
      generalize FEnc d (j.list.getD i aa_.dflt)=x at hF he ⊢
      generalize (List.range i).map _=o at hF hol ⊢
      exact ⟨fun _=>⟨trivial,by simp;omega,hF⟩,fun h=>(by cases h)⟩
     |true=>
      have hn:=hp.name (by simpa using h5)
      have hq:=h5_ (s:=j.names.getD i []) (by omega)
      have hql:=gu_ (j.names.getD i [])
      simp only [h5,cond_true] at hF
      unfold gj_ at hol ⊢
      simp only [h5,cond_true] at hol ⊢
      simp only [a1_.turn4,a1_.step4,aW_,Int.toNat_natCast,hW,h5,cond_true,am_,bB_,dh_,bO_,cy_ hi,cf_ hi,cf_ hn.1,ad_ hx,ad_ hq]
      generalize FEnc d (j.list.getD i aa_.dflt)=x at hF he ⊢
      generalize hE_ (j.names.getD i [])=y at hF hql ⊢
      generalize (List.range i).map _=o at hF hol ⊢
      rw [←List.append_assoc] at hF
      repeat' (first|apply And.intro|intro _)
      all_goals (first|contradiction|exact hF|trivial|(rename_i hc;have hc:=of_decide_eq_false hc;simp only [List.length_append,List.length_cons,List.length_nil] at hc;omega)|(simp;omega))
   · simp only [a1_.turn4,a1_.step4,ca_,cond_false]
     exact hK
  have hjl:=na_ h j.list.length (Nat.le_refl _)
  have hJ:=Join_ev (l:=(List.range j.list.length).map (gj_ (FEnc d) j)) (sep:=[44]) (by simp;omega) (by unfold gR_ at hjl;omega)
  simp only [a1_,aW_]
  refine hloop _ _ ?_
  rcases ho.kind with hk|hk|hk|hk|hk|hk
  · simp only [FEnc,hk,Int.reduceBEq,cond_true,af_]
  · have hb:=ho.bool hk
    simp only [FEnc,hk,Int.reduceBEq,cond_true,cond_false,bB_,af_]
    have:j.n_=0∨j.n_=1:=by omega
    rcases this with e|e<;>rw [e]<;>exact ⟨⟨by decide,by decide⟩,rfl⟩
  · have hn:=ho.num hk
    simp only [FEnc,hk,Int.reduceBEq,cond_true,cond_false,ad_ (pH_ (x:=j.n_) (by omega) (by omega)),af_]
  · have hs:=ho.text hk
    simp only [FEnc,hk,Int.reduceBEq,cond_true,cond_false,ad_ (h5_ (s:=j.s) (by omega)),af_]
  all_goals (
   simp only [FEnc,hk,Int.reduceBEq,cond_true,cond_false,ad_ hJ]
   unfold gR_ at hjl ⊢
   generalize Lib.join ((List.range j.list.length).map (gj_ (FEnc d) j)) [44]=o at hjl ⊢
   simp only [am_,af_,dh_]
   refine ⟨fun _=>⟨fun _=>trivial,fun hc => ?_⟩,fun hc => ?_⟩
   · have hc:=of_decide_eq_false hc
     simp only [List.length_append,List.length_cons,List.length_nil] at hc;omega
   · have hc:=of_decide_eq_false hc
     simp only [List.length_append,List.length_cons,List.length_nil] at hc;omega)
def dp_ (j:aa_):Bs:=cond (bF_ j) (cond (decide (((FEnc 6 j).length:Int) > 6000)) [] (FEnc 6 j)) []
theorem fd_ {j:aa_} (h:ff_ 6 j):Ev (fun n _=>cY_ n j) (dp_ j):=by
 refine au_ ?_
 simp only [cY_,aW_,ad_ (cD_ h),am_,af_,dp_]
 cases hj:bF_ j with
 |false=>simp
 |true=>
  simp only [ad_ (gX_ 6 j (of_decide_eq_true hj)),am_,af_]
  cases decide (((FEnc 6 j).length:Int) > 6000)<;>simp
theorem gg_ {j:aa_} (h:ff_ 6 j):Ev (fun n _=>dW_ n j) (dp_ j):=by
 refine au_ ?_
 simp only [dW_,aW_,ad_ (ee_ h),am_,af_,dp_]
 cases hj:bF_ j with
 |false=>simp
 |true=>
  simp only [ad_ (hu_ 6 j (of_decide_eq_true hj)),am_,af_]
  cases decide (((FEnc 6 j).length:Int) > 6000)<;>simp
end Go.Pi
end
section
namespace Go.Pi
def dn_ (ns:List Bs) (x:Bs):Nat:=ns.findIdx (fun y => !Op.bytesLess y x)
def fi_ (ns:List Bs) (x:Bs):Nat:=if ns.getD (dn_ ns x) []=x∧dn_ ns x<ns.length then dn_ ns x+1 else dn_ ns x
def hl_ {α:Type} (ns:List Bs) (x:Bs) (l:List α) (y:α):List α:=l.take (dn_ ns x)++[y]++l.drop (fi_ ns x)
theorem hJ_ {α:Type} (d:α) {a m:List α} {i q:Nat} (p:Nat) (hi:i<a.length) (h:q≤i):a.take p++m++(a.take (i+1)).drop q=a.take p++m++(a.take i).drop q++[a.getD i d]:=by
 rw [cP_ d hi,List.drop_append_of_le_length (by simp;omega)]
 simp
theorem put_idx {ns:List Bs} {x:Bs} {i:Nat} (hi:i<ns.length) (hle:i≤dn_ ns x):(!Op.bytesLess (ns.getD i []) x)=decide (i=dn_ ns x):=by
 rw [List.getD_eq_getElem?_getD,List.getElem?_eq_getElem hi,Option.getD_some]
 unfold dn_ at hle ⊢
 by_cases h:i=ns.findIdx (fun y => !Op.bytesLess y x)
 · rw [decide_eq_true h]
   have:=List.findIdx_getElem (xs:=ns) (p:=fun y => !Op.bytesLess y x) (w:=by omega)
   simp only [←h] at this
   exact this
 · rw [decide_eq_false h]
   exact List.not_of_lt_findIdx (xs:=ns) (p:=fun y => !Op.bytesLess y x) (i:=i) (by omega)
theorem fu_ {o j:aa_} {x:Bs} (hk:o.names.length≤2000000) (he:o.list.length=o.names.length) (hlt:∀ y,Op.bytesLess y x=true→(y == x)=false) (hne:∀ i,fi_ o.names x≤i→i<o.names.length→(o.names.getD i [] == x)=false) :
  Ev (fun n _=>br_ n o x j) (aa_.mk 5 0 [] (hl_ o.names x o.list j) (hl_ o.names x o.names x)):=by
 refine au_ ?_
 have ht:o.names.length≤bV_:=by simp only [bV_];omega
 obtain ⟨p,hp⟩:∃ p,p=dn_ o.names x:=⟨_,rfl⟩
 have hpl:p≤o.names.length:=by rw [hp];exact List.findIdx_le_length
 obtain ⟨q,hq⟩:∃ q,q=fi_ o.names x:=⟨_,rfl⟩
 have hqp:p≤q∧q≤p+1:=by rw [hq,hp];unfold fi_;split<;>omega
 have hT:o.list.take o.names.length=o.list:=List.take_of_length_le (by omega)
 let S:Nat→Bool × List aa_ × List Bs:=fun i=>if i≤p then (false,o.list.take i,o.names.take i) else (true,o.list.take p++[j]++(o.list.take i).drop q,o.names.take p++[x]++(o.names.take i).drop q)
 have hS0:S 0=(false,[],[]):=by simp [S]
 simp only [br_]
 have:=eo_ S o.names.length (fun n N i (s:Bool × List aa_ × List Bs)=>br_.loop5 n (fun xy1 xy2 xy3 xy4 xy5 xy6 xy7 xy8 xy9 xy10 xy11 xy12 xy13 xy14 xy15=>(cond (!xy2) (bq_ (xy15.length+([xy1]:List Bs).length) 16 (bq_ (xy14.length+([(aa_.mk xy3 xy4 xy5 xy6 xy7)]:List aa_).length) 80 (some (aa_.mk xy11 xy12 xy13 (xy14++([(aa_.mk xy3 xy4 xy5 xy6 xy7)]:List aa_)) (xy15++([xy1]:List Bs)))))) (some (aa_.mk xy11 xy12 xy13 xy14 xy15)))) N x s.1 (i:Int) o.kind o.n_ o.s o.list o.names j.kind j.n_ j.s j.list j.names 0 0 [] 5 0 [] s.2.1 s.2.2)
  (aa_.mk 5 0 [] (hl_ o.names x o.list j) (hl_ o.names x o.names x)) (fun i hi F hF => ?_) ?_
 · rw [hS0] at this;exact this
 · have hx:=put_idx (ns:=o.names) (x:=x) hi
   rw [←hp] at hx
   have hln:(S i).2.2.length≤o.names.length+1:=by simp only [S];split<;>simp<;>omega
   have hll:(S i).2.1.length≤o.names.length+1:=by simp only [S];split<;>simp<;>omega
   have hil:i<o.list.length:=by omega
   simp only [br_.turn5,br_.step5,cA_,aW_,Int.toNat_natCast,W_up hi ht,am_,bB_,bO_,cy_ hi,cf_ hi,cf_ hil]
   by_cases hle:i≤p
   · have s1:S i=(false,o.list.take i,o.names.take i):=by simp only [S,if_pos hle]
     rw [s1] at hln hll ⊢
     by_cases e:i=p
     · have hb:(!Op.bytesLess (o.names.getD i []) x)=true:=by rw [hx hle];exact decide_eq_true e
       subst e
       by_cases hs:o.names.getD i []=x
       · have hqv:q=i+1:=by rw [hq];unfold fi_;rw [←hp,if_pos ⟨hs,hi⟩]
         have s2:S (i+1)=(true,o.list.take i++[j],o.names.take i++[x]):=by
          simp only [S,if_neg (show ¬ i+1≤i by omega)]
          rw [List.drop_eq_nil_of_le (by simp;omega),List.drop_eq_nil_of_le (by simp;omega),List.append_nil,List.append_nil]
         rw [s2] at hF
         have hs':(o.names.getD i [] == x)=true:=by simpa using hs
         simp only [hb,hs',cond_true,cond_false,Bool.not_true,Bool.not_false]
         repeat' (first|apply And.intro|intro _)
         all_goals (first|contradiction|exact hF|trivial|(simp;omega))
       · have hqv:q=i:=by rw [hq];unfold fi_;rw [←hp,if_neg (fun h=>hs h.1)]
         have s2:S (i+1)=(true,o.list.take i++[j]++[o.list.getD i aa_.dflt],o.names.take i++[x]++[o.names.getD i []]):=by
          simp only [S,if_neg (show ¬ i+1≤i by omega),hqv]
          rw [hJ_ aa_.dflt i hil (Nat.le_refl _),hJ_ [] i hi (Nat.le_refl _),List.drop_eq_nil_of_le (by simp;omega),List.drop_eq_nil_of_le (by simp;omega),List.append_nil,List.append_nil]
         rw [s2] at hF
         have hs':(o.names.getD i [] == x)=false:=by simpa using hs
         simp only [hb,hs',cond_true,cond_false,Bool.not_true,Bool.not_false]
         repeat' (first|apply And.intro|intro _)
         all_goals (first|contradiction|exact hF|trivial|(simp;omega))
     · have hb:(!Op.bytesLess (o.names.getD i []) x)=false:=by rw [hx hle];exact decide_eq_false e
       have hs':(o.names.getD i [] == x)=false:=hlt (o.names.getD i []) (by rw [Bool.not_eq_false'] at hb;exact hb)
       have s2:S (i+1)=(false,o.list.take i++[o.list.getD i aa_.dflt],o.names.take i++[o.names.getD i []]):=by
        simp only [S,if_pos (show i+1≤p by omega),cP_ aa_.dflt hil,cP_ [] hi]
       rw [s2] at hF
       simp only [hb,hs',cond_true,cond_false,Bool.not_true,Bool.not_false]
       repeat' (first|apply And.intro|intro _)
       all_goals (first|contradiction|exact hF|trivial|(simp;omega))
   · have s1:S i=(true,o.list.take p++[j]++(o.list.take i).drop q,o.names.take p++[x]++(o.names.take i).drop q):=by simp only [S,if_neg hle]
     have s2:S (i+1)=(true,o.list.take p++[j]++(o.list.take i).drop q++[o.list.getD i aa_.dflt],o.names.take p++[x]++(o.names.take i).drop q++[o.names.getD i []]):=by
      simp only [S,if_neg (show ¬ i+1≤p by omega)]
      rw [hJ_ aa_.dflt p hil (by omega),hJ_ [] p hi (by omega)]
     have hs':=hne i (by omega) hi
     rw [s1] at hln hll ⊢
     rw [s2] at hF
     simp only [hs',cond_true,cond_false,Bool.not_true,Bool.not_false]
     repeat' (first|apply And.intro|intro _)
     all_goals (first|contradiction|exact hF|trivial|(simp at hln hll ⊢;omega))
 · simp only [br_.turn5,br_.step5,cA_,ca_,cond_false,am_,bO_,af_]
   unfold hl_
   rw [←hp,←hq]
   by_cases hle:o.names.length≤p
   · have e:p=o.names.length:=by omega
     have hqv:q=p:=by rw [hq];unfold fi_;rw [←hp,if_neg (fun h=>by omega)]
     have s1:S o.names.length=(false,o.list,o.names):=by simp only [S,if_pos hle,List.take_length];rw [List.take_of_length_le (by omega)]
     rw [s1,hqv,e,List.take_of_length_le (l:=o.list) (by omega),List.drop_eq_nil_of_le (show o.list.length≤o.names.length by omega),List.take_length,List.drop_length]
     refine ⟨fun _=>⟨by simp;omega,by simp;omega,by simp⟩,fun h=>(by cases h)⟩
   · have s1:S o.names.length=(true,o.list.take p++[j]++o.list.drop q,o.names.take p++[x]++o.names.drop q):=by simp only [S,if_neg hle,List.take_length];rw [hT]
     rw [s1]
     exact ⟨fun h=>(by cases h),fun _=>rfl⟩
end Go.Pi
end
section
namespace Go.Pi
theorem e7_:∀ (x y:Bs),Op.bytesLess x y=decide (x<y)
 |[],[]=>by simp [Op.bytesLess]
 |_::_,[]=>by simp [Op.bytesLess]
 |[],_::_=>by simp [Op.bytesLess]
 |a::x,b::y=>by
  rw [Op.bytesLess,e7_ x y]
  simp only [List.cons_lt_cons_iff]
  by_cases h1:a<b<;>by_cases h2:a=b<;>by_cases h3:x<y<;>simp [h1,h2,h3]
theorem less_ne {x y:Bs} (h:Op.bytesLess y x=true):(y == x)=false:=by
 rw [e7_] at h
 exact beq_eq_false_iff_ne.2 fun e=>by subst e;exact List.lt_irrefl y (of_decide_eq_true h)
end Go.Pi
end
section
namespace Go.Pi
def fJ_:aa_:=aa_.mk 0 0 [] [] []
def eq_ (j:aa_):aa_:=cond (bF_ j) j fJ_
theorem orNull_ev {j:aa_} (h:ff_ 6 j):Ev (fun n _=>dV_ n j) (eq_ j):=by
 refine au_ ?_
 simp only [dV_,aW_,ad_ (ee_ h),am_,af_,eq_,fJ_]
 cases bF_ j<;>simp
end Go.Pi
end
section
namespace Go.Pi
theorem iJ_ {d:Nat} {j:aa_} (h:b7_ (d+1) j≤400):j.names.length≤400:=by
 have h1:=f0_ h
 have ho:=(dZ_ h).1
 by_cases hk:j.kind=5
 · have:=(ho.obj hk).1;omega
 · have:FOwn j=true:=by
    simp only [b7_] at h
    cases hf:FOwn j with
    |true=>rfl
    |false=>rw [hf,cond_false] at h;omega
   unfold FOwn at this
   simp only [Bool.and_eq_true,Bool.or_eq_true] at this
   rcases this.2.1 with h2|h2
   · have:=of_decide_eq_true h2;omega
   · exact absurd (by simpa using h2) hk
theorem dE_:∀ (d:Nat) (j:aa_),b7_ d j≤400→Ev (fun n _=>aA_ n j) j
 |0,j,h=>by simp only [b7_] at h;omega
 |d+1,j,h=>by
  have hll:=f0_ h
  have hnl:=iJ_ h
  refine au_ ?_
  have hc:Ev (fun n _=>cH_ n j.names) j.names:=au_ (by simp only [cH_,bO_,af_,List.nil_append,List.length_nil,and_true];omega)
  simp only [aA_,ad_ hc]
  have:=eo_ (fun i=>j.list.take i) j.list.length (fun n N i (o:List aa_)=>aA_.loop4 n (aA_ n) (fun xy3 xy4 xy5 xy6 xy7 xy8 xy9 xy10=>(some (aa_.mk xy6 xy7 xy8 xy9 xy10))) N j.list (j.list.length:Int) (i:Int) 0 0 [] j.kind j.n_ j.s o j.names) j (fun i hi F hF => ?_) ?_
  · exact this
  · have hp:=kO_ h hi
    have hx:=dE_ d (j.list.getD i aa_.dflt) hp.size
    rw [cP_ aa_.dflt hi] at hF
    simp only [aA_.turn4,aA_.step4,aW_,Int.toNat_natCast,W_up hi (show j.list.length≤bV_ by simp only [bV_];omega),am_,bB_,bO_,cy_ hi,cf_ hi,ad_ hx]
    exact ⟨fun _=>⟨trivial,by simp;omega,hF⟩,fun h=>(by cases h)⟩
  · simp only [aA_.turn4,aA_.step4,ca_,cond_false,List.take_length,af_,cA_]
theorem cR_:∀ (d:Nat) (j:aa_),b7_ d j≤400→Ev (fun n _=>aB_ n j) j
 |0,j,h=>by simp only [b7_] at h;omega
 |d+1,j,h=>by
  have hll:=f0_ h
  have hnl:=iJ_ h
  refine au_ ?_
  simp only [aB_,bO_,List.nil_append,List.length_nil]
  refine ⟨by omega,?_⟩
  have:=eo_ (fun i=>j.list.take i) j.list.length (fun n N i (o:List aa_)=>aB_.loop4 n (aB_ n) (fun xy2 xy3 xy4 xy5 xy6 xy7 xy8 xy9=>(some (aa_.mk xy5 xy6 xy7 xy8 xy9))) N (i:Int) j.kind j.n_ j.s j.list j.names 0 0 [] j.kind j.n_ j.s o j.names) j (fun i hi F hF => ?_) ?_
  · exact this
  · have hp:=kO_ h hi
    have hx:=cR_ d (j.list.getD i aa_.dflt) hp.size
    rw [cP_ aa_.dflt hi] at hF
    simp only [aB_.turn4,aB_.step4,aW_,Int.toNat_natCast,W_up hi (show j.list.length≤bV_ by simp only [bV_];omega),am_,bB_,bO_,cy_ hi,cf_ hi,ad_ hx]
    exact ⟨fun _=>⟨trivial,by simp;omega,hF⟩,fun h=>(by cases h)⟩
  · simp only [aB_.turn4,aB_.step4,ca_,cond_false,List.take_length,af_,cA_]
def iY_ (j:aa_):Bool:=(j.kind == 0)&&((j.n_ == 0)&&((j.s == [])&&(decide (j.list.length=0)&&decide (j.names.length=0))))
theorem mZ_ {α:Type} (l:List α):((l.length:Int) == 0)=decide (l.length=0):=by
 by_cases h:l.length=0
 · rw [h];rfl
 · rw [decide_eq_false h];simp;intro e;exact h (by rw [e];rfl)
theorem h6_ {j:aa_}:Ev (fun n _=>dz_ n j) (iY_ j):=by
 refine au_ ?_
 simp only [dz_,am_,af_,iY_,mZ_]
 cases (j.kind == 0)<;>cases (j.n_ == 0)<;>cases (j.s == [])<;>cases decide (j.list.length=0)<;>simp
theorem rp_ (d:Nat) (j:aa_):eh_ (d+1) j fJ_=iY_ j:=by
 simp only [eh_,fJ_,jA_,iY_,List.length_nil]
 by_cases h1:j.names.length=0
 · by_cases h2:j.list.length=0
   · rw [h1,h2];simp [hY_,hz_]
   · have h2:j.list≠[]:=fun e=>h2 (by rw [e];rfl)
     simp [h2]
 · have h1:j.names≠[]:=fun e=>h1 (by rw [e];rfl)
   simp [h1]
def qM_ (w:List Bs):Bool:=hY_ (fun i=>i0_ (w.getD i [])) w.length
def gP_ (o:TOp):Bool:=inn o.kind 1 4&&(decide (o.way.length≤6)&&(bF_ o.value&&(qM_ o.way&&((o.kind != 2)||iY_ o.value))))
def lL_ (o:TOp):Prop:=q1_ bV_ o.way∧ff_ 6 o.value
theorem eZ_ (o:TOp):TOp.mk o.kind o.way o.value=o:=rfl
theorem gt_le {n:Nat}:decide ((n:Int) > 6) = !decide (n≤6):=by
 by_cases h:n≤6
 · rw [decide_eq_true h,decide_eq_false (by omega)];rfl
 · rw [decide_eq_false h,decide_eq_true (by omega)];rfl
theorem le_le {n:Nat}:decide ((n:Int)≤6)=decide (n≤6):=by
 by_cases h:n≤6
 · rw [decide_eq_true h,decide_eq_true (by omega)]
 · rw [decide_eq_false h,decide_eq_false (by omega)]
theorem jK_ {o:TOp} (h:lL_ o):Ev (fun n _=>b6_ n o) (gP_ o):=by
 refine au_ ?_
 simp only [b6_,aW_,fj_,ad_ (cD_ h.2),am_,af_,gt_le,gP_]
 cases hj:bF_ o.value with
 |false=>cases inn o.kind 1 4<;>cases decide (o.way.length≤6)<;>simp
 |true=>
  have hS:=eb_ 6 o.value fJ_ (e9_ 6 o.value (of_decide_eq_true hj)) h.2
  rw [rp_] at hS
  unfold fJ_ at hS
  have hl:Ev (fun n _=>b6_.loop6 n (fun xy4 xy5 xy6 xy7 xy8 xy9 xy10=>(cond (xy4 != 2) (some true) ((an_ n (aa_.mk xy6 xy7 xy8 xy9 xy10) (aa_.mk 0 0 [] [] [])).bind fun xr11=>(some xr11)))) n 0 o.kind o.way o.value.kind o.value.n_ o.value.s o.value.list o.value.names) (qM_ o.way&&((o.kind != 2)||iY_ o.value)):=by
   refine eG_ (fun n N i=>b6_.loop6 n (fun xy4 xy5 xy6 xy7 xy8 xy9 xy10=>(cond (xy4 != 2) (some true) ((an_ n (aa_.mk xy6 xy7 xy8 xy9 xy10) (aa_.mk 0 0 [] [] [])).bind fun xr11=>(some xr11)))) N (i:Int) o.kind o.way o.value.kind o.value.n_ o.value.s o.value.list o.value.names) _ (fun i w hi ih => ?_) ?_
   · simp only [b6_.turn6,b6_.step6,Int.toNat_natCast,W_up hi h.1.1,am_,bB_,ad_ (ga_ (iO_ h.1 i)),af_,dj_ ih,cy_ hi,cf_ hi]
     cases i0_ (o.way.getD i [])<;>simp
   · simp only [b6_.turn6,b6_.step6,ca_,cond_false,cA_,am_,ad_ hS,af_]
     cases (o.kind != 2)<;>simp
  simp only [dj_ hl]
  cases inn o.kind 1 4<;>cases decide (o.way.length≤6)<;>simp
theorem jP_ {o:TOp} (h:lL_ o):Ev (fun n _=>b9_ n o) (gP_ o):=by
 refine au_ ?_
 simp only [b9_]
 have e:gP_ o=(qM_ o.way&&(inn o.kind 1 4&&(decide (o.way.length≤6)&&(bF_ o.value&&((o.kind != 2)||iY_ o.value))))):=by
  unfold gP_
  cases inn o.kind 1 4<;>cases decide (o.way.length≤6)<;>cases bF_ o.value<;>cases qM_ o.way<;>simp
 rw [e]
 refine eG_ (fun n N i=>b9_.loop3 n (fun xy2 xy3 xy4 xy5 xy6 xy7 xy8=>((aJ_ n xy2 1 4).bind fun xr9=>(cond xr9 (cond (decide ((xy3.length:Int)≤6)) ((cN_ n (aa_.mk xy4 xy5 xy6 xy7 xy8)).bind fun xr10=>(cond xr10 (cond (xy2 != 2) (some true) ((dz_ n (aa_.mk xy4 xy5 xy6 xy7 xy8)).bind fun xr11=>(some xr11))) (some false))) (some false)) (some false)))) N o.way (o.way.length:Int) (i:Int) o.kind o.way o.value.kind o.value.n_ o.value.s o.value.list o.value.names) _ (fun i w hi ih => ?_) ?_
 · simp only [b9_.turn3,b9_.step3,Int.toNat_natCast,W_up hi h.1.1,am_,bB_,ad_ (gf_ (iO_ h.1 i)),af_,dj_ ih,cy_ hi,cf_ hi]
   cases i0_ (o.way.getD i [])<;>simp
 · simp only [b9_.turn3,b9_.step3,ca_,cond_false,cA_,am_,hI_,le_le,ad_ (ee_ h.2),ad_ h6_,af_]
   cases inn o.kind 1 4<;>cases decide (o.way.length≤6)<;>cases bF_ o.value<;>cases (o.kind != 2)<;>simp
def gQ_ (k:Int):Bs:=cond (k == 1) [97,100,100] (cond (k == 2) [114,101,109,111,118,101] (cond (k == 3) [114,101,112,108,97,99,101] [116,101,115,116]))
def txtJ (s:Bs):aa_:=aa_.mk 3 0 s [] []
abbrev nmOp:Bs:=[111,112]
abbrev kR_:Bs:=[112,97,116,104]
abbrev jg_:Bs:=[118,97,108,117,101]
def hF_ (o:TOp):aa_:=cond (o.kind == 2) (aa_.mk 5 0 [] [txtJ (gQ_ o.kind),txtJ (FWay o.way)] [nmOp,kR_]) (aa_.mk 5 0 [] [txtJ (gQ_ o.kind),txtJ (FWay o.way),o.value] [nmOp,kR_,jg_])
def cO_ (o:TOp):aa_:=cond (gP_ o) (eq_ (hF_ o)) fJ_
theorem m3_:∀ (d:Nat) (j:aa_),ff_ (d+1) j→ff_ d j
 |0,_,_=>trivial
 |d+1,j,h=>⟨h.1,h.2.1,fun x hx=>m3_ d x (h.2.2 x hx)⟩
theorem ki_ {s:Bs} (h:s.length≤bV_):∀ d,ff_ d (txtJ s)
 |0=>trivial
 |d+1=>⟨⟨h,Nat.zero_le _,fun x hx=>(by cases hx)⟩,Nat.zero_le _,fun x hx=>(by cases hx)⟩
theorem en_:∀ d,ff_ d fJ_
 |0=>trivial
 |d+1=>⟨⟨Nat.zero_le _,Nat.zero_le _,fun x hx=>(by cases hx)⟩,Nat.zero_le _,fun x hx=>(by cases hx)⟩
structure OpIs (o:TOp):Prop where
 kind:o.kind=1∨o.kind=2∨o.kind=3∨o.kind=4
 way:o.way.length≤6
 text:∀ s ∈ o.way,s.length≤60
 val:b7_ 6 o.value≤400
theorem op_is {o:TOp} (h:gP_ o=true):OpIs o:=by
 unfold gP_ at h
 simp only [Bool.and_eq_true] at h
 obtain ⟨h1,h2,h3,h4,_⟩:=h
 have hk:=gE_ h1
 refine ⟨by omega,of_decide_eq_true h2,fun s hs => ?_,of_decide_eq_true h3⟩
 obtain ⟨i,hi,e⟩:=List.mem_iff_getElem.1 hs
 have:=fg_.1 h4 i hi
 rw [List.getD_eq_getElem?_getD,List.getElem?_eq_getElem hi,Option.getD_some,e] at this
 exact iZ_ this
theorem name_len (k:Int):(gQ_ k).length≤60:=by
 unfold gQ_
 cases (k == 1)<;>cases (k == 2)<;>cases (k == 3)<;>simp
theorem jk_ {o:TOp} (h:lL_ o) (ho:OpIs o):ff_ 6 (hF_ o):=by
 have hw:=nt_ ho.text
 have hwl:=ho.way
 have hw2:(FWay o.way).length≤bV_:=by simp only [bV_];omega
 have hn:(gQ_ o.kind).length≤bV_:=by have:=name_len o.kind;simp only [bV_];omega
 have hv:=m3_ 5 _ h.2
 unfold hF_
 cases (o.kind == 2) with
 |true=>
  refine ⟨⟨Nat.zero_le _,by show 2≤bV_;decide,fun x hx => ?_⟩,by show 2≤bV_;decide,fun x hx => ?_⟩
  · simp at hx;rcases hx with e|e<;>(rw [e];decide)
  · simp at hx;rcases hx with e|e
    · rw [e];exact ki_ hn 5
    · rw [e];exact ki_ hw2 5
 |false=>
  refine ⟨⟨Nat.zero_le _,by show 3≤bV_;decide,fun x hx => ?_⟩,by show 3≤bV_;decide,fun x hx => ?_⟩
  · simp at hx;rcases hx with e|e|e<;>(rw [e];decide)
  · simp at hx;rcases hx with e|e|e
    · rw [e];exact ki_ hn 5
    · rw [e];exact ki_ hw2 5
    · rw [e];exact hv
theorem pc_ {o:TOp} (h:lL_ o):ff_ 6 (cO_ o):=by
 unfold cO_
 cases ho:gP_ o with
 |false=>exact en_ 6
 |true=>
  unfold eq_
  cases bF_ (hF_ o) with
  |false=>exact en_ 6
  |true=>exact jk_ h (op_is ho)
theorem put_value (a b v:aa_):Ev (fun n _=>br_ n (aa_.mk 5 0 [] [a,b] [nmOp,kR_]) jg_ v) (aa_.mk 5 0 [] [a,b,v] [nmOp,kR_,jg_]) :=
 fu_ (o:=aa_.mk 5 0 [] [a,b] [nmOp,kR_]) (j:=v) (x:=jg_) (by show 2≤2000000;decide) rfl (fun _=>less_ne) (fun i h1 h2=>by
  have:fi_ [nmOp,kR_] jg_=2:=by decide
  have h2:i<2:=h2
  have h1:fi_ [nmOp,kR_] jg_≤i:=h1
  omega)
theorem fb_ {o:TOp} (h:lL_ o):Ev (fun n _=>dU_ n o) (cO_ o):=by
 refine au_ ?_
 have hN:Ev (fun n _=>dI_ n ()) [[],[97,100,100],[114,101,109,111,118,101],[114,101,112,108,97,99,101],[116,101,115,116]]:=au_ (by simp only [dI_,af_])
 simp only [dU_,aW_,eZ_,ad_ (jK_ h),am_,af_]
 unfold cO_
 cases ho:gP_ o with
 |false=>exact ⟨fun _=>rfl,fun h=>(by cases h)⟩
 |true=>
  refine ⟨fun h=>(by cases h),fun _ => ?_⟩
  have hi:=op_is ho
  have hV:=cD_ (jk_ h hi)
  have hCp:=cR_ 6 o.value hi.val
  simp only [ad_ hN,bB_,ad_ (ky_ hi.way hi.text)]
  unfold eq_ fJ_ hF_ txtJ gQ_
  unfold hF_ txtJ gQ_ at hV
  rcases hi.kind with hk|hk|hk|hk
  all_goals (
   simp only [hk,Int.reduceBEq,cond_true,cond_false] at hV
   simp only [hk,Int.reduceBEq,cond_true,cond_false,bne,Bool.not_false,Bool.not_true,Int.reduceToNat,List.getD_cons_succ,List.getD_cons_zero,am_,ad_ hCp,ad_ (put_value _ _ _),ad_ hV,af_]
   refine ⟨⟨by decide,by decide⟩,?_⟩
   generalize bF_ _=q
   cases q<;>simp)
theorem h7_ {o:TOp} (h:lL_ o):Ev (fun n _=>d9_ n o) (cO_ o):=by
 refine au_ ?_
 have hN:Ev (fun n _=>dP_ n ()) [[97,100,100],[114,101,109,111,118,101],[114,101,112,108,97,99,101],[116,101,115,116]]:=au_ (by simp only [dP_,af_])
 simp only [d9_,aW_,eZ_,ad_ (jP_ h),am_,af_]
 unfold cO_
 cases ho:gP_ o with
 |false=>exact ⟨fun _=>rfl,fun h=>(by cases h)⟩
 |true=>
  refine ⟨fun h=>(by cases h),fun _ => ?_⟩
  have hi:=op_is ho
  have hV:=orNull_ev (jk_ h hi)
  have hCp:=dE_ 6 o.value hi.val
  simp only [ad_ hN,bB_,ad_ (k5_ hi.way hi.text)]
  simp only [cond_true]
  unfold hF_ txtJ gQ_
  unfold hF_ txtJ gQ_ at hV
  have w1:W ((1:Int) - 1)=0:=by rw [W_id (by decide) (by decide)];rfl
  have w2:W ((2:Int) - 1)=1:=by rw [W_id (by decide) (by decide)];rfl
  have w3:W ((3:Int) - 1)=2:=by rw [W_id (by decide) (by decide)];rfl
  have w4:W ((4:Int) - 1)=3:=by rw [W_id (by decide) (by decide)];rfl
  rcases hi.kind with hk|hk|hk|hk
  all_goals (
   simp only [hk,Int.reduceBEq,cond_true,cond_false] at hV
   simp only [hk,w1,w2,w3,w4,Int.reduceBEq,cond_true,cond_false,bne,Bool.not_false,Bool.not_true,Int.reduceToNat,List.getD_cons_succ,List.getD_cons_zero,List.cons_append,List.nil_append,am_,bO_,ad_ hCp,ad_ hV,af_,true_implies,false_implies,reduceCtorEq,and_true,true_and]
   simp only [List.length_cons,List.length_nil]
   decide)
end Go.Pi
end
section
namespace Go.Pi
theorem isNaN_ev {x:Bs}:Ev (fun n _=>b2_ n x) false:=au_ (by simp [b2_,af_])
theorem isNaN2_ev {x:Bs}:Ev (fun n _=>ct_ n x) false:=au_ (by simp [ct_,af_])
theorem rm_ {x y:Bs}:Ev (fun n _=>cK_ n x y) (Op.bytesLess x y):=by
 refine au_ ?_
 simp only [cK_,ad_ isNaN2_ev,am_,af_]
 cases Op.bytesLess x y<;>simp
theorem half {i j:Nat} (h:i+j≤4000000):W (Int.fdiv (IntKind.u64.wrap (W ((i:Int)+(j:Int)))) (2 ^ min (1:Int).toNat (IntKind.bits .u64)))=(((i+j) / 2:Nat):Int):=by
 have e1:W ((i:Int)+(j:Int))=((i+j:Nat):Int):=by rw [W_id (by omega) (by omega)];omega
 have e2:IntKind.u64.wrap ((i+j:Nat):Int)=((i+j:Nat):Int):=by
  show (((i+j:Nat):Int)) % _=_
  exact Int.emod_eq_of_lt (by omega) (by have:((i+j:Nat):Int)≤4000000:=by omega
                                         exact Int.lt_of_le_of_lt this (by decide))
 have e3:(2:Int) ^ min (1:Int).toNat (IntKind.bits .u64)=2:=by decide
 rw [e1,e2,e3,Int.fdiv_eq_ediv_of_nonneg _ (by decide)]
 rw [W_id (by omega) (by omega)];omega
theorem lz_ {ns:List Bs} {x:Bs} (hl:ns.length≤2000000) (hM:∀ h,h<ns.length→Op.bytesLess (ns.getD h []) x=decide (h<dn_ ns x)) :
  Ev (fun n _=>al_ n ns x) ((dn_ ns x:Int),decide (dn_ ns x<ns.length)&&(ns.getD (dn_ ns x) [] == x)):=by
 refine au_ ?_
 have hpl:dn_ ns x≤ns.length:=List.findIdx_le_length
 obtain ⟨p,hp⟩:∃ p,p=dn_ ns x:=⟨_,rfl⟩
 rw [←hp] at hpl hM ⊢
 simp only [al_]
 have key:∀ (d i j:Nat),j - i≤d→i≤p→p≤j→j≤ns.length→Ev (fun n N=>al_.loop4 n (fun xy3 xy4 xy5 xy6=>(cond (decide (xy6<xy5)) (inB xy6 xy3.length (cond ((xy3.getD xy6.toNat []) == xy4) (some (xy6,true)) (inB xy6 xy3.length ((b2_ n (xy3.getD xy6.toNat [])).bind fun xr7=>(cond xr7 ((b2_ n xy4).bind fun xr8=>(some (xy6,xr8))) (some (xy6,false))))))) (some (xy6,false)))) N ns x (ns.length:Int) (i:Int) (j:Int)) ((p:Int),decide (p<ns.length)&&(ns.getD p [] == x)):=by
  intro d
  induction d with
  |zero=>
   intro i j hd h1 h2 h3
   have e:i=p:=by omega
   have e':j=p:=by omega
   subst e;subst e'
   refine b4_ ?_
   simp only [al_.turn4,al_.step4,Int.lt_irrefl,decide_false,cond_false,am_,bB_,af_,Int.toNat_natCast,ad_ isNaN_ev]
   by_cases hc:j<ns.length
   · rw [decide_eq_true hc,decide_eq_true (show (j:Int)<(ns.length:Int) by omega)]
     cases hs:(ns.getD j [] == x)<;>simp<;>omega
   · rw [decide_eq_false hc,decide_eq_false (show ¬ (j:Int)<(ns.length:Int) by omega)]
     exact ⟨fun h=>(by cases h),fun _=>rfl⟩
  |succ d ih=>
   intro i j hd h1 h2 h3
   by_cases hij:i<j
   · have hh:=half (i:=i) (j:=j) (by omega)
     have hm:(i+j) / 2<ns.length:=by omega
     refine b4_ ?_
     simp only [al_.turn4,al_.step4,hh,decide_eq_true (show (i:Int)<(j:Int) by omega),cond_true,am_,bB_,Int.toNat_natCast,ad_ rm_,cf_ hm,hM _ hm,W_up hm (show ns.length≤bV_ by simp only [bV_];omega)]
     refine ⟨trivial,fun hc => ?_,fun hc => ?_⟩
     · have hc:=of_decide_eq_true hc
       exact ih ((i+j) / 2+1) j (by omega) (by omega) h2 h3
     · have hc:=of_decide_eq_false hc
       exact ih i ((i+j) / 2) (by omega) h1 (by omega) (by omega)
   · exact ih i j (by omega) h1 h2 h3
 exact d3_ (f:=fun n N=>al_.loop4 n _ N ns x (ns.length:Int) 0 (ns.length:Int)) (key ns.length 0 ns.length (by omega) (Nat.zero_le _) hpl (Nat.le_refl _))
end Go.Pi
end
section
namespace Go.Pi
def ins (x:Bs) (y:Int):List (Bs × Int)→List (Bs × Int)
 |[]=>[(x,y)]
 |(k,v)::l=>if k<x then (k,v)::ins x y l else if k=x then (x,y)::l else (x,y)::(k,v)::l
def ge_:List (Bs × Int)→Prop
 |[]=>True
 |(k,_)::l=>(∀ p ∈ l,k<p.1)∧ge_ l
theorem nb_ {x:Bs} {y:Int}:∀ {l:List (Bs × Int)} {p:Bs × Int},p ∈ ins x y l→p=(x,y)∨p ∈ l
 |[],p,h=>by simp only [ins,List.mem_singleton] at h;exact .inl h
 |(k,v)::l,p,h=>by
  simp only [ins] at h
  split at h
  · rcases List.mem_cons.1 h with h|h
    · exact .inr (h ▸ List.mem_cons_self ..)
    · rcases nb_ h with h|h
      · exact .inl h
      · exact .inr (List.mem_cons_of_mem _ h)
  · split at h
    · rcases List.mem_cons.1 h with h|h
      · exact .inl h
      · exact .inr (List.mem_cons_of_mem _ h)
    · rcases List.mem_cons.1 h with h|h
      · exact .inl h
      · exact .inr h
theorem not_lt_lt {a b:Bs} (h1:¬ a<b) (h2:a≠b):b<a:=by
 rcases Decidable.em (b<a) with h|h
 · exact h
 · exact absurd (List.le_antisymm (List.not_lt.1 h) (List.not_lt.1 h1)) h2
theorem ph_ {x:Bs} {y:Int}:∀ {l:List (Bs × Int)},ge_ l→ge_ (ins x y l)
 |[],_=>⟨fun p hp=>(by cases hp),trivial⟩
 |(k,v)::l,h=>by
  simp only [ins]
  split
  · rename_i hk
    exact ⟨fun p hp=>(nb_ hp).elim (fun e=>e ▸ hk) (h.1 p),ph_ h.2⟩
  · split
    · rename_i h1 h2
      subst h2
      exact ⟨h.1,h.2⟩
    · rename_i h1 h2
      have hx:=not_lt_lt h1 h2
      exact ⟨fun p hp=>by
       rcases List.mem_cons.1 hp with e|hp
       · rw [e];exact hx
       · exact List.lt_trans hx (h.1 p hp),h⟩
end Go.Pi
end
section
namespace Go.Pi
end Go.Pi
end
section
namespace Go.Pi
theorem putL_nil {α:Type} {x:Bs} {y:α}:hl_ [] x [] y=[y]:=by
 simp [hl_]
theorem putL_cons {α:Type} {k x:Bs} {ns:List Bs} {a y:α} {l:List α}:hl_ (k::ns) x (a::l) y=if k<x then a::hl_ ns x l y else if k=x then y::l else y::a::l:=by
 by_cases h:k<x
 · have hb:Op.bytesLess k x=true:=by rw [e7_];exact decide_eq_true h
   have e1:dn_ (k::ns) x=dn_ ns x+1:=by unfold dn_;rw [List.findIdx_cons];simp [hb]
   have e2:fi_ (k::ns) x=fi_ ns x+1:=by
    unfold fi_
    rw [e1]
    simp only [List.getD_cons_succ,List.length_cons,Nat.add_lt_add_iff_right]
    split<;>rfl
   rw [if_pos h]
   unfold hl_
   rw [e1,e2];simp
 · have hb:Op.bytesLess k x=false:=by rw [e7_];exact decide_eq_false h
   have e1:dn_ (k::ns) x=0:=by unfold dn_;rw [List.findIdx_cons];simp [hb]
   rw [if_neg h]
   unfold hl_ fi_
   rw [e1]
   by_cases h2:k=x
   · simp [h2]
   · simp [h2]
theorem mP_ {α:Type} (g:Bs × Int→α) (x:Bs) (y:Int):∀ l:List (Bs × Int),hl_ (l.map (·.1)) x (l.map g) (g (x,y))=(ins x y l).map g
 |[]=>by simp only [List.map_nil,ins,List.map_cons];exact putL_nil
 |(k,v)::l=>by
  simp only [List.map_cons,putL_cons,ins]
  split
  · rw [mP_ g x y l];rfl
  · split<;>rfl
end Go.Pi
end
section
namespace Go.Pi
theorem qX_ {k x:Bs} {ns:List Bs}:fi_ (k::ns) x=if k<x then fi_ ns x+1 else if k=x then 1 else 0:=by
 by_cases h:k<x
 · have hb:Op.bytesLess k x=true:=by rw [e7_];exact decide_eq_true h
   have e1:dn_ (k::ns) x=dn_ ns x+1:=by unfold dn_;rw [List.findIdx_cons];simp [hb]
   unfold fi_
   rw [e1,if_pos h]
   simp only [List.getD_cons_succ,List.length_cons,Nat.add_lt_add_iff_right]
   split<;>rfl
 · have hb:Op.bytesLess k x=false:=by rw [e7_];exact decide_eq_false h
   have e1:dn_ (k::ns) x=0:=by unfold dn_;rw [List.findIdx_cons];simp [hb]
   rw [if_neg h]
   unfold fi_
   rw [e1]
   by_cases h2:k=x
   · simp [h2]
   · simp [h2]
theorem asc_ne {x:Bs}:∀ {l:List (Bs × Int)},ge_ l→∀ i,fi_ (l.map (·.1)) x≤i→i<(l.map (·.1)).length→((l.map (·.1)).getD i [] == x)=false
 |[],_,i,_,hi=>by simp at hi
 |(k,v)::l,h,i,hp,hi=>by
  simp only [List.map_cons,qX_] at hp
  have later:∀ i',i'<(l.map (·.1)).length→k<(l.map (·.1)).getD i' []:=fun i' hi'=>by
   have hm:=bw_ (d:=([]:Bs)) (a:=l.map (·.1)) (i:=i') hi'
   obtain ⟨p,hp,e⟩:=List.mem_map.1 hm
   rw [←e];exact h.1 p hp
  cases i with
  |zero=>
   simp only [List.map_cons,List.getD_cons_zero]
   by_cases h1:k<x
   · rw [if_pos h1] at hp;omega
   · rw [if_neg h1] at hp
     by_cases h2:k=x
     · rw [if_pos h2] at hp;omega
     · exact beq_eq_false_iff_ne.2 h2
  |succ i=>
   have hi':i<(l.map (·.1)).length:=by simpa using hi
   simp only [List.map_cons,List.getD_cons_succ]
   by_cases h1:k<x
   · rw [if_pos h1] at hp
     exact asc_ne h.2 i (by omega) hi'
   · refine beq_eq_false_iff_ne.2 fun e=>h1 ?_
     rw [←e];exact later i hi'
def o8_ (n:Int):aa_:=aa_.mk 2 n [] [] []
def objJ (l:List (Bs × Int)):aa_:=aa_.mk 5 0 [] (l.map fun p=>o8_ p.2) (l.map (·.1))
theorem kV_ {l:List (Bs × Int)} {x:Bs} {y:Int} (h:ge_ l) (hl:l.length≤2000000):Ev (fun n _=>br_ n (objJ l) x (o8_ y)) (objJ (ins x y l)):=by
 have:=fu_ (o:=objJ l) (j:=o8_ y) (x:=x) (by simp [objJ];exact hl) (by simp [objJ]) (fun z hz=>by
  rw [e7_] at hz
  exact beq_eq_false_iff_ne.2 fun e=>by subst e;exact List.lt_irrefl z (of_decide_eq_true hz)) (fun i h1 h2=>asc_ne h i h1 h2)
 refine fB_ this ?_
 have e1:=mP_ (fun p=>o8_ p.2) x y l
 have e2:=mP_ (fun p=>p.1) x y l
 show aa_.mk 5 0 [] (hl_ (l.map (·.1)) x (l.map fun p=>o8_ p.2) (o8_ y)) (hl_ (l.map (·.1)) x (l.map (·.1)) x)=_
 rw [e1,e2];rfl
end Go.Pi
end
section
namespace Go.Pi
def le_ (c:Int):Bs:=99::Lib.itoa c
def jD_ (r:TRow) (c:Int):Bs × Int:=(le_ c,fQ_ r c)
def e0_ (ps:List (Bs × Int)) (l:List (Bs × Int)):List (Bs × Int):=ps.foldl (fun l p=>ins p.1 p.2 l) l
theorem pi_ (ps:List (Bs × Int)) (p:Bs × Int) (l:List (Bs × Int)):e0_ (ps++[p]) l=ins p.1 p.2 (e0_ ps l):=by simp [e0_]
theorem jo_:∀ (ps:List (Bs × Int)) {l:List (Bs × Int)},ge_ l→ge_ (e0_ ps l)
 |[],_,h=>h
 |p::ps,_,h=>jo_ ps (ph_ h)
theorem jn_:∀ {ps:List (Bs × Int)} {l:List (Bs × Int)} {p:Bs × Int},p ∈ e0_ ps l→p ∈ ps∨p ∈ l
 |[],_,_,h=>.inr h
 |q::ps,l,p,h=>by
  rcases jn_ (ps:=ps) h with h|h
  · exact .inl (List.mem_cons_of_mem _ h)
  · rcases nb_ h with h|h
    · exact .inl (h ▸ List.mem_cons_self ..)
    · exact .inr h
theorem nc_ {x:Bs} {y:Int}:∀ {l:List (Bs × Int)},(ins x y l).length≤l.length+1
 |[]=>Nat.le_refl _
 |(k,v)::l=>by
  have:=nc_ (x:=x) (y:=y) (l:=l)
  simp only [ins]
  split
  · simp only [List.length_cons];omega
  · split<;>simp only [List.length_cons]<;>omega
theorem gs_:∀ {ps:List (Bs × Int)} {l:List (Bs × Int)},(e0_ ps l).length≤l.length+ps.length
 |[],_=>Nat.le_refl _
 |p::ps,l=>by
  have:=gs_ (ps:=ps) (l:=ins p.1 p.2 l)
  have h:=nc_ (x:=p.1) (y:=p.2) (l:=l)
  simp only [List.length_cons]
  show (e0_ ps (ins p.1 p.2 l)).length≤_
  omega
end Go.Pi
end
section
namespace Go.Pi
theorem kk_ {α β:Type} (f:α→β) (d:α) (e:β) {l:List α} {i:Nat} (h:i<l.length):(l.map f).getD i e=f (l.getD i d):=by
 rw [List.getD_eq_getElem?_getD,List.getD_eq_getElem?_getD,List.getElem?_map,List.getElem?_eq_getElem h];rfl
end Go.Pi
end
section
namespace Go.Pi
abbrev nmId:Bs:=[105,100]
abbrev nmKids:Bs:=[107,105,100,115]
abbrev i64 (x:Int):Prop:=-9223372036854775808≤x∧x≤9223372036854775807
def q3_ (q:av_) (kids:Int):List (Bs × Int):=cond q.kids [(nmKids,kids)] []
def FRowL (q:av_) (r:TRow) (kids:Int):List (Bs × Int):=e0_ (q3_ q kids) (ins nmId r.id_ (e0_ (q.show_.map (jD_ r)) []))
def nv_ (q:av_) (r:TRow) (kids:Int):aa_:=objJ (FRowL q r kids)
theorem kidsL_len {q:av_} {kids:Int}:(q3_ q kids).length≤1:=by unfold q3_;cases q.kids<;>simp
theorem FRowL_len {q:av_} {r:TRow} {kids:Int}:(FRowL q r kids).length≤q.show_.length+2:=by
 have h1:=gs_ (ps:=q.show_.map (jD_ r)) (l:=[])
 have h2:=nc_ (x:=nmId) (y:=r.id_) (l:=e0_ (q.show_.map (jD_ r)) [])
 have h3:=gs_ (ps:=q3_ q kids) (l:=ins nmId r.id_ (e0_ (q.show_.map (jD_ r)) []))
 have h4:=kidsL_len (q:=q) (kids:=kids)
 simp at h1
 unfold FRowL;omega
theorem pw_ {c:Int} (h:i64 c):(le_ c).length≤22:=by
 have:=Lib.itoa_length_le c h.1 h.2
 simp only [le_,List.length_cons];omega
theorem pM_ {q:av_} {r:TRow} {kids:Int} (hs:∀ c ∈ q.show_,i64 c):∀ p ∈ FRowL q r kids,p.1.length≤22:=fun p hp=>by
 rcases jn_ hp with h|h
 · unfold q3_ at h
   cases hq:q.kids<;>rw [hq] at h
   · cases h
   · rw [List.mem_singleton.1 h];show nmKids.length≤22;decide
 · rcases nb_ h with h|h
   · rw [h];show nmId.length≤22;decide
   · rcases jn_ h with h|h
     · obtain ⟨c,hc,e⟩:=List.mem_map.1 h
       rw [←e];exact pw_ (hs c hc)
     · cases h
theorem kj_ {n:Int}:∀ d,ff_ d (o8_ n)
 |0=>trivial
 |d+1=>⟨⟨Nat.zero_le _,Nat.zero_le _,fun x hx=>(by cases hx)⟩,Nat.zero_le _,fun x hx=>(by cases hx)⟩
theorem lenJ_obj {l:List (Bs × Int)} (hl:l.length≤2000000) (hn:∀ p ∈ l,p.1.length≤22):∀ d,ff_ d (objJ l)
 |0=>trivial
 |d+1=>⟨⟨Nat.zero_le _,by simp [objJ,bV_];omega,fun x hx=>by
   obtain ⟨p,hp,e⟩:=List.mem_map.1 hx
   rw [←e];have:=hn p hp;simp only [bV_];omega⟩,by simp [objJ,bV_];omega,fun x hx=>by
   obtain ⟨p,hp,e⟩:=List.mem_map.1 hx
   rw [←e];exact kj_ d⟩
theorem m1_ {q:av_} {r:TRow} {kids:Int} (hq:q.show_.length≤1100000) (hs:∀ c ∈ q.show_,i64 c) (d:Nat):ff_ d (nv_ q r kids) :=
 lenJ_obj (by have:=FRowL_len (q:=q) (r:=r) (kids:=kids);omega) (pM_ hs) d
end Go.Pi
end
section
namespace Go.Pi
end Go.Pi
end
section
namespace Go.Pi
theorem kX_ {j:aa_} (h:ff_ 6 j):Ev (fun n _=>cW_ n j) (eq_ j):=by
 refine au_ ?_
 simp only [cW_,aW_,ad_ (cD_ h),am_,af_,eq_,fJ_]
 cases bF_ j<;>simp
theorem kY_ {x:Int}:Ev (fun n _=>cL_ n x) (o8_ x):=au_ (by simp only [cL_,af_,o8_])
section
variable {q:av_} {r:TRow} {kids:Int} (hq:q.show_.length≤1100000) (hs:∀ c ∈ q.show_,i64 c) (hr:r.cells.length≤bV_)
include hq hs hr
theorem h1_:Ev (fun n _=>bz_ n q r kids) (nv_ q r kids):=by
 refine au_ ?_
 simp only [bz_]
 let S:Nat→aa_:=fun i=>objJ (e0_ ((q.show_.take i).map (jD_ r)) [])
 have:=eo_ S q.show_.length (fun n N i (s:aa_)=>bz_.loop4 n (fun xy5 xy6 xy7 xy8 xy9 xy10 xy11 xy12 xy13 xy14 xy15 xy16 xy17 xy18 xy19 xy20 xy21 xy22 xy23 xy24=>((cL_ n xy15).bind fun xr25=>((br_ n (aa_.mk xy20 xy21 xy22 xy23 xy24) [105,100] (aa_.re xr25)).bind fun xr26=>(cond xy12 ((cL_ n xy5).bind fun xr27=>((br_ n (aa_.re xr26) [107,105,100,115] (aa_.re xr27)).bind fun xr28=>(some (aa_.re xr28)))) (some (aa_.re xr26)))))) N kids (i:Int) q.table q.where_ q.order q.down q.first q.show_ q.kids q.kidTable q.kidCol r.id_ r.cells 0 0 [] s.kind s.n_ s.s s.list s.names) (nv_ q r kids) (fun i hi F hF => ?_) ?_
 · exact this
 · have e2:e0_ ((q.show_.take (i+1)).map (jD_ r)) []=ins (le_ (q.show_.getD i 0)) (fQ_ r (q.show_.getD i 0)) (e0_ ((q.show_.take i).map (jD_ r)) []):=by
    rw [cP_ 0 hi,List.map_append];exact pi_ _ _ _
   have ha:ge_ (e0_ ((q.show_.take i).map (jD_ r)) []):=jo_ _ trivial
   have hll:=gs_ (ps:=(q.show_.take i).map (jD_ r)) (l:=[])
   simp only [S,e2] at hF ⊢
   generalize e0_ ((q.show_.take i).map (jD_ r)) []=l at hF ha hll ⊢
   have hl2:l.length≤2000000:=by simp at hll;omega
   have hc:=hs _ (bw_ 0 hi)
   have hd:=Lib.itoa_length_le _ hc.1 hc.2
   have e0:TRow.mk r.id_ r.cells=r:=rfl
   have e3:([99]:Bs)++Lib.itoa (q.show_.getD i 0)=le_ (q.show_.getD i 0):=rfl
   simp only [bz_.turn4,bz_.step4,Int.toNat_natCast,W_up hi (show q.show_.length≤bV_ by simp only [bV_];omega),cy_ hi,cf_ hi,cA_,aW_,e0,e3,am_,bB_,dh_,ad_ (dB_ hc.1 hc.2),ad_ (eE_ hr),ad_ kY_,ad_ (kV_ ha hl2)]
   simp only [aW_] at hF
   refine ⟨fun _=>⟨trivial,fun _=>⟨trivial,hF⟩,fun h => ?_⟩,fun h=>(by cases h)⟩
   have h:=of_decide_eq_false h
   simp only [List.length_singleton] at h;omega
 · have ha:ge_ (e0_ (q.show_.map (jD_ r)) []):=jo_ _ trivial
   have hll:=gs_ (ps:=q.show_.map (jD_ r)) (l:=[])
   have h2:=nc_ (x:=nmId) (y:=r.id_) (l:=e0_ (q.show_.map (jD_ r)) [])
   simp at hll
   simp only [bz_.turn4,bz_.step4,ca_,cond_false,S,List.take_length,cA_,aW_,ad_ kY_,ad_ (kV_ ha (show _≤2000000 by omega)),ad_ (kV_ (x:=nmKids) (y:=kids) (ph_ (x:=nmId) (y:=r.id_) ha) (show _≤2000000 by omega)),am_,af_]
   unfold nv_ FRowL q3_
   exact ⟨fun h=>by rw [h];rfl,fun h=>by rw [h];rfl⟩
end
end Go.Pi
end
section
namespace Go.Pi
structure bd_ where
 key:Int
 value:aa_
def bd_.dflt:bd_:=bd_.mk 0 aa_.dflt
def bY_ (l:List bd_):List Int:=l.map (·.key)
def kAt (ks:List Int) (k:Int):Int:=if ks.findIdx (fun y=>y == k)<ks.length then ((ks.findIdx (fun y=>y == k):Nat):Int) else -1
theorem pe_ {ks:List Int} {k:Int}:kAt ks k<0↔k ∉ ks:=by
 have e:(ks.findIdx (fun y=>y == k)<ks.length)↔k ∈ ks:=by rw [List.findIdx_lt_length];simp
 unfold kAt
 by_cases h:k ∈ ks
 · rw [if_pos (e.2 h)];simp [h]
 · rw [if_neg (fun h'=>h (e.1 h'))];simp [h]
theorem mb_ {ks:List Int} {k:Int} (h:k ∈ ks):∃ p:Nat,kAt ks k=p∧p<ks.length∧ks.getD p 0=k:=by
 have e:ks.findIdx (fun y=>y == k)<ks.length:=by rw [List.findIdx_lt_length];simp [h]
 refine ⟨_,by unfold kAt;rw [if_pos e],e,?_⟩
 rw [List.getD_eq_getElem?_getD,List.getElem?_eq_getElem e,Option.getD_some]
 have:=List.findIdx_getElem (xs:=ks) (p:=fun y=>y == k) (w:=e)
 simpa using this
theorem od_ {ks:List Int} {k:Int} {p:Nat} (h:kAt ks k=p):p<ks.length∧ks.getD p 0=k:=by
 have hm:k ∈ ks:=Classical.byContradiction fun hn=>by have:=pe_.2 hn;omega
 obtain ⟨q,e,h1,h2⟩:=mb_ hm
 have:q=p:=by omega
 subst this;exact ⟨h1,h2⟩
theorem fV_ {ks:List Int} {k:Int} (hl:ks.length≤bV_):Ev (fun n _=>cb_ n ks k) (kAt ks k):=by
 refine au_ ?_
 unfold kAt
 rw [←f6_ 0]
 simp only [cb_]
 refine la_ (fun n N i=>cb_.loop3 n (some (-1)) N ks k (i:Int)) _ (fun i u hi ih => ?_) ?_
 · simp only [cb_.turn3,cb_.step3,Int.toNat_natCast,W_up hi hl,am_,bB_,af_,dj_ ih,cy_ hi,cf_ hi]
   clear ih
   cases (ks.getD i 0 == k)<;>simp
 · simp only [cb_.turn3,cb_.step3,ca_,cond_false,af_]
theorem cq_ (l:List bd_):(bY_ l).length=l.length:=List.length_map _
def kOk (docs:List aa_) (keys:List Int):Bool:=decide (docs.length=keys.length)&&hY_ (fun i=>bF_ (docs.getD i aa_.dflt) && !decide (keys.getD i 0 ∈ keys.take i)) docs.length
def nx_ (docs:List aa_) (keys:List Int) (m:Nat):List bd_:=(List.range m).map fun i=>bd_.mk (keys.getD i 0) (docs.getD i aa_.dflt)
theorem hH_ {docs:List aa_} {keys:List Int} {m:Nat}:(nx_ docs keys m).length=m:=by unfold nx_;simp
theorem allN_and {p q:Nat→Bool} {len:Nat}:hY_ (fun i=>p i&&q i) len=(hY_ p len&&hY_ q len):=by
 rw [Bool.eq_iff_iff,Bool.and_eq_true,fg_,fg_,fg_]
 exact ⟨fun h=>⟨fun i hi=>(Bool.and_eq_true_iff.1 (h i hi)).1,fun i hi=>(Bool.and_eq_true_iff.1 (h i hi)).2⟩,fun h i hi=>by rw [h.1 i hi,h.2 i hi];rfl⟩
theorem h0_ {docs:List aa_} {keys:List Int} (hd:docs.length≤2000000) (hk:keys.length≤2000000) (hJ:∀ j ∈ docs,ff_ 6 j):Ev (fun n _=>aI_ n keys docs) (kOk docs keys):=by
 refine au_ ?_
 have ht:docs.length≤bV_:=by simp only [bV_];omega
 have htk:keys.length≤bV_:=by simp only [bV_];omega
 have e:kOk docs keys=(hY_ (fun i => !decide (keys.getD i 0 ∈ keys.take i)) keys.length&&(hY_ (fun i=>bF_ (docs.getD i aa_.dflt)) docs.length&&((keys.length:Int) == (docs.length:Int)))):=by
  unfold kOk
  by_cases hl:docs.length=keys.length
  · rw [decide_eq_true hl,allN_and,←hl]
    simp [Bool.and_comm]
  · rw [decide_eq_false hl]
    have:((keys.length:Int) == (docs.length:Int))=false:=by rw [beq_eq_false_iff_ne];omega
    rw [this];simp
 rw [e]
 simp only [aI_]
 have hin:Ev (fun n _=>aI_.loop11 n (fun xy5 xy6=>(some ((xy5.length:Int) == (xy6.length:Int)))) n keys docs 0) (hY_ (fun i=>bF_ (docs.getD i aa_.dflt)) docs.length&&((keys.length:Int) == (docs.length:Int))):=by
  refine eG_ (fun n N i=>aI_.loop11 n (fun xy5 xy6=>(some ((xy5.length:Int) == (xy6.length:Int)))) N keys docs (i:Int)) _ (fun i w hi ih => ?_) ?_
  · simp only [aI_.turn11,aI_.step11,aW_,Int.toNat_natCast,W_up hi ht,am_,bB_,ad_ (cD_ (hJ _ (bw_ aa_.dflt hi))),af_,dj_ ih,cy_ hi,cf_ hi]
    cases bF_ (docs.getD i aa_.dflt)<;>simp
  · simp only [aI_.turn11,aI_.step11,ca_,cond_false,af_]
 refine eG_ (fun n N i=>aI_.loop3 n (fun xy2 xy3=>(aI_.loop11 n (fun xy5 xy6=>(some ((xy5.length:Int) == (xy6.length:Int)))) n xy2 xy3 0)) N keys docs (i:Int)) _ (fun i w hi ih => ?_) ?_
 · have hA:=fV_ (ks:=keys.take i) (k:=keys.getD i 0) (by simp;omega)
   have hg:decide (kAt (keys.take i) (keys.getD i 0)≥0)=decide (keys.getD i 0 ∈ keys.take i):=by
    have:=pe_ (ks:=keys.take i) (k:=keys.getD i 0)
    by_cases hm:keys.getD i 0 ∈ keys.take i
    · rw [decide_eq_true hm,decide_eq_true];exact Int.not_lt.1 fun h=>this.1 h hm
    · rw [decide_eq_false hm,decide_eq_false];intro h;exact absurd (this.2 hm) (by omega)
   simp only [aI_.turn3,aI_.step3,Int.toNat_natCast,List.drop_zero,W_up hi htk,am_,bB_,jw_,ad_ hA,hg,af_,dj_ ih,cy_ hi,cf_ hi]
   cases decide (keys.getD i 0 ∈ keys.take i)<;>simp<;>omega
 · simp only [aI_.turn3,aI_.step3,ca_,cond_false]
   exact hin
end Go.Pi
end
section
namespace Go.Pi
def del {α:Type} (l:List α) (k:Nat):List α:=l.take k++l.drop (k+1)
def g6_ {α:Type} (l:List α) (k:Nat) (x:α):List α:=l.take k++[x]++l.drop k
def rmOp (k:Nat):TOp:=TOp.mk 2 [Lib.itoa k] (aa_.mk 0 0 [] [] [])
def repOp (k:Nat) (j:aa_):TOp:=TOp.mk 3 [Lib.itoa k] j
def addOp (k:Nat) (j:aa_):TOp:=TOp.mk 1 [Lib.itoa k] j
theorem ld_ {α:Type} {l:List α} {k:Nat} (h:k<l.length):(del l k).length+1=l.length:=by
 simp only [del,List.length_append,List.length_take,List.length_drop];omega
theorem oi_ {α:Type} {l:List α} {k:Nat} {x:α} (h:k≤l.length):(g6_ l k x).length=l.length+1:=by
 simp only [g6_,List.length_append,List.length_take,List.length_drop,List.length_cons,List.length_nil];omega
theorem del_mem {α:Type} {l:List α} {k:Nat} {x:α} (h:x ∈ del l k):x ∈ l:=by
 rcases List.mem_append.1 h with h|h
 · exact List.mem_of_mem_take h
 · exact List.mem_of_mem_drop h
theorem og_ {α:Type} {l:List α} {k:Nat} {x y:α} (h:y ∈ g6_ l k x):y=x∨y ∈ l:=by
 rcases List.mem_append.1 h with h|h
 · rcases List.mem_append.1 h with h|h
   · exact .inr (List.mem_of_mem_take h)
   · exact .inl (List.mem_singleton.1 h)
 · exact .inr (List.mem_of_mem_drop h)
theorem del_map {α β:Type} (f:α→β) (l:List α) (k:Nat):(del l k).map f=del (l.map f) k:=by
 simp only [del,List.map_append,List.map_take,List.map_drop]
theorem oh_ {α β:Type} (f:α→β) (l:List α) (k:Nat) (x:α):(g6_ l k x).map f=g6_ (l.map f) k (f x):=by
 simp only [g6_,List.map_append,List.map_take,List.map_drop,List.map_cons,List.map_nil]
theorem lU_ {ks:List Int} {k:Nat} (h:k<ks.length) (hl:ks.length≤10000000):Ev (fun n _=>cQ_ n ks (k:Int)) (del ks k):=by
 refine au_ ?_
 have hw:=W_up h (show ks.length≤bV_ by simp only [bV_];omega)
 simp only [cQ_,hw,jw_,bO_,af_,Int.toNat_natCast,List.drop_zero,List.nil_append,List.take_length,del,List.length_nil,List.length_take,List.length_drop]
 repeat' (first|apply And.intro)
 all_goals (first|trivial|rfl|omega)
theorem of_ {ks:List Int} {k:Nat} {x:Int} (h:k≤ks.length) (hl:ks.length≤10000000):Ev (fun n _=>c8_ n ks (k:Int) x) (g6_ ks k x):=by
 refine au_ ?_
 simp only [c8_,jw_,bO_,af_,Int.toNat_natCast,List.drop_zero,List.nil_append,List.take_length,g6_,List.length_nil,List.length_append,List.length_cons,List.length_take,List.length_drop]
 repeat' (first|apply And.intro)
 all_goals (first|trivial|rfl|omega)
def p4_ (nk:List Int) (old:List bd_):Nat→List bd_→List TOp→List bd_ × List TOp
 |0,l,ops=>(l,ops)
 |k+1,l,ops=>if (old.getD k bd_.dflt).key ∈ nk then p4_ nk old k l ops else p4_ nk old k (del l k) (ops++[rmOp k])
theorem mN_ (nk:List Int) (old:List bd_):∀ k l ops,∀ x ∈ (p4_ nk old k l ops).1,x ∈ l
 |0,l,ops,x,h=>h
 |k+1,l,ops,x,h=>by
  simp only [p4_] at h
  split at h
  · exact mN_ nk old k l ops x h
  · exact del_mem (mN_ nk old k (del l k) _ x h)
theorem kf_ (nk:List Int) (old:List bd_):∀ k l ops,k≤l.length→(p4_ nk old k l ops).1.length≤l.length∧(p4_ nk old k l ops).2.length≤ops.length+k
 |0,l,ops,_=>⟨Nat.le_refl _,Nat.le_refl _⟩
 |k+1,l,ops,h=>by
  simp only [p4_]
  split
  · have:=kf_ nk old k l ops (by omega);omega
  · have hd:=ld_ (l:=l) (k:=k) (by omega)
    have:=kf_ nk old k (del l k) (ops++[rmOp k]) (by omega)
    simp only [List.length_append,List.length_cons,List.length_nil] at this;omega
theorem dn_ge {k:Nat}:decide ((k:Int)≥0)=true:=decide_eq_true (by omega)
theorem dn_eq {k:Nat}:(((k+1:Nat):Int) - 1)=(k:Int):=by omega
theorem neg_dec {ks:List Int} {k:Int}:decide (kAt ks k<0) = !decide (k ∈ ks):=by
 have:=pe_ (ks:=ks) (k:=k)
 by_cases h:k ∈ ks
 · rw [decide_eq_true h,decide_eq_false (fun h'=>this.1 h' h)];rfl
 · rw [decide_eq_false h,decide_eq_true (this.2 h)];rfl
theorem e4_ {l:List bd_} {k:Nat} (h:k<l.length):(bY_ l).getD k 0=(l.getD k bd_.dflt).key:=kk_ (fun x:bd_=>x.key) bd_.dflt 0 h
theorem oY_ {old now:List bd_} (hn:now.length≤2000000) (hold:old.length≤2000000) (o t2:List aa_) (K:Nat→List aa_→List Int→List aa_→List Int→List TOp→List Int→Option (List TOp)) (F:List TOp):∀ k l ops,k≤old.length→k≤l.length→l.length≤2000000→ops.length+k≤2000000 →
  Ev (fun n N=>K n o (bY_ old) t2 (bY_ now) (p4_ (bY_ now) old k l ops).2 (bY_ (p4_ (bY_ now) old k l ops).1)) F→Ev (fun n N=>aF_.loop5 n (K n) N o (bY_ old) t2 (bY_ now) ((k:Int) - 1) ops (bY_ l)) F
 |0,l,ops,_,_,_,_,hF=>by
  refine b4_ ?_
  have e:decide ((((0:Nat):Int) - 1)≥0)=false:=rfl
  simp only [aF_.turn5,aF_.step5,e,cond_false]
  exact hF
 |k+1,l,ops,hko,hk,hl,ho,hF=>by
  refine b4_ ?_
  have hko':k<(bY_ old).length:=by rw [cq_];omega
  have hkl:k<l.length:=by omega
  have hkl':k<(bY_ l).length:=by rw [cq_];omega
  have hg:=e4_ (l:=old) (k:=k) (by omega)
  have hA:=fV_ (ks:=bY_ now) (k:=(old.getD k bd_.dflt).key) (by rw [cq_];simp only [bV_];omega)
  have hW:=lU_ hkl' (by rw [cq_];omega)
  have hm:del (bY_ l) k=bY_ (del l k):=(del_map (fun x:bd_=>x.key) l k).symm
  rw [hm] at hW
  simp only [p4_] at hF
  simp only [aF_.turn5,aF_.step5,dn_ge,dn_eq,cond_true,bB_,cf_ hko',Int.toNat_natCast,hg,ad_ hA,neg_dec,am_,W_dn (i:=k) (by simp only [bV_];omega),ad_ (dB_ (x:=(k:Int)) (by omega) (by omega)),bO_,ad_ hW]
  refine ⟨trivial,fun hc => ?_,fun hc => ?_⟩
  · have hc:¬ (old.getD k bd_.dflt).key ∈ bY_ now:=by simpa using hc
    rw [if_neg hc] at hF
    have hd:=ld_ hkl
    exact ⟨by simp only [List.length_cons,List.length_nil];omega,oY_ hn hold o t2 K F k (del l k) _ (by omega) (by omega) (by omega) (by simp only [List.length_append,List.length_cons,List.length_nil];omega) hF⟩
  · have hc:(old.getD k bd_.dflt).key ∈ bY_ now:=by simpa using hc
    rw [if_pos hc] at hF
    exact oY_ hn hold o t2 K F k l ops (by omega) (by omega) hl (by omega) hF
end Go.Pi
end
section
namespace Go.Pi
def gt_ (l:List bd_) (i:Nat) (x:bd_):List bd_ × List TOp :=
 if kAt (bY_ l) x.key=(i:Int) then (l,cond (eh_ 6 (l.getD i bd_.dflt).value x.value) [] [repOp i x.value])
 else if (i:Int)<kAt (bY_ l) x.key then (g6_ (del l (kAt (bY_ l) x.key).toNat) i x,[rmOp (kAt (bY_ l) x.key).toNat,addOp i x.value])
 else (g6_ l i x,[addOp i x.value])
def io_ (now:List bd_) (s:List bd_ × List TOp):Nat→List bd_ × List TOp
 |0=>s
 |i+1=>((gt_ (io_ now s i).1 i (now.getD i bd_.dflt)).1,(io_ now s i).2++(gt_ (io_ now s i).1 i (now.getD i bd_.dflt)).2)
theorem qj_ {l:List bd_} {k:Int} {i:Nat} (h:(i:Int)<kAt (bY_ l) k):∃ p:Nat,kAt (bY_ l) k=p∧i<p∧p<l.length:=by
 obtain ⟨p,hp⟩:∃ p:Nat,kAt (bY_ l) k=p:=⟨(kAt (bY_ l) k).toNat,by omega⟩
 have:=(od_ hp).1
 rw [cq_] at this
 exact ⟨p,hp,by omega,this⟩
theorem mr_ {l:List bd_} {i:Nat} {x:bd_} (h:i≤l.length):i+1≤(gt_ l i x).1.length∧(gt_ l i x).1.length≤l.length+1∧(gt_ l i x).2.length≤2:=by
 unfold gt_
 by_cases h1:kAt (bY_ l) x.key=(i:Int)
 · rw [if_pos h1]
   have:=(od_ h1).1
   rw [cq_] at this
   refine ⟨by dsimp only;omega,by dsimp only;omega,?_⟩
   dsimp only
   cases eh_ 6 (l.getD i bd_.dflt).value x.value<;>simp
 · rw [if_neg h1]
   by_cases h2:(i:Int)<kAt (bY_ l) x.key
   · rw [if_pos h2]
     obtain ⟨p,hp,h3,h4⟩:=qj_ h2
     rw [hp,Int.toNat_natCast]
     have:=ld_ h4
     have:=oi_ (l:=del l p) (k:=i) (x:=x) (by omega)
     exact ⟨by dsimp only;omega,by dsimp only;omega,Nat.le_refl _⟩
   · rw [if_neg h2]
     have:=oi_ (l:=l) (k:=i) (x:=x) h
     exact ⟨by dsimp only;omega,by dsimp only;omega,by simp⟩
theorem rr_ {l:List bd_} {i:Nat} {x y:bd_} (h:y ∈ (gt_ l i x).1):y=x∨y ∈ l:=by
 unfold gt_ at h
 split at h
 · exact .inr h
 · split at h
   · rcases og_ h with h|h
     · exact .inl h
     · exact .inr (del_mem h)
   · exact og_ h
theorem iW_ (now:List bd_) (s:List bd_ × List TOp):∀ i,i≤(io_ now s i).1.length∧(io_ now s i).1.length≤s.1.length+i∧(io_ now s i).2.length≤s.2.length+2*i
 |0=>⟨Nat.zero_le _,Nat.le_refl _,Nat.le_refl _⟩
 |i+1=>by
  have h:=iW_ now s i
  have k:=mr_ (x:=now.getD i bd_.dflt) h.1
  simp only [io_,List.length_append];omega
def okK (x:bd_):Prop:=bF_ x.value=true∧ff_ 6 x.value
theorem kh_ {x:bd_} (h:okK x):b7_ 6 x.value≤400:=of_decide_eq_true h.1
structure AddInv (old now:List bd_) (l:List bd_) (i:Nat):Prop where
 len:i≤l.length
 front:∀ j,j<i→(l.getD j bd_.dflt).key=(now.getD j bd_.dflt).key
 from_:∀ x ∈ l,x ∈ old∨∃ j,j<i∧x.key=(now.getD j bd_.dflt).key
def nm_ (now:List bd_):Prop:=∀ i j,i<j→j<now.length→(now.getD i bd_.dflt).key≠(now.getD j bd_.dflt).key
theorem oq_ {α:Type} (d:α) {a b:List α} {j:Nat} (h:j<a.length):(a++b).getD j d=a.getD j d:=by
 rw [List.getD_eq_getElem?_getD,List.getD_eq_getElem?_getD,List.getElem?_append_left h]
theorem k1_ {l:List bd_} {i j:Nat} {x:bd_} (hi:i≤l.length) (h:j<i):(g6_ l i x).getD j bd_.dflt=l.getD j bd_.dflt:=by
 have hl:(l.take i).length=i:=by simp;omega
 unfold g6_
 rw [List.append_assoc,oq_ _ (by omega),List.getD_eq_getElem?_getD,List.getD_eq_getElem?_getD,List.getElem?_take_of_lt h]
theorem ql_ {l:List bd_} {i:Nat} {x:bd_} (hi:i≤l.length):(g6_ l i x).getD i bd_.dflt=x:=by
 have hl:(l.take i).length=i:=by simp;omega
 unfold g6_
 rw [List.append_assoc,List.getD_eq_getElem?_getD,List.getElem?_append_right (by omega),hl,Nat.sub_self];rfl
theorem del_front {l:List bd_} {p j:Nat} (hp:p≤l.length) (h:j<p):(del l p).getD j bd_.dflt=l.getD j bd_.dflt:=by
 have hl:(l.take p).length=p:=by simp;omega
 unfold del
 rw [oq_ _ (by omega),List.getD_eq_getElem?_getD,List.getD_eq_getElem?_getD,List.getElem?_take_of_lt h]
theorem pC_ {old now l:List bd_} {i:Nat} (h:AddInv old now l i) (hi:i<now.length):AddInv old now (gt_ l i (now.getD i bd_.dflt)).1 (i+1):=by
 refine ⟨(mr_ h.len).1,fun j hj => ?_,fun x hx => ?_⟩
 · unfold gt_
   by_cases h1:kAt (bY_ l) (now.getD i bd_.dflt).key=(i:Int)
   · rw [if_pos h1]
     by_cases e:j=i
     · subst e
       obtain ⟨a,b⟩:=od_ h1
       rw [cq_] at a
       rw [←b,e4_ a]
     · exact h.front j (by omega)
   · rw [if_neg h1]
     by_cases h2:(i:Int)<kAt (bY_ l) (now.getD i bd_.dflt).key
     · rw [if_pos h2]
       obtain ⟨p,hp,h3,h4⟩:=qj_ h2
       rw [hp,Int.toNat_natCast]
       have hdl:=ld_ h4
       by_cases e:j=i
       · subst e;rw [ql_ (by omega)]
       · rw [k1_ (by omega) (by omega),del_front (by omega) (by omega)];exact h.front j (by omega)
     · rw [if_neg h2]
       by_cases e:j=i
       · subst e;rw [ql_ h.len]
       · rw [k1_ h.len (by omega)];exact h.front j (by omega)
 · rcases rr_ hx with e|hx
   · exact .inr ⟨i,by omega,by rw [e]⟩
   · rcases h.from_ x hx with h' | ⟨j,hj,e⟩
     · exact .inl h'
     · exact .inr ⟨j,by omega,e⟩
theorem ms_ {old now:List bd_} {s:List bd_ × List TOp} (h0:∀ x ∈ s.1,x ∈ old):∀ i,i≤now.length→AddInv old now (io_ now s i).1 i
 |0,_=>⟨Nat.zero_le _,fun j hj=>by omega,fun x hx=>.inl (h0 x hx)⟩
 |i+1,hi=>pC_ (ms_ h0 i (by omega)) (by omega)
theorem kr_ {l:List bd_} {k:Nat} (h:k<l.length):(l.map (·.value)).getD k aa_.dflt=(l.getD k bd_.dflt).value:=kk_ (fun x:bd_=>x.value) bd_.dflt aa_.dflt h
theorem spec_add {old now:List bd_} {s:List bd_ × List TOp} (hnl:now.length≤2000000) (hold:old.length≤2000000) (hsl:s.1.length≤2000000) (hol:s.2.length≤2000000) (hn:∀ x ∈ now,okK x) (ho:∀ x ∈ old,okK x) (h0:∀ x ∈ s.1,x ∈ old)
  (hd:nm_ now) (hod:∀ x ∈ old,∀ y ∈ old,x.key=y.key→x=y) :
  Ev (fun n _=>aF_.loop13 n (fun xy21=>(some xy21)) n (old.map (·.value)) (bY_ old) (now.map (·.value)) (bY_ now) 0 s.2 (bY_ s.1)) (io_ now s now.length).2:=by
 refine eo_ (io_ now s) now.length (fun n N i (z:List bd_ × List TOp)=>aF_.loop13 n (fun xy21=>(some xy21)) N (old.map (·.value)) (bY_ old) (now.map (·.value)) (bY_ now) (i:Int) z.2 (bY_ z.1)) _ (fun i hi F hF => ?_) ?_
 · have hL:=iW_ now s i
   have hI:=ms_ (now:=now) h0 i (by omega)
   simp only [io_] at hF
   obtain ⟨x,hx⟩:∃ x,x=now.getD i bd_.dflt:=⟨_,rfl⟩
   have hxo:okK x:=by rw [hx];exact hn _ (bw_ bd_.dflt hi)
   have hik:i<(bY_ now).length:=by rw [cq_];exact hi
   have hiv:i<(now.map (·.value)).length:=by simpa using hi
   have hkey:(bY_ now).getD i 0=x.key:=by rw [e4_ hi,hx]
   have hval:(now.map (·.value)).getD i aa_.dflt=x.value:=by rw [kr_ hi,hx]
   rw [←hx] at hF
   generalize io_ now s i=z at hF hL hI ⊢
   obtain ⟨l,ops⟩:=z
   dsimp only at hF hL hI ⊢
   have hA:=fV_ (ks:=bY_ l) (k:=x.key) (by rw [cq_];simp only [bV_];omega)
   have hC:=cR_ 6 x.value (kh_ hxo)
   have hWi:=dB_ (x:=(i:Int)) (by omega) (by omega)
   simp only [aF_.turn13,aF_.step13,aW_,Int.toNat_natCast,hkey,hval,W_up hik (show (bY_ now).length≤bV_ by rw [cq_];simp only [bV_];omega),cy_ hik,cf_ hik,cf_ hiv,cond_true,bB_,ad_ hA,ad_ hWi]
   refine ⟨trivial,?_⟩
   unfold gt_ at hF
   by_cases h1:kAt (bY_ l) x.key=(i:Int)
   · rw [if_pos h1] at hF
     obtain ⟨hil,hke⟩:=od_ h1
     rw [cq_] at hil
     rw [e4_ hil] at hke
     have hmem:l.getD i bd_.dflt ∈ old:=by
      rcases hI.from_ _ (bw_ bd_.dflt hil) with h' | ⟨j,hj,e⟩
      · exact h'
      · exact absurd (by rw [←e,hke,hx]) (hd j i hj hi)
     have hin:x.key ∈ bY_ old:=List.mem_map.2 ⟨_,hmem,hke⟩
     obtain ⟨q,hq,hql,hqk⟩:=mb_ hin
     have hqo:q<old.length:=by rwa [cq_] at hql
     have hqe:old.getD q bd_.dflt=l.getD i bd_.dflt:=hod _ (bw_ bd_.dflt hqo) _ hmem (by rw [←e4_ hqo,hqk,hke])
     have hqv:(old.map (·.value)).getD q aa_.dflt=(l.getD i bd_.dflt).value:=by rw [kr_ hqo,hqe]
     have hqi:q<(old.map (·.value)).length:=by simpa using hqo
     have hB:=fV_ (ks:=bY_ old) (k:=x.key) (by rw [cq_];simp only [bV_];omega)
     rw [hq] at hB
     have hoo:=ho _ hmem
     have hK:=eb_ 6 (l.getD i bd_.dflt).value x.value (e9_ 6 _ (kh_ hoo)) hoo.2
     simp only [h1,beq_self_eq_true,cond_true,bB_,ad_ hB,cf_ hqi,cf_ hik,cf_ hiv,Int.toNat_natCast,hqv,ad_ hK,am_,ad_ hC,bO_]
     refine ⟨trivial,trivial,trivial,fun hc => ?_,fun hc => ?_⟩
     · have hc:eh_ 6 (l.getD i bd_.dflt).value x.value=false:=by simpa using hc
       rw [hc] at hF
       exact ⟨trivial,by simp only [List.length_cons,List.length_nil];omega,hF⟩
     · have hc:eh_ 6 (l.getD i bd_.dflt).value x.value=true:=by simpa using hc
       rw [hc] at hF
       simp only [cond_true,List.append_nil] at hF
       exact hF
   · rw [if_neg h1] at hF
     have hne:(kAt (bY_ l) x.key == (i:Int))=false:=beq_eq_false_iff_ne.2 h1
     by_cases h2:(i:Int)<kAt (bY_ l) x.key
     · rw [if_pos h2] at hF
       obtain ⟨p,hp,h3,h4⟩:=qj_ h2
       rw [hp,Int.toNat_natCast] at hF
       rw [hp] at h2 hne
       have hdl:=ld_ h4
       have hpk:p<(bY_ l).length:=by rw [cq_];exact h4
       have hW:=lU_ hpk (by rw [cq_];omega)
       have hm:del (bY_ l) p=bY_ (del l p):=(del_map (fun x:bd_=>x.key) l p).symm
       rw [hm] at hW
       have hN:=of_ (ks:=bY_ (del l p)) (k:=i) (x:=x.key) (by rw [cq_];omega) (by rw [cq_];omega)
       have hm2:g6_ (bY_ (del l p)) i x.key=bY_ (g6_ (del l p) i x):=(oh_ (fun x:bd_=>x.key) (del l p) i x).symm
       rw [hm2] at hN
       simp only [hp,hne,decide_eq_true (show (p:Int)≥0 by omega),cond_true,cond_false,ad_ (dB_ (x:=(p:Int)) (by omega) (by omega)),bO_,ad_ hW,bB_,cf_ hik,cf_ hiv,ad_ hC,ad_ hN]
       refine ⟨by simp only [List.length_cons,List.length_nil];omega,trivial,by simp only [List.length_append,List.length_cons,List.length_nil];omega,trivial,?_⟩
       rw [List.append_assoc]
       exact hF
     · rw [if_neg h2] at hF
       have hlt:kAt (bY_ l) x.key<0:=Classical.byContradiction fun hc=>by
        obtain ⟨q,hq⟩:∃ q:Nat,kAt (bY_ l) x.key=q:=⟨(kAt (bY_ l) x.key).toNat,by omega⟩
        have hqi:q<i:=by omega
        obtain ⟨a,b⟩:=od_ hq
        rw [cq_] at a
        rw [e4_ a,hI.front q hqi,hx] at b
        exact hd q i hqi hi b
       have hN:=of_ (ks:=bY_ l) (k:=i) (x:=x.key) (by rw [cq_];omega) (by rw [cq_];omega)
       have hm2:g6_ (bY_ l) i x.key=bY_ (g6_ l i x):=(oh_ (fun x:bd_=>x.key) l i x).symm
       rw [hm2] at hN
       simp only [hne,decide_eq_false (show ¬ kAt (bY_ l) x.key≥0 by omega),cond_false,bB_,cf_ hik,cf_ hiv,ad_ hC,bO_,ad_ hN]
       exact ⟨trivial,by simp only [List.length_cons,List.length_nil];omega,trivial,hF⟩
 · have e:((bY_ now).length:Int)=(now.length:Int):=by rw [cq_]
   simp only [aF_.turn13,aF_.step13,e,ca_,cond_false,af_]
end Go.Pi
end
section
namespace Go.Pi
def ip_ (kids:List TKid) (id:Int):Int:=f7_ (fun i x=>cond ((kids.getD i TKid.dflt).id_ == id) (kids.getD i TKid.dflt).n_ x) 0 kids.length 0
theorem h3_ {v:a8_} {id:Int} (h:v.kids.length≤bV_):Ev (fun n _=>bQ_ n v id) (ip_ v.kids id):=by
 refine au_ ?_
 simp only [bQ_]
 refine la_ (fun n N i=>bQ_.loop3 n (some 0) N id (i:Int) v.q.table v.q.where_ v.q.order v.q.down v.q.first v.q.show_ v.q.kids v.q.kidTable v.q.kidCol v.rows v.kids) _ (fun i u hi ih => ?_) ?_
 · simp only [bQ_.turn3,bQ_.step3,Int.toNat_natCast,W_up hi h,am_,bB_,af_,dj_ ih,cy_ hi,cf_ hi]
   cases ((v.kids.getD i TKid.dflt).id_ == id)<;>simp
 · simp only [bQ_.turn3,bQ_.step3,ca_,cond_false,af_]
def eN_ (v:a8_):List Int:=v.rows.map fun r=>ip_ v.kids r.id_
theorem view_eta (v:a8_):a8_.mk (av_.mk v.q.table v.q.where_ v.q.order v.q.down v.q.first v.q.show_ v.q.kids v.q.kidTable v.q.kidCol) v.rows v.kids=v:=rfl
theorem jd_ {v:a8_} (h:v.kids.length≤bV_) (hr:v.rows.length≤eR_):Ev (fun n _=>a2_ n v) (eN_ v):=by
 refine au_ ?_
 have hl:=hr
 simp only [eR_] at hl
 simp only [a2_]
 refine qu_ TRow.dflt v.rows (fun r=>ip_ v.kids r.id_) (fun n N i s=>a2_.loop4 n (fun xy2=>(some xy2)) N (i:Int) v.q.table v.q.where_ v.q.order v.q.down v.q.first v.q.show_ v.q.kids v.q.kidTable v.q.kidCol v.rows v.kids s) (eN_ v) (fun i s hi hs F hF => ?_) ?_
 · simp only [a2_.turn4,a2_.step4,view_eta,Int.toNat_natCast,W_up hi (show v.rows.length≤bV_ by simp only [bV_];omega),am_,bB_,ad_ (h3_ (v:=v) (id:=(v.rows.getD i TRow.dflt).id_) h),bO_,cy_ hi,cf_ hi]
   exact ⟨fun _=>⟨trivial,by simp;omega,hF⟩,fun h=>by cases h⟩
 · simp only [a2_.turn4,a2_.step4,ca_,cond_false,af_];rfl
def g4_ (q:av_) (n:Nat):Nat:=if q.first=0 then n else min n q.first.toNat
theorem eH_ {q:av_} {n:Nat}:Ev (fun m _=>c9_ m q (n:Int)) (g4_ q n:Int):=by
 refine au_ ?_
 have hmin:∀ a b:Int,Ev (fun m _=>eu_ m a b) (min a b):=fun a b=>au_ (by simp only [eu_,am_,af_,decide_eq_true_eq,decide_eq_false_iff_not];constructor<;>intro h<;>omega)
 have hmax:∀ a b:Int,Ev (fun m _=>cp_ m a b) (max a b):=fun a b=>au_ (by simp only [cp_,am_,af_,decide_eq_true_eq,decide_eq_false_iff_not];constructor<;>intro h<;>omega)
 simp only [c9_,am_,af_,ad_ (hmin _ _),ad_ (hmax _ _),g4_]
 refine ⟨fun h=>by rw [if_pos (by simpa using h)],fun h => ?_⟩
 rw [if_neg (by simpa using h)]
 omega
end Go.Pi
end
section
namespace Go.Pi
def i9_ (g:aa_→aa_) (q:av_) (rows:List TRow) (kids:List Int) (m:Nat):List aa_:=(List.range m).map fun i=>g (nv_ q (rows.getD i TRow.dflt) (kids.getD i 0))
theorem mx_ {g:aa_→aa_} {q:av_} {rows:List TRow} {kids:List Int} {m:Nat}:i9_ g q rows kids (m+1)=i9_ g q rows kids m++[g (nv_ q (rows.getD m TRow.dflt) (kids.getD m 0))]:=by
 unfold i9_;rw [List.range_succ,List.map_append];rfl
theorem i8_ {g:aa_→aa_} {q:av_} {rows:List TRow} {kids:List Int} {m:Nat}:(i9_ g q rows kids m).length=m:=by unfold i9_;simp
abbrev nmCount:Bs:=[99,111,117,110,116]
abbrev jN_:Bs:=[114,111,119,115]
def mt_ (n:Nat) (docs:List aa_):aa_:=aa_.mk 5 0 [] [o8_ n,aa_.mk 4 0 [] docs []] [nmCount,jN_]
theorem lt_ {q:av_} {n:Nat}:g4_ q n≤n:=by unfold g4_;split<;>omega
def FDoc (q:av_) (rows:List TRow) (kids:List Int):aa_:=eq_ (mt_ rows.length (i9_ id q rows kids (g4_ q rows.length)))
theorem q2_ {n:Nat} {docs:List aa_} (hl:docs.length≤bV_) (hd:∀ j ∈ docs,ff_ 4 j):ff_ 6 (mt_ n docs):=by
 refine ⟨⟨Nat.zero_le _,by show 2≤bV_;decide,fun x hx => ?_⟩,by show 2≤bV_;decide,fun x hx => ?_⟩
 · rcases List.mem_cons.1 hx with e|hx
   · rw [e];show 5≤bV_;decide
   · rw [List.mem_singleton.1 hx];show 4≤bV_;decide
 · rcases List.mem_cons.1 hx with e|hx
   · rw [e];exact kj_ 5
   · rw [List.mem_singleton.1 hx]
     exact ⟨⟨Nat.zero_le _,Nat.zero_le _,fun x hx=>(by cases hx)⟩,hl,hd⟩
theorem n4_ {q:av_} {rows:List TRow} {kids:List Int} (hq:q.show_.length≤1100000) (hs:∀ c ∈ q.show_,i64 c) (hl:rows.length≤2000000) {m:Nat} (hm:m≤rows.length):ff_ 6 (mt_ rows.length (i9_ id q rows kids m)):=by
 refine q2_ (by rw [i8_];simp only [bV_];omega) fun j hj => ?_
 obtain ⟨i,_,e⟩:=List.mem_map.1 hj
 rw [←e];exact m1_ hq hs 4
section
variable {q:av_} {rows:List TRow} {kids:List Int} (hq:q.show_.length≤1100000) (hs:∀ c ∈ q.show_,i64 c) (hr:gD_ bV_ rows) (hl:rows.length≤2000000)
include hq hs hr hl
theorem mF_ (hk:kids.length≤bV_):Ev (fun n _=>bX_ n q rows kids) (FDoc q rows kids):=by
 refine au_ ?_
 simp only [bX_]
 have hF:=lt_ (q:=q) (n:=rows.length)
 have eq0:av_.mk q.table q.where_ q.order q.down q.first q.show_ q.kids q.kidTable q.kidCol=q:=rfl
 have:=eo_ (i9_ id q rows kids) (g4_ q rows.length) (fun n N i (s:List aa_)=>bX_.loop4 n (fun xy4 xy5 xy6 xy7 xy8 xy9 xy10 xy11=>((cL_ n (xy4.length:Int)).bind fun xr12=>((cW_ n (aa_.mk 5 0 [] ([(aa_.re xr12),(aa_.mk xy8 xy9 xy10 xy11 [])]:List aa_) ([[99,111,117,110,116],[114,111,119,115]]:List Bs))).bind fun xr13=>(some (aa_.re xr13))))) N rows kids (i:Int) q.table q.where_ q.order q.down q.first q.show_ q.kids q.kidTable q.kidCol 0 0 [] 4 0 [] s) (FDoc q rows kids) (fun i hi F hF => ?_) ?_
 · exact this
 · have hir:i<rows.length:=by omega
   have hR:∀ k,Ev (fun n _=>bz_ n q (rows.getD i TRow.dflt) k) (nv_ q (rows.getD i TRow.dflt) k):=fun k=>h1_ hq hs (hS_ hr i)
   rw [mx_] at hF
   simp only [aW_] at hF
   have hlen:=i8_ (g:=id) (q:=q) (rows:=rows) (kids:=kids) (m:=i)
   generalize i9_ id q rows kids i=s at hF hlen
   simp only [bX_.turn4,bX_.step4,eq0,Int.toNat_natCast,aW_,W_up hir (show rows.length≤bV_ by simp only [bV_];omega),ad_ eH_,ad_ (hR _),decide_eq_true (show ((i:Int)<(g4_ q rows.length:Int)) by omega),cf_ hir,cond_true,am_,bB_,bO_]
   refine ⟨fun h=>⟨⟨by omega,by have:=of_decide_eq_true h;omega⟩,trivial,by simp;omega,hF⟩,fun h=>⟨trivial,by simp;omega,?_⟩⟩
   have h:=of_decide_eq_false h
   have e:kids.getD i 0=0:=by rw [List.getD_eq_getElem?_getD,List.getElem?_eq_none (by omega)];rfl
   rw [e] at hF;exact hF
 · have hw:=kX_ (n4_ hq hs hl (kids:=kids) hF)
   unfold mt_ at hw
   simp only [bX_.turn4,bX_.step4,eq0,aW_,ad_ eH_,ca_,cond_false,ad_ kY_,ad_ hw,af_]
   rfl
end
end Go.Pi
end
section
namespace Go.Pi
def eK_ (v:a8_):aa_:=FDoc v.q v.rows (eN_ v)
theorem pP_ {v:a8_}:(eN_ v).length=v.rows.length:=by unfold eN_;simp
theorem gD_.top {r:List TRow} (h:gD_ cap r):gD_ bV_ r:=⟨Nat.le_trans h.1 (by decide),fun x hx=>Nat.le_trans (h.2 x hx) (by decide)⟩
section
variable {v:a8_} (h:jj_ cap v) (hs:∀ c ∈ v.q.show_,i64 c)
include h hs
theorem f1_:ff_ 6 (eK_ v):=by
 have h1:=h.1.2;have h2:=h.2.1.1
 simp only [cap] at h1 h2
 unfold eK_ FDoc eq_
 have:=n4_ (kids:=eN_ v) (rows:=v.rows) (show v.q.show_.length≤1100000 by omega) hs (by omega) (lt_ (q:=v.q))
 cases bF_ (mt_ v.rows.length (i9_ id v.q v.rows (eN_ v) (g4_ v.q v.rows.length))) with
 |true=>exact this
 |false=>exact ⟨⟨Nat.zero_le _,Nat.zero_le _,fun x hx=>(by cases hx)⟩,Nat.zero_le _,fun x hx=>(by cases hx)⟩
theorem eT_:Ev (fun n _=>c2_ n v) (eK_ v):=by
 refine au_ ?_
 have h1:=h.1.2;have h2:=h.2.1.1;have h3:=h.2.2
 simp only [cap] at h1 h2 h3
 have hc:=pP_ (v:=v)
 have hD:=mF_ (q:=v.q) (rows:=v.rows) (kids:=eN_ v) (by omega) hs h.2.1.top (by omega) (by simp only [bV_];omega)
 simp only [c2_,aW_,ad_ (jd_ (v:=v) (by simp only [bV_];omega) (by simp only [eR_];omega)),ad_ hD,af_]
 rfl
end
end Go.Pi
end
section
namespace Go.Pi
def eP_ (l:List TOp):Nat:=l.findIdx fun o=>(cO_ o).kind == 0
def fT_ (l:List TOp):aa_:=aa_.mk 4 0 [] (l.map cO_) []
def d5_ (l:List TOp):Int:=cond (decide (eP_ l<l.length)) (-1) (cond (dp_ (fT_ l) == []) (-1) ((dp_ (fT_ l)).length:Int))
theorem jy_ {l:List TOp} {i:Nat} (hi:i<eP_ l):((cO_ (l.getD i TOp.dflt)).kind == 0)=false:=by
 have hl:eP_ l≤l.length:=List.findIdx_le_length
 rw [List.getD_eq_getElem?_getD,List.getElem?_eq_getElem (by omega),Option.getD_some]
 have:=List.not_of_lt_findIdx (xs:=l) (p:=fun o=>(cO_ o).kind == 0) (i:=i) hi
 simpa using this
theorem bad_at {l:List TOp} (h:eP_ l<l.length):((cO_ (l.getD (eP_ l) TOp.dflt)).kind == 0)=true:=by
 rw [List.getD_eq_getElem?_getD,List.getElem?_eq_getElem h,Option.getD_some]
 exact List.findIdx_getElem (xs:=l) (p:=fun o=>(cO_ o).kind == 0) (w:=h)
theorem mY_ {α β:Type} (f:α→β) (d:α) {a:List α} {i:Nat} (h:i<a.length):(a.take (i+1)).map f=(a.take i).map f++[f (a.getD i d)]:=by
 rw [cP_ d h,List.map_append];rfl
def iL_ (l:List TOp):Prop:=l.length≤4000000∧∀ o ∈ l,lL_ o
theorem m2_ {l:List TOp} (h:iL_ l):ff_ 6 (fT_ l):=by
 refine ⟨⟨Nat.zero_le _,Nat.zero_le _,fun x hx=>(by cases hx)⟩,by have:=h.1;simp [fT_,bV_];omega,fun x hx => ?_⟩
 obtain ⟨o,ho,e⟩:=List.mem_map.1 hx
 rw [←e];exact m3_ 5 _ (pc_ (h.2 o ho))
theorem k3_ {l:List TOp} (h:iL_ l):Ev (fun n _=>bl_ n l) (cond (decide (eP_ l<l.length)) (fJ_,false) (fT_ l,true)):=by
 refine au_ ?_
 have hl:=h.1
 have ht:l.length≤bV_:=by simp only [bV_];omega
 have hb:eP_ l≤l.length:=List.findIdx_le_length
 simp only [bl_]
 have:=eo_ (fun i=>(l.take i).map cO_) (eP_ l) (fun n N i (o:List aa_)=>bl_.loop4 n (fun xy2 xy3 xy4 xy5 xy6 xy7 xy8=>(some ((aa_.mk xy5 xy6 xy7 xy8 ([]:List Bs)),true))) N l (l.length:Int) (i:Int) 0 0 [] 4 0 [] o) (cond (decide (eP_ l<l.length)) (fJ_,false) (fT_ l,true)) (fun i hi F hF => ?_) ?_
 · exact this
 · have hi2:i<l.length:=by omega
   have hx:=h7_ (h.2 _ (bw_ TOp.dflt hi2))
   rw [mY_ cO_ TOp.dflt hi2] at hF
   have hol:((l.take i).map cO_).length≤i:=by simp;omega
   generalize (l.take i).map cO_=o at hF hol ⊢
   simp only [bl_.turn4,bl_.step4,aW_,eZ_,Int.toNat_natCast,W_up hi2 ht,cy_ hi2,cf_ hi2,jy_ hi,cond_true,cond_false,bB_,bO_,ad_ hx]
   exact ⟨trivial,by simp;omega,hF⟩
 · by_cases hp:eP_ l<l.length
   · have hx:=h7_ (h.2 _ (bw_ TOp.dflt hp))
     simp only [bl_.turn4,bl_.step4,aW_,eZ_,Int.toNat_natCast,cy_ hp,cf_ hp,bad_at hp,cond_true,bB_,ad_ hx,af_]
     rw [decide_eq_true hp]
     exact ⟨trivial,rfl⟩
   · have e:eP_ l=l.length:=by omega
     rw [decide_eq_false hp,cond_false]
     unfold fT_
     rw [e,List.take_length]
     simp only [bl_.turn4,bl_.step4,ca_,cond_false,af_]
theorem js_ {l:List TOp} (h:iL_ l):Ev (fun n _=>dc_ n l) (d5_ l):=by
 refine au_ ?_
 simp only [dc_,aW_,ad_ (k3_ h)]
 unfold d5_
 cases hp:decide (eP_ l<l.length) with
 |true=>
  simp only [cond_true,ad_ (gg_ (en_ 6)),am_,af_]
  simp
 |false=>
  simp only [cond_false,ad_ (gg_ (m2_ h)),am_,af_]
  generalize dp_ (fT_ l)=s
  cases (s == [])<;>simp
theorem qg_:∀ (d:Nat) (j:aa_),aa_.len j→ff_ d j
 |0,_,_=>trivial
 |d+1,j,h=>by
  have hq:=(aa_.len_iff j).1 h
  exact ⟨⟨hq.1,hq.2.2.1,hq.2.2.2⟩,hq.2.1.1,fun x hx=>qg_ d x (hq.2.1.2 x hx)⟩
end Go.Pi
end
section
namespace Go.Pi
def nu_ (old now:List bd_):List TOp:=(io_ now (p4_ (bY_ now) old old.length old []) now.length).2
def fP_ (docs:List aa_) (keys:List Int) (docs':List aa_) (keys':List Int):List TOp:=cond (kOk docs keys) (cond (kOk docs' keys') (nu_ (nx_ docs keys docs.length) (nx_ docs' keys' docs'.length)) []) []
structure KIs (docs:List aa_) (keys:List Int):Prop where
 len:docs.length=keys.length
 ok:∀ i,i<docs.length→bF_ (docs.getD i aa_.dflt)=true
 no:∀ i,i<docs.length→keys.getD i 0 ∉ keys.take i
theorem k_is {docs:List aa_} {keys:List Int} (h:kOk docs keys=true):KIs docs keys:=by
 unfold kOk at h
 rw [Bool.and_eq_true,fg_] at h
 refine ⟨of_decide_eq_true h.1,fun i hi => ?_,fun i hi => ?_⟩
 · have:=h.2 i hi
   rw [Bool.and_eq_true] at this;exact this.1
 · have:=h.2 i hi
   rw [Bool.and_eq_true] at this
   simpa using this.2
theorem kq_ {docs:List aa_} {keys:List Int} {m i:Nat} (h:i<m):(nx_ docs keys m).getD i bd_.dflt=bd_.mk (keys.getD i 0) (docs.getD i aa_.dflt):=by
 unfold nx_
 rw [kk_ (fun i=>bd_.mk (keys.getD i 0) (docs.getD i aa_.dflt)) 0 bd_.dflt (by simpa using h)]
 have:(List.range m).getD i 0=i:=by
  rw [List.getD_eq_getElem?_getD,List.getElem?_range h];rfl
 rw [this]
theorem l4_ {α:Type} (d:α) (l:List α):(List.range l.length).map (fun i=>l.getD i d)=l:=by
 apply List.ext_getElem?
 intro i
 by_cases h:i<l.length
 · rw [List.getElem?_map,List.getElem?_range h,List.getElem?_eq_getElem h]
   simp only [Option.map_some]
   rw [List.getD_eq_getElem?_getD,List.getElem?_eq_getElem h];rfl
 · rw [List.getElem?_eq_none (by simpa using h),List.getElem?_eq_none (by omega)]
theorem kp_ {docs:List aa_} {keys:List Int}:(nx_ docs keys docs.length).map (·.value)=docs:=by
 unfold nx_
 rw [List.map_map]
 exact l4_ aa_.dflt docs
theorem nA_ {docs:List aa_} {keys:List Int} (h:docs.length=keys.length):bY_ (nx_ docs keys docs.length)=keys:=by
 unfold bY_ nx_
 rw [List.map_map,h]
 exact l4_ 0 keys
theorem mX_ {α:Type} (d:α) {l:List α} {x:α} (h:x ∈ l):∃ i,i<l.length∧l.getD i d=x:=by
 obtain ⟨i,hi,e⟩:=List.mem_iff_getElem.1 h
 exact ⟨i,hi,by rw [List.getD_eq_getElem?_getD,List.getElem?_eq_getElem hi];exact e⟩
theorem mz_ {α:Type} (d:α) {l:List α} {i j:Nat} (h:i<j) (hj:j≤l.length):l.getD i d ∈ l.take j:=by
 have e:(l.take j).getD i d=l.getD i d:=by rw [List.getD_eq_getElem?_getD,List.getD_eq_getElem?_getD,List.getElem?_take_of_lt h]
 rw [←e];exact bw_ d (by simp;omega)
theorem is_ {docs:List aa_} {keys:List Int} (h:KIs docs keys):nm_ (nx_ docs keys docs.length):=by
 intro i j hij hj
 rw [hH_] at hj
 rw [kq_ (by omega),kq_ hj]
 intro e
 have e:keys.getD i 0=keys.getD j 0:=e
 exact h.no j hj (e ▸ mz_ 0 hij (by have:=h.len;omega))
theorem nl_ {l:List bd_} (h:nm_ l):∀ x ∈ l,∀ y ∈ l,x.key=y.key→x=y:=by
 intro x hx y hy e
 obtain ⟨i,hi,ei⟩:=mX_ bd_.dflt hx
 obtain ⟨j,hj,ej⟩:=mX_ bd_.dflt hy
 rcases Nat.lt_trichotomy i j with hij|hij|hij
 · exact absurd (by rw [ei,ej,e]) (h i j hij hj)
 · subst hij;rw [←ei,←ej]
 · exact absurd (by rw [ei,ej,e]) (h j i hij hi)
theorem oU_ {docs:List aa_} {keys:List Int} (h:KIs docs keys) (hJ:∀ j ∈ docs,ff_ 6 j):∀ x ∈ nx_ docs keys docs.length,okK x:=by
 intro x hx
 obtain ⟨i,hi,e⟩:=mX_ bd_.dflt hx
 rw [hH_] at hi
 rw [kq_ hi] at e
 rw [←e]
 exact ⟨h.ok i hi,hJ _ (bw_ aa_.dflt hi)⟩
section
variable {docs docs':List aa_} {keys keys':List Int} (hd:docs.length≤1500000) (hd':docs'.length≤1500000) (hJ:∀ j ∈ docs,ff_ 6 j) (hJ':∀ j ∈ docs',ff_ 6 j)
include hd hd' hJ hJ'
theorem nJ_ (hk:keys.length≤1500000) (hk':keys'.length≤1500000):Ev (fun n _=>eF_ n docs keys docs' keys') (fP_ docs keys docs' keys'):=by
 refine au_ ?_
 simp only [eF_,ad_ (h0_ (docs:=docs) (keys:=keys) (by omega) (by omega) hJ),ad_ (h0_ (docs:=docs') (keys:=keys') (by omega) (by omega) hJ'),am_,af_,fP_]
 cases h1:kOk docs keys with
 |false=>exact ⟨fun _=>rfl,fun h=>(by cases h)⟩
 |true=>
  cases h2:kOk docs' keys' with
  |false=>exact ⟨fun h=>(by cases h),fun _=>⟨fun _=>rfl,fun h=>(by cases h)⟩⟩
  |true=>
   refine ⟨fun h=>(by cases h),fun _=>⟨fun h=>(by cases h),fun _ => ?_⟩⟩
   simp only [cond_true]
   have k1:=k_is h1
   have k2:=k_is h2
   have o1:=oU_ k1 hJ
   have o2:=oU_ k2 hJ'
   have d1:=nl_ (is_ k1)
   have d2:=is_ k2
   have l1:=hH_ (docs:=docs) (keys:=keys) (m:=docs.length)
   have l2:=hH_ (docs:=docs') (keys:=keys') (m:=docs'.length)
   have hR:Ev (fun n _=>aF_ n docs keys docs' keys') (nu_ (nx_ docs keys docs.length) (nx_ docs' keys' docs'.length)):=by
    have v1:=kp_ (docs:=docs) (keys:=keys)
    have v2:=kp_ (docs:=docs') (keys:=keys')
    have e1:=nA_ k1.len
    have e2:=nA_ k2.len
    generalize nx_ docs keys docs.length=old at o1 l1 d1 v1 e1 ⊢
    generalize nx_ docs' keys' docs'.length=now at o2 l2 d2 v2 e2 ⊢
    subst e1 e2 v1 v2
    simp only [List.length_map] at l1 l2 hd hd'
    have hr:=kf_ (bY_ now) old old.length old [] (Nat.le_refl _)
    have hm:=mN_ (bY_ now) old old.length old []
    simp only [List.length_nil] at hr
    refine au_ ?_
    simp only [aF_,bO_,List.nil_append,List.length_nil,cq_,W_dn (show old.length≤bV_ by simp only [bV_];omega)]
    refine ⟨by omega,?_⟩
    refine d3_ (f:=fun n N=>aF_.loop5 n (fun xy4 xy5 xy6 xy7 xy8 xy9=>(aF_.loop13 n (fun xy21=>(some xy21)) n xy4 xy5 xy6 xy7 0 xy8 xy9)) N (old.map (·.value)) (bY_ old) (now.map (·.value)) (bY_ now) ((old.length:Int) - 1) [] (bY_ old)) (oY_ (old:=old) (by omega) (by omega) _ _ (fun n xy4 xy5 xy6 xy7 xy8 xy9=>(aF_.loop13 n (fun xy21=>(some xy21)) n xy4 xy5 xy6 xy7 0 xy8 xy9)) _ old.length old [] (Nat.le_refl _) (Nat.le_refl _) (by omega) (by simp only [List.length_nil];omega) ?_)
    exact spec_add (by omega) (by omega) (by omega) (by omega) o2 o1 (fun x hx=>hm x hx) d2 d1
   simp only [ad_ hR,af_]
end
def opK (o:TOp):Prop:=(∃ t:Bs,t.length≤25∧o.way=[t])∧b7_ 6 o.value≤400∧ff_ 6 o.value
theorem null_size:b7_ 6 (aa_.mk 0 0 [] [] [])≤400:=by decide
theorem jm_ {k:Nat} (h:k≤4000000):(Lib.itoa (k:Int)).length≤25:=by
 have:=Lib.itoa_length_le (k:Int) (by omega) (by omega);omega
theorem rmOp_ok {k:Nat} (h:k≤4000000):opK (rmOp k):=⟨⟨_,jm_ h,rfl⟩,null_size,en_ 6⟩
theorem mM_ (nk:List Int) (old:List bd_):∀ k l ops,k≤4000000→(∀ o ∈ ops,opK o)→∀ o ∈ (p4_ nk old k l ops).2,opK o
 |0,l,ops,_,h=>h
 |k+1,l,ops,hk,h=>by
  simp only [p4_]
  split
  · exact mM_ nk old k l ops (by omega) h
  · refine mM_ nk old k (del l k) _ (by omega) fun o ho => ?_
    rcases List.mem_append.1 ho with ho|ho
    · exact h o ho
    · rw [List.mem_singleton.1 ho];exact rmOp_ok (by omega)
theorem rq_ {l:List bd_} {i:Nat} {x:bd_} (hl:l.length≤4000000) (hi:i≤4000000) (hx:okK x):∀ o ∈ (gt_ l i x).2,opK o:=by
 have ha:∀ k,k≤4000000→opK (addOp k x.value):=fun k hk=>⟨⟨_,jm_ hk,rfl⟩,kh_ hx,hx.2⟩
 have hr:∀ k,k≤4000000→opK (repOp k x.value):=fun k hk=>⟨⟨_,jm_ hk,rfl⟩,kh_ hx,hx.2⟩
 unfold gt_
 by_cases h1:kAt (bY_ l) x.key=(i:Int)
 · rw [if_pos h1]
   dsimp only
   cases eh_ 6 (l.getD i bd_.dflt).value x.value with
   |true=>intro o ho;cases ho
   |false=>intro o ho;rw [List.mem_singleton.1 ho];exact hr i hi
 · rw [if_neg h1]
   by_cases h2:(i:Int)<kAt (bY_ l) x.key
   · rw [if_pos h2]
     obtain ⟨p,hp,h3,h4⟩:=qj_ h2
     intro o ho
     rw [hp,Int.toNat_natCast] at ho
     rcases List.mem_cons.1 ho with e|ho
     · rw [e];exact rmOp_ok (by omega)
     · rw [List.mem_singleton.1 ho];exact ha i hi
   · rw [if_neg h2]
     intro o ho
     rw [List.mem_singleton.1 ho];exact ha i hi
theorem oK_ {now:List bd_} {s:List bd_ × List TOp} (hnl:now.length≤1500000) (hsl:s.1.length≤1500000) (hn:∀ x ∈ now,okK x) (h:∀ o ∈ s.2,opK o):∀ i,i≤now.length→∀ o ∈ (io_ now s i).2,opK o
 |0,_=>h
 |i+1,hi=>by
  intro o ho
  simp only [io_] at ho
  have hL:=iW_ now s i
  rcases List.mem_append.1 ho with ho|ho
  · exact oK_ hnl hsl hn h i (by omega) o ho
  · exact rq_ (by omega) (by omega) (hn _ (bw_ bd_.dflt (by omega))) o ho
theorem ry_ {docs docs':List aa_} {keys keys':List Int} (hd:docs.length≤1500000) (hd':docs'.length≤1500000) (hJ:∀ j ∈ docs,ff_ 6 j) (hJ':∀ j ∈ docs',ff_ 6 j):(∀ o ∈ fP_ docs keys docs' keys',opK o)∧(fP_ docs keys docs' keys').length≤docs.length+2*docs'.length:=by
 unfold fP_
 cases h1:kOk docs keys with
 |false=>exact ⟨fun o ho=>(by cases ho),Nat.zero_le _⟩
 |true=>
  cases h2:kOk docs' keys' with
  |false=>exact ⟨fun o ho=>(by cases ho),Nat.zero_le _⟩
  |true=>
   simp only [cond_true,nu_]
   have o2:=oU_ (k_is h2) hJ'
   have l1:=hH_ (docs:=docs) (keys:=keys) (m:=docs.length)
   have l2:=hH_ (docs:=docs') (keys:=keys') (m:=docs'.length)
   generalize nx_ docs keys docs.length=old at l1 ⊢
   generalize nx_ docs' keys' docs'.length=now at o2 l2 ⊢
   have hr:=kf_ (bY_ now) old old.length old [] (Nat.le_refl _)
   have hL:=iW_ now (p4_ (bY_ now) old old.length old []) now.length
   simp only [List.length_nil] at hr
   exact ⟨oK_ (by omega) (by omega) o2 (mM_ _ _ _ _ _ (by omega) fun o ho=>(by cases ho)) now.length (Nat.le_refl _),by omega⟩
def underOp (name:Bs) (o:TOp):TOp:=TOp.mk o.kind (name::o.way) o.value
def oO_ (name:Bs) (l:List TOp):List TOp:=l.map (underOp name)
def lenO (l:List TOp):Prop:=l.length≤6000000∧∀ o ∈ l,o.way.length≤1000000∧b7_ 6 o.value≤400
theorem mB_ {name:Bs} {l:List TOp} (h:lenO l):Ev (fun n _=>bT_ n name l) (oO_ name l):=by
 refine au_ ?_
 have hl:=h.1
 have ht:l.length≤bV_:=by simp only [bV_];omega
 simp only [bT_]
 refine qu_ TOp.dflt l (underOp name) (fun n N i (s:List TOp)=>bT_.loop4 n (fun xy2=>(some xy2)) N name l (i:Int) s) _ (fun i s hi hs F hF => ?_) ?_
 · have ho:=h.2 _ (bw_ TOp.dflt hi)
   have hC:=cR_ 6 _ ho.2
   have hw:=ho.1
   simp only [bT_.turn4,bT_.step4,aW_,Int.toNat_natCast,W_up hi ht,cy_ hi,cf_ hi,cond_true,bB_,bO_,ad_ hC]
   exact ⟨trivial,trivial,by simp only [List.length_cons,List.length_nil];omega,trivial,by simp only [List.length_cons,List.length_nil];omega,hF⟩
 · simp only [bT_.turn4,bT_.step4,ca_,cond_false,af_];rfl
end Go.Pi
end
