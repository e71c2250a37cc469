/- The row of FnExactSessOk: the program's SessOk returns what the reference's returns, for all arguments. No condition. Text 6 of 6. -/
import Derived.Test.YtpifpdljphobdaaPiE
import Derived.Test.YtpifpdljphobdaaRows
import Derived.ProofKit
import Derived.OpenShut
section
set_option linter.unusedVariables false
set_option maxRecDepth 100000
set_option linter.unusedSimpArgs false
namespace Go.Pi
theorem W_dn {i : Nat} (h : i ≤ topN) : W ((i : Int) - 1) = (i : Int) - 1 := by
  rw [W_id (by omega) (by simp only [topN] at h; omega)]
theorem toNat_dn {i : Nat} : ((i : Int) - 1).toNat = i - 1 := by omega
theorem inn_true {x lo hi : Int} (h : inn x lo hi = true) : lo ≤ x ∧ x ≤ hi := inn_iff.1 h
def FConds (w : Int) (c : List TCond) : Bool := allN (fun i => inn (c.getD i TCond.dflt).col 0 (W (w - 1)) && (inn (c.getD i TCond.dflt).op 1 4 && inn (c.getD i TCond.dflt).v (-1000000000) 1000000000)) c.length
def FShow (w : Int) (s : List Int) : Bool := allN (fun i => inn (s.getD i 0) 0 (W (w - 1)) && (decide (i = 0) || decide (s.getD (i - 1) 0 < s.getD i 0))) s.length
def FKids (s : TSchema) (q : TQuery) : Bool := cond q.kids (inn q.kidTable 0 (W ((s.cols.length : Int) - 1)) && inn q.kidCol 0 (W ((s.cols.getD q.kidTable.toNat 0) - 1))) ((q.kidTable == 0) && (q.kidCol == 0))
def FQuery (s : TSchema) (q : TQuery) : Bool := FSchema s && (inn q.table 0 (W ((s.cols.length : Int) - 1)) && (decide (q.where_.length ≤ 3) && (FConds (s.cols.getD q.table.toNat 0) q.where_ && (FShow (s.cols.getD q.table.toNat 0) q.show_ &&
  (inn q.order 0 (s.cols.getD q.table.toNat 0) && (inn q.first 0 24 && (!((q.order == 0) && q.down) && FKids s q)))))))
section
variable {w : Int} {cols sh : List Int} {wh : List TCond} {t o f kt kc : Int} {d ks v : Bool}
theorem spec_QueryOk_loop7 {k : Nat → spec_QueryOk.K7} (hl : wh.length ≤ topN) (hk : Ev (fun n N => k n w cols t wh o d f sh ks kt kc) v) :
    Ev (fun n _ => spec_QueryOk.loop7 n (k n) n w 0 cols t wh o d f sh ks kt kc) (FConds w wh && v) := by
  refine ev_all (fun n N i => spec_QueryOk.loop7 n (k n) N w (i : Int) cols t wh o d f sh ks kt kc) _ (fun i u hi ih => ?_) ?_
  · simp only [spec_QueryOk.turn7, spec_QueryOk.step7, Int.toNat_natCast, W_up hi hl, ev_cond, ev_inB, l1In_b, ev_some, ev_iff ih, lt_up hi, in_up hi]
    clear ih hk
    repeat' (first | apply And.intro | intro _)
    all_goals (try rw [Bool.eq_iff_iff])
    all_goals (try simp only [Bool.not_eq_true', Bool.not_eq_false', decide_eq_true_eq, decide_eq_false_iff_not, beq_iff_eq, beq_eq_false_iff_ne, Bool.and_eq_true, Bool.or_eq_true, Bool.and_eq_false_iff, Bool.or_eq_false_iff] at *)
    all_goals grind
  · simp only [spec_QueryOk.turn7, spec_QueryOk.step7, lt_end, cond_false]
    exact hk
theorem spec_QueryOk_loop16 {k : Nat → spec_QueryOk.K16} (hl : sh.length ≤ topN) (hk : Ev (fun n N => k n w cols t wh o d f sh ks kt kc) v) :
    Ev (fun n _ => spec_QueryOk.loop16 n (k n) n w 0 cols t wh o d f sh ks kt kc) (FShow w sh && v) := by
  refine ev_all (fun n N i => spec_QueryOk.loop16 n (k n) N w (i : Int) cols t wh o d f sh ks kt kc) _ (fun i u hi ih => ?_) ?_
  · simp only [spec_QueryOk.turn16, spec_QueryOk.step16, Int.toNat_natCast, W_up hi hl, W_dn (i := i) (by omega), toNat_dn, ev_cond, ev_inB, l1In_b, ev_some, ev_iff ih, lt_up hi, in_up hi]
    clear ih hk
    repeat' (first | apply And.intro | intro _)
    all_goals (try rw [Bool.eq_iff_iff])
    all_goals (try simp only [Bool.not_eq_true', Bool.not_eq_false', decide_eq_true_eq, decide_eq_false_iff_not, beq_iff_eq, beq_eq_false_iff_ne, Bool.and_eq_true, Bool.or_eq_true, Bool.and_eq_false_iff, Bool.or_eq_false_iff] at *)
    all_goals grind
  · simp only [spec_QueryOk.turn16, spec_QueryOk.step16, lt_end, cond_false]
    exact hk
theorem impl_QueryOk_loop7 {k : Nat → impl_QueryOk.K7} (hl : wh.length ≤ topN) (hk : Ev (fun n N => k n w cols t wh o d f sh ks kt kc) v) :
    Ev (fun n _ => impl_QueryOk.loop7 n (k n) n w wh (wh.length : Int) 0 cols t wh o d f sh ks kt kc) (FConds w wh && v) := by
  refine ev_all (fun n N i => impl_QueryOk.loop7 n (k n) N w wh (wh.length : Int) (i : Int) cols t wh o d f sh ks kt kc) _ (fun i u hi ih => ?_) ?_
  · simp only [impl_QueryOk.turn7, impl_QueryOk.step7, Int.toNat_natCast, W_up hi hl, ev_cond, ev_inB, within_b, isNum_b, ev_some, ev_iff ih, lt_up hi, in_up hi]
    clear ih hk
    repeat' (first | apply And.intro | intro _)
    all_goals (try rw [Bool.eq_iff_iff])
    all_goals (try simp only [Bool.not_eq_true', Bool.not_eq_false', decide_eq_true_eq, decide_eq_false_iff_not, beq_iff_eq, beq_eq_false_iff_ne, Bool.and_eq_true, Bool.or_eq_true, Bool.and_eq_false_iff, Bool.or_eq_false_iff] at *)
    all_goals grind
  · simp only [impl_QueryOk.turn7, impl_QueryOk.step7, lt_end, cond_false]
    exact hk
theorem impl_QueryOk_loop16 {k : Nat → impl_QueryOk.K16} (hl : sh.length ≤ topN) (hk : Ev (fun n N => k n w cols t wh o d f sh ks kt kc) v) :
    Ev (fun n _ => impl_QueryOk.loop16 n (k n) n w sh (sh.length : Int) 0 cols t wh o d f sh ks kt kc) (FShow w sh && v) := by
  refine ev_all (fun n N i => impl_QueryOk.loop16 n (k n) N w sh (sh.length : Int) (i : Int) cols t wh o d f sh ks kt kc) _ (fun i u hi ih => ?_) ?_
  · simp only [impl_QueryOk.turn16, impl_QueryOk.step16, Int.toNat_natCast, W_up hi hl, W_dn (i := i) (by omega), toNat_dn, ev_cond, ev_inB, within_b, ev_some, ev_iff ih, lt_up hi, in_up hi]
    clear ih hk
    repeat' (first | apply And.intro | intro _)
    all_goals (try rw [Bool.eq_iff_iff])
    all_goals (try simp only [Bool.not_eq_true', Bool.not_eq_false', decide_eq_true_eq, decide_eq_false_iff_not, beq_iff_eq, beq_eq_false_iff_ne, Bool.and_eq_true, Bool.or_eq_true, Bool.and_eq_false_iff, Bool.or_eq_false_iff] at *)
    all_goals grind
  · simp only [impl_QueryOk.turn16, impl_QueryOk.step16, lt_end, cond_false]
    exact hk
end
theorem spec_SchemaOk_b {β : Type} {s : TSchema} (hs : s.cols.length ≤ topN) {g : Nat → Nat → Bool → Option β} {v : β} : Ev (fun n N => (spec_SchemaOk n s).bind (g n N)) v ↔ Ev (fun n N => g n N (FSchema s)) v := ev_bind (spec_SchemaOk_ev hs)
theorem impl_SchemaOk_b {β : Type} {s : TSchema} (hs : s.cols.length ≤ topN) {g : Nat → Nat → Bool → Option β} {v : β} : Ev (fun n N => (impl_SchemaOk n s).bind (g n N)) v ↔ Ev (fun n N => g n N (FSchema s)) v := ev_bind (impl_SchemaOk_ev hs)
theorem kidsFit_ev {s : TSchema} {q : TQuery} (hs : s.cols.length ≤ topN) : Ev (fun n _ => impl_kidsFit n s q) (FKids s q) := by
  refine ev_succ ?_
  simp only [impl_kidsFit, ev_cond, hasTable_b, ev_inB, within_b, ev_some, FKids]
  have e := @W_dn s.cols.length hs
  rw [e]
  repeat' (first | apply And.intro | intro _)
  all_goals (try rw [Bool.eq_iff_iff])
  all_goals (try simp only [inn, cond_true, cond_false, Bool.not_eq_true', Bool.not_eq_false', decide_eq_true_eq, decide_eq_false_iff_not, beq_iff_eq, beq_eq_false_iff_ne, Bool.and_eq_true, Bool.or_eq_true, Bool.and_eq_false_iff, Bool.or_eq_false_iff] at *)
  all_goals grind
theorem spec_QueryOk_ev {s : TSchema} {q : TQuery} (hs : s.cols.length ≤ topN) (hq : lenQ topN q) : Ev (fun n _ => spec_QueryOk n s q) (FQuery s q) := by
  refine ev_succ ?_
  have e := @W_dn s.cols.length hs
  simp only [spec_QueryOk, spec_SchemaOk_b hs, l1In_b, ev_cond, ev_inB, ev_some]
  refine ⟨fun h => by simp at h; simp [FQuery, h], fun h1 => ⟨fun h => by simp at h; simp [FQuery, h], fun h2 => ⟨fun h => by simp at h; simp [FQuery]; grind, fun h3 => ⟨by simp at h2; have := inn_true h2; omega, ?_⟩⟩⟩⟩
  refine ev_congr (spec_QueryOk_loop7 (k := fun n => _) hq.1 (spec_QueryOk_loop16 (k := fun n => _) (v := inn q.order 0 (s.cols.getD q.table.toNat 0) && (inn q.first 0 24 && (!((q.order == 0) && q.down) && FKids s q))) hq.2 ?_)) ?_
  · simp only [l1In_b, ev_cond, ev_inB, ev_some, FKids]
    repeat' (first | apply And.intro | intro _)
    all_goals (try rw [Bool.eq_iff_iff])
    all_goals (try simp only [inn, cond_true, cond_false, Bool.not_eq_true', Bool.not_eq_false', decide_eq_true_eq, decide_eq_false_iff_not, beq_iff_eq, beq_eq_false_iff_ne, Bool.and_eq_true, Bool.or_eq_true, Bool.and_eq_false_iff, Bool.or_eq_false_iff] at *)
    all_goals grind
  · simp [FQuery]; grind
theorem impl_QueryOk_ev {s : TSchema} {q : TQuery} (hs : s.cols.length ≤ topN) (hq : lenQ topN q) : Ev (fun n _ => impl_QueryOk n s q) (FQuery s q) := by
  refine ev_succ ?_
  have e := @W_dn s.cols.length hs
  simp only [impl_QueryOk, impl_SchemaOk_b hs, hasTable_b, ev_cond, ev_inB, ev_some]
  refine ⟨fun h => by simp at h; simp [FQuery, h], fun h1 => ⟨fun h => by simp at h; simp [FQuery, h], fun h2 => ⟨by simp at h2; have := inn_true h2; omega, ?_⟩⟩⟩
  refine ev_congr (impl_QueryOk_loop7 (k := fun n => _) hq.1 (impl_QueryOk_loop16 (k := fun n => _) (v := inn q.order 0 (s.cols.getD q.table.toNat 0) && (decide (q.where_.length ≤ 3) && (inn q.first 0 24 && (!((q.order == 0) && q.down) && FKids s q)))) hq.2 ?_)) ?_
  · simp only [within_b, ev_bind (kidsFit_ev (s := s) (q := q) hs), ev_cond, ev_inB, ev_some]
    repeat' (first | apply And.intro | intro _)
    all_goals (try rw [Bool.eq_iff_iff])
    all_goals (try simp only [inn, cond_true, cond_false, Bool.not_eq_true', Bool.not_eq_false', decide_eq_true_eq, decide_eq_false_iff_not, beq_iff_eq, beq_eq_false_iff_ne, Bool.and_eq_true, Bool.or_eq_true, Bool.and_eq_false_iff, Bool.or_eq_false_iff] at *)
    all_goals grind
  · simp [FQuery]; grind
end Go.Pi
end
section
set_option linter.unusedVariables false
set_option maxRecDepth 100000
set_option linter.unusedSimpArgs false
namespace Go.Pi
def foldFrom {α : Type} (s : Nat → α → α) (v : α) : Nat → Nat → α
  | 0, _ => v
  | d + 1, i => s i (foldFrom s v d (i + 1))
theorem ev_fold {α : Type} (L : Nat → Nat → Nat → Option α) (s : Nat → α → α) {len : Nat} {v : α}
    (h : ∀ i w, i < len → Ev (fun n N => L n N (i + 1)) w → Ev (fun n N => L n (N + 1) i) (s i w)) (h2 : Ev (fun n N => L n (N + 1) len) v) :
    Ev (fun n _ => L n n 0) (foldFrom s v len 0) := by
  have key : ∀ d i, d + i = len → Ev (fun n N => L n N i) (foldFrom s v d i) := by
    intro d
    induction d with
    | zero => intro i hd; obtain rfl : i = len := by omega
              exact ev_round (f := fun n N => L n N i) h2
    | succ d ih => intro i hd
                   exact ev_round (f := fun n N => L n N i) (h i _ (by omega) (ih (i + 1) (by omega)))
  exact ev_diag (f := fun n N => L n N 0) (key len 0 (by omega))
def FCells (c : List Int) : Bool := allN (fun i => inn (c.getD i 0) (-1000000000) 1000000000) c.length
def FRow (s : TSchema) (t : Int) (r : TRow) : Bool := FSchema s && (inn t 0 (W ((s.cols.length : Int) - 1)) && (inn r.id_ 1 999 && (decide ((r.cells.length : Int) = s.cols.getD t.toNat 0) && FCells r.cells)))
theorem spec_RowOk_ev {s : TSchema} {t : Int} {r : TRow} (hs : s.cols.length ≤ topN) (hr : r.cells.length ≤ topN) : Ev (fun n _ => spec_RowOk n s t r) (FRow s t r) := by
  refine ev_succ ?_
  have e := @W_dn s.cols.length hs
  have hl : Ev (fun n _ => spec_RowOk.loop6 n (fun _ => some true) n 0 r.id_ r.cells) (FCells r.cells && true) := by
    refine ev_all (fun n N i => spec_RowOk.loop6 n (fun _ => some true) N (i : Int) r.id_ r.cells) _ (fun i u hi ih => ?_) ?_
    · simp only [spec_RowOk.turn6, spec_RowOk.step6, Int.toNat_natCast, W_up hi hr, ev_cond, ev_inB, l1In_b, ev_some, ev_iff ih, lt_up hi, in_up hi]
      clear ih
      grind
    · simp only [spec_RowOk.turn6, spec_RowOk.step6, lt_end, cond_false, ev_some]
  simp only [spec_RowOk, spec_SchemaOk_b hs, l1In_b, ev_cond, ev_inB, ev_some, ev_iff hl]
  clear hl
  repeat' (first | apply And.intro | intro _)
  all_goals (try rw [Bool.eq_iff_iff])
  all_goals (try simp only [FRow, inn, bne_iff_ne, bne_eq_false_iff_eq, Bool.not_eq_true', Bool.not_eq_false', decide_eq_true_eq, decide_eq_false_iff_not, beq_iff_eq, beq_eq_false_iff_ne, Bool.and_eq_true, Bool.or_eq_true, Bool.and_eq_false_iff, Bool.or_eq_false_iff] at *)
  all_goals grind
theorem impl_RowOk_ev {s : TSchema} {t : Int} {r : TRow} (hs : s.cols.length ≤ topN) (hr : r.cells.length ≤ topN) : Ev (fun n _ => impl_RowOk n s t r) (FRow s t r) := by
  refine ev_succ ?_
  have e := @W_dn s.cols.length hs
  simp only [impl_RowOk]
  have hl : ∀ {k : Nat → impl_RowOk.K3} {v : Bool}, Ev (fun n N => k n t s.cols r.id_ r.cells) v → Ev (fun n _ => impl_RowOk.loop3 n (k n) n t r.cells (r.cells.length : Int) 0 s.cols r.id_ r.cells) (FCells r.cells && v) := by
    intro k v hk
    refine ev_all (fun n N i => impl_RowOk.loop3 n (k n) N t r.cells (r.cells.length : Int) (i : Int) s.cols r.id_ r.cells) _ (fun i u hi ih => ?_) ?_
    · simp only [impl_RowOk.turn3, impl_RowOk.step3, Int.toNat_natCast, W_up hi hr, ev_cond, ev_inB, isNum_b, ev_some, ev_iff ih, lt_up hi, in_up hi]
      clear ih hk
      grind
    · simp only [impl_RowOk.turn3, impl_RowOk.step3, lt_end, cond_false]
      exact hk
  refine ev_congr (hl (k := fun n => _) (v := FSchema s && (inn t 0 (W ((s.cols.length : Int) - 1)) && (decide ((r.cells.length : Int) = s.cols.getD t.toNat 0) && inn r.id_ 1 999))) ?_) ?_
  · have hS : ∀ {g : Nat → Nat → Bool → Option Bool} {v : Bool}, Ev (fun n N => (impl_SchemaOk n (TSchema.mk s.cols)).bind (g n N)) v ↔ Ev (fun n N => g n N (FSchema s)) v := impl_SchemaOk_b hs
    simp only [hS, hasTable_b, within_b, ev_cond, ev_inB, ev_some]
    clear hl hS
    repeat' (first | apply And.intro | intro _)
    all_goals (try rw [Bool.eq_iff_iff])
    all_goals (try simp only [inn, bne_iff_ne, bne_eq_false_iff_eq, Bool.not_eq_true', Bool.not_eq_false', decide_eq_true_eq, decide_eq_false_iff_not, beq_iff_eq, beq_eq_false_iff_ne, Bool.and_eq_true, Bool.or_eq_true, Bool.and_eq_false_iff, Bool.or_eq_false_iff] at *)
    all_goals grind
  · clear hl; rw [Bool.eq_iff_iff]; simp only [FRow, Bool.and_eq_true]; grind
def FHolds (c : TCond) (r : TRow) : Bool := inn c.col 0 (W ((r.cells.length : Int) - 1)) && (cond (c.op == 1) (r.cells.getD c.col.toNat 0 == c.v) (cond (c.op == 2) (decide (r.cells.getD c.col.toNat 0 < c.v)) (cond (c.op == 3) (decide (r.cells.getD c.col.toNat 0 > c.v)) (cond (c.op == 4) (r.cells.getD c.col.toNat 0 != c.v) false))))
theorem spec_l9Holds_ev {c : TCond} {r : TRow} (hr : r.cells.length ≤ topN) : Ev (fun n _ => spec_l9Holds n c r) (FHolds c r) := by
  refine ev_succ ?_
  have e := @W_dn r.cells.length hr
  simp only [spec_l9Holds, l1In_b, ev_cond, ev_inB, ev_some, FHolds]
  repeat' (first | apply And.intro | intro _)
  all_goals (try simp only [inn, Bool.not_eq_true', Bool.not_eq_false', decide_eq_true_eq, decide_eq_false_iff_not, Bool.and_eq_true, Bool.and_eq_false_iff] at *)
  all_goals simp_all
  all_goals omega
theorem holds_ev {c : TCond} {r : TRow} (hr : r.cells.length ≤ topN) : Ev (fun n _ => impl_holds n c r) (FHolds c r) := by
  refine ev_succ ?_
  have e := @W_dn r.cells.length hr
  simp only [impl_holds, within_b, ev_cond, ev_inB, ev_some, FHolds]
  repeat' (first | apply And.intro | intro _)
  all_goals (try simp only [inn, Bool.not_eq_true', Bool.not_eq_false', decide_eq_true_eq, decide_eq_false_iff_not, Bool.and_eq_true, Bool.and_eq_false_iff] at *)
  all_goals simp_all
  all_goals omega
def FMatches (q : TQuery) (r : TRow) : Bool := allN (fun i => FHolds (q.where_.getD i TCond.dflt) r) q.where_.length
theorem spec_Matches_ev {q : TQuery} {r : TRow} (hq : q.where_.length ≤ topN) (hr : r.cells.length ≤ topN) : Ev (fun n _ => spec_Matches n q r) (FMatches q r) := by
  refine ev_succ ?_
  simp only [spec_Matches]
  have hH : ∀ (c : TCond) (g : Nat → Nat → Bool → Option Bool) (v : Bool), Ev (fun n N => (spec_l9Holds n c (TRow.mk r.id_ r.cells)).bind (g n N)) v ↔ Ev (fun n N => g n N (FHolds c r)) v := fun c g v => ev_bind (spec_l9Holds_ev hr)
  refine ev_congr (ev_all (fun n N i => spec_Matches.loop3 n (fun _ => some true) N (i : Int) q.table q.where_ q.order q.down q.first q.show_ q.kids q.kidTable q.kidCol r.id_ r.cells) (fun i => FHolds (q.where_.getD i TCond.dflt) r) (len := q.where_.length) (v := true) (fun i u hi ih => ?_) ?_) (by rw [Bool.and_true]; rfl)
  · simp only [spec_Matches.turn3, spec_Matches.step3, Int.toNat_natCast, W_up hi hq, ev_cond, ev_inB, hH, ev_some, ev_iff ih, lt_up hi, in_up hi]
    clear ih hH
    grind
  · simp only [spec_Matches.turn3, spec_Matches.step3, lt_end, cond_false, ev_some]
theorem impl_Matches_ev {q : TQuery} {r : TRow} (hq : q.where_.length ≤ topN) (hr : r.cells.length ≤ topN) : Ev (fun n _ => impl_Matches n q r) (FMatches q r) := by
  refine ev_succ ?_
  simp only [impl_Matches]
  have hH : ∀ (c : TCond) (g : Nat → Nat → Bool → Option Bool) (v : Bool), Ev (fun n N => (impl_holds n c (TRow.mk r.id_ r.cells)).bind (g n N)) v ↔ Ev (fun n N => g n N (FHolds c r)) v := fun c g v => ev_bind (holds_ev hr)
  refine ev_congr (ev_all (fun n N i => impl_Matches.loop3 n (fun _ => some true) N q.where_ (q.where_.length : Int) (i : Int) r.id_ r.cells) (fun i => FHolds (q.where_.getD i TCond.dflt) r) (len := q.where_.length) (v := true) (fun i u hi ih => ?_) ?_) (by rw [Bool.and_true]; rfl)
  · simp only [impl_Matches.turn3, impl_Matches.step3, Int.toNat_natCast, W_up hi hq, ev_cond, ev_inB, hH, ev_some, ev_iff ih, lt_up hi, in_up hi]
    clear ih hH
    grind
  · simp only [impl_Matches.turn3, impl_Matches.step3, lt_end, cond_false, ev_some]
def FRowAt (rows : List TRow) (id : Int) : Int := foldFrom (fun i x => cond ((rows.getD i TRow.dflt).id_ == id) (i : Int) x) (-1) rows.length 0
theorem spec_RowAt_ev {rows : List TRow} {id : Int} (hr : rows.length ≤ topN) : Ev (fun n _ => spec_RowAt n rows id) (FRowAt rows id) := by
  refine ev_succ ?_
  simp only [spec_RowAt]
  refine ev_fold (fun n N i => spec_RowAt.loop3 n (fun _ => some (-1)) N rows id (i : Int)) _ (fun i u hi ih => ?_) ?_
  · simp only [spec_RowAt.turn3, spec_RowAt.step3, Int.toNat_natCast, W_up hi hr, ev_cond, ev_inB, ev_some, ev_iff ih, lt_up hi, in_up hi]
    clear ih
    grind
  · simp only [spec_RowAt.turn3, spec_RowAt.step3, lt_end, cond_false, ev_some]
theorem impl_RowAt_ev {rows : List TRow} {id : Int} (hr : rows.length ≤ topN) : Ev (fun n _ => impl_RowAt n rows id) (FRowAt rows id) := by
  have hf : ∀ r, Ev (fun n _ => impl_RowAt_f1 n r id) (r.id_ == id) := fun r => ev_succ (by simp only [impl_RowAt_f1, ev_some])
  have h : Ev (fun n _ => slices_IndexFunc_Row_c153 n rows id) (FRowAt rows id) := by
    refine ev_succ ?_
    simp only [slices_IndexFunc_Row_c153]
    refine ev_fold (fun n N i => slices_IndexFunc_Row_c153.loop3 n (fun _ => some (-1)) N rows id (rows.length : Int) (i : Int)) _ (fun i u hi ih => ?_) ?_
    · simp only [slices_IndexFunc_Row_c153.turn3, slices_IndexFunc_Row_c153.step3, Int.toNat_natCast, W_up hi hr, ev_cond, ev_inB, ev_bind (hf _), ev_some, ev_iff ih, lt_up hi, in_up hi]
      clear ih
      grind
    · simp only [slices_IndexFunc_Row_c153.turn3, slices_IndexFunc_Row_c153.step3, lt_end, cond_false, ev_some]
  exact ev_succ (by simp only [impl_RowAt, ev_bind h, ev_some])
def FCell (r : TRow) (col : Int) : Int := cond (inn col 0 (W ((r.cells.length : Int) - 1))) (r.cells.getD col.toNat 0) 0
theorem spec_l9Cell_ev {r : TRow} {col : Int} (hr : r.cells.length ≤ topN) : Ev (fun n _ => spec_l9Cell n r col) (FCell r col) := by
  refine ev_succ ?_
  have e := @W_dn r.cells.length hr
  simp only [spec_l9Cell, l1In_b, ev_cond, ev_inB, ev_some, FCell]
  cases hi : inn col 0 (W ((r.cells.length : Int) - 1)) with
  | false => simp
  | true => have := inn_true hi; exact ⟨fun h => (by cases h), fun _ => ⟨by omega, rfl⟩⟩
theorem cellOf_ev {r : TRow} {col : Int} (hr : r.cells.length ≤ topN) : Ev (fun n _ => impl_cellOf n r col) (FCell r col) := by
  refine ev_succ ?_
  have e := @W_dn r.cells.length hr
  simp only [impl_cellOf, within_b, ev_cond, ev_inB, ev_some, FCell]
  cases hi : inn col 0 (W ((r.cells.length : Int) - 1)) with
  | false => simp
  | true => have := inn_true hi; exact ⟨fun h => (by cases h), fun _ => ⟨by omega, rfl⟩⟩
def FAhead (q : TQuery) (a b : TRow) : Bool := cond (q.order == 0) (decide (a.id_ < b.id_)) (cond (FCell a (W (q.order - 1)) == FCell b (W (q.order - 1))) (decide (a.id_ < b.id_)) (cond q.down (decide (FCell a (W (q.order - 1)) > FCell b (W (q.order - 1)))) (decide (FCell a (W (q.order - 1)) < FCell b (W (q.order - 1))))))
theorem spec_Ahead_ev {q : TQuery} {a b : TRow} (ha : a.cells.length ≤ topN) (hb : b.cells.length ≤ topN) : Ev (fun n _ => spec_Ahead n q a b) (FAhead q a b) := by
  refine ev_succ ?_
  simp only [spec_Ahead, ev_bind (spec_l9Cell_ev ha), ev_bind (spec_l9Cell_ev hb), ev_cond, ev_some, FAhead]
  generalize FCell a (W (q.order - 1)) = x
  generalize FCell b (W (q.order - 1)) = y
  cases hd : q.down <;> grind
theorem impl_Ahead_ev {q : TQuery} {a b : TRow} (ha : a.cells.length ≤ topN) (hb : b.cells.length ≤ topN) : Ev (fun n _ => impl_Ahead n q a b) (FAhead q a b) := by
  refine ev_succ ?_
  simp only [impl_Ahead, ev_bind (cellOf_ev ha), ev_bind (cellOf_ev hb), ev_cond, ev_some, FAhead]
  generalize FCell a (W (q.order - 1)) = x
  generalize FCell b (W (q.order - 1)) = y
  cases hd : q.down <;> grind
def FRows (s : TSchema) (q : TQuery) (rows : List TRow) : Bool := allN (fun i => FRow s q.table (rows.getD i TRow.dflt) && (FMatches q (rows.getD i TRow.dflt) && (decide (FRowAt rows (rows.getD i TRow.dflt).id_ = (i : Int)) && (decide (i = 0) || FAhead q (rows.getD (i - 1) TRow.dflt) (rows.getD i TRow.dflt))))) rows.length
def FKidRows (kids : List TKid) : Bool := allN (fun i => inn (kids.getD i TKid.dflt).n_ 1 24 && (decide (i = 0) || decide ((kids.getD (i - 1) TKid.dflt).id_ < (kids.getD i TKid.dflt).id_))) kids.length
def FView (s : TSchema) (v : TView) : Bool := FQuery s v.q && (decide (v.rows.length ≤ 24) && (FRows s v.q v.rows && (FKidRows v.kids && (decide (v.kids.length = 0) || v.q.kids))))
section
variable {cols sh : List Int} {wh : List TCond} {t o f kt kc : Int} {d ks v : Bool} {rows : List TRow} {kids : List TKid}
theorem getD_cells (hr : lenR topN rows) (i : Nat) : (rows.getD i TRow.dflt).cells.length ≤ topN := by
  by_cases h : i < rows.length
  · exact hr.2 _ (getD_mem _ h)
  · rw [List.getD_eq_getElem?_getD, List.getElem?_eq_none (by omega)]; exact Nat.zero_le _
theorem spec_ViewOk_loop6 {k : Nat → spec_ViewOk.K6} (hs : cols.length ≤ topN) (hw : wh.length ≤ topN) (hr : lenR topN rows) (hk : Ev (fun n N => k n t wh o d f sh ks kt kc rows kids) v) :
    Ev (fun n _ => spec_ViewOk.loop6 n (k n) n 0 cols t wh o d f sh ks kt kc rows kids) (FRows (TSchema.mk cols) (TQuery.mk t wh o d f sh ks kt kc) rows && v) := by
  refine ev_all (fun n N i => spec_ViewOk.loop6 n (k n) N (i : Int) cols t wh o d f sh ks kt kc rows kids) _ (fun i u hi ih => ?_) ?_
  · simp only [spec_ViewOk.turn6, spec_ViewOk.step6, Int.toNat_natCast, W_up hi hr.1, W_dn (i := i) (by have := hr.1; omega), toNat_dn, ev_cond, ev_inB, ev_bind (spec_RowOk_ev (s := TSchema.mk cols) (t := t) hs (getD_cells hr i)),
      ev_bind (spec_Matches_ev (q := TQuery.mk t wh o d f sh ks kt kc) hw (getD_cells hr i)), ev_bind (spec_RowAt_ev hr.1), ev_bind (spec_Ahead_ev (getD_cells hr (i - 1)) (getD_cells hr i)), ev_some, ev_iff ih, lt_up hi, in_up hi]
    clear ih hk
    generalize rows.getD i TRow.dflt = x
    generalize rows.getD (i - 1) TRow.dflt = y
    repeat' (first | apply And.intro | intro _)
    all_goals (try rw [Bool.eq_iff_iff])
    all_goals (try simp only [bne_iff_ne, bne_eq_false_iff_eq, ne_eq, Bool.not_eq_true', Bool.not_eq_false', decide_eq_true_eq, decide_eq_false_iff_not, beq_iff_eq, beq_eq_false_iff_ne, Bool.and_eq_true, Bool.or_eq_true, Bool.and_eq_false_iff, Bool.or_eq_false_iff] at *)
    all_goals grind
  · simp only [spec_ViewOk.turn6, spec_ViewOk.step6, lt_end, cond_false]
    exact hk
theorem impl_ViewOk_loop6 {k : Nat → impl_ViewOk.K6} (hs : cols.length ≤ topN) (hw : wh.length ≤ topN) (hr : lenR topN rows) (hk : Ev (fun n N => k n t wh o d f sh ks kt kc rows kids) v) :
    Ev (fun n _ => impl_ViewOk.loop6 n (k n) n rows (rows.length : Int) 0 cols t wh o d f sh ks kt kc rows kids) (FRows (TSchema.mk cols) (TQuery.mk t wh o d f sh ks kt kc) rows && v) := by
  refine ev_all (fun n N i => impl_ViewOk.loop6 n (k n) N rows (rows.length : Int) (i : Int) cols t wh o d f sh ks kt kc rows kids) _ (fun i u hi ih => ?_) ?_
  · simp only [impl_ViewOk.turn6, impl_ViewOk.step6, Int.toNat_natCast, W_up hi hr.1, W_dn (i := i) (by have := hr.1; omega), toNat_dn, ev_cond, ev_inB, ev_bind (impl_RowOk_ev (s := TSchema.mk cols) (t := t) hs (getD_cells hr i)),
      ev_bind (impl_Matches_ev (q := TQuery.mk t wh o d f sh ks kt kc) hw (getD_cells hr i)), ev_bind (impl_RowAt_ev hr.1), ev_bind (impl_Ahead_ev (getD_cells hr (i - 1)) (getD_cells hr i)), ev_some, ev_iff ih, lt_up hi, in_up hi]
    clear ih hk
    generalize rows.getD i TRow.dflt = x
    generalize rows.getD (i - 1) TRow.dflt = y
    repeat' (first | apply And.intro | intro _)
    all_goals (try rw [Bool.eq_iff_iff])
    all_goals (try simp only [bne_iff_ne, bne_eq_false_iff_eq, ne_eq, Bool.not_eq_true', Bool.not_eq_false', decide_eq_true_eq, decide_eq_false_iff_not, beq_iff_eq, beq_eq_false_iff_ne, Bool.and_eq_true, Bool.or_eq_true, Bool.and_eq_false_iff, Bool.or_eq_false_iff] at *)
    all_goals grind
  · simp only [impl_ViewOk.turn6, impl_ViewOk.step6, lt_end, cond_false]
    exact hk
theorem spec_ViewOk_loop15 {k : Nat → spec_ViewOk.K15} (hr : kids.length ≤ topN) (hk : Ev (fun n N => k n t wh o d f sh ks kt kc rows kids) v) :
    Ev (fun n _ => spec_ViewOk.loop15 n (k n) n 0 t wh o d f sh ks kt kc rows kids) (FKidRows kids && v) := by
  refine ev_all (fun n N i => spec_ViewOk.loop15 n (k n) N (i : Int) t wh o d f sh ks kt kc rows kids) _ (fun i u hi ih => ?_) ?_
  · simp only [spec_ViewOk.turn15, spec_ViewOk.step15, Int.toNat_natCast, W_up hi hr, W_dn (i := i) (by omega), toNat_dn, ev_cond, ev_inB, l1In_b, ev_some, ev_iff ih, lt_up hi, in_up hi]
    clear ih hk
    repeat' (first | apply And.intro | intro _)
    all_goals (try rw [Bool.eq_iff_iff])
    all_goals (try simp only [Bool.not_eq_true', Bool.not_eq_false', decide_eq_true_eq, decide_eq_false_iff_not, beq_iff_eq, beq_eq_false_iff_ne, Bool.and_eq_true, Bool.or_eq_true, Bool.and_eq_false_iff, Bool.or_eq_false_iff] at *)
    all_goals grind
  · simp only [spec_ViewOk.turn15, spec_ViewOk.step15, lt_end, cond_false]
    exact hk
theorem impl_ViewOk_loop15 (hr : kids.length ≤ topN) :
    Ev (fun n _ => impl_ViewOk.loop15 n (fun _ => some true) n kids (kids.length : Int) 0 t wh o d f sh ks kt kc rows kids) (FKidRows kids) := by
  refine ev_congr (ev_all (fun n N i => impl_ViewOk.loop15 n (fun _ => some true) N kids (kids.length : Int) (i : Int) t wh o d f sh ks kt kc rows kids) _ (v := true) (fun i u hi ih => ?_) ?_) (Bool.and_true _)
  · simp only [impl_ViewOk.turn15, impl_ViewOk.step15, Int.toNat_natCast, W_up hi hr, W_dn (i := i) (by omega), toNat_dn, ev_cond, ev_inB, within_b, ev_some, ev_iff ih, lt_up hi, in_up hi]
    clear ih
    repeat' (first | apply And.intro | intro _)
    all_goals (try rw [Bool.eq_iff_iff])
    all_goals (try simp only [Bool.not_eq_true', Bool.not_eq_false', decide_eq_true_eq, decide_eq_false_iff_not, beq_iff_eq, beq_eq_false_iff_ne, Bool.and_eq_true, Bool.or_eq_true, Bool.and_eq_false_iff, Bool.or_eq_false_iff] at *)
    all_goals grind
  · simp only [impl_ViewOk.turn15, impl_ViewOk.step15, lt_end, cond_false, ev_some]
end
theorem spec_ViewOk_ev {s : TSchema} {x : TView} (hs : s.cols.length ≤ topN) (hx : lenV topN x) : Ev (fun n _ => spec_ViewOk n s x) (FView s x) := by
  refine ev_succ ?_
  simp only [spec_ViewOk, ev_bind (spec_QueryOk_ev hs hx.1), ev_cond, ev_some]
  refine ⟨fun h => by simp at h; simp [FView, h], fun h1 => ⟨fun h => ?_, fun h2 => ?_⟩⟩
  · simp only [decide_eq_true_eq] at h; have : ¬ x.rows.length ≤ 24 := by omega
    simp [FView, this]
  refine ev_congr (spec_ViewOk_loop6 (k := fun n => _) hs hx.1.1 hx.2.1 (spec_ViewOk_loop15 (k := fun n => _) (v := decide (x.kids.length = 0) || x.q.kids) hx.2.2 ?_)) ?_
  · simp only [ev_cond, ev_some]
    cases x.q.kids <;> grind
  · have h2 : x.rows.length ≤ 24 := by simp at h2; omega
    simp only [Bool.not_eq_false'] at h1
    simp only [FView, h1, decide_eq_true h2, Bool.true_and]
theorem impl_ViewOk_ev {s : TSchema} {x : TView} (hs : s.cols.length ≤ topN) (hx : lenV topN x) : Ev (fun n _ => impl_ViewOk n s x) (FView s x) := by
  refine ev_succ ?_
  simp only [impl_ViewOk, ev_bind (impl_QueryOk_ev hs hx.1), ev_cond, ev_some]
  refine ⟨fun h => by simp at h; simp [FView, h], fun h1 => ⟨fun h => ?_, fun h2 => ?_⟩⟩
  · simp only [decide_eq_true_eq] at h; have : ¬ x.rows.length ≤ 24 := by omega
    simp [FView, this]
  have h2 : x.rows.length ≤ 24 := by simp at h2; omega
  simp only [Bool.not_eq_false'] at h1
  have e : ∀ {b : Bool}, b = true → (FRows (TSchema.mk s.cols) (TQuery.mk x.q.table x.q.where_ x.q.order x.q.down x.q.first x.q.show_ x.q.kids x.q.kidTable x.q.kidCol) x.rows && FKidRows x.kids) = (FRows s x.q x.rows && (FKidRows x.kids && b)) := by
    rintro b rfl; rw [Bool.and_true]
  refine ⟨fun h3 => ⟨fun h => ?_, fun h => ?_⟩, fun h3 => ?_⟩
  · simp only [decide_eq_true_eq] at h3; have : ¬ x.kids.length = 0 := by omega
    simp only [Bool.not_eq_true'] at h
    simp [FView, this, h]
  · refine ev_congr (impl_ViewOk_loop6 (k := fun n => _) hs hx.1.1 hx.2.1 (impl_ViewOk_loop15 hx.2.2)) ?_
    simp only [Bool.not_eq_false'] at h
    simp only [FView, h1, decide_eq_true h2, Bool.true_and]
    exact e (by simp [h])
  · refine ev_congr (impl_ViewOk_loop6 (k := fun n => _) hs hx.1.1 hx.2.1 (impl_ViewOk_loop15 hx.2.2)) ?_
    simp only [FView, h1, decide_eq_true h2, Bool.true_and]
    exact e (by simp at h3; simp [h3])
end Go.Pi
end
section
set_option linter.unusedVariables false
set_option maxRecDepth 100000
set_option linter.unusedSimpArgs false
namespace Go.Pi
theorem take_set {α : Type} (d : α) {a s : List α} {i : Nat} (h : i < a.length) (hs : s.length = a.length) (ht : s.take i = a.take i) : (s.set i (a.getD i d)).take (i + 1) = a.take (i + 1) := by
  rw [List.take_add_one, List.take_add_one, List.take_set_of_le (Nat.le_refl i), ht, List.getElem?_set_self (by omega), List.getD_eq_getElem?_getD, List.getElem?_eq_getElem h]
  rfl
theorem ev_copy {α : Type} (d : α) (a : List α) (L : Nat → Nat → Nat → List α → Option (List α))
    (h1 : ∀ i s, i < a.length → s.length = a.length → Ev (fun n N => L n N (i + 1) (s.set i (a.getD i d))) a → Ev (fun n N => L n (N + 1) i s) a)
    (h2 : Ev (fun n N => L n (N + 1) a.length a) a) (s : List α) (hs : s.length = a.length) : Ev (fun n _ => L n n 0 s) a := by
  refine ev_up L (fun _ _ => a) (fun i s => s.length = a.length ∧ s.take i = a.take i) a.length (fun i s hI hi k => ?_) s ⟨hs, by simp⟩
  by_cases h : i < a.length
  · exact h1 i s h hI.1 (k _ ⟨by simp [hI.1], take_set d h hI.1 hI.2⟩ h)
  · have e : i = a.length := by omega
    subst e
    have : s = a := by
      have := hI.2
      rwa [List.take_of_length_le (by omega), List.take_of_length_le (Nat.le_refl _)] at this
    subst this
    exact h2
theorem toIntS_ev {a : List Int} (ha : a.length ≤ cap) : Ev (fun n _ => laws_toIntS n a) a := by
  refine ev_succ ?_
  simp only [cap] at ha
  simp only [laws_toIntS, ev_cond, ev_none, decide_eq_true_eq, decide_eq_false_iff_not, not_true_eq_false]
  refine ⟨fun _ => ⟨fun _ => ⟨fun _ => ?_, fun h => absurd h (by omega)⟩, fun h => absurd h (by omega)⟩, fun h => h⟩
  refine ev_copy 0 a (fun n N i s => laws_toIntS.loop4 n (fun x => some x) N a (i : Int) s) (fun i s hi hs k => ?_) ?_ _ (by simp)
  · show Ev (fun n N => laws_toIntS.step4 n (fun x => some x) (laws_toIntS.loop4 n (fun x => some x) N) a (i : Int) s) a
    simp only [laws_toIntS.step4, Int.toNat_natCast, ev_cond, ev_inB, W_up hi (show a.length ≤ topN by simp only [topN]; omega)]
    exact ⟨fun _ => ⟨⟨by omega, by omega⟩, ⟨by omega, by omega⟩, k⟩, fun h => absurd hi (by simpa using h)⟩
  · show Ev (fun n N => laws_toIntS.step4 n (fun x => some x) (laws_toIntS.loop4 n (fun x => some x) N) a (a.length : Int) a) a
    simp only [laws_toIntS.step4, ev_cond, ev_some]
    exact ⟨fun h => absurd (of_decide_eq_true h) (by omega), fun _ => trivial⟩
theorem toSchema_ev {a : TSchema} (ha : a.cols.length ≤ cap) : Ev (fun n _ => laws_toSchema n a) a := by
  refine ev_succ ?_
  simp only [laws_toSchema, ev_bind (toIntS_ev ha), ev_some]
theorem toCond_ev {a : TCond} : Ev (fun n _ => laws_toCond n a) a := ev_succ (by simp only [laws_toCond, ev_some])
theorem toKid_ev {a : TKid} : Ev (fun n _ => laws_toKid n a) a := ev_succ (by simp only [laws_toKid, ev_some])
theorem toCondS_ev {a : List TCond} (ha : a.length ≤ cap) : Ev (fun n _ => laws_toCondS n a) a := by
  refine ev_succ ?_
  simp only [cap] at ha
  simp only [laws_toCondS, ev_cond, ev_none, decide_eq_true_eq, decide_eq_false_iff_not, not_true_eq_false]
  refine ⟨fun _ => ⟨fun _ => ⟨fun _ => ?_, fun h => absurd h (by omega)⟩, fun h => absurd h (by omega)⟩, fun h => h⟩
  refine ev_copy TCond.dflt a (fun n N i s => laws_toCondS.loop4 n (fun x => some x) N a (i : Int) s) (fun i s hi hs k => ?_) ?_ _ (by simp)
  · show Ev (fun n N => laws_toCondS.step4 n (fun x => some x) (laws_toCondS.loop4 n (fun x => some x) N) a (i : Int) s) a
    simp only [laws_toCondS.step4, Int.toNat_natCast, ev_cond, ev_inB, ev_bind (toCond_ev (a := a.getD i TCond.dflt)), W_up hi (show a.length ≤ topN by simp only [topN]; omega)]
    exact ⟨fun _ => ⟨⟨by omega, by omega⟩, ⟨by omega, by omega⟩, k⟩, fun h => absurd hi (by simpa using h)⟩
  · show Ev (fun n N => laws_toCondS.step4 n (fun x => some x) (laws_toCondS.loop4 n (fun x => some x) N) a (a.length : Int) a) a
    simp only [laws_toCondS.step4, ev_cond, ev_some]
    exact ⟨fun h => absurd (of_decide_eq_true h) (by omega), fun _ => trivial⟩
theorem toKidS_ev {a : List TKid} (ha : a.length ≤ cap) : Ev (fun n _ => laws_toKidS n a) a := by
  refine ev_succ ?_
  simp only [cap] at ha
  simp only [laws_toKidS, ev_cond, ev_none, decide_eq_true_eq, decide_eq_false_iff_not, not_true_eq_false]
  refine ⟨fun _ => ⟨fun _ => ⟨fun _ => ?_, fun h => absurd h (by omega)⟩, fun h => absurd h (by omega)⟩, fun h => h⟩
  refine ev_copy TKid.dflt a (fun n N i s => laws_toKidS.loop4 n (fun x => some x) N a (i : Int) s) (fun i s hi hs k => ?_) ?_ _ (by simp)
  · show Ev (fun n N => laws_toKidS.step4 n (fun x => some x) (laws_toKidS.loop4 n (fun x => some x) N) a (i : Int) s) a
    simp only [laws_toKidS.step4, Int.toNat_natCast, ev_cond, ev_inB, ev_bind (toKid_ev (a := a.getD i TKid.dflt)), W_up hi (show a.length ≤ topN by simp only [topN]; omega)]
    exact ⟨fun _ => ⟨⟨by omega, by omega⟩, ⟨by omega, by omega⟩, k⟩, fun h => absurd hi (by simpa using h)⟩
  · show Ev (fun n N => laws_toKidS.step4 n (fun x => some x) (laws_toKidS.loop4 n (fun x => some x) N) a (a.length : Int) a) a
    simp only [laws_toKidS.step4, ev_cond, ev_some]
    exact ⟨fun h => absurd (of_decide_eq_true h) (by omega), fun _ => trivial⟩
theorem toRow_ev {a : TRow} (ha : a.cells.length ≤ cap) : Ev (fun n _ => laws_toRow n a) a := by
  refine ev_succ ?_
  simp only [laws_toRow, ev_bind (toIntS_ev ha), ev_some]
theorem toQuery_ev {a : TQuery} (ha : lenQ cap a) : Ev (fun n _ => laws_toQuery n a) a := by
  refine ev_succ ?_
  simp only [laws_toQuery, ev_bind (toCondS_ev ha.1), ev_bind (toIntS_ev ha.2), ev_some]
theorem toRowS_ev {a : List TRow} (ha : a.length ≤ cap) (hb : ∀ x ∈ a, x.cells.length ≤ cap) : Ev (fun n _ => laws_toRowS n a) a := by
  refine ev_succ ?_
  simp only [cap] at ha
  simp only [laws_toRowS, ev_cond, ev_none, decide_eq_true_eq, decide_eq_false_iff_not, not_true_eq_false]
  refine ⟨fun _ => ⟨fun _ => ⟨fun _ => ?_, fun h => absurd h (by omega)⟩, fun h => absurd h (by omega)⟩, fun h => h⟩
  refine ev_copy TRow.dflt a (fun n N i s => laws_toRowS.loop4 n (fun x => some x) N a (i : Int) s) (fun i s hi hs k => ?_) ?_ _ (by simp)
  · show Ev (fun n N => laws_toRowS.step4 n (fun x => some x) (laws_toRowS.loop4 n (fun x => some x) N) a (i : Int) s) a
    simp only [laws_toRowS.step4, Int.toNat_natCast, ev_cond, ev_inB, ev_bind (toRow_ev (hb _ (getD_mem TRow.dflt hi))), W_up hi (show a.length ≤ topN by simp only [topN]; omega)]
    exact ⟨fun _ => ⟨⟨by omega, by omega⟩, ⟨by omega, by omega⟩, k⟩, fun h => absurd hi (by simpa using h)⟩
  · show Ev (fun n N => laws_toRowS.step4 n (fun x => some x) (laws_toRowS.loop4 n (fun x => some x) N) a (a.length : Int) a) a
    simp only [laws_toRowS.step4, ev_cond, ev_some]
    exact ⟨fun h => absurd (of_decide_eq_true h) (by omega), fun _ => trivial⟩
theorem toView_ev {a : TView} (ha : lenV cap a) : Ev (fun n _ => laws_toView n a) a := by
  refine ev_succ ?_
  simp only [laws_toView, ev_bind (toQuery_ev ha.1), ev_bind (toRowS_ev ha.2.1.1 ha.2.1.2), ev_bind (toKidS_ev ha.2.2), ev_some]
theorem toSess_ev {a : TSess} (ha : lenS cap a) : Ev (fun n _ => laws_toSess n a) a := by
  refine ev_succ ?_
  simp only [laws_toSess, ev_bind (toView_ev ha.1), ev_bind (toView_ev ha.2), ev_some]
theorem eqIntS_ev {a : List Int} (ha : a.length ≤ cap) : Ev (fun n _ => laws_eqIntS n a a) true := by
  refine ev_succ ?_
  simp only [cap] at ha
  simp only [laws_eqIntS, ev_cond, bne_self_eq_false]
  refine ⟨fun h => (by cases h), fun _ => ?_⟩
  refine ev_up1 (fun n N i => laws_eqIntS.loop6 n (fun _ => some true) N a a (i : Int)) (fun _ => true) a.length fun i hi k => ?_
  show Ev (fun n N => laws_eqIntS.step6 n (fun _ => some true) (laws_eqIntS.loop6 n (fun _ => some true) N) a a (i : Int)) true
  by_cases h : i < a.length
  · simp only [laws_eqIntS.step6, Int.toNat_natCast, ev_cond, ev_inB, bne_self_eq_false, Bool.not_true, W_up h (show a.length ≤ topN by simp only [topN]; omega)]
    exact ⟨fun _ => ⟨⟨by omega, by omega⟩, ⟨by omega, by omega⟩, fun h => (by cases h), fun _ => k h⟩, fun h' => absurd h (by simpa using h')⟩
  · simp only [laws_eqIntS.step6, ev_cond, ev_some]
    exact ⟨fun h' => absurd (of_decide_eq_true h') (by omega), fun _ => trivial⟩
theorem eqSchema_ev {a : TSchema} (ha : a.cols.length ≤ cap) : Ev (fun n _ => laws_eqSchema n a a) true := by
  refine ev_succ ?_
  simp only [laws_eqSchema, ev_bind (eqIntS_ev ha), bne_self_eq_false, beq_self_eq_true, Bool.not_true, cond_false, ev_some]
theorem eqCond_ev {a : TCond} : Ev (fun n _ => laws_eqCond n a a) true := by
  refine ev_succ ?_
  simp only [laws_eqCond, bne_self_eq_false, beq_self_eq_true, Bool.not_true, cond_false, ev_some]
theorem eqKid_ev {a : TKid} : Ev (fun n _ => laws_eqKid n a a) true := by
  refine ev_succ ?_
  simp only [laws_eqKid, bne_self_eq_false, beq_self_eq_true, Bool.not_true, cond_false, ev_some]
theorem eqRow_ev {a : TRow} (ha : a.cells.length ≤ cap) : Ev (fun n _ => laws_eqRow n a a) true := by
  refine ev_succ ?_
  simp only [laws_eqRow, ev_bind (eqIntS_ev ha), bne_self_eq_false, beq_self_eq_true, Bool.not_true, cond_false, ev_some]
theorem eqCondS_ev {a : List TCond} (ha : a.length ≤ cap) : Ev (fun n _ => laws_eqCondS n a a) true := by
  refine ev_succ ?_
  simp only [cap] at ha
  simp only [laws_eqCondS, ev_cond, bne_self_eq_false]
  refine ⟨fun h => (by cases h), fun _ => ?_⟩
  refine ev_up1 (fun n N i => laws_eqCondS.loop6 n (fun _ => some true) N a a (i : Int)) (fun _ => true) a.length fun i hi k => ?_
  show Ev (fun n N => laws_eqCondS.step6 n (fun _ => some true) (laws_eqCondS.loop6 n (fun _ => some true) N) a a (i : Int)) true
  by_cases h : i < a.length
  · simp only [laws_eqCondS.step6, Int.toNat_natCast, ev_cond, ev_inB, ev_bind (eqCond_ev (a := a.getD i TCond.dflt)), bne_self_eq_false, Bool.not_true, W_up h (show a.length ≤ topN by simp only [topN]; omega)]
    exact ⟨fun _ => ⟨⟨by omega, by omega⟩, ⟨by omega, by omega⟩, fun h => (by cases h), fun _ => k h⟩, fun h' => absurd h (by simpa using h')⟩
  · simp only [laws_eqCondS.step6, ev_cond, ev_some]
    exact ⟨fun h' => absurd (of_decide_eq_true h') (by omega), fun _ => trivial⟩
theorem eqKidS_ev {a : List TKid} (ha : a.length ≤ cap) : Ev (fun n _ => laws_eqKidS n a a) true := by
  refine ev_succ ?_
  simp only [cap] at ha
  simp only [laws_eqKidS, ev_cond, bne_self_eq_false]
  refine ⟨fun h => (by cases h), fun _ => ?_⟩
  refine ev_up1 (fun n N i => laws_eqKidS.loop6 n (fun _ => some true) N a a (i : Int)) (fun _ => true) a.length fun i hi k => ?_
  show Ev (fun n N => laws_eqKidS.step6 n (fun _ => some true) (laws_eqKidS.loop6 n (fun _ => some true) N) a a (i : Int)) true
  by_cases h : i < a.length
  · simp only [laws_eqKidS.step6, Int.toNat_natCast, ev_cond, ev_inB, ev_bind (eqKid_ev (a := a.getD i TKid.dflt)), bne_self_eq_false, Bool.not_true, W_up h (show a.length ≤ topN by simp only [topN]; omega)]
    exact ⟨fun _ => ⟨⟨by omega, by omega⟩, ⟨by omega, by omega⟩, fun h => (by cases h), fun _ => k h⟩, fun h' => absurd h (by simpa using h')⟩
  · simp only [laws_eqKidS.step6, ev_cond, ev_some]
    exact ⟨fun h' => absurd (of_decide_eq_true h') (by omega), fun _ => trivial⟩
theorem eqRowS_ev {a : List TRow} (ha : a.length ≤ cap) (hb : ∀ x ∈ a, x.cells.length ≤ cap) : Ev (fun n _ => laws_eqRowS n a a) true := by
  refine ev_succ ?_
  simp only [cap] at ha
  simp only [laws_eqRowS, ev_cond, bne_self_eq_false]
  refine ⟨fun h => (by cases h), fun _ => ?_⟩
  refine ev_up1 (fun n N i => laws_eqRowS.loop6 n (fun _ => some true) N a a (i : Int)) (fun _ => true) a.length fun i hi k => ?_
  show Ev (fun n N => laws_eqRowS.step6 n (fun _ => some true) (laws_eqRowS.loop6 n (fun _ => some true) N) a a (i : Int)) true
  by_cases h : i < a.length
  · simp only [laws_eqRowS.step6, Int.toNat_natCast, ev_cond, ev_inB, ev_bind (eqRow_ev (hb _ (getD_mem TRow.dflt h))), bne_self_eq_false, Bool.not_true, W_up h (show a.length ≤ topN by simp only [topN]; omega)]
    exact ⟨fun _ => ⟨⟨by omega, by omega⟩, ⟨by omega, by omega⟩, fun h => (by cases h), fun _ => k h⟩, fun h' => absurd h (by simpa using h')⟩
  · simp only [laws_eqRowS.step6, ev_cond, ev_some]
    exact ⟨fun h' => absurd (of_decide_eq_true h') (by omega), fun _ => trivial⟩
theorem eqQuery_ev {a : TQuery} (ha : lenQ cap a) : Ev (fun n _ => laws_eqQuery n a a) true := by
  refine ev_succ ?_
  simp only [laws_eqQuery, ev_bind (eqCondS_ev ha.1), ev_bind (eqIntS_ev ha.2), bne_self_eq_false, beq_self_eq_true, Bool.not_true, cond_false, ev_some]
theorem eqView_ev {a : TView} (ha : lenV cap a) : Ev (fun n _ => laws_eqView n a a) true := by
  refine ev_succ ?_
  simp only [laws_eqView, ev_bind (eqQuery_ev ha.1), ev_bind (eqRowS_ev ha.2.1.1 ha.2.1.2), ev_bind (eqKidS_ev ha.2.2), bne_self_eq_false, beq_self_eq_true, Bool.not_true, cond_false, ev_some]
theorem eqSess_ev {a : TSess} (ha : lenS cap a) : Ev (fun n _ => laws_eqSess n a a) true := by
  refine ev_succ ?_
  simp only [laws_eqSess, ev_bind (eqView_ev ha.1), ev_bind (eqView_ev ha.2), bne_self_eq_false, beq_self_eq_true, Bool.not_true, cond_false, ev_some]
end Go.Pi
end
section
set_option linter.unusedVariables false
set_option maxRecDepth 100000
set_option linter.unusedSimpArgs false
namespace Go.Pi
def sameC (x y : TCond) : Bool := cond (x.col == y.col) (cond (x.op == y.op) (cond (x.v == y.v) true false) false) false
def FConds2 (a b : List TCond) : Bool := decide (a.length = b.length) && allN (fun i => sameC (a.getD i TCond.dflt) (b.getD i TCond.dflt)) a.length
def FInts2 (a b : List Int) : Bool := decide (a.length = b.length) && allN (fun i => a.getD i 0 == b.getD i 0) a.length
def FKids2 (a b : List TKid) : Bool := decide (a.length = b.length) && allN (fun i => (cond ((a.getD i TKid.dflt).id_ == (b.getD i TKid.dflt).id_) (cond ((a.getD i TKid.dflt).n_ == (b.getD i TKid.dflt).n_) true false) false)) a.length
def FRow2 (a b : TRow) : Bool := (a.id_ == b.id_) && FInts2 a.cells b.cells
def FRows2 (a b : List TRow) : Bool := decide (a.length = b.length) && allN (fun i => FRow2 (a.getD i TRow.dflt) (b.getD i TRow.dflt)) a.length
def FQuery2 (a b : TQuery) : Bool := (a.table == b.table) && (FConds2 a.where_ b.where_ && ((a.order == b.order) && ((a.down == b.down) && ((a.first == b.first) && (FInts2 a.show_ b.show_ && ((a.kids == b.kids) && ((a.kidTable == b.kidTable) && (a.kidCol == b.kidCol))))))))
def FView2 (a b : TView) : Bool := FQuery2 a.q b.q && (FRows2 a.rows b.rows && FKids2 a.kids b.kids)
theorem min_same {n m : Nat} {p : Nat → Bool} : (allN p (min n m) && decide (n = m)) = (decide (n = m) && allN p n) := by
  by_cases h : n = m
  · subst h; simp [Nat.min_self, Bool.and_comm]
  · simp [h]
theorem spec_l9Conds_ev {a b : List TCond} (ha : a.length ≤ topN) : Ev (fun n _ => spec_l9Conds n a b) (FConds2 a b) := by
  refine ev_succ ?_
  simp only [spec_l9Conds]
  refine ev_congr (ev_all (fun n N i => spec_l9Conds.loop3 n (fun x y => some ((x.length : Int) == (y.length : Int))) N a b (i : Int)) (fun i => sameC (a.getD i TCond.dflt) (b.getD i TCond.dflt)) (len := min a.length b.length) (v := decide (a.length = b.length)) (fun i u hi ih => ?_) ?_) min_same
  · have h1 : i < a.length := by omega
    have h2 : i < b.length := by omega
    simp only [spec_l9Conds.turn3, spec_l9Conds.step3, Int.toNat_natCast, W_up h1 ha, ev_cond, ev_inB, ev_some, ev_iff ih, lt_up h1, in_up h1, lt_up h2, in_up h2]
    clear ih
    simp only [sameC]
    generalize (cond ((a.getD i TCond.dflt).col == (b.getD i TCond.dflt).col) (cond ((a.getD i TCond.dflt).op == (b.getD i TCond.dflt).op) (cond ((a.getD i TCond.dflt).v == (b.getD i TCond.dflt).v) true false) false) false) = c
    cases c <;> simp
  · simp only [spec_l9Conds.turn3, spec_l9Conds.step3, ev_cond, ev_some, ev_inB]
    grind
theorem spec_l9Ints_ev {a b : List Int} (ha : a.length ≤ topN) : Ev (fun n _ => spec_l9Ints n a b) (FInts2 a b) := by
  refine ev_succ ?_
  simp only [spec_l9Ints]
  refine ev_congr (ev_all (fun n N i => spec_l9Ints.loop3 n (fun x y => some ((x.length : Int) == (y.length : Int))) N a b (i : Int)) (fun i => a.getD i 0 == b.getD i 0) (len := min a.length b.length) (v := decide (a.length = b.length)) (fun i u hi ih => ?_) ?_) min_same
  · have h1 : i < a.length := by omega
    have h2 : i < b.length := by omega
    simp only [spec_l9Ints.turn3, spec_l9Ints.step3, Int.toNat_natCast, W_up h1 ha, ev_cond, ev_inB, ev_some, ev_iff ih, lt_up h1, in_up h1, lt_up h2, in_up h2]
    clear ih
    generalize a.getD i 0 = x
    generalize b.getD i 0 = y
    grind
  · simp only [spec_l9Ints.turn3, spec_l9Ints.step3, ev_cond, ev_some, ev_inB]
    grind
theorem spec_QuerySame_ev {a b : TQuery} (ha : lenQ topN a) : Ev (fun n _ => spec_QuerySame n a b) (FQuery2 a b) := by
  refine ev_succ ?_
  simp only [spec_QuerySame, ev_bind (spec_l9Conds_ev ha.1), ev_bind (spec_l9Ints_ev ha.2), ev_cond, ev_some, FQuery2]
  generalize FConds2 a.where_ b.where_ = c
  generalize FInts2 a.show_ b.show_ = d
  cases c <;> cases d <;> grind
theorem spec_RowSame_ev {a b : TRow} (ha : a.cells.length ≤ topN) : Ev (fun n _ => spec_RowSame n a b) (FRow2 a b) := by
  refine ev_succ ?_
  simp only [spec_RowSame, ev_cond, ev_some]
  refine ⟨fun h => ?_, fun h1 => ⟨fun h => ?_, fun h2 => ?_⟩⟩
  · simp only [bne_iff_ne, ne_eq] at h; simp [FRow2, h]
  · simp only [bne_iff_ne, ne_eq] at h; have : ¬ a.cells.length = b.cells.length := by omega
    simp [FRow2, FInts2, this]
  · simp only [bne_eq_false_iff_eq] at h1 h2
    have hl : a.cells.length = b.cells.length := by omega
    refine ev_congr (ev_all (fun n N i => spec_RowSame.loop6 n (fun _ => some true) N (i : Int) a.id_ a.cells b.id_ b.cells) (fun i => a.cells.getD i 0 == b.cells.getD i 0) (len := a.cells.length) (v := true) (fun i u hi ih => ?_) ?_) (by simp [FRow2, FInts2, h1, hl])
    · have h2 : i < b.cells.length := by omega
      simp only [spec_RowSame.turn6, spec_RowSame.step6, Int.toNat_natCast, W_up hi ha, ev_cond, ev_inB, ev_some, ev_iff ih, lt_up hi, in_up hi, in_up h2]
      clear ih
      generalize a.cells.getD i 0 = x
      generalize b.cells.getD i 0 = y
      grind
    · simp only [spec_RowSame.turn6, spec_RowSame.step6, lt_end, cond_false, ev_some]
theorem Equal_Cond_ev {a b : List TCond} (ha : a.length ≤ topN) : Ev (fun n _ => slices_Equal_Cond n a b) (FConds2 a b) := by
  refine ev_succ ?_
  simp only [slices_Equal_Cond, ev_cond, ev_some]
  refine ⟨fun h => ?_, fun h2 => ?_⟩
  · simp only [bne_iff_ne, ne_eq] at h; have : ¬ a.length = b.length := by omega
    simp [FConds2, this]
  · simp only [bne_eq_false_iff_eq] at h2
    have hl : a.length = b.length := by omega
    refine ev_congr (ev_all (fun n N i => slices_Equal_Cond.loop6 n (fun _ => some true) N a b (a.length : Int) (i : Int)) (fun i => sameC (a.getD i TCond.dflt) (b.getD i TCond.dflt)) (len := a.length) (v := true) (fun i u hi ih => ?_) ?_) (by simp [FConds2, hl])
    · have h2 : i < b.length := by omega
      simp only [slices_Equal_Cond.turn6, slices_Equal_Cond.step6, Int.toNat_natCast, W_up hi ha, ev_cond, ev_inB, ev_some, ev_iff ih, lt_up hi, in_up hi, in_up h2]
      clear ih
      simp only [sameC]
      generalize (cond ((a.getD i TCond.dflt).col == (b.getD i TCond.dflt).col) (cond ((a.getD i TCond.dflt).op == (b.getD i TCond.dflt).op) (cond ((a.getD i TCond.dflt).v == (b.getD i TCond.dflt).v) true false) false) false) = c
      cases c <;> simp
    · simp only [slices_Equal_Cond.turn6, slices_Equal_Cond.step6, lt_end, cond_false, ev_some]
theorem Equal_Kid_ev {a b : List TKid} (ha : a.length ≤ topN) : Ev (fun n _ => slices_Equal_Kid n a b) (FKids2 a b) := by
  refine ev_succ ?_
  simp only [slices_Equal_Kid, ev_cond, ev_some]
  refine ⟨fun h => ?_, fun h2 => ?_⟩
  · simp only [bne_iff_ne, ne_eq] at h; have : ¬ a.length = b.length := by omega
    simp [FKids2, this]
  · simp only [bne_eq_false_iff_eq] at h2
    have hl : a.length = b.length := by omega
    refine ev_congr (ev_all (fun n N i => slices_Equal_Kid.loop6 n (fun _ => some true) N a b (a.length : Int) (i : Int)) (fun i => (cond ((a.getD i TKid.dflt).id_ == (b.getD i TKid.dflt).id_) (cond ((a.getD i TKid.dflt).n_ == (b.getD i TKid.dflt).n_) true false) false)) (len := a.length) (v := true) (fun i u hi ih => ?_) ?_) (by simp [FKids2, hl])
    · have h2 : i < b.length := by omega
      simp only [slices_Equal_Kid.turn6, slices_Equal_Kid.step6, Int.toNat_natCast, W_up hi ha, ev_cond, ev_inB, ev_some, ev_iff ih, lt_up hi, in_up hi, in_up h2]
      clear ih
      generalize (cond ((a.getD i TKid.dflt).id_ == (b.getD i TKid.dflt).id_) (cond ((a.getD i TKid.dflt).n_ == (b.getD i TKid.dflt).n_) true false) false) = c
      cases c <;> simp
    · simp only [slices_Equal_Kid.turn6, slices_Equal_Kid.step6, lt_end, cond_false, ev_some]
theorem Equal_int_ev {a b : List Int} (ha : a.length ≤ topN) : Ev (fun n _ => slices_Equal_int n a b) (FInts2 a b) := by
  refine ev_succ ?_
  simp only [slices_Equal_int, ev_cond, ev_some]
  refine ⟨fun h => ?_, fun h2 => ?_⟩
  · simp only [bne_iff_ne, ne_eq] at h; have : ¬ a.length = b.length := by omega
    simp [FInts2, this]
  · simp only [bne_eq_false_iff_eq] at h2
    have hl : a.length = b.length := by omega
    refine ev_congr (ev_all (fun n N i => slices_Equal_int.loop6 n (fun _ => some true) N a b (a.length : Int) (i : Int)) (fun i => a.getD i 0 == b.getD i 0) (len := a.length) (v := true) (fun i u hi ih => ?_) ?_) (by simp [FInts2, hl])
    · have h2 : i < b.length := by omega
      simp only [slices_Equal_int.turn6, slices_Equal_int.step6, Int.toNat_natCast, W_up hi ha, ev_cond, ev_inB, ev_some, ev_iff ih, lt_up hi, in_up hi, in_up h2]
      clear ih
      generalize a.getD i 0 = x
      generalize b.getD i 0 = y
      grind
    · simp only [slices_Equal_int.turn6, slices_Equal_int.step6, lt_end, cond_false, ev_some]
theorem impl_QuerySame_ev {a b : TQuery} (ha : lenQ topN a) : Ev (fun n _ => impl_QuerySame n a b) (FQuery2 a b) := by
  refine ev_succ ?_
  simp only [impl_QuerySame, ev_bind (Equal_Cond_ev ha.1), ev_bind (Equal_int_ev ha.2), ev_cond, ev_some, FQuery2]
  generalize FConds2 a.where_ b.where_ = c
  generalize FInts2 a.show_ b.show_ = d
  repeat' (first | apply And.intro | intro _)
  all_goals (try simp only [beq_iff_eq, beq_eq_false_iff_ne, ne_eq] at *)
  all_goals simp_all
theorem impl_RowSame_ev {a b : TRow} (ha : a.cells.length ≤ topN) : Ev (fun n _ => impl_RowSame n a b) (FRow2 a b) := by
  refine ev_succ ?_
  simp only [impl_RowSame, ev_bind (Equal_int_ev ha), ev_cond, ev_some, FRow2]
  generalize FInts2 a.cells b.cells = d
  cases d <;> grind
theorem EqualFunc_Row_ev {a b : List TRow} (ha : lenR topN a) : Ev (fun n _ => slices_EqualFunc_Row_c102 n a b) (FRows2 a b) := by
  refine ev_succ ?_
  simp only [slices_EqualFunc_Row_c102, ev_cond, ev_some]
  refine ⟨fun h => ?_, fun h2 => ?_⟩
  · simp only [bne_iff_ne, ne_eq] at h; have : ¬ a.length = b.length := by omega
    simp [FRows2, this]
  · simp only [bne_eq_false_iff_eq] at h2
    have hl : a.length = b.length := by omega
    refine ev_congr (ev_all (fun n N i => slices_EqualFunc_Row_c102.loop6 n (fun _ => some true) N b a (a.length : Int) (i : Int)) (fun i => FRow2 (a.getD i TRow.dflt) (b.getD i TRow.dflt)) (len := a.length) (v := true) (fun i u hi ih => ?_) ?_) (by simp [FRows2, hl])
    · have h2 : i < b.length := by omega
      simp only [slices_EqualFunc_Row_c102.turn6, slices_EqualFunc_Row_c102.step6, Int.toNat_natCast, W_up hi ha.1, ev_cond, ev_inB, ev_bind (impl_RowSame_ev (getD_cells ha i)), ev_some, ev_iff ih, lt_up hi, in_up hi, in_up h2]
      clear ih
      generalize FRow2 (a.getD i TRow.dflt) (b.getD i TRow.dflt) = c
      cases c <;> simp
    · simp only [slices_EqualFunc_Row_c102.turn6, slices_EqualFunc_Row_c102.step6, lt_end, cond_false, ev_some]
theorem impl_ViewSame_ev {a b : TView} (ha : lenV topN a) : Ev (fun n _ => impl_ViewSame n a b) (FView2 a b) := by
  refine ev_succ ?_
  simp only [impl_ViewSame, ev_bind (impl_QuerySame_ev ha.1), ev_bind (EqualFunc_Row_ev ha.2.1), ev_bind (Equal_Kid_ev ha.2.2), ev_cond, ev_some, FView2]
  generalize FQuery2 a.q b.q = c
  generalize FRows2 a.rows b.rows = d
  generalize FKids2 a.kids b.kids = e
  cases c <;> cases d <;> cases e <;> simp
end Go.Pi
end
section
set_option linter.unusedVariables false
set_option maxRecDepth 100000
set_option linter.unusedSimpArgs false
namespace Go.Pi
section
variable {a0 b0 : Int} {t o f kt kc t' o' f' kt' kc' : Int} {wh wh' : List TCond} {sh sh' : List Int} {d ks d' ks' v : Bool} {rows rows' : List TRow} {kids kids' : List TKid}
theorem spec_ViewSame_loop6 {k : Nat → spec_ViewSame.K6} (hr : lenR topN rows) (hl : rows.length = rows'.length) (hk : Ev (fun n N => k n t wh o d f sh ks kt kc rows kids t' wh' o' d' f' sh' ks' kt' kc' rows' kids') v) :
    Ev (fun n _ => spec_ViewSame.loop6 n (k n) n 0 t wh o d f sh ks kt kc rows kids t' wh' o' d' f' sh' ks' kt' kc' rows' kids') (allN (fun i => FRow2 (rows.getD i TRow.dflt) (rows'.getD i TRow.dflt)) rows.length && v) := by
  refine ev_all (fun n N i => spec_ViewSame.loop6 n (k n) N (i : Int) t wh o d f sh ks kt kc rows kids t' wh' o' d' f' sh' ks' kt' kc' rows' kids') _ (fun i u hi ih => ?_) ?_
  · have h2 : i < rows'.length := by omega
    simp only [spec_ViewSame.turn6, spec_ViewSame.step6, Int.toNat_natCast, W_up hi hr.1, ev_cond, ev_inB, ev_bind (spec_RowSame_ev (getD_cells hr i)), ev_some, ev_iff ih, lt_up hi, in_up hi, in_up h2]
    clear ih hk
    generalize FRow2 (rows.getD i TRow.dflt) (rows'.getD i TRow.dflt) = c
    cases c <;> simp
  · simp only [spec_ViewSame.turn6, spec_ViewSame.step6, lt_end, cond_false]
    exact hk
theorem spec_ViewSame_loop14 (hr : kids.length ≤ topN) (hl : kids.length = kids'.length) :
    Ev (fun n _ => spec_ViewSame.loop14 n (fun _ => some true) n 0 t wh o d f sh ks kt kc rows kids t' wh' o' d' f' sh' ks' kt' kc' rows' kids') (FKids2 kids kids') := by
  refine ev_congr (ev_all (fun n N i => spec_ViewSame.loop14 n (fun _ => some true) N (i : Int) t wh o d f sh ks kt kc rows kids t' wh' o' d' f' sh' ks' kt' kc' rows' kids') (fun i => (cond ((kids.getD i TKid.dflt).id_ == (kids'.getD i TKid.dflt).id_) (cond ((kids.getD i TKid.dflt).n_ == (kids'.getD i TKid.dflt).n_) true false) false)) (len := kids.length) (v := true) (fun i u hi ih => ?_) ?_) (by simp [FKids2, hl])
  · have h2 : i < kids'.length := by omega
    simp only [spec_ViewSame.turn14, spec_ViewSame.step14, Int.toNat_natCast, W_up hi hr, ev_cond, ev_inB, ev_some, ev_iff ih, lt_up hi, in_up hi, in_up h2]
    clear ih
    generalize (cond ((kids.getD i TKid.dflt).id_ == (kids'.getD i TKid.dflt).id_) (cond ((kids.getD i TKid.dflt).n_ == (kids'.getD i TKid.dflt).n_) true false) false) = c
    cases c <;> simp
  · simp only [spec_ViewSame.turn14, spec_ViewSame.step14, lt_end, cond_false, ev_some]
end
theorem spec_ViewSame_ev {a b : TView} (ha : lenV topN a) : Ev (fun n _ => spec_ViewSame n a b) (FView2 a b) := by
  refine ev_succ ?_
  simp only [spec_ViewSame, ev_bind (spec_QuerySame_ev ha.1), ev_cond, ev_some]
  refine ⟨fun h => by simp at h; simp [FView2, h], fun h1 => ⟨fun h => ?_, fun h2 => ⟨fun h => ?_, fun h3 => ?_⟩⟩⟩
  · simp only [bne_iff_ne, ne_eq] at h; have : ¬ a.rows.length = b.rows.length := by omega
    simp [FView2, FRows2, this]
  · simp only [bne_iff_ne, ne_eq] at h; have : ¬ a.kids.length = b.kids.length := by omega
    simp [FView2, FKids2, this]
  · simp only [bne_eq_false_iff_eq, Bool.not_eq_false'] at h1 h2 h3
    have hr : a.rows.length = b.rows.length := by omega
    have hk : a.kids.length = b.kids.length := by omega
    refine ev_congr (spec_ViewSame_loop6 (k := fun n => _) ha.2.1 hr (spec_ViewSame_loop14 ha.2.2 hk)) ?_
    simp [FView2, FRows2, h1, hr]
theorem inv_comm {p q : Nat → Bool} {n m : Nat} (h : ∀ i, p i = q i) : (decide (n = m) && allN p n) = (decide (m = n) && allN q m) := by
  by_cases e : n = m
  · subst e; rw [show p = q from funext h]
  · simp [e, Ne.symm e]
theorem FInts2_comm (a b : List Int) : FInts2 a b = FInts2 b a := inv_comm fun i => by rw [Bool.beq_comm]
theorem FConds2_comm (a b : List TCond) : FConds2 a b = FConds2 b a := inv_comm fun i => by
  unfold sameC
  rw [Bool.beq_comm (a := (a.getD i TCond.dflt).col), Bool.beq_comm (a := (a.getD i TCond.dflt).op), Bool.beq_comm (a := (a.getD i TCond.dflt).v)]
theorem FQuery2_comm (a b : TQuery) : FQuery2 a b = FQuery2 b a := by
  unfold FQuery2
  rw [FInts2_comm a.show_, FConds2_comm a.where_, Bool.beq_comm (a := a.table), Bool.beq_comm (a := a.order), Bool.beq_comm (a := a.down), Bool.beq_comm (a := a.first), Bool.beq_comm (a := a.kids), Bool.beq_comm (a := a.kidTable), Bool.beq_comm (a := a.kidCol)]
def FSess (s : TSchema) (x : TSess) : Bool := FView s x.view && (inn x.version 0 100000 && cond x.began (FView s x.last && (FQuery2 x.last.q x.view.q && inn x.lastVersion 0 x.version)) ((x.lastVersion == 0) && FView2 x.last (TView.mk (TQuery.mk 0 [] 0 false 0 [] false 0 0) [] [])))
theorem spec_SessOk_ev {s : TSchema} {x : TSess} (hs : s.cols.length ≤ topN) (hx : lenS topN x) : Ev (fun n _ => spec_SessOk n s x) (FSess s x) := by
  refine ev_succ ?_
  simp only [spec_SessOk, ev_bind (spec_ViewOk_ev hs hx.1), ev_bind (spec_ViewOk_ev hs hx.2), l1In_b, ev_bind (spec_ViewSame_ev hx.2), ev_bind (spec_QuerySame_ev hx.2.1), ev_cond, ev_some, FSess]
  generalize FView s x.view = a
  generalize FView s x.last = b
  generalize FQuery2 x.last.q x.view.q = c
  generalize FView2 x.last (TView.mk (TQuery.mk 0 [] 0 false 0 [] false 0 0) [] []) = d
  generalize inn x.version 0 100000 = e
  generalize inn x.lastVersion 0 x.version = g
  cases a <;> cases b <;> cases c <;> cases d <;> cases e <;> cases g <;> cases x.began <;> simp
theorem impl_SessOk_ev {s : TSchema} {x : TSess} (hs : s.cols.length ≤ topN) (hx : lenS topN x) : Ev (fun n _ => impl_SessOk n s x) (FSess s x) := by
  refine ev_succ ?_
  simp only [impl_SessOk, ev_bind (impl_ViewOk_ev hs hx.1), ev_bind (impl_ViewOk_ev hs hx.2), within_b, isVersion_b, ev_bind (impl_ViewSame_ev hx.2), ev_bind (impl_QuerySame_ev (b := x.last.q) hx.1.1), FQuery2_comm x.view.q, ev_cond, ev_some, FSess]
  generalize FView s x.view = a
  generalize FView s x.last = b
  generalize FQuery2 x.last.q x.view.q = c
  generalize FView2 x.last (TView.mk (TQuery.mk 0 [] 0 false 0 [] false 0 0) [] []) = d
  generalize inn x.version 0 100000 = e
  generalize inn x.lastVersion 0 x.version = g
  cases a <;> cases b <;> cases c <;> cases d <;> cases e <;> cases g <;> cases x.began <;> simp
theorem lenS.up {x : TSess} (h : lenS cap x) : lenS topN x := by
  have e : cap ≤ topN := by decide
  have hq : ∀ {q}, lenQ cap q → lenQ topN q := fun h => ⟨Nat.le_trans h.1 e, Nat.le_trans h.2 e⟩
  have hr : ∀ {q}, lenR cap q → lenR topN q := fun h => ⟨Nat.le_trans h.1 e, fun x hx => Nat.le_trans (h.2 x hx) e⟩
  exact ⟨⟨hq h.1.1, hr h.1.2.1, Nat.le_trans h.1.2.2 e⟩, ⟨hq h.2.1, hr h.2.2.1, Nat.le_trans h.2.2.2 e⟩⟩
theorem SessOk_law {s : TSchema} {x : TSess} (hs : s.cols.length ≤ topN) (hx : lenS topN x) : ∃ n, laws_FnExactSessOk n s x = some true := by
  refine ev_ex (ev_succ ?_)
  obtain ⟨r1, e1, b1, c1⟩ := szSchema_ev (left := 1048576) hs ⟨by omega, by omega⟩
  simp only [laws_FnExactSessOk, ev_bind e1, ev_cond, ev_some]
  refine ⟨fun _ => trivial, fun h => ?_⟩
  simp only [decide_eq_false_iff_not] at h
  obtain ⟨r2, e2, b2, c2⟩ := szSess_ev (left := r1) hx ⟨by omega, by omega⟩
  simp only [ev_bind e2, ev_cond, ev_some]
  refine ⟨fun _ => trivial, fun h2 => ?_⟩
  simp only [decide_eq_false_iff_not] at h2
  have k1 := c1 (by omega)
  have k2 := c2 (by omega)
  simp only [ev_bind (toSchema_ev k1), ev_bind (toSess_ev k2), ev_bind (spec_SessOk_ev hs k2.up), ev_bind (impl_SessOk_ev hs k2.up), ev_bind (eqSchema_ev k1), ev_bind (eqSess_ev k2), beq_self_eq_true, Bool.not_true, cond_false, ev_some]
/-! the lengths, out of what an argument was read to be -/
theorem good_sl {t : TC} {xs : List (El t)} (h : Good (.sl .v t xs)) : xs.length ≤ topN ∧ ∀ x ∈ xs, ∀ c ∈ Coding.enc .v t x, Good c := by
  cases h with
  | sl t xs h1 h2 => exact ⟨h1, h2⟩
theorem good_rows {xs : List TRow} (h : Good (.sl .v .lRow xs)) : lenR topN xs :=
  ⟨(good_sl h).1, fun x hx => (good_sl (t := .int) ((good_sl h).2 x hx _ (.tail _ (.head _)))).1⟩
end Go.Pi
end
section
set_option linter.unusedVariables false
set_option maxRecDepth 100000
namespace Go.Pi
open Go.Proofs Go.Proofs.Ytpifpdljphobdaa
open Go.ChangeShapes Go.WideShapes Go.ChangeAt Go.RowKit
def code : TypeId → Option TC := codeL eid [.int, .u8, .str, .lCond, .lRow, .lKid, .iCond, .iRow, .iKid, .s_iRow, .iChange, .s_iChange, .iSeat]
def kinds : TC → List Kd
  | .int => [.i .i64]
  | .u8 => [.i .u8]
  | .str => [.s]
  | .lCond => [.i .i64, .i .i64, .i .i64]
  | .lRow => [.i .i64, .sl .int]
  | .lKid => [.i .i64, .i .i64]
  | .iCond => [.i .i64, .i .i64, .i .i64]
  | .iRow => [.i .i64, .sl .int]
  | .iKid => [.i .i64, .i .i64]
  | .s_iRow => [.sl .iRow]
  | .iChange => [.i .i64, .b, .b, .i .i64, .sl .int, .i .i64, .sl .int]
  | .s_iChange => [.sl .iChange]
  | .iSeat => [.i .i64, .sl .iCond, .i .i64, .b, .i .i64, .sl .int, .b, .i .i64, .i .i64, .sl .iRow, .sl .iKid, .i .i64, .i .i64, .sl .iCond, .i .i64, .b, .i .i64, .sl .int, .b, .i .i64, .i .i64, .sl .iRow, .sl .iKid, .i .i64, .b, .s, .i .i64, .s, .s, .b]
theorem kindsOk : KindsOk E code kinds 12 where
  codeOk := fun e t h => codeL_ok _ h
  kdsOk := by intro t; cases t <;> kernel_rfl
  cells := by intro t; cases t <;> kernel_rfl
  dec := by
    intro t l h
    cases t with
    | int => iterate 1 (replace h := kinded_cons h; obtain ⟨_, _, rfl, ⟨_, rfl⟩, h⟩ := h)
             replace h := kinded_nil h; subst h; exact ⟨_, rfl⟩
    | lCond => iterate 3 (replace h := kinded_cons h; obtain ⟨_, _, rfl, ⟨_, rfl⟩, h⟩ := h)
               replace h := kinded_nil h; subst h; exact ⟨_, rfl⟩
    | iChange => iterate 7 (replace h := kinded_cons h; obtain ⟨_, _, rfl, ⟨_, rfl⟩, h⟩ := h)
                 replace h := kinded_nil h; subst h; exact ⟨_, rfl⟩
    | iSeat => iterate 30 (replace h := kinded_cons h; obtain ⟨_, _, rfl, ⟨_, rfl⟩, h⟩ := h)
               replace h := kinded_nil h; subst h; exact ⟨_, rfl⟩
    | u8 => iterate 1 (replace h := kinded_cons h; obtain ⟨_, _, rfl, ⟨_, rfl⟩, h⟩ := h)
            replace h := kinded_nil h; subst h; exact ⟨_, rfl⟩
    | str => iterate 1 (replace h := kinded_cons h; obtain ⟨_, _, rfl, ⟨_, rfl⟩, h⟩ := h)
             replace h := kinded_nil h; subst h; exact ⟨_, rfl⟩
    | lRow => iterate 2 (replace h := kinded_cons h; obtain ⟨_, _, rfl, ⟨_, rfl⟩, h⟩ := h)
              replace h := kinded_nil h; subst h; exact ⟨_, rfl⟩
    | lKid => iterate 2 (replace h := kinded_cons h; obtain ⟨_, _, rfl, ⟨_, rfl⟩, h⟩ := h)
              replace h := kinded_nil h; subst h; exact ⟨_, rfl⟩
    | iCond => iterate 3 (replace h := kinded_cons h; obtain ⟨_, _, rfl, ⟨_, rfl⟩, h⟩ := h)
               replace h := kinded_nil h; subst h; exact ⟨_, rfl⟩
    | iRow => iterate 2 (replace h := kinded_cons h; obtain ⟨_, _, rfl, ⟨_, rfl⟩, h⟩ := h)
              replace h := kinded_nil h; subst h; exact ⟨_, rfl⟩
    | iKid => iterate 2 (replace h := kinded_cons h; obtain ⟨_, _, rfl, ⟨_, rfl⟩, h⟩ := h)
              replace h := kinded_nil h; subst h; exact ⟨_, rfl⟩
    | s_iRow => iterate 1 (replace h := kinded_cons h; obtain ⟨_, _, rfl, ⟨_, rfl⟩, h⟩ := h)
                replace h := kinded_nil h; subst h; exact ⟨_, rfl⟩
    | s_iChange => iterate 1 (replace h := kinded_cons h; obtain ⟨_, _, rfl, ⟨_, rfl⟩, h⟩ := h)
                   replace h := kinded_nil h; subst h; exact ⟨_, rfl⟩
namespace laws_FnExactSessOk
theorem own : ownKnob Try.prog.godebug = none := by kernel_rfl
theorem laidOut : laidOutB Try.prog = true := by kernel_rfl
def Pure : Prop := ∀ (aS : TSchema) (aX : TSess), (∀ c ∈ [AV.sl .v .int aS.cols], Good c) → (∀ c ∈ [.i .i64 aX.view.q.table, .sl .v .lCond aX.view.q.where_, .i .i64 aX.view.q.order, .b aX.view.q.down, .i .i64 aX.view.q.first, .sl .v .int aX.view.q.show_, .b aX.view.q.kids, .i .i64 aX.view.q.kidTable, .i .i64 aX.view.q.kidCol, .sl .v .lRow aX.view.rows, .sl .v .lKid aX.view.kids, .i .i64 aX.version, .i .i64 aX.last.q.table, .sl .v .lCond aX.last.q.where_, .i .i64 aX.last.q.order, .b aX.last.q.down, .i .i64 aX.last.q.first, .sl .v .int aX.last.q.show_, .b aX.last.q.kids, .i .i64 aX.last.q.kidTable, .i .i64 aX.last.q.kidCol, .sl .v .lRow aX.last.rows, .sl .v .lKid aX.last.kids, .i .i64 aX.lastVersion, .b aX.began], Good c) → ∃ n, Go.Pi.laws_FnExactSessOk n aS aX = some true
theorem lifted (hp : Pure) (os : Os) (started : os.Started) (H : Type) (enc : TypeId × Value → H) :
    ReturnsInHanded {} Try.checked os 3 .any (Rows.fnExactSessOkSpec.pre6 enc Try.prog Try.f3 Rows.fnExactSessOkRow.domain false) (Rows.fnExactSessOkSpec.post enc Try.prog Try.f3 false true false false) := by
  refine returnsInHanded_of_change (C := Try.checked) own started (by kernel_rfl) Try.func3
    (ChangeSpec.witness6 (enc := enc) (C := Try.checked) false ⟨#[], #[.agg #[.slice none 0 0], .agg #[.int .i64 0, .slice none 0 0, .int .i64 0, .bool false, .int .i64 0, .slice none 0 0, .bool false, .int .i64 0, .int .i64 0, .slice none 0 0, .slice none 0 0, .int .i64 0, .int .i64 0, .slice none 0 0, .int .i64 0, .bool false, .int .i64 0, .slice none 0 0, .bool false, .int .i64 0, .int .i64 0, .slice none 0 0, .slice none 0 0, .int .i64 0, .bool false]], []⟩ 8 (by kernel_rfl) (by kernel_rfl) (by kernel_rfl) (by kernel_rfl)) ?_
  intro W base args ds gs before hval0 hW hcnd _
  have hval : ∀ (j : Nat) t v, Try.f3.params[j]? = some t → args[j]? = some v → Value.okWide Try.prog W .any base t v := hval0
  have hW' := hW
  obtain ⟨p, q, hA0, hV, rfl, hfz, hnd⟩ := hW
  have hA : DataW.TrodAll enc Try.prog W 0 (fun _ => true) true Try.f3.params.toList args.toList ds p := hA0
  rw [Try.params3] at hA hval
  obtain ⟨v0, vs0, d0, ds0, p0, q0, hargs, rfl, rfl, h0, r0⟩ := trodAll_cons hA
  obtain ⟨v1, vs1, d1, ds1, p1, q1, rfl, rfl, rfl, h1, r1⟩ := trodAll_cons r0
  obtain ⟨rfl, rfl, rfl⟩ := trodAll_nil r1
  obtain rfl : args = #[v0, v1] := by cases args; simp_all
  obtain ⟨rfl, rfl⟩ := trodVars_none hV
  obtain ⟨c0, rfl, -⟩ := okWide_struct Try.underlying24 (hval 0 24 v0 rfl rfl)
  obtain ⟨c1, rfl, -⟩ := okWide_struct Try.underlying33 (hval 1 33 v1 rfl rfl)
  have lt0 : ∀ x ∈ p0, x.block < W.heap.size := by obtain ⟨m, hm⟩ := h0; exact DataW.trod_lt m _ _ _ hm
  have lt1 : ∀ x ∈ p1, x.block < W.heap.size := by obtain ⟨m, hm⟩ := h1; exact DataW.trod_lt m _ _ _ hm
  obtain ⟨l0, k0, e0, g0⟩ := arg_open kindsOk (T := 24) (ks := [.sl .int]) (by kernel_rfl) h0
  obtain ⟨l1, k1, e1, g1⟩ := arg_open kindsOk (T := 33) (ks := [.i .i64, .sl .lCond, .i .i64, .b, .i .i64, .sl .int, .b, .i .i64, .i .i64, .sl .lRow, .sl .lKid, .i .i64, .i .i64, .sl .lCond, .i .i64, .b, .i .i64, .sl .int, .b, .i .i64, .i .i64, .sl .lRow, .sl .lKid, .i .i64, .b]) (by kernel_rfl) h1
  replace k0 := kinded_cons k0; obtain ⟨_, _, rfl, ⟨y0, rfl⟩, k0⟩ := k0
  replace k0 := kinded_nil k0; subst k0
  replace k1 := kinded_cons k1; obtain ⟨_, _, rfl, ⟨z0, rfl⟩, k1⟩ := k1
  replace k1 := kinded_cons k1; obtain ⟨_, _, rfl, ⟨z1, rfl⟩, k1⟩ := k1
  replace k1 := kinded_cons k1; obtain ⟨_, _, rfl, ⟨z2, rfl⟩, k1⟩ := k1
  replace k1 := kinded_cons k1; obtain ⟨_, _, rfl, ⟨z3, rfl⟩, k1⟩ := k1
  replace k1 := kinded_cons k1; obtain ⟨_, _, rfl, ⟨z4, rfl⟩, k1⟩ := k1
  replace k1 := kinded_cons k1; obtain ⟨_, _, rfl, ⟨z5, rfl⟩, k1⟩ := k1
  replace k1 := kinded_cons k1; obtain ⟨_, _, rfl, ⟨z6, rfl⟩, k1⟩ := k1
  replace k1 := kinded_cons k1; obtain ⟨_, _, rfl, ⟨z7, rfl⟩, k1⟩ := k1
  replace k1 := kinded_cons k1; obtain ⟨_, _, rfl, ⟨z8, rfl⟩, k1⟩ := k1
  replace k1 := kinded_cons k1; obtain ⟨_, _, rfl, ⟨z9, rfl⟩, k1⟩ := k1
  replace k1 := kinded_cons k1; obtain ⟨_, _, rfl, ⟨z10, rfl⟩, k1⟩ := k1
  replace k1 := kinded_cons k1; obtain ⟨_, _, rfl, ⟨z11, rfl⟩, k1⟩ := k1
  replace k1 := kinded_cons k1; obtain ⟨_, _, rfl, ⟨z12, rfl⟩, k1⟩ := k1
  replace k1 := kinded_cons k1; obtain ⟨_, _, rfl, ⟨z13, rfl⟩, k1⟩ := k1
  replace k1 := kinded_cons k1; obtain ⟨_, _, rfl, ⟨z14, rfl⟩, k1⟩ := k1
  replace k1 := kinded_cons k1; obtain ⟨_, _, rfl, ⟨z15, rfl⟩, k1⟩ := k1
  replace k1 := kinded_cons k1; obtain ⟨_, _, rfl, ⟨z16, rfl⟩, k1⟩ := k1
  replace k1 := kinded_cons k1; obtain ⟨_, _, rfl, ⟨z17, rfl⟩, k1⟩ := k1
  replace k1 := kinded_cons k1; obtain ⟨_, _, rfl, ⟨z18, rfl⟩, k1⟩ := k1
  replace k1 := kinded_cons k1; obtain ⟨_, _, rfl, ⟨z19, rfl⟩, k1⟩ := k1
  replace k1 := kinded_cons k1; obtain ⟨_, _, rfl, ⟨z20, rfl⟩, k1⟩ := k1
  replace k1 := kinded_cons k1; obtain ⟨_, _, rfl, ⟨z21, rfl⟩, k1⟩ := k1
  replace k1 := kinded_cons k1; obtain ⟨_, _, rfl, ⟨z22, rfl⟩, k1⟩ := k1
  replace k1 := kinded_cons k1; obtain ⟨_, _, rfl, ⟨z23, rfl⟩, k1⟩ := k1
  replace k1 := kinded_cons k1; obtain ⟨_, _, rfl, ⟨z24, rfl⟩, k1⟩ := k1
  replace k1 := kinded_nil k1; subst k1
  obtain ⟨n, hn⟩ := hp (TSchema.mk y0) (TSess.mk (TView.mk (TQuery.mk z0 z1 z2 z3 z4 z5 z6 z7 z8) z9 z10) z11 (TView.mk (TQuery.mk z12 z13 z14 z15 z16 z17 z18 z19 z20) z21 z22) z23 z24) g0 g1
  refine (law_true ((allOk n).h71 _ _ _ hn) (ag_open e0 (ag_open e1 (.nil _ fun _ => rfl)))).mono fun e W' ⟨he, bel⟩ => ?_
  subst he
  exact ⟨_, rfl, _, _, _, [], _, [], hW', trodAll_mk1 (shut_bool Try.underlying4 _), (trodAll_cons_mk (Below.trod laidOut (by kernel_rfl) (of_decide_eq_true (by kernel_rfl)) h0 bel lt0) (trodAll_cons_mk (Below.trod laidOut (by kernel_rfl) (of_decide_eq_true (by kernel_rfl)) h1 bel lt1) trodAll_mk0)), rfl, bel.frame _, fun h => by cases h⟩
theorem over (hp : Pure) : Rows.fnExactSessOkRow.holds Try.pinned (OpenSpec.ofChange Rows.fnExactSessOkSpec) :=
  OpenClaim.holds_of_wide 3 Try.f3 rfl rfl rfl rfl rfl rfl rfl ⟨rfl, rfl, rfl, rfl, rfl⟩ rfl rfl rfl rfl rfl (by kernel_rfl) Try.func3 (by kernel_rfl)
    (of_decide_eq_true (by kernel_rfl)) (by unfold Func.isWrapper; first | (rw [if_pos (by decide +kernel)]; kernel_rfl) | (rw [if_neg (by decide +kernel)]; exact ⟨rfl, rfl⟩))
    (fun os started H enc _ => lifted hp os started H enc)
theorem pure_law : Pure := by
  intro aS aX h0 h1
  refine SessOk_law (good_sl (t := .int) (h0 _ (.head _))).1 ⟨⟨⟨?_, ?_⟩, ?_, ?_⟩, ⟨?_, ?_⟩, ?_, ?_⟩
  · exact (good_sl (t := .lCond) (h1 (.sl .v .lCond aX.view.q.where_) (by simp))).1
  · exact (good_sl (t := .int) (h1 (.sl .v .int aX.view.q.show_) (by simp))).1
  · exact good_rows (h1 (.sl .v .lRow aX.view.rows) (by simp))
  · exact (good_sl (t := .lKid) (h1 (.sl .v .lKid aX.view.kids) (by simp))).1
  · exact (good_sl (t := .lCond) (h1 (.sl .v .lCond aX.last.q.where_) (by simp))).1
  · exact (good_sl (t := .int) (h1 (.sl .v .int aX.last.q.show_) (by simp))).1
  · exact good_rows (h1 (.sl .v .lRow aX.last.rows) (by simp))
  · exact (good_sl (t := .lKid) (h1 (.sl .v .lKid aX.last.kids) (by simp))).1
theorem proved : Rows.FnExactSessOkSaid := over pure_law
end laws_FnExactSessOk
end Go.Pi
end
namespace Go.Proofs.Ytpifpdljphobdaa
theorem fnExactSessOk_holds : Rows.FnExactSessOkSaid := Go.Pi.laws_FnExactSessOk.proved
#print axioms fnExactSessOk_holds
end Go.Proofs.Ytpifpdljphobdaa
