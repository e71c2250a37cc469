/- The card of FnExactSessDue: the law returns true at every input, and leaves its arguments as they were; no condition. Text 5 of 5. -/
import Derived.Test.YtpifpdljphobdaaGreatDoorSdD
import Derived.Lib.ItoaLen
section
set_option linter.unusedVariables false
set_option maxRecDepth 100000
set_option linter.unusedSimpArgs false
namespace Go.Pi
/-! a cell of a row -/
def FCell (r : TRow) (col : Int) : Int := cond (inn col 0 (W ((r.cells.length : Int) - 1))) (r.cells.getD col.toNat 0) 0
theorem spec_l9Cell_ev {r : TRow} {col : Int} (hr : r.cells.length ≤ topN) : Ev (fun n _ => spec_l9Cell n r col) (FCell r col) := by
  refine ev_succ ?_
  have e := @W_dn r.cells.length hr
  simp only [spec_l9Cell, l1In_b, ev_cond, ev_inB, ev_some, FCell]
  cases hi : inn col 0 (W ((r.cells.length : Int) - 1)) with
  | false => simp
  | true => have := inn_true hi; exact ⟨fun h => (by cases h), fun _ => ⟨by omega, rfl⟩⟩
theorem cellOf_ev {r : TRow} {col : Int} (hr : r.cells.length ≤ topN) : Ev (fun n _ => impl_cellOf n r col) (FCell r col) := by
  refine ev_succ ?_
  have e := @W_dn r.cells.length hr
  simp only [impl_cellOf, within_b, ev_cond, ev_inB, ev_some, FCell]
  cases hi : inn col 0 (W ((r.cells.length : Int) - 1)) with
  | false => simp
  | true => have := inn_true hi; exact ⟨fun h => (by cases h), fun _ => ⟨by omega, rfl⟩⟩
theorem getD_cells {rows : List TRow} (hr : lenR topN rows) (i : Nat) : (rows.getD i TRow.dflt).cells.length ≤ topN := by
  by_cases h : i < rows.length
  · exact hr.2 _ (getD_mem _ h)
  · rw [List.getD_eq_getElem?_getD, List.getElem?_eq_none (by omega)]; exact Nat.zero_le _
end Go.Pi
end
section
set_option linter.unusedVariables false
set_option linter.unusedSimpArgs false
namespace Go.Pi
/-! numerals tell numbers apart; the shown cells of a row -/
def dval (l : Bs) : Nat := l.foldl (fun a c => 10 * a + (c.toNat - 48)) 0
theorem dval_snoc (l : Bs) (c : UInt8) : dval (l ++ [c]) = 10 * dval l + (c.toNat - 48) := by simp [dval]
theorem digit_toNat {u : Nat} (h : u < 10) : (UInt8.ofNat (48 + u)).toNat = 48 + u := by
  rw [UInt8.toNat_ofNat']; omega
theorem dval_dec (u : Nat) : dval (Lib.decDigits u) = u := by
  induction u using Nat.strongRecOn with
  | _ u ih =>
    rw [Lib.decDigits]
    by_cases h : u < 10
    · rw [dif_pos h]; simp only [dval, List.foldl_cons, List.foldl_nil, digit_toNat h]; omega
    · rw [dif_neg h, dval_snoc, ih _ (by omega), digit_toNat (Nat.mod_lt _ (by decide))]; omega
theorem dec_all (u : Nat) : ∀ c ∈ Lib.decDigits u, 48 ≤ c.toNat ∧ c.toNat ≤ 57 := by
  induction u using Nat.strongRecOn with
  | _ u ih =>
    rw [Lib.decDigits]
    by_cases h : u < 10
    · rw [dif_pos h]; intro c hc
      rw [List.mem_singleton.1 hc, digit_toNat h]; omega
    · rw [dif_neg h]; intro c hc
      rcases List.mem_append.1 hc with hc | hc
      · exact ih _ (by omega) c hc
      · rw [List.mem_singleton.1 hc, digit_toNat (Nat.mod_lt _ (by decide))]; omega
theorem dec_minus {u : Nat} {l : Bs} : Lib.decDigits u ≠ 45 :: l := fun e => by
  have := (dec_all u 45 (by rw [e]; exact List.mem_cons_self ..)).1
  revert this; decide
theorem itoa_inj {x y : Int} (h : Lib.itoa x = Lib.itoa y) : x = y := by
  unfold Lib.itoa at h
  by_cases hx : x < 0 <;> by_cases hy : y < 0
  · rw [if_pos hx, if_pos hy] at h
    have := congrArg dval (List.cons.inj h).2
    rw [dval_dec, dval_dec] at this; omega
  · rw [if_pos hx, if_neg hy] at h; exact absurd h.symm dec_minus
  · rw [if_neg hx, if_pos hy] at h; exact absurd h dec_minus
  · rw [if_neg hx, if_neg hy] at h
    have := congrArg dval h
    rw [dval_dec, dval_dec] at this; omega
def colName (c : Int) : Bs := 99 :: Lib.itoa c
theorem colName_inj {x y : Int} (h : colName x = colName y) : x = y := itoa_inj (List.cons.inj h).2
def FPair (r : TRow) (c : Int) : Bs × Int := (colName c, FCell r c)
def insAll (ps : List (Bs × Int)) (l : List (Bs × Int)) : List (Bs × Int) := ps.foldl (fun l p => ins p.1 p.2 l) l
theorem insAll_snoc (ps : List (Bs × Int)) (p : Bs × Int) (l : List (Bs × Int)) : insAll (ps ++ [p]) l = ins p.1 p.2 (insAll ps l) := by simp [insAll]
theorem insAll_asc : ∀ (ps : List (Bs × Int)) {l : List (Bs × Int)}, keysAsc l → keysAsc (insAll ps l)
  | [], _, h => h
  | p :: ps, _, h => insAll_asc ps (ins_asc h)
theorem insAll_mem : ∀ {ps : List (Bs × Int)} {l : List (Bs × Int)} {p : Bs × Int}, p ∈ insAll ps l → p ∈ ps ∨ p ∈ l
  | [], _, _, h => .inr h
  | q :: ps, l, p, h => by
    rcases insAll_mem (ps := ps) h with h | h
    · exact .inl (List.mem_cons_of_mem _ h)
    · rcases ins_mem h with h | h
      · exact .inl (h ▸ List.mem_cons_self ..)
      · exact .inr h
theorem ins_len {x : Bs} {y : Int} : ∀ {l : List (Bs × Int)}, (ins x y l).length ≤ l.length + 1
  | [] => Nat.le_refl _
  | (k, v) :: l => by
    have := ins_len (x := x) (y := y) (l := l)
    simp only [ins]
    split
    · simp only [List.length_cons]; omega
    · split <;> simp only [List.length_cons] <;> omega
theorem insAll_len : ∀ {ps : List (Bs × Int)} {l : List (Bs × Int)}, (insAll ps l).length ≤ l.length + ps.length
  | [], _ => Nat.le_refl _
  | p :: ps, l => by
    have := insAll_len (ps := ps) (l := ins p.1 p.2 l)
    have h := ins_len (x := p.1) (y := p.2) (l := l)
    simp only [List.length_cons]
    show (insAll ps (ins p.1 p.2 l)).length ≤ _
    omega
theorem ins_has {x : Bs} {y : Int} : ∀ {l : List (Bs × Int)}, keysAsc l → (x, y) ∈ l → ins x y l = l
  | [], _, h => by cases h
  | (k, v) :: l, ha, h => by
    simp only [ins]
    rcases List.mem_cons.1 h with e | h
    · cases e; rw [if_neg (List.lt_irrefl _), if_pos rfl]
    · have hk := ha.1 _ h
      rw [if_pos hk, ins_has ha.2 h]
theorem mem_ins_self {x : Bs} {y : Int} : ∀ {l : List (Bs × Int)}, (x, y) ∈ ins x y l
  | [] => List.mem_cons_self ..
  | (k, v) :: l => by
    simp only [ins]
    split
    · exact List.mem_cons_of_mem _ mem_ins_self
    · split <;> exact List.mem_cons_self ..
theorem mem_ins {x x' : Bs} {y y' : Int} (hne : x ≠ x') : ∀ {l : List (Bs × Int)}, (x, y) ∈ l → (x, y) ∈ ins x' y' l
  | [], h => by cases h
  | (k, v) :: l, h => by
    simp only [ins]
    split
    · rcases List.mem_cons.1 h with e | h
      · exact e ▸ List.mem_cons_self ..
      · exact List.mem_cons_of_mem _ (mem_ins hne h)
    · split
      · rename_i h1 h2
        rcases List.mem_cons.1 h with e | h
        · cases e; exact absurd h2 hne
        · exact List.mem_cons_of_mem _ h
      · exact List.mem_cons_of_mem _ h
/-- the columns that are shown, each once -/
def firsts (l : List Int) : Nat → List Int
  | 0 => []
  | i + 1 => if l.getD i 0 ∈ l.take i then firsts l i else firsts l i ++ [l.getD i 0]
theorem firsts_mem {l : List Int} : ∀ {i : Nat} {c : Int}, i ≤ l.length → (c ∈ firsts l i ↔ c ∈ l.take i)
  | 0, c, _ => by simp [firsts]
  | i + 1, c, h => by
    simp only [firsts]
    rw [take_next 0 (show i < l.length by omega)]
    split
    · rename_i hm
      rw [firsts_mem (by omega), List.mem_append, List.mem_singleton]
      exact ⟨.inl, fun h => h.elim id fun e => e ▸ hm⟩
    · rw [List.mem_append, List.mem_append, firsts_mem (by omega)]
theorem firsts_len {l : List Int} : ∀ {i : Nat}, (firsts l i).length ≤ i
  | 0 => Nat.le_refl _
  | i + 1 => by
    have := firsts_len (l := l) (i := i)
    simp only [firsts]
    split
    · omega
    · simp; omega
theorem firsts_nodup {l : List Int} : ∀ {i : Nat}, i ≤ l.length → (firsts l i).Nodup
  | 0, _ => List.nodup_nil
  | i + 1, h => by
    simp only [firsts]
    split
    · exact firsts_nodup (by omega)
    · rename_i hm
      rw [List.nodup_append]
      refine ⟨firsts_nodup (by omega), by simp, fun a ha b hb => ?_⟩
      rw [List.mem_singleton.1 hb]
      rw [firsts_mem (by omega)] at ha
      exact fun e => hm (e ▸ ha)
theorem insAll_has {r : TRow} {l0 : List (Bs × Int)} {cs : List Int} {c : Int} (h : c ∈ cs) : FPair r c ∈ insAll (cs.map (FPair r)) l0 := by
  induction cs generalizing l0 with
  | nil => cases h
  | cons d cs ih =>
    show FPair r c ∈ insAll (cs.map (FPair r)) (ins (colName d) (FCell r d) l0)
    by_cases hc : c ∈ cs
    · exact ih hc
    · have e : c = d := (List.mem_cons.1 h).resolve_right hc
      subst e
      have key : ∀ (es : List Int) (m : List (Bs × Int)), c ∉ es → FPair r c ∈ m → FPair r c ∈ insAll (es.map (FPair r)) m := by
        intro es
        induction es with
        | nil => exact fun m _ h => h
        | cons e es ih =>
          intro m hn hm
          refine ih _ (fun h => hn (List.mem_cons_of_mem _ h)) (mem_ins (fun h => hn ?_) hm)
          rw [colName_inj h]; exact List.mem_cons_self ..
      exact key cs _ hc mem_ins_self
theorem insAll_firsts {r : TRow} {l0 : List (Bs × Int)} (h0 : keysAsc l0) {l : List Int} : ∀ {i : Nat}, i ≤ l.length → insAll ((firsts l i).map (FPair r)) l0 = insAll ((l.take i).map (FPair r)) l0
  | 0, _ => by simp [firsts]
  | i + 1, h => by
    rw [take_next 0 (show i < l.length by omega), List.map_append]
    simp only [firsts]
    have ih := insAll_firsts (r := r) h0 (l := l) (i := i) (by omega)
    have e := insAll_snoc ((l.take i).map (FPair r)) (FPair r (l.getD i 0)) l0
    split
    · rename_i hm
      rw [ih]
      refine Eq.symm (e.trans (ins_has (insAll_asc _ h0) (insAll_has hm)))
    · rw [List.map_append]
      refine (insAll_snoc _ _ _).trans ?_
      rw [ih]
      exact e.symm
theorem ins_insAll {x : Bs} {y : Int} : ∀ {ps : List (Bs × Int)} {l : List (Bs × Int)}, (∀ p ∈ ps, p.1 ≠ x) → insAll ps (ins x y l) = ins x y (insAll ps l)
  | [], _, _ => rfl
  | p :: ps, l, h => by
    show insAll ps (ins p.1 p.2 (ins x y l)) = ins x y (insAll ps (ins p.1 p.2 l))
    rw [ins_comm (h p (List.mem_cons_self ..)), ins_insAll fun q hq => h q (List.mem_cons_of_mem _ hq)]
end Go.Pi
end
section
set_option linter.unusedVariables false
set_option maxRecDepth 100000
set_option linter.unusedSimpArgs false
namespace Go.Pi
/-! an object made of names and numbers; the document of a row -/
theorem putAt_cons {k x : Bs} {ns : List Bs} : putAt (k :: ns) x = if k < x then putAt ns x + 1 else 0 := by
  by_cases h : k < x
  · have hb : Op.bytesLess k x = true := by rw [bytesLt]; exact decide_eq_true h
    rw [if_pos h]; unfold putAt; rw [List.findIdx_cons]; simp [hb]
  · have hb : Op.bytesLess k x = false := by rw [bytesLt]; exact decide_eq_false h
    rw [if_neg h]; unfold putAt; rw [List.findIdx_cons]; simp [hb]
theorem asc_mono {x : Bs} : ∀ {l : List (Bs × Int)}, keysAsc l → ∀ h, h < (l.map (·.1)).length → Op.bytesLess ((l.map (·.1)).getD h []) x = decide (h < putAt (l.map (·.1)) x)
  | [], _, h, hh => by simp at hh
  | (k, v) :: l, ha, h, hh => by
    rw [bytesLt]
    simp only [List.map_cons, putAt_cons]
    cases h with
    | zero =>
      simp only [List.getD_cons_zero]
      by_cases hk : k < x
      · rw [if_pos hk, decide_eq_true hk]; simp
      · rw [if_neg hk, decide_eq_false hk]; simp
    | succ h =>
      have hh' : h < (l.map (·.1)).length := by simpa using hh
      simp only [List.getD_cons_succ]
      by_cases hk : k < x
      · have := asc_mono (x := x) ha.2 h hh'
        rw [bytesLt] at this
        rw [if_pos hk, this]
        simp
      · rw [if_neg hk]
        have hm := getD_mem (d := ([] : Bs)) (a := l.map (·.1)) hh'
        obtain ⟨p, hp, e⟩ := List.mem_map.1 hm
        have : ¬ (l.map (·.1)).getD h [] < x := fun h2 => by
          rw [← e] at h2
          exact hk (List.lt_trans (ha.1 p hp) h2)
        rw [decide_eq_false this]; simp
theorem putTo_no {ns : List Bs} {x : Bs} (h : x ∉ ns) : putTo ns x = putAt ns x := by
  unfold putTo
  rw [if_neg]
  rintro ⟨h1, h2⟩
  exact h (h1 ▸ getD_mem [] h2)
theorem nodup_take {α : Type} (d : α) {l : List α} (h : l.Nodup) {i : Nat} (hi : i < l.length) : l.getD i d ∉ l.take i := fun hm => by
  have := (List.take_sublist (i + 1) l).nodup h
  rw [take_next d hi, List.nodup_append] at this
  exact this.2.2 _ hm _ (List.mem_singleton.2 rfl) rfl
theorem getD_map {α β : Type} (f : α → β) (d : α) (e : β) {l : List α} {i : Nat} (h : i < l.length) : (l.map f).getD i e = f (l.getD i d) := by
  rw [List.getD_eq_getElem?_getD, List.getD_eq_getElem?_getD, List.getElem?_map, List.getElem?_eq_getElem h]; rfl
theorem impl_objOf_ev {ps : List (Bs × Int)} (hl : ps.length ≤ 2000000) (hnd : (ps.map (·.1)).Nodup) : Ev (fun n _ => impl_objOf n (ps.map (·.1)) (ps.map (·.2))) (objJ (insAll ps [])) := by
  refine ev_succ ?_
  simp only [impl_objOf]
  let S : Nat → List TJson × List Bs := fun i => ((insAll (ps.take i) []).map (fun p => numJ p.2), (insAll (ps.take i) []).map (·.1))
  have := ev_seq S ps.length (fun n N i (s : List TJson × List Bs) => impl_objOf.loop4 n (fun xy4 xy5 xy6 xy7 xy8 xy9 xy10 xy11 => (some (TJson.mk xy7 xy8 xy9 xy10 xy11))) N (ps.map (·.2)) (ps.map (·.1)) ((ps.map (·.1)).length : Int) (i : Int) 0 0 [] 5 0 [] s.1 s.2) (objJ (insAll ps [])) (fun i hi F hF => ?_) ?_
  · exact this
  · obtain ⟨l, hlv⟩ : ∃ l, l = insAll (ps.take i) [] := ⟨_, rfl⟩
    obtain ⟨p, hp⟩ : ∃ p, p = ps.getD i ([], 0) := ⟨_, rfl⟩
    have e2 : insAll (ps.take (i + 1)) [] = ins p.1 p.2 l := by rw [take_next ([], 0) hi, insAll_snoc, hlv, hp]
    have ha : keysAsc l := by rw [hlv]; exact insAll_asc _ trivial
    have hll : l.length ≤ i := by
      have := insAll_len (ps := ps.take i) (l := [])
      rw [← hlv] at this; simp at this; omega
    have hi1 : i < (ps.map (·.1)).length := by simpa using hi
    have hi2 : i < (ps.map (·.2)).length := by simpa using hi
    have hx : p.1 ∉ l.map (·.1) := fun hm => by
      obtain ⟨q, hq, e⟩ := List.mem_map.1 hm
      rw [hlv] at hq
      have hq := (insAll_mem hq).resolve_right (by simp)
      have := nodup_take [] hnd hi1
      rw [getD_map (·.1) ([], 0) [] hi, ← hp, ← List.map_take] at this
      exact this (e ▸ List.mem_map_of_mem hq)
    have hps : ((l.map (·.1)).length : Nat) = l.length := by simp
    have hB := BinarySearch_ev (ns := l.map (·.1)) (x := p.1) (by simp; omega) (asc_mono ha)
    have hA : putAt (l.map (·.1)) p.1 ≤ l.length := by have := List.findIdx_le_length (xs := l.map (·.1)) (p := fun y => !Op.bytesLess y p.1); simpa [putAt] using this
    have hN : Ev (fun n _ => slices_Insert_string n (l.map (·.1)) (putAt (l.map (·.1)) p.1 : Int) [p.1]) ((ins p.1 p.2 l).map (·.1)) := by
      refine ev_succ ?_
      have e := putL_ins (fun p => p.1) p.1 p.2 l
      unfold putL at e
      rw [putTo_no hx] at e
      simp only [slices_Insert_string, nInsert, ev_cond, ev_some, ev_none, Int.toNat_natCast, e]
      simp; omega
    have hJ : Ev (fun n _ => slices_Insert_Json n (l.map fun p => numJ p.2) (putAt (l.map (·.1)) p.1 : Int) [numJ p.2]) ((ins p.1 p.2 l).map fun p => numJ p.2) := by
      refine ev_succ ?_
      have e := putL_ins (fun p => numJ p.2) p.1 p.2 l
      unfold putL at e
      rw [putTo_no hx] at e
      simp only [slices_Insert_Json, nInsert, ev_cond, ev_some, ev_none, Int.toNat_natCast, e]
      simp; omega
    have g1 : (ps.map (·.1)).getD i [] = p.1 := by rw [getD_map (·.1) ([], 0) [] hi, hp]
    have g2 : (ps.map (·.2)).getD i 0 = p.2 := by rw [getD_map (·.2) ([], 0) 0 hi, hp]
    simp only [S, e2, ← hlv] at hF ⊢
    unfold numJ at hJ
    simp only [impl_objOf.turn4, impl_objOf.step4, Int.toNat_natCast, W_up hi1 (show (ps.map (·.1)).length ≤ topN by simp [topN]; omega), lt_up hi1, in_up hi1, in_up hi2, g1, g2, ev_cond, ev_inB, ev_bind hB, ev_bind hN]
    refine ⟨fun _ => ⟨trivial, trivial, ?_⟩, fun h => (by cases h)⟩
    unfold numJ at hF ⊢
    simp only [ev_bind hJ]
    exact hF
  · have e : ((ps.map (·.1)).length : Int) = (ps.length : Int) := by simp
    simp only [impl_objOf.turn4, impl_objOf.step4, e, lt_end, cond_false, ev_some, S, List.take_length]
    rfl
end Go.Pi
end
section
set_option linter.unusedVariables false
set_option maxRecDepth 100000
set_option linter.unusedSimpArgs false
namespace Go.Pi
abbrev nmId : Bs := [105, 100]
abbrev nmKids : Bs := [107, 105, 100, 115]
abbrev i64 (x : Int) : Prop := -9223372036854775808 ≤ x ∧ x ≤ 9223372036854775807
def kidsL (q : TQuery) (kids : Int) : List (Bs × Int) := cond q.kids [(nmKids, kids)] []
def FRowL (q : TQuery) (r : TRow) (kids : Int) : List (Bs × Int) := insAll (kidsL q kids) (ins nmId r.id_ (insAll (q.show_.map (FPair r)) []))
def FRowJ (q : TQuery) (r : TRow) (kids : Int) : TJson := objJ (FRowL q r kids)
def nullJ : TJson := TJson.mk 0 0 [] [] []
def FRight (j : TJson) : TJson := cond (FJsonOk j) j nullJ
theorem FRowL_asc {q : TQuery} {r : TRow} {kids : Int} : keysAsc (FRowL q r kids) := insAll_asc _ (ins_asc (insAll_asc _ trivial))
theorem kidsL_len {q : TQuery} {kids : Int} : (kidsL q kids).length ≤ 1 := by unfold kidsL; cases q.kids <;> simp
theorem FRowL_len {q : TQuery} {r : TRow} {kids : Int} : (FRowL q r kids).length ≤ q.show_.length + 2 := by
  have h1 := insAll_len (ps := q.show_.map (FPair r)) (l := [])
  have h2 := ins_len (x := nmId) (y := r.id_) (l := insAll (q.show_.map (FPair r)) [])
  have h3 := insAll_len (ps := kidsL q kids) (l := ins nmId r.id_ (insAll (q.show_.map (FPair r)) []))
  have h4 := kidsL_len (q := q) (kids := kids)
  simp at h1
  unfold FRowL; omega
theorem colName_len {c : Int} (h : i64 c) : (colName c).length ≤ 22 := by
  have := Lib.itoa_length_le c h.1 h.2
  simp only [colName, List.length_cons]; omega
theorem FRowL_names {q : TQuery} {r : TRow} {kids : Int} (hs : ∀ c ∈ q.show_, i64 c) : ∀ p ∈ FRowL q r kids, p.1.length ≤ 22 := fun p hp => by
  rcases insAll_mem hp with h | h
  · unfold kidsL at h
    cases hq : q.kids <;> rw [hq] at h
    · cases h
    · rw [List.mem_singleton.1 h]; show nmKids.length ≤ 22; decide
  · rcases ins_mem h with h | h
    · rw [h]; show nmId.length ≤ 22; decide
    · rcases insAll_mem h with h | h
      · obtain ⟨c, hc, e⟩ := List.mem_map.1 h
        rw [← e]; exact colName_len (hs c hc)
      · cases h
theorem col_ne_id {c : Int} : colName c ≠ nmId := fun h => by cases h
theorem col_ne_kids {c : Int} : colName c ≠ nmKids := fun h => by cases h
/-- what the program puts together -/
def implL (q : TQuery) (r : TRow) (kids : Int) : List (Bs × Int) := (nmId, r.id_) :: (firsts q.show_ q.show_.length).map (FPair r) ++ kidsL q kids
theorem implL_eq {q : TQuery} {r : TRow} {kids : Int} : insAll (implL q r kids) [] = FRowL q r kids := by
  have e : insAll (implL q r kids) [] = insAll (kidsL q kids) (insAll ((firsts q.show_ q.show_.length).map (FPair r)) (ins nmId r.id_ [])) := by
    show List.foldl _ _ _ = _
    unfold implL insAll
    rw [List.foldl_append]; rfl
  rw [e]
  unfold FRowL
  rw [ins_insAll (fun p hp => by obtain ⟨c, _, e⟩ := List.mem_map.1 hp; rw [← e]; exact col_ne_id), insAll_firsts (l0 := []) trivial (Nat.le_refl _), List.take_length]
theorem implL_nodup {q : TQuery} {r : TRow} {kids : Int} : ((implL q r kids).map (·.1)).Nodup := by
  have hm : ((firsts q.show_ q.show_.length).map (FPair r)).map (·.1) = (firsts q.show_ q.show_.length).map colName := by rw [List.map_map]; rfl
  have hc : ((firsts q.show_ q.show_.length).map colName).Nodup := by
    have := firsts_nodup (l := q.show_) (Nat.le_refl _)
    unfold List.Nodup at this ⊢
    rw [List.pairwise_map]
    exact this.imp fun h e => h (colName_inj e)
  unfold implL
  rw [List.cons_append, List.map_cons, List.nodup_cons, List.map_append, hm, List.nodup_append]
  refine ⟨fun h => ?_, hc, ?_, fun a ha b hb => ?_⟩
  · rcases List.mem_append.1 h with h | h
    · obtain ⟨c, _, e⟩ := List.mem_map.1 h
      exact col_ne_id e
    · unfold kidsL at h; cases hq : q.kids <;> rw [hq] at h
      · cases h
      · have := List.mem_singleton.1 h
        change nmId = nmKids at this
        revert this; decide
  · unfold kidsL; cases q.kids <;> simp
  · obtain ⟨c, _, e⟩ := List.mem_map.1 ha
    unfold kidsL at hb; cases hq : q.kids <;> rw [hq] at hb
    · cases hb
    · have hb := List.mem_singleton.1 hb
      rw [← e, hb]; exact col_ne_kids
theorem implL_len {q : TQuery} {r : TRow} {kids : Int} : (implL q r kids).length ≤ q.show_.length + 2 := by
  have h1 := firsts_len (l := q.show_) (i := q.show_.length)
  have h4 := kidsL_len (q := q) (kids := kids)
  unfold implL; simp; omega
/-- an object of few names: its depth -/
theorem FOwn_num {n : Int} (d : Nat) : FSize (d + 1) (numJ n) = FSize 1 (numJ n) := rfl
theorem FSize_obj (l : List (Bs × Int)) (d : Nat) : FSize (d + 2) (objJ l) = FSize 2 (objJ l) := by
  simp only [FSize]
  have : ∀ m : List (Bs × Int), sumL (FSize (d + 1)) (m.map fun p => numJ p.2) = sumL (FSize 1) (m.map fun p => numJ p.2) := by
    intro m
    induction m with
    | nil => rfl
    | cons p m ih => simp only [List.map_cons, sumL, FOwn_num d, ih]
  show cond (FOwn (objJ l)) (min 401 (1 + sumL (FSize (d + 1)) (l.map fun p => numJ p.2))) 401 = cond (FOwn (objJ l)) (min 401 (1 + sumL (FSize 1) (l.map fun p => numJ p.2))) 401
  rw [this]
theorem lenJ_num {n : Int} : ∀ d, lenJ d (numJ n)
  | 0 => trivial
  | d + 1 => ⟨⟨Nat.zero_le _, Nat.zero_le _, fun x hx => (by cases hx)⟩, Nat.zero_le _, fun x hx => (by cases hx)⟩
theorem lenJ_obj {l : List (Bs × Int)} (hl : l.length ≤ 2000000) (hn : ∀ p ∈ l, p.1.length ≤ 22) : ∀ d, lenJ d (objJ l)
  | 0 => trivial
  | d + 1 => ⟨⟨Nat.zero_le _, by simp [objJ, topN]; omega, fun x hx => by
      obtain ⟨p, hp, e⟩ := List.mem_map.1 hx
      rw [← e]; have := hn p hp; simp only [topN]; omega⟩, by simp [objJ, topN]; omega, fun x hx => by
      obtain ⟨p, hp, e⟩ := List.mem_map.1 hx
      rw [← e]; exact lenJ_num d⟩
theorem lenJ_row {q : TQuery} {r : TRow} {kids : Int} (hq : q.show_.length ≤ 1100000) (hs : ∀ c ∈ q.show_, i64 c) (d : Nat) : lenJ d (FRowJ q r kids) :=
  lenJ_obj (by have := FRowL_len (q := q) (r := r) (kids := kids); omega) (FRowL_names hs) d
end Go.Pi
end
section
set_option linter.unusedVariables false
set_option maxRecDepth 100000
set_option linter.unusedSimpArgs false
namespace Go.Pi
theorem Contains_int_ev {l : List Int} {x : Int} (hl : l.length ≤ topN) : Ev (fun n _ => slices_Contains_int n l x) (decide (x ∈ l)) := by
  have h : Ev (fun n _ => slices_Index_int n l x) (if l.findIdx (fun y => x == y) < l.length then ((l.findIdx (fun y => x == y) : Nat) : Int) else -1) := by
    refine ev_succ ?_
    rw [← foldFrom_idx 0]
    simp only [slices_Index_int]
    refine ev_fold (fun n N i => slices_Index_int.loop3 n (some (-1)) N l x (l.length : Int) (i : Int)) _ (fun i u hi ih => ?_) ?_
    · simp only [slices_Index_int.turn3, slices_Index_int.step3, Int.toNat_natCast, W_up hi hl, ev_cond, ev_inB, ev_some, ev_iff ih, lt_up hi, in_up hi]
      clear ih
      cases (x == l.getD i 0) <;> simp
    · simp only [slices_Index_int.turn3, slices_Index_int.step3, lt_end, cond_false, ev_some]
  refine ev_succ ?_
  simp only [slices_Contains_int, ev_bind h, ev_some]
  have e : (l.findIdx (fun y => x == y) < l.length) ↔ x ∈ l := by
    rw [List.findIdx_lt_length]; simp
  by_cases hm : x ∈ l
  · rw [if_pos (e.2 hm), decide_eq_true hm, decide_eq_true (by omega)]
  · rw [if_neg (fun h => hm (e.1 h)), decide_eq_false hm]; rfl
theorem orNull_ev {j : TJson} (h : lenJ 6 j) : Ev (fun n _ => impl_orNull n j) (FRight j) := by
  refine ev_succ ?_
  simp only [impl_orNull, json_re, ev_bind (impl_JsonOk_ev h), ev_cond, ev_some, FRight, nullJ]
  cases FJsonOk j <;> simp
theorem l11Right_ev {j : TJson} (h : lenJ 6 j) : Ev (fun n _ => spec_l11Right n j) (FRight j) := by
  refine ev_succ ?_
  simp only [spec_l11Right, json_re, ev_bind (spec_JsonOk_ev h), ev_cond, ev_some, FRight, nullJ]
  cases FJsonOk j <;> simp
theorem l11Num_ev {x : Int} : Ev (fun n _ => spec_l11Num n x) (numJ x) := ev_succ (by simp only [spec_l11Num, ev_some, numJ])
section
variable {q : TQuery} {r : TRow} {kids : Int} (hq : q.show_.length ≤ 1100000) (hs : ∀ c ∈ q.show_, i64 c) (hr : r.cells.length ≤ topN)
include hq hs hr
theorem spec_l11Row_ev : Ev (fun n _ => spec_l11Row n q r kids) (FRowJ q r kids) := by
  refine ev_succ ?_
  simp only [spec_l11Row]
  let S : Nat → TJson := fun i => objJ (insAll ((q.show_.take i).map (FPair r)) [])
  have := ev_seq S q.show_.length (fun n N i (s : TJson) => spec_l11Row.loop4 n (fun xy5 xy6 xy7 xy8 xy9 xy10 xy11 xy12 xy13 xy14 xy15 xy16 xy17 xy18 xy19 xy20 xy21 xy22 xy23 xy24 => ((spec_l11Num n xy15).bind fun xr25 => ((spec_l1Put n (TJson.mk xy20 xy21 xy22 xy23 xy24) [105, 100] (TJson.re xr25)).bind fun xr26 => (cond xy12 ((spec_l11Num n xy5).bind fun xr27 => ((spec_l1Put n (TJson.re xr26) [107, 105, 100, 115] (TJson.re xr27)).bind fun xr28 => (some (TJson.re xr28)))) (some (TJson.re xr26)))))) N kids (i : Int) q.table q.where_ q.order q.down q.first q.show_ q.kids q.kidTable q.kidCol r.id_ r.cells 0 0 [] s.kind s.n_ s.s s.list s.names) (FRowJ q r kids) (fun i hi F hF => ?_) ?_
  · exact this
  · have e2 : insAll ((q.show_.take (i + 1)).map (FPair r)) [] = ins (colName (q.show_.getD i 0)) (FCell r (q.show_.getD i 0)) (insAll ((q.show_.take i).map (FPair r)) []) := by
      rw [take_next 0 hi, List.map_append]; exact insAll_snoc _ _ _
    have ha : keysAsc (insAll ((q.show_.take i).map (FPair r)) []) := insAll_asc _ trivial
    have hll := insAll_len (ps := (q.show_.take i).map (FPair r)) (l := [])
    simp only [S, e2] at hF ⊢
    generalize insAll ((q.show_.take i).map (FPair r)) [] = l at hF ha hll ⊢
    have hl2 : l.length ≤ 2000000 := by simp at hll; omega
    have hc := hs _ (getD_mem 0 hi)
    have hd := Lib.itoa_length_le _ hc.1 hc.2
    have e0 : TRow.mk r.id_ r.cells = r := rfl
    have e3 : ([99] : Bs) ++ Lib.itoa (q.show_.getD i 0) = colName (q.show_.getD i 0) := rfl
    simp only [spec_l11Row.turn4, spec_l11Row.step4, Int.toNat_natCast, W_up hi (show q.show_.length ≤ topN by simp only [topN]; omega), lt_up hi, in_up hi, json_eta, json_re, e0, e3, ev_cond, ev_inB, ev_none, ev_bind (spec_l2Digits_ev hc.1 hc.2), ev_bind (spec_l9Cell_ev hr), ev_bind l11Num_ev, ev_bind (l1Put_obj ha hl2)]
    simp only [json_re] at hF
    refine ⟨fun _ => ⟨trivial, fun _ => ⟨trivial, hF⟩, fun h => ?_⟩, fun h => (by cases h)⟩
    have h := of_decide_eq_false h
    simp only [List.length_singleton] at h; omega
  · have ha : keysAsc (insAll (q.show_.map (FPair r)) []) := insAll_asc _ trivial
    have hll := insAll_len (ps := q.show_.map (FPair r)) (l := [])
    have h2 := ins_len (x := nmId) (y := r.id_) (l := insAll (q.show_.map (FPair r)) [])
    simp at hll
    simp only [spec_l11Row.turn4, spec_l11Row.step4, lt_end, cond_false, S, List.take_length, json_eta, json_re, ev_bind l11Num_ev, ev_bind (l1Put_obj ha (show _ ≤ 2000000 by omega)), ev_bind (l1Put_obj (x := nmKids) (y := kids) (ins_asc (x := nmId) (y := r.id_) ha) (show _ ≤ 2000000 by omega)), ev_cond, ev_some]
    unfold FRowJ FRowL kidsL
    exact ⟨fun h => by rw [h]; rfl, fun h => by rw [h]; rfl⟩
theorem impl_RowDoc_ev : Ev (fun n _ => impl_RowDoc n q r kids) (FRight (FRowJ q r kids)) := by
  refine ev_succ ?_
  simp only [impl_RowDoc]
  have hO : Ev (fun n _ => impl_objOf n ((implL q r kids).map (·.1)) ((implL q r kids).map (·.2))) (FRowJ q r kids) := by
    have := impl_objOf_ev (ps := implL q r kids) (by have := implL_len (q := q) (r := r) (kids := kids); omega) implL_nodup
    rw [implL_eq] at this; exact this
  have hR := orNull_ev (lenJ_row (r := r) (kids := kids) hq hs 6)
  have e1 : ∀ i, ((firsts q.show_ i).map (FPair r)).map (·.1) = (firsts q.show_ i).map colName := fun i => by rw [List.map_map]; rfl
  have e2 : ∀ i, ((firsts q.show_ i).map (FPair r)).map (·.2) = (firsts q.show_ i).map (FCell r) := fun i => by rw [List.map_map]; rfl
  let S : Nat → List Bs × List Int := fun i => (nmId :: (firsts q.show_ i).map colName, r.id_ :: (firsts q.show_ i).map (FCell r))
  have := ev_seq S q.show_.length (fun n N i (s : List Bs × List Int) => impl_RowDoc.loop4 n (fun xy4 xy5 xy6 xy7 xy8 xy9 xy10 xy11 xy12 xy13 xy14 xy15 xy16 xy17 xy18 => (cond xy11 (roomB (xy17.length + ([[107, 105, 100, 115]] : List Bs).length) 16 (roomB (xy18.length + ([xy4] : List Int).length) 8 ((impl_objOf n (xy17 ++ ([[107, 105, 100, 115]] : List Bs)) (xy18 ++ ([xy4] : List Int))).bind fun xr19 => ((impl_orNull n (TJson.re xr19)).bind fun xr20 => (some (TJson.re xr20)))))) ((impl_objOf n xy17 xy18).bind fun xr21 => ((impl_orNull n (TJson.re xr21)).bind fun xr22 => (some (TJson.re xr22)))))) N kids q.show_ (q.show_.length : Int) (i : Int) q.table q.where_ q.order q.down q.first q.show_ q.kids q.kidTable q.kidCol r.id_ r.cells 0 0 [] s.1 s.2) (FRight (FRowJ q r kids)) (fun i hi F hF => ?_) ?_
  · exact this
  · have hc := hs _ (getD_mem 0 hi)
    have hd := Lib.itoa_length_le _ hc.1 hc.2
    have hf := firsts_len (l := q.show_) (i := i)
    have e0 : TRow.mk r.id_ r.cells = r := rfl
    have e3 : ([99] : Bs) ++ Lib.itoa (q.show_.getD i 0) = colName (q.show_.getD i 0) := rfl
    have hI : Ev (fun n _ => slices_Contains_int n (q.show_.take i) (q.show_.getD i 0)) (decide (q.show_.getD i 0 ∈ q.show_.take i)) := Contains_int_ev (by simp [topN]; omega)
    simp only [impl_RowDoc.turn4, impl_RowDoc.step4, Int.toNat_natCast, W_up hi (show q.show_.length ≤ topN by simp only [topN]; omega), lt_up hi, in_up hi, e0, e3, List.drop_zero, ev_cond, ev_inB, ev_cutB, ev_none, ev_roomB, ev_bind hI, ev_bind (impl_digits_ev hc.1 hc.2), ev_bind (cellOf_ev hr)]
    refine ⟨fun _ => ⟨trivial, ⟨by omega, by omega, by omega⟩, fun hm => ?_, fun hm => ⟨fun _ => ⟨by simp [S]; omega, by simp [S]; omega, ?_⟩, fun h => ?_⟩⟩, fun h => (by cases h)⟩
    · have hm := of_decide_eq_true hm
      simp only [S, firsts, if_pos hm] at hF ⊢
      exact hF
    · have hm := of_decide_eq_false hm
      simp only [S, firsts, if_neg hm, List.map_append, List.map_cons, List.map_nil] at hF ⊢
      exact hF
    · have h := of_decide_eq_false h
      simp only [List.length_singleton] at h; omega
  · have hf := firsts_len (l := q.show_) (i := q.show_.length)
    simp only [impl_RowDoc.turn4, impl_RowDoc.step4, lt_end, cond_false, S, json_re, ev_cond, ev_roomB]
    unfold implL kidsL at hO
    refine ⟨fun h => ⟨by simp; omega, by simp; omega, ?_⟩, fun h => ?_⟩
    · rw [h] at hO
      simp only [cond_true, List.cons_append, List.map_cons, List.map_append, e1, e2, List.map_nil] at hO
      simp only [List.cons_append, ev_bind hO, ev_bind hR, ev_some]
    · rw [h] at hO
      simp only [cond_false, List.append_nil, List.map_cons, e1, e2] at hO
      simp only [ev_bind hO, ev_bind hR, ev_some]
end
end Go.Pi
end
section
set_option linter.unusedVariables false
set_option maxRecDepth 100000
set_option linter.unusedSimpArgs false
namespace Go.Pi
/-! the document of a question's rows -/
def FDocs (g : TJson → TJson) (q : TQuery) (rows : List TRow) (kids : List Int) (m : Nat) : List TJson := (List.range m).map fun i => g (FRowJ q (rows.getD i TRow.dflt) (kids.getD i 0))
theorem FDocs_succ {g : TJson → TJson} {q : TQuery} {rows : List TRow} {kids : List Int} {m : Nat} : FDocs g q rows kids (m + 1) = FDocs g q rows kids m ++ [g (FRowJ q (rows.getD m TRow.dflt) (kids.getD m 0))] := by
  unfold FDocs; rw [List.range_succ, List.map_append]; rfl
theorem FDocs_len {g : TJson → TJson} {q : TQuery} {rows : List TRow} {kids : List Int} {m : Nat} : (FDocs g q rows kids m).length = m := by unfold FDocs; simp
abbrev nmCount : Bs := [99, 111, 117, 110, 116]
abbrev nmRows : Bs := [114, 111, 119, 115]
def FWhole (n : Nat) (docs : List TJson) : TJson := TJson.mk 5 0 [] [numJ n, TJson.mk 4 0 [] docs []] [nmCount, nmRows]
theorem FFirst_le {q : TQuery} {n : Nat} : FFirst q n ≤ n := by unfold FFirst; split <;> omega
def FDoc (q : TQuery) (rows : List TRow) (kids : List Int) : TJson := FRight (FWhole rows.length (FDocs id q rows kids (FFirst q rows.length)))
theorem lenJ_whole {n : Nat} {docs : List TJson} (hl : docs.length ≤ topN) (hd : ∀ j ∈ docs, lenJ 4 j) : lenJ 6 (FWhole n docs) := by
  refine ⟨⟨Nat.zero_le _, by show 2 ≤ topN; decide, fun x hx => ?_⟩, by show 2 ≤ topN; decide, fun x hx => ?_⟩
  · rcases List.mem_cons.1 hx with e | hx
    · rw [e]; show 5 ≤ topN; decide
    · rw [List.mem_singleton.1 hx]; show 4 ≤ topN; decide
  · rcases List.mem_cons.1 hx with e | hx
    · rw [e]; exact lenJ_num 5
    · rw [List.mem_singleton.1 hx]
      exact ⟨⟨Nat.zero_le _, Nat.zero_le _, fun x hx => (by cases hx)⟩, hl, hd⟩
theorem whole_bad {n : Nat} {docs : List TJson} {j : TJson} (hj : j ∈ docs) (hb : FSize 4 j = 401) : FJsonOk (FWhole n docs) = false := by
  refine decide_eq_false fun h => ?_
  have h1 := sumL_le (FSize 4) hj
  have h2 : FSize 5 (TJson.mk 4 0 [] docs []) = 401 := by
    show cond (FOwn _) (min 401 (1 + sumL (FSize 4) docs)) 401 = 401
    cases FOwn (TJson.mk 4 0 [] docs []) <;> simp only [cond_true, cond_false]
    omega
  have h3 : FSize 6 (FWhole n docs) = 401 := by
    show cond (FOwn _) (min 401 (1 + (FSize 5 (numJ n) + (FSize 5 (TJson.mk 4 0 [] docs []) + 0)))) 401 = 401
    rw [h2]
    cases FOwn (FWhole n docs) <;> simp only [cond_true, cond_false]
    omega
  omega
theorem FRowJ_size {q : TQuery} {r : TRow} {kids : Int} (d : Nat) : FSize (d + 2) (FRowJ q r kids) = FSize 2 (FRowJ q r kids) := FSize_obj _ d
theorem lenJ_docs {q : TQuery} {rows : List TRow} {kids : List Int} (hq : q.show_.length ≤ 1100000) (hs : ∀ c ∈ q.show_, i64 c) (hl : rows.length ≤ 2000000) {m : Nat} (hm : m ≤ rows.length) : lenJ 6 (FWhole rows.length (FDocs id q rows kids m)) := by
  refine lenJ_whole (by rw [FDocs_len]; simp only [topN]; omega) fun j hj => ?_
  obtain ⟨i, _, e⟩ := List.mem_map.1 hj
  rw [← e]; exact lenJ_row hq hs 4
theorem ContainsNull_ev {l : List TJson} (hl : l.length ≤ topN) : Ev (fun n _ => slices_ContainsFunc_Json_impl_DocOf_f1 n l) (decide (∃ j ∈ l, j.kind = 0)) := by
  have hf : ∀ j : TJson, Ev (fun n _ => impl_DocOf_f1 n j) (j.kind == 0) := fun j => ev_succ (by simp only [impl_DocOf_f1, ev_some])
  have h : Ev (fun n _ => slices_IndexFunc_Json_impl_DocOf_f1 n l) (if l.findIdx (fun j => j.kind == 0) < l.length then ((l.findIdx (fun j => j.kind == 0) : Nat) : Int) else -1) := by
    refine ev_succ ?_
    rw [← foldFrom_idx TJson.dflt]
    simp only [slices_IndexFunc_Json_impl_DocOf_f1]
    refine ev_fold (fun n N i => slices_IndexFunc_Json_impl_DocOf_f1.loop3 n (some (-1)) N l (l.length : Int) (i : Int)) _ (fun i u hi ih => ?_) ?_
    · simp only [slices_IndexFunc_Json_impl_DocOf_f1.turn3, slices_IndexFunc_Json_impl_DocOf_f1.step3, json_re, Int.toNat_natCast, W_up hi hl, ev_cond, ev_inB, ev_bind (hf _), ev_some, ev_iff ih, lt_up hi, in_up hi]
      clear ih
      cases ((l.getD i TJson.dflt).kind == 0) <;> simp
    · simp only [slices_IndexFunc_Json_impl_DocOf_f1.turn3, slices_IndexFunc_Json_impl_DocOf_f1.step3, lt_end, cond_false, ev_some]
  refine ev_succ ?_
  simp only [slices_ContainsFunc_Json_impl_DocOf_f1, ev_bind h, ev_some]
  have e : (l.findIdx (fun j => j.kind == 0) < l.length) ↔ ∃ j ∈ l, j.kind = 0 := by
    rw [List.findIdx_lt_length]; simp
  by_cases hm : ∃ j ∈ l, j.kind = 0
  · rw [if_pos (e.2 hm), decide_eq_true hm, decide_eq_true (by omega)]
  · rw [if_neg (fun h => hm (e.1 h)), decide_eq_false hm]; rfl
section
variable {q : TQuery} {rows : List TRow} {kids : List Int} (hq : q.show_.length ≤ 1100000) (hs : ∀ c ∈ q.show_, i64 c) (hr : lenR topN rows) (hl : rows.length ≤ 2000000)
include hq hs hr hl
theorem spec_DocOf_ev (hk : kids.length ≤ topN) : Ev (fun n _ => spec_DocOf n q rows kids) (FDoc q rows kids) := by
  refine ev_succ ?_
  simp only [spec_DocOf]
  have hF := FFirst_le (q := q) (n := rows.length)
  have eq0 : TQuery.mk q.table q.where_ q.order q.down q.first q.show_ q.kids q.kidTable q.kidCol = q := rfl
  have := ev_seq (FDocs id q rows kids) (FFirst q rows.length) (fun n N i (s : List TJson) => spec_DocOf.loop4 n (fun xy4 xy5 xy6 xy7 xy8 xy9 xy10 xy11 => ((spec_l11Num n (xy4.length : Int)).bind fun xr12 => ((spec_l11Right n (TJson.mk 5 0 [] ([(TJson.re xr12), (TJson.mk xy8 xy9 xy10 xy11 [])] : List TJson) ([[99, 111, 117, 110, 116], [114, 111, 119, 115]] : List Bs))).bind fun xr13 => (some (TJson.re xr13))))) N rows kids (i : Int) q.table q.where_ q.order q.down q.first q.show_ q.kids q.kidTable q.kidCol 0 0 [] 4 0 [] s) (FDoc q rows kids) (fun i hi F hF => ?_) ?_
  · exact this
  · have hir : i < rows.length := by omega
    have hR : ∀ k, Ev (fun n _ => spec_l11Row n q (rows.getD i TRow.dflt) k) (FRowJ q (rows.getD i TRow.dflt) k) := fun k => spec_l11Row_ev hq hs (getD_cells hr i)
    rw [FDocs_succ] at hF
    simp only [json_re] at hF
    have hlen := FDocs_len (g := id) (q := q) (rows := rows) (kids := kids) (m := i)
    generalize FDocs id q rows kids i = s at hF hlen
    simp only [spec_DocOf.turn4, spec_DocOf.step4, eq0, Int.toNat_natCast, json_re, W_up hir (show rows.length ≤ topN by simp only [topN]; omega), ev_bind spec_l11First_ev, ev_bind (hR _), decide_eq_true (show ((i : Int) < (FFirst q rows.length : Int)) by omega), in_up hir, cond_true, ev_cond, ev_inB, ev_roomB]
    refine ⟨fun h => ⟨⟨by omega, by have := of_decide_eq_true h; omega⟩, trivial, by simp; omega, hF⟩, fun h => ⟨trivial, by simp; omega, ?_⟩⟩
    have h := of_decide_eq_false h
    have e : kids.getD i 0 = 0 := by rw [List.getD_eq_getElem?_getD, List.getElem?_eq_none (by omega)]; rfl
    rw [e] at hF; exact hF
  · have hw := l11Right_ev (lenJ_docs hq hs hl (kids := kids) hF)
    unfold FWhole at hw
    simp only [spec_DocOf.turn4, spec_DocOf.step4, eq0, json_re, ev_bind spec_l11First_ev, lt_end, cond_false, ev_bind l11Num_ev, ev_bind hw, ev_some]
    rfl
theorem impl_rowDocs_ev (hk : kids.length ≤ topN) : Ev (fun n _ => impl_rowDocs n q rows kids) (FDocs FRight q rows kids (FFirst q rows.length)) := by
  refine ev_succ ?_
  have hF := FFirst_le (q := q) (n := rows.length)
  simp only [impl_rowDocs, ev_bind impl_firstOf_ev, ev_cutB, Int.toNat_natCast, List.drop_zero]
  refine ⟨⟨by omega, by omega, by omega⟩, ?_⟩
  have eq0 : TQuery.mk q.table q.where_ q.order q.down q.first q.show_ q.kids q.kidTable q.kidCol = q := rfl
  generalize hm : FFirst q rows.length = m at hF
  have hml : (rows.take m).length = m := by simp; omega
  have := ev_seq (FDocs FRight q rows kids) m (fun n N i (s : List TJson) => impl_rowDocs.loop4 n (fun xy4 => (some xy4)) N kids (rows.take m) ((rows.take m).length : Int) (i : Int) q.table q.where_ q.order q.down q.first q.show_ q.kids q.kidTable q.kidCol s) (FDocs FRight q rows kids m) (fun i hi F hF' => ?_) ?_
  · exact this
  · have hR : ∀ k, Ev (fun n _ => impl_RowDoc n q (rows.getD i TRow.dflt) k) (FRight (FRowJ q (rows.getD i TRow.dflt) k)) := fun k => impl_RowDoc_ev hq hs (getD_cells hr i)
    rw [FDocs_succ] at hF'
    have hlen := FDocs_len (g := FRight) (q := q) (rows := rows) (kids := kids) (m := i)
    generalize FDocs FRight q rows kids i = s at hF' hlen
    have hil : i < (rows.take m).length := by omega
    have eg : (rows.take m).getD i TRow.dflt = rows.getD i TRow.dflt := by rw [List.getD_eq_getElem?_getD, List.getD_eq_getElem?_getD, List.getElem?_take_of_lt hi]
    simp only [impl_rowDocs.turn4, impl_rowDocs.step4, eq0, Int.toNat_natCast, json_re, eg, W_up hil (show (rows.take m).length ≤ topN by simp only [topN]; omega), lt_up hil, in_up hil, ev_bind (hR _), cond_true, ev_cond, ev_inB, ev_roomB]
    refine ⟨trivial, fun h => ⟨⟨by omega, by have := of_decide_eq_true h; omega⟩, by simp; omega, hF'⟩, fun h => ⟨by simp; omega, ?_⟩⟩
    have h := of_decide_eq_false h
    have e : kids.getD i 0 = 0 := by rw [List.getD_eq_getElem?_getD, List.getElem?_eq_none (by omega)]; rfl
    rw [e] at hF'; exact hF'
  · have e : (((rows.take m).length : Nat) : Int) = (m : Int) := by rw [hml]
    simp only [impl_rowDocs.turn4, impl_rowDocs.step4, e, lt_end, cond_false, ev_some]
theorem impl_DocOf_ev (hk : kids.length ≤ topN) : Ev (fun n _ => impl_DocOf n q rows kids) (FDoc q rows kids) := by
  refine ev_succ ?_
  have hF := FFirst_le (q := q) (n := rows.length)
  have hC := ContainsNull_ev (l := FDocs FRight q rows kids (FFirst q rows.length)) (by rw [FDocs_len]; simp only [topN]; omega)
  simp only [impl_DocOf, ev_bind (impl_rowDocs_ev hq hs hr hl hk), ev_bind hC, ev_cond, ev_some]
  have hbad : ∀ i, i < FFirst q rows.length → FJsonOk (FRowJ q (rows.getD i TRow.dflt) (kids.getD i 0)) = false → FDoc q rows kids = nullJ := fun i hi hb => by
    have h4 : FSize 4 (FRowJ q (rows.getD i TRow.dflt) (kids.getD i 0)) = 401 := by
      have h6 : ¬ FSize 6 (FRowJ q (rows.getD i TRow.dflt) (kids.getD i 0)) ≤ 400 := of_decide_eq_false hb
      have := FSize_le 6 (FRowJ q (rows.getD i TRow.dflt) (kids.getD i 0))
      rw [FRowJ_size 4] at h6 this
      rw [FRowJ_size 2]; omega
    have : FJsonOk (FWhole rows.length (FDocs id q rows kids (FFirst q rows.length))) = false :=
      whole_bad (List.mem_map.2 ⟨i, List.mem_range.2 hi, rfl⟩) h4
    unfold FDoc FRight; rw [this]; rfl
  refine ⟨fun h => ?_, fun h => ?_⟩
  · obtain ⟨j, hj, hk⟩ := of_decide_eq_true h
    obtain ⟨i, hi, e⟩ := List.mem_map.1 hj
    rw [hbad i (List.mem_range.1 hi)]; · rfl
    rw [← e] at hk
    cases ho : FJsonOk (FRowJ q (rows.getD i TRow.dflt) (kids.getD i 0)) with
    | false => rfl
    | true => unfold FRight at hk; rw [ho] at hk; cases hk
  · have h := of_decide_eq_false h
    have e : FDocs FRight q rows kids (FFirst q rows.length) = FDocs id q rows kids (FFirst q rows.length) := by
      refine List.map_congr_left fun i hi => ?_
      cases ho : FJsonOk (FRowJ q (rows.getD i TRow.dflt) (kids.getD i 0)) with
      | true => unfold FRight; rw [ho]; rfl
      | false => exact absurd ⟨_, List.mem_map.2 ⟨i, hi, rfl⟩, by unfold FRight; rw [ho]; rfl⟩ h
    rw [e]
    have hw := orNull_ev (lenJ_docs hq hs hl (kids := kids) hF)
    unfold FWhole numJ at hw
    simp only [json_re, ev_bind hw, ev_some]
    rfl
end
end Go.Pi
end
section
set_option linter.unusedVariables false
set_option maxRecDepth 100000
set_option linter.unusedSimpArgs false
namespace Go.Pi
def TCond.size (s : TCond) : Nat := 0
def TCond.len (s : TCond) : Prop := True
def TQuery.size (s : TQuery) : Nat := (sizeL TCond.size) s.where_ + (sizeL szI) s.show_
def TQuery.len (s : TQuery) : Prop := (lenL TCond.len) s.where_ ∧ (lenL lenI) s.show_
def TRow.size (s : TRow) : Nat := (sizeL szI) s.cells
def TRow.len (s : TRow) : Prop := (lenL lenI) s.cells
def TKid.size (s : TKid) : Nat := 0
def TKid.len (s : TKid) : Prop := True
def TView.size (s : TView) : Nat := TQuery.size s.q + (sizeL TRow.size) s.rows + (sizeL TKid.size) s.kids
def TView.len (s : TView) : Prop := TQuery.len s.q ∧ (lenL TRow.len) s.rows ∧ (lenL TKid.len) s.kids
def TSess.size (s : TSess) : Nat := TView.size s.view + TView.size s.last
def TSess.len (s : TSess) : Prop := TView.len s.view ∧ TView.len s.last
theorem szCondS_ev {a : List TCond} {l : Int} (ha : (lenL TCond.len) a) (h0 : 0 ≤ l) (h1 : l ≤ 1048576) : Ev (fun n _ => laws_szCondS n a l) (subS l ((sizeL TCond.size) a)) := by
  refine ev_succ ?_
  rw [show (sizeL TCond.size) a = a.length from by unfold sizeL; rw [sumL_zero TCond.size (fun _ => rfl)]; rfl]
  exact ev_szI h0 h1 ha.1
theorem szIntS_ev {a : List Int} {l : Int} (ha : (lenL lenI) a) (h0 : 0 ≤ l) (h1 : l ≤ 1048576) : Ev (fun n _ => laws_szIntS n a l) (subS l ((sizeL szI) a)) := by
  refine ev_succ ?_
  rw [show (sizeL szI) a = a.length from by unfold sizeL; rw [sumL_zero szI (fun _ => rfl)]; rfl]
  exact ev_szI h0 h1 ha.1
theorem szQuery_ev {a : TQuery} {l : Int} (ha : TQuery.len a) (h0 : 0 ≤ l) (h1 : l ≤ 1048576) : Ev (fun n _ => laws_szQuery n a l) (subS l (TQuery.size a)) := by
  refine ev_succ ?_
  have e : TQuery.size a = (sizeL TCond.size) a.where_ + ((sizeL szI) a.show_ + (0)) := by simp only [TQuery.size]; omega
  rw [e]; clear e
  have h0_0 := h0; have h0_1 := h1
  exact ev_sz h0_0 h0_1 (szCondS_ev (ha.1) h0_0 h0_1) fun r1 h1_0 h1_1 => ev_sz h1_0 h1_1 (szIntS_ev (ha.2) h1_0 h1_1) fun r2 h2_0 h2_1 => ev_szE h2_0
theorem szRow_ev {a : TRow} {l : Int} (ha : TRow.len a) (h0 : 0 ≤ l) (h1 : l ≤ 1048576) : Ev (fun n _ => laws_szRow n a l) (subS l (TRow.size a)) := by
  refine ev_succ ?_
  have e : TRow.size a = (sizeL szI) a.cells + (0) := by simp only [TRow.size]; omega
  rw [e]; clear e
  have h0_0 := h0; have h0_1 := h1
  exact ev_sz h0_0 h0_1 (szIntS_ev (ha) h0_0 h0_1) fun r1 h1_0 h1_1 => ev_szE h1_0
theorem szRowS_ev {a : List TRow} {l : Int} (ha : (lenL TRow.len) a) (h0 : 0 ≤ l) (h1 : l ≤ 1048576) : Ev (fun n _ => laws_szRowS n a l) (subS l ((sizeL TRow.size) a)) := by
  refine ev_succ ?_
  refine ev_szL (g := fun n N x => laws_szRowS.loop7 n (fun xy2 => (some xy2)) (n) a x 0) h0 h1 ha.1 fun l h0 h1 => sz_list TRow.dflt TRow.size (fun n N l i => laws_szRowS.loop7 n (fun xy2 => (some xy2)) (N) a l (i : Int)) a (fun i l hi h0 h1 t kk => ?_) (fun l => ?_) l h0 h1
  · show Ev (fun n N => laws_szRowS.step7 n (fun xy2 => (some xy2)) (laws_szRowS.loop7 n (fun xy2 => (some xy2)) N) a l (i : Int)) _
    simp only [laws_szRowS.step7, ev_cond, ev_inB, Int.toNat_natCast, W_up hi ha.1]
    refine ⟨fun _ => ?_, fun h => absurd hi (by simpa using h)⟩
    refine ⟨⟨by omega, by omega⟩, ?_⟩
    have := ev_sz (t := t) (g := fun n N x => laws_szRowS.loop7 n (fun xy2 => (some xy2)) (N) a x ((i + 1 : Nat) : Int)) h0 h1 (szRow_ev (ha.2 _ (getD_mem TRow.dflt hi)) h0 h1) kk
    simpa only [ev_cond, ev_some] using this
  · show Ev (fun n N => laws_szRowS.step7 n (fun xy2 => (some xy2)) (laws_szRowS.loop7 n (fun xy2 => (some xy2)) N) a l (a.length : Int)) _
    simp only [laws_szRowS.step7, ev_cond, ev_some]
    exact ⟨fun h => absurd (of_decide_eq_true h) (by omega), fun _ => trivial⟩
theorem szKidS_ev {a : List TKid} {l : Int} (ha : (lenL TKid.len) a) (h0 : 0 ≤ l) (h1 : l ≤ 1048576) : Ev (fun n _ => laws_szKidS n a l) (subS l ((sizeL TKid.size) a)) := by
  refine ev_succ ?_
  rw [show (sizeL TKid.size) a = a.length from by unfold sizeL; rw [sumL_zero TKid.size (fun _ => rfl)]; rfl]
  exact ev_szI h0 h1 ha.1
theorem szView_ev {a : TView} {l : Int} (ha : TView.len a) (h0 : 0 ≤ l) (h1 : l ≤ 1048576) : Ev (fun n _ => laws_szView n a l) (subS l (TView.size a)) := by
  refine ev_succ ?_
  have e : TView.size a = TQuery.size a.q + ((sizeL TRow.size) a.rows + ((sizeL TKid.size) a.kids + (0))) := by simp only [TView.size]; omega
  rw [e]; clear e
  have h0_0 := h0; have h0_1 := h1
  exact ev_sz h0_0 h0_1 (szQuery_ev (ha.1) h0_0 h0_1) fun r1 h1_0 h1_1 => ev_sz h1_0 h1_1 (szRowS_ev (ha.2.1) h1_0 h1_1) fun r2 h2_0 h2_1 => ev_sz h2_0 h2_1 (szKidS_ev (ha.2.2) h2_0 h2_1) fun r3 h3_0 h3_1 => ev_szE h3_0
theorem szSess_ev {a : TSess} {l : Int} (ha : TSess.len a) (h0 : 0 ≤ l) (h1 : l ≤ 1048576) : Ev (fun n _ => laws_szSess n a l) (subS l (TSess.size a)) := by
  refine ev_succ ?_
  have e : TSess.size a = TView.size a.view + (TView.size a.last + (0)) := by simp only [TSess.size]; omega
  rw [e]; clear e
  have h0_0 := h0; have h0_1 := h1
  exact ev_sz h0_0 h0_1 (szView_ev (ha.1) h0_0 h0_1) fun r1 h1_0 h1_1 => ev_sz h1_0 h1_1 (szView_ev (ha.2) h1_0 h1_1) fun r2 h2_0 h2_1 => ev_szE h2_0
theorem toCond_ev {a : TCond} (ha : TCond.size a ≤ cap) : Ev (fun n _ => laws_toCond n a) a := by
  refine ev_succ ?_
  simp only [laws_toCond, ev_some]
theorem toCondS_ev {a : List TCond} (ha : (sizeL TCond.size) a ≤ cap) : Ev (fun n _ => laws_toCondS n a) a := by
  refine ev_succ ?_
  have hl := sizeL_len TCond.size a
  simp only [cap] at ha
  simp only [laws_toCondS, ev_cond, ev_none, decide_eq_true_eq, decide_eq_false_iff_not, not_true_eq_false]
  refine ⟨fun _ => ⟨fun _ => ⟨fun _ => ?_, fun h => absurd h (by omega)⟩, fun h => absurd h (by omega)⟩, fun h => h⟩
  refine ev_copy TCond.dflt a (fun n N i s => laws_toCondS.loop4 n (fun xy3 => (some xy3)) N a (i : Int) s) (fun i s hi hs k => ?_) ?_ _ (by simp)
  · show Ev (fun n N => laws_toCondS.step4 n (fun xy3 => (some xy3)) (laws_toCondS.loop4 n (fun xy3 => (some xy3)) N) a (i : Int) s) a
    simp only [laws_toCondS.step4, Int.toNat_natCast, ev_cond, ev_inB, ev_bind (toCond_ev (a := a.getD i TCond.dflt) (by have := sizeL_le TCond.size (getD_mem TCond.dflt hi); simp only [cap]; omega)), W_up hi (show a.length ≤ topN by simp only [topN]; omega)]
    exact ⟨fun _ => ⟨⟨by omega, by omega⟩, ⟨by omega, by omega⟩, k⟩, fun h => absurd hi (by simpa using h)⟩
  · show Ev (fun n N => laws_toCondS.step4 n (fun xy3 => (some xy3)) (laws_toCondS.loop4 n (fun xy3 => (some xy3)) N) a (a.length : Int) a) a
    simp only [laws_toCondS.step4, ev_cond, ev_some]
    exact ⟨fun h => absurd (of_decide_eq_true h) (by omega), fun _ => trivial⟩
theorem toIntS_ev {a : List Int} (ha : (sizeL szI) a ≤ cap) : Ev (fun n _ => laws_toIntS n a) a := by
  refine ev_succ ?_
  have hl := sizeL_len szI a
  simp only [cap] at ha
  simp only [laws_toIntS, ev_cond, ev_none, decide_eq_true_eq, decide_eq_false_iff_not, not_true_eq_false]
  refine ⟨fun _ => ⟨fun _ => ⟨fun _ => ?_, fun h => absurd h (by omega)⟩, fun h => absurd h (by omega)⟩, fun h => h⟩
  refine ev_copy 0 a (fun n N i s => laws_toIntS.loop4 n (fun xy2 => (some xy2)) N a (i : Int) s) (fun i s hi hs k => ?_) ?_ _ (by simp)
  · show Ev (fun n N => laws_toIntS.step4 n (fun xy2 => (some xy2)) (laws_toIntS.loop4 n (fun xy2 => (some xy2)) N) a (i : Int) s) a
    simp only [laws_toIntS.step4, Int.toNat_natCast, ev_cond, ev_inB, W_up hi (show a.length ≤ topN by simp only [topN]; omega)]
    exact ⟨fun _ => ⟨⟨by omega, by omega⟩, ⟨by omega, by omega⟩, k⟩, fun h => absurd hi (by simpa using h)⟩
  · show Ev (fun n N => laws_toIntS.step4 n (fun xy2 => (some xy2)) (laws_toIntS.loop4 n (fun xy2 => (some xy2)) N) a (a.length : Int) a) a
    simp only [laws_toIntS.step4, ev_cond, ev_some]
    exact ⟨fun h => absurd (of_decide_eq_true h) (by omega), fun _ => trivial⟩
theorem toQuery_ev {a : TQuery} (ha : TQuery.size a ≤ cap) : Ev (fun n _ => laws_toQuery n a) a := by
  refine ev_succ ?_
  simp only [TQuery.size] at ha
  have h0 := toCondS_ev (a := a.where_) (by omega)
  have h1 := toIntS_ev (a := a.show_) (by omega)
  simp only [laws_toQuery, ev_bind h0, ev_bind h1, ev_some]
theorem toRow_ev {a : TRow} (ha : TRow.size a ≤ cap) : Ev (fun n _ => laws_toRow n a) a := by
  refine ev_succ ?_
  simp only [TRow.size] at ha
  have h0 := toIntS_ev (a := a.cells) (by omega)
  simp only [laws_toRow, ev_bind h0, ev_some]
theorem toRowS_ev {a : List TRow} (ha : (sizeL TRow.size) a ≤ cap) : Ev (fun n _ => laws_toRowS n a) a := by
  refine ev_succ ?_
  have hl := sizeL_len TRow.size a
  simp only [cap] at ha
  simp only [laws_toRowS, ev_cond, ev_none, decide_eq_true_eq, decide_eq_false_iff_not, not_true_eq_false]
  refine ⟨fun _ => ⟨fun _ => ⟨fun _ => ?_, fun h => absurd h (by omega)⟩, fun h => absurd h (by omega)⟩, fun h => h⟩
  refine ev_copy TRow.dflt a (fun n N i s => laws_toRowS.loop4 n (fun xy3 => (some xy3)) N a (i : Int) s) (fun i s hi hs k => ?_) ?_ _ (by simp)
  · show Ev (fun n N => laws_toRowS.step4 n (fun xy3 => (some xy3)) (laws_toRowS.loop4 n (fun xy3 => (some xy3)) N) a (i : Int) s) a
    simp only [laws_toRowS.step4, Int.toNat_natCast, ev_cond, ev_inB, ev_bind (toRow_ev (a := a.getD i TRow.dflt) (by have := sizeL_le TRow.size (getD_mem TRow.dflt hi); simp only [cap]; omega)), W_up hi (show a.length ≤ topN by simp only [topN]; omega)]
    exact ⟨fun _ => ⟨⟨by omega, by omega⟩, ⟨by omega, by omega⟩, k⟩, fun h => absurd hi (by simpa using h)⟩
  · show Ev (fun n N => laws_toRowS.step4 n (fun xy3 => (some xy3)) (laws_toRowS.loop4 n (fun xy3 => (some xy3)) N) a (a.length : Int) a) a
    simp only [laws_toRowS.step4, ev_cond, ev_some]
    exact ⟨fun h => absurd (of_decide_eq_true h) (by omega), fun _ => trivial⟩
theorem toKid_ev {a : TKid} (ha : TKid.size a ≤ cap) : Ev (fun n _ => laws_toKid n a) a := by
  refine ev_succ ?_
  simp only [laws_toKid, ev_some]
theorem toKidS_ev {a : List TKid} (ha : (sizeL TKid.size) a ≤ cap) : Ev (fun n _ => laws_toKidS n a) a := by
  refine ev_succ ?_
  have hl := sizeL_len TKid.size a
  simp only [cap] at ha
  simp only [laws_toKidS, ev_cond, ev_none, decide_eq_true_eq, decide_eq_false_iff_not, not_true_eq_false]
  refine ⟨fun _ => ⟨fun _ => ⟨fun _ => ?_, fun h => absurd h (by omega)⟩, fun h => absurd h (by omega)⟩, fun h => h⟩
  refine ev_copy TKid.dflt a (fun n N i s => laws_toKidS.loop4 n (fun xy3 => (some xy3)) N a (i : Int) s) (fun i s hi hs k => ?_) ?_ _ (by simp)
  · show Ev (fun n N => laws_toKidS.step4 n (fun xy3 => (some xy3)) (laws_toKidS.loop4 n (fun xy3 => (some xy3)) N) a (i : Int) s) a
    simp only [laws_toKidS.step4, Int.toNat_natCast, ev_cond, ev_inB, ev_bind (toKid_ev (a := a.getD i TKid.dflt) (by have := sizeL_le TKid.size (getD_mem TKid.dflt hi); simp only [cap]; omega)), W_up hi (show a.length ≤ topN by simp only [topN]; omega)]
    exact ⟨fun _ => ⟨⟨by omega, by omega⟩, ⟨by omega, by omega⟩, k⟩, fun h => absurd hi (by simpa using h)⟩
  · show Ev (fun n N => laws_toKidS.step4 n (fun xy3 => (some xy3)) (laws_toKidS.loop4 n (fun xy3 => (some xy3)) N) a (a.length : Int) a) a
    simp only [laws_toKidS.step4, ev_cond, ev_some]
    exact ⟨fun h => absurd (of_decide_eq_true h) (by omega), fun _ => trivial⟩
theorem toView_ev {a : TView} (ha : TView.size a ≤ cap) : Ev (fun n _ => laws_toView n a) a := by
  refine ev_succ ?_
  simp only [TView.size] at ha
  have h0 := toQuery_ev (a := a.q) (by omega)
  have h1 := toRowS_ev (a := a.rows) (by omega)
  have h2 := toKidS_ev (a := a.kids) (by omega)
  simp only [laws_toView, ev_bind h0, ev_bind h1, ev_bind h2, ev_some]
theorem toSess_ev {a : TSess} (ha : TSess.size a ≤ cap) : Ev (fun n _ => laws_toSess n a) a := by
  refine ev_succ ?_
  simp only [TSess.size] at ha
  have h0 := toView_ev (a := a.view) (by omega)
  have h1 := toView_ev (a := a.last) (by omega)
  simp only [laws_toSess, ev_bind h0, ev_bind h1, ev_some]
theorem eqCond_ev {a : TCond} (ha : TCond.size a ≤ topN) : Ev (fun n _ => laws_eqCond n a a) true := by
  refine ev_succ ?_
  simp only [laws_eqCond, bne_self_eq_false, beq_self_eq_true, Bool.not_true, cond_false, ev_some]
theorem eqCondS_ev {a : List TCond} (ha : (sizeL TCond.size) a ≤ topN) : Ev (fun n _ => laws_eqCondS n a a) true := by
  refine ev_succ ?_
  have hl := sizeL_len TCond.size a
  simp only [laws_eqCondS, ev_cond, bne_self_eq_false]
  refine ⟨fun h => (by cases h), fun _ => ?_⟩
  refine ev_up1 (fun n N i => laws_eqCondS.loop6 n (some true) N a a (i : Int)) (fun _ => true) a.length fun i hi k => ?_
  show Ev (fun n N => laws_eqCondS.step6 n (some true) (laws_eqCondS.loop6 n (some true) N) a a (i : Int)) true
  by_cases h : i < a.length
  · simp only [laws_eqCondS.step6, Int.toNat_natCast, ev_cond, ev_inB, ev_bind (eqCond_ev (a := a.getD i TCond.dflt) (by have := sizeL_le TCond.size (getD_mem TCond.dflt h); omega)), bne_self_eq_false, beq_self_eq_true, Bool.not_true, W_up h (show a.length ≤ topN by omega)]
    exact ⟨fun _ => ⟨⟨by omega, by omega⟩, ⟨by omega, by omega⟩, fun h => (by cases h), fun _ => k h⟩, fun h' => absurd h (by simpa using h')⟩
  · simp only [laws_eqCondS.step6, ev_cond, ev_some]
    exact ⟨fun h' => absurd (of_decide_eq_true h') (by omega), fun _ => trivial⟩
theorem eqIntS_ev {a : List Int} (ha : (sizeL szI) a ≤ topN) : Ev (fun n _ => laws_eqIntS n a a) true := by
  refine ev_succ ?_
  have hl := sizeL_len szI a
  simp only [laws_eqIntS, ev_cond, bne_self_eq_false]
  refine ⟨fun h => (by cases h), fun _ => ?_⟩
  refine ev_up1 (fun n N i => laws_eqIntS.loop6 n (some true) N a a (i : Int)) (fun _ => true) a.length fun i hi k => ?_
  show Ev (fun n N => laws_eqIntS.step6 n (some true) (laws_eqIntS.loop6 n (some true) N) a a (i : Int)) true
  by_cases h : i < a.length
  · simp only [laws_eqIntS.step6, Int.toNat_natCast, ev_cond, ev_inB, bne_self_eq_false, beq_self_eq_true, Bool.not_true, W_up h (show a.length ≤ topN by omega)]
    exact ⟨fun _ => ⟨⟨by omega, by omega⟩, ⟨by omega, by omega⟩, fun h => (by cases h), fun _ => k h⟩, fun h' => absurd h (by simpa using h')⟩
  · simp only [laws_eqIntS.step6, ev_cond, ev_some]
    exact ⟨fun h' => absurd (of_decide_eq_true h') (by omega), fun _ => trivial⟩
theorem eqQuery_ev {a : TQuery} (ha : TQuery.size a ≤ topN) : Ev (fun n _ => laws_eqQuery n a a) true := by
  refine ev_succ ?_
  simp only [TQuery.size] at ha
  have h0 := eqCondS_ev (a := a.where_) (by omega)
  have h1 := eqIntS_ev (a := a.show_) (by omega)
  simp only [laws_eqQuery, ev_bind h0, ev_bind h1, bne_self_eq_false, beq_self_eq_true, Bool.not_true, cond_false, ev_some]
theorem eqRow_ev {a : TRow} (ha : TRow.size a ≤ topN) : Ev (fun n _ => laws_eqRow n a a) true := by
  refine ev_succ ?_
  simp only [TRow.size] at ha
  have h0 := eqIntS_ev (a := a.cells) (by omega)
  simp only [laws_eqRow, ev_bind h0, bne_self_eq_false, beq_self_eq_true, Bool.not_true, cond_false, ev_some]
theorem eqRowS_ev {a : List TRow} (ha : (sizeL TRow.size) a ≤ topN) : Ev (fun n _ => laws_eqRowS n a a) true := by
  refine ev_succ ?_
  have hl := sizeL_len TRow.size a
  simp only [laws_eqRowS, ev_cond, bne_self_eq_false]
  refine ⟨fun h => (by cases h), fun _ => ?_⟩
  refine ev_up1 (fun n N i => laws_eqRowS.loop6 n (some true) N a a (i : Int)) (fun _ => true) a.length fun i hi k => ?_
  show Ev (fun n N => laws_eqRowS.step6 n (some true) (laws_eqRowS.loop6 n (some true) N) a a (i : Int)) true
  by_cases h : i < a.length
  · simp only [laws_eqRowS.step6, Int.toNat_natCast, ev_cond, ev_inB, ev_bind (eqRow_ev (a := a.getD i TRow.dflt) (by have := sizeL_le TRow.size (getD_mem TRow.dflt h); omega)), bne_self_eq_false, beq_self_eq_true, Bool.not_true, W_up h (show a.length ≤ topN by omega)]
    exact ⟨fun _ => ⟨⟨by omega, by omega⟩, ⟨by omega, by omega⟩, fun h => (by cases h), fun _ => k h⟩, fun h' => absurd h (by simpa using h')⟩
  · simp only [laws_eqRowS.step6, ev_cond, ev_some]
    exact ⟨fun h' => absurd (of_decide_eq_true h') (by omega), fun _ => trivial⟩
theorem eqKid_ev {a : TKid} (ha : TKid.size a ≤ topN) : Ev (fun n _ => laws_eqKid n a a) true := by
  refine ev_succ ?_
  simp only [laws_eqKid, bne_self_eq_false, beq_self_eq_true, Bool.not_true, cond_false, ev_some]
theorem eqKidS_ev {a : List TKid} (ha : (sizeL TKid.size) a ≤ topN) : Ev (fun n _ => laws_eqKidS n a a) true := by
  refine ev_succ ?_
  have hl := sizeL_len TKid.size a
  simp only [laws_eqKidS, ev_cond, bne_self_eq_false]
  refine ⟨fun h => (by cases h), fun _ => ?_⟩
  refine ev_up1 (fun n N i => laws_eqKidS.loop6 n (some true) N a a (i : Int)) (fun _ => true) a.length fun i hi k => ?_
  show Ev (fun n N => laws_eqKidS.step6 n (some true) (laws_eqKidS.loop6 n (some true) N) a a (i : Int)) true
  by_cases h : i < a.length
  · simp only [laws_eqKidS.step6, Int.toNat_natCast, ev_cond, ev_inB, ev_bind (eqKid_ev (a := a.getD i TKid.dflt) (by have := sizeL_le TKid.size (getD_mem TKid.dflt h); omega)), bne_self_eq_false, beq_self_eq_true, Bool.not_true, W_up h (show a.length ≤ topN by omega)]
    exact ⟨fun _ => ⟨⟨by omega, by omega⟩, ⟨by omega, by omega⟩, fun h => (by cases h), fun _ => k h⟩, fun h' => absurd h (by simpa using h')⟩
  · simp only [laws_eqKidS.step6, ev_cond, ev_some]
    exact ⟨fun h' => absurd (of_decide_eq_true h') (by omega), fun _ => trivial⟩
theorem eqView_ev {a : TView} (ha : TView.size a ≤ topN) : Ev (fun n _ => laws_eqView n a a) true := by
  refine ev_succ ?_
  simp only [TView.size] at ha
  have h0 := eqQuery_ev (a := a.q) (by omega)
  have h1 := eqRowS_ev (a := a.rows) (by omega)
  have h2 := eqKidS_ev (a := a.kids) (by omega)
  simp only [laws_eqView, ev_bind h0, ev_bind h1, ev_bind h2, bne_self_eq_false, beq_self_eq_true, Bool.not_true, cond_false, ev_some]
theorem eqSess_ev {a : TSess} (ha : TSess.size a ≤ topN) : Ev (fun n _ => laws_eqSess n a a) true := by
  refine ev_succ ?_
  simp only [TSess.size] at ha
  have h0 := eqView_ev (a := a.view) (by omega)
  have h1 := eqView_ev (a := a.last) (by omega)
  simp only [laws_eqSess, ev_bind h0, ev_bind h1, bne_self_eq_false, beq_self_eq_true, Bool.not_true, cond_false, ev_some]
end Go.Pi
end
section
set_option linter.unusedVariables false
set_option maxRecDepth 100000
set_option linter.unusedSimpArgs false
namespace Go.Pi
/-! lengths out of sizes -/
theorem lenQ_of {c : Nat} {q : TQuery} (h : TQuery.size q ≤ c) : lenQ c q := by
  have h1 := sizeL_len TCond.size q.where_
  have h2 := sizeL_len szI q.show_
  simp only [TQuery.size] at h
  exact ⟨by omega, by omega⟩
theorem lenRow_of {r : TRow} : r.cells.length ≤ TRow.size r := sizeL_len szI r.cells
theorem lenR_of {c : Nat} {rows : List TRow} (h : sizeL TRow.size rows ≤ c) : lenR c rows := by
  have h1 := sizeL_len TRow.size rows
  exact ⟨by omega, fun x hx => by have := sizeL_le TRow.size hx; have := lenRow_of (r := x); omega⟩
theorem lenV_of {c : Nat} {v : TView} (h : TView.size v ≤ c) : lenV c v := by
  have h3 := sizeL_len TKid.size v.kids
  simp only [TView.size] at h
  exact ⟨lenQ_of (by omega), lenR_of (by omega), by omega⟩
theorem lenS_of {c : Nat} {x : TSess} (h : TSess.size x ≤ c) : lenS c x := by
  simp only [TSess.size] at h
  exact ⟨lenV_of (by omega), lenV_of (by omega)⟩
end Go.Pi
end
section
set_option linter.unusedVariables false
set_option maxRecDepth 100000
set_option linter.unusedSimpArgs false
namespace Go.Pi
def FViewDoc (v : TView) : TJson := FDoc v.q v.rows (FCounts v)
theorem FCounts_len {v : TView} : (FCounts v).length = v.rows.length := by unfold FCounts; simp
theorem lenR.top {r : List TRow} (h : lenR cap r) : lenR topN r := ⟨Nat.le_trans h.1 (by decide), fun x hx => Nat.le_trans (h.2 x hx) (by decide)⟩
section
variable {v : TView} (h : lenV cap v) (hs : ∀ c ∈ v.q.show_, i64 c)
include h hs
theorem lenJ_viewDoc : lenJ 6 (FViewDoc v) := by
  have h1 := h.1.2; have h2 := h.2.1.1
  simp only [cap] at h1 h2
  unfold FViewDoc FDoc FRight
  have := lenJ_docs (kids := FCounts v) (rows := v.rows) (show v.q.show_.length ≤ 1100000 by omega) hs (by omega) (FFirst_le (q := v.q))
  cases FJsonOk (FWhole v.rows.length (FDocs id v.q v.rows (FCounts v) (FFirst v.q v.rows.length))) with
  | true => exact this
  | false => exact ⟨⟨Nat.zero_le _, Nat.zero_le _, fun x hx => (by cases hx)⟩, Nat.zero_le _, fun x hx => (by cases hx)⟩
theorem spec_ViewDoc_ev : Ev (fun n _ => spec_ViewDoc n v) (FViewDoc v) := by
  refine ev_succ ?_
  have h1 := h.1.2; have h2 := h.2.1.1; have h3 := h.2.2
  simp only [cap] at h1 h2 h3
  have hc := FCounts_len (v := v)
  have hD := spec_DocOf_ev (q := v.q) (rows := v.rows) (kids := FCounts v) (by omega) hs h.2.1.top (by omega) (by simp only [topN]; omega)
  simp only [spec_ViewDoc, json_re, ev_bind (spec_l13Counts_ev (v := v) (by simp only [topN]; omega) (by simp only [capR]; omega)), ev_bind hD, ev_some]
  rfl
theorem impl_ViewDoc_ev : Ev (fun n _ => impl_ViewDoc n v) (FViewDoc v) := by
  refine ev_succ ?_
  have h1 := h.1.2; have h2 := h.2.1.1; have h3 := h.2.2
  simp only [cap] at h1 h2 h3
  have hc := FCounts_len (v := v)
  have hD := impl_DocOf_ev (q := v.q) (rows := v.rows) (kids := FCounts v) (by omega) hs h.2.1.top (by omega) (by simp only [topN]; omega)
  simp only [impl_ViewDoc, json_re, ev_bind (impl_kidsOfRows_ev (v := v) (by simp only [topN]; omega) (by simp only [capR]; omega)), ev_bind hD, ev_some]
  rfl
end
def FDue (x : TSess) : Bool := !x.began || !FJsonSame (FViewDoc x.view) (FViewDoc x.last)
def intsS (x : TSess) : Prop := (∀ c ∈ x.view.q.show_, i64 c) ∧ ∀ c ∈ x.last.q.show_, i64 c
theorem spec_SessDue_ev {x : TSess} (h : lenS cap x) (hi : intsS x) : Ev (fun n _ => spec_SessDue n x) (FDue x) := by
  refine ev_succ ?_
  simp only [spec_SessDue, json_re, ev_bind (spec_ViewDoc_ev h.1 hi.1), ev_bind (spec_ViewDoc_ev h.2 hi.2), ev_bind (spec_JsonSame_ev (lenJ_viewDoc h.1 hi.1) (lenJ_viewDoc h.2 hi.2)), ev_cond, ev_some, FDue]
  cases x.began <;> simp
theorem impl_SessDue_ev {x : TSess} (h : lenS cap x) (hi : intsS x) : Ev (fun n _ => impl_SessDue n x) (FDue x) := by
  refine ev_succ ?_
  simp only [impl_SessDue, json_re, ev_bind (impl_ViewDoc_ev h.1 hi.1), ev_bind (impl_ViewDoc_ev h.2 hi.2), ev_bind (impl_JsonSame_ev (lenJ_viewDoc h.1 hi.1) (lenJ_viewDoc h.2 hi.2)), ev_cond, ev_some, FDue]
  cases x.began <;> simp
theorem SessDue_law {x : TSess} (hx : TSess.len x) (hi : intsS x) : ∃ n, laws_FnExactSessDue n x = some true := by
  refine ev_ex (ev_succ ?_)
  simp only [laws_FnExactSessDue, ev_bind (szSess_ev (a := x) (l := 1048576) hx (by omega) (by omega)), ev_cond, ev_some]
  refine ⟨fun _ => trivial, fun h => ?_⟩
  have hz := subS_ok (of_decide_eq_false h)
  have k1 : TSess.size x ≤ cap := by simp only [cap]; omega
  have t1 : TSess.size x ≤ topN := by simp only [topN]; omega
  have hL := lenS_of k1
  simp only [ev_bind (toSess_ev k1), ev_bind (spec_SessDue_ev hL hi), ev_bind (impl_SessDue_ev hL hi), ev_bind (eqSess_ev t1), beq_self_eq_true, Bool.not_true, cond_false, ev_cond, ev_some]
  repeat' (first | apply And.intro | intro _)
  all_goals (first | trivial | rfl | contradiction)
end Go.Pi
end
section
set_option linter.unusedVariables false
namespace Go.Pi
/-! the lengths, out of what an argument was read to be -/
theorem good_sl {t : TC} {xs : List (El t)} (h : Good (.sl .v t xs)) : xs.length ≤ topN ∧ ∀ x ∈ xs, ∀ c ∈ Coding.enc .v t x, Good c := by
  cases h with
  | sl t xs h1 h2 => exact ⟨h1, h2⟩
end Go.Pi
end
section
set_option linter.unusedVariables false
namespace Go.Pi
theorem good_str {l : Bs} (h : Good (.s l)) : lenB l := by
  cases h with
  | s l h => exact h
theorem TCond.good {x : TCond} (h : ∀ c ∈ ([.i .i64 x.col, .i .i64 x.op, .i .i64 x.v] : List AV), Good c) : TCond.len x := trivial
theorem TQuery.good {x : TQuery} (h : ∀ c ∈ ([.i .i64 x.table, .sl .v .lCond x.where_, .i .i64 x.order, .b x.down, .i .i64 x.first, .sl .v .int x.show_, .b x.kids, .i .i64 x.kidTable, .i .i64 x.kidCol] : List AV), Good c) : TQuery.len x := ⟨⟨(good_sl (t := .lCond) (h _ (.tail _ (.head _)))).1, fun x0 hx0 => TCond.good ((good_sl (t := .lCond) (h _ (.tail _ (.head _)))).2 x0 hx0)⟩, ⟨(good_sl (t := .int) (h _ (.tail _ (.tail _ (.tail _ (.tail _ (.tail _ (.head _)))))))).1, fun x0 hx0 => trivial⟩⟩
theorem TRow.good {x : TRow} (h : ∀ c ∈ ([.i .i64 x.id_, .sl .v .int x.cells] : List AV), Good c) : TRow.len x := ⟨(good_sl (t := .int) (h _ (.tail _ (.head _)))).1, fun x0 hx0 => trivial⟩
theorem TKid.good {x : TKid} (h : ∀ c ∈ ([.i .i64 x.id_, .i .i64 x.n_] : List AV), Good c) : TKid.len x := trivial
theorem TView.good {x : TView} (h : ∀ c ∈ ([.i .i64 x.q.table, .sl .v .lCond x.q.where_, .i .i64 x.q.order, .b x.q.down, .i .i64 x.q.first, .sl .v .int x.q.show_, .b x.q.kids, .i .i64 x.q.kidTable, .i .i64 x.q.kidCol, .sl .v .lRow x.rows, .sl .v .lKid x.kids] : List AV), Good c) : TView.len x := ⟨⟨⟨(good_sl (t := .lCond) (h _ (.tail _ (.head _)))).1, fun x0 hx0 => TCond.good ((good_sl (t := .lCond) (h _ (.tail _ (.head _)))).2 x0 hx0)⟩, ⟨(good_sl (t := .int) (h _ (.tail _ (.tail _ (.tail _ (.tail _ (.tail _ (.head _)))))))).1, fun x0 hx0 => trivial⟩⟩, ⟨(good_sl (t := .lRow) (h _ (.tail _ (.tail _ (.tail _ (.tail _ (.tail _ (.tail _ (.tail _ (.tail _ (.tail _ (.head _)))))))))))).1, fun x0 hx0 => TRow.good ((good_sl (t := .lRow) (h _ (.tail _ (.tail _ (.tail _ (.tail _ (.tail _ (.tail _ (.tail _ (.tail _ (.tail _ (.head _)))))))))))).2 x0 hx0)⟩, ⟨(good_sl (t := .lKid) (h _ (.tail _ (.tail _ (.tail _ (.tail _ (.tail _ (.tail _ (.tail _ (.tail _ (.tail _ (.tail _ (.head _))))))))))))).1, fun x0 hx0 => TKid.good ((good_sl (t := .lKid) (h _ (.tail _ (.tail _ (.tail _ (.tail _ (.tail _ (.tail _ (.tail _ (.tail _ (.tail _ (.tail _ (.head _))))))))))))).2 x0 hx0)⟩⟩
theorem TSess.good {x : TSess} (h : ∀ c ∈ ([.i .i64 x.view.q.table, .sl .v .lCond x.view.q.where_, .i .i64 x.view.q.order, .b x.view.q.down, .i .i64 x.view.q.first, .sl .v .int x.view.q.show_, .b x.view.q.kids, .i .i64 x.view.q.kidTable, .i .i64 x.view.q.kidCol, .sl .v .lRow x.view.rows, .sl .v .lKid x.view.kids, .i .i64 x.version, .i .i64 x.last.q.table, .sl .v .lCond x.last.q.where_, .i .i64 x.last.q.order, .b x.last.q.down, .i .i64 x.last.q.first, .sl .v .int x.last.q.show_, .b x.last.q.kids, .i .i64 x.last.q.kidTable, .i .i64 x.last.q.kidCol, .sl .v .lRow x.last.rows, .sl .v .lKid x.last.kids, .i .i64 x.lastVersion, .b x.began] : List AV), Good c) : TSess.len x := ⟨⟨⟨⟨(good_sl (t := .lCond) (h _ (.tail _ (.head _)))).1, fun x0 hx0 => TCond.good ((good_sl (t := .lCond) (h _ (.tail _ (.head _)))).2 x0 hx0)⟩, ⟨(good_sl (t := .int) (h _ (.tail _ (.tail _ (.tail _ (.tail _ (.tail _ (.head _)))))))).1, fun x0 hx0 => trivial⟩⟩, ⟨(good_sl (t := .lRow) (h _ (.tail _ (.tail _ (.tail _ (.tail _ (.tail _ (.tail _ (.tail _ (.tail _ (.tail _ (.head _)))))))))))).1, fun x0 hx0 => TRow.good ((good_sl (t := .lRow) (h _ (.tail _ (.tail _ (.tail _ (.tail _ (.tail _ (.tail _ (.tail _ (.tail _ (.tail _ (.head _)))))))))))).2 x0 hx0)⟩, ⟨(good_sl (t := .lKid) (h _ (.tail _ (.tail _ (.tail _ (.tail _ (.tail _ (.tail _ (.tail _ (.tail _ (.tail _ (.tail _ (.head _))))))))))))).1, fun x0 hx0 => TKid.good ((good_sl (t := .lKid) (h _ (.tail _ (.tail _ (.tail _ (.tail _ (.tail _ (.tail _ (.tail _ (.tail _ (.tail _ (.tail _ (.head _))))))))))))).2 x0 hx0)⟩⟩, ⟨⟨⟨(good_sl (t := .lCond) (h _ (.tail _ (.tail _ (.tail _ (.tail _ (.tail _ (.tail _ (.tail _ (.tail _ (.tail _ (.tail _ (.tail _ (.tail _ (.tail _ (.head _)))))))))))))))).1, fun x0 hx0 => TCond.good ((good_sl (t := .lCond) (h _ (.tail _ (.tail _ (.tail _ (.tail _ (.tail _ (.tail _ (.tail _ (.tail _ (.tail _ (.tail _ (.tail _ (.tail _ (.tail _ (.head _)))))))))))))))).2 x0 hx0)⟩, ⟨(good_sl (t := .int) (h _ (.tail _ (.tail _ (.tail _ (.tail _ (.tail _ (.tail _ (.tail _ (.tail _ (.tail _ (.tail _ (.tail _ (.tail _ (.tail _ (.tail _ (.tail _ (.tail _ (.tail _ (.head _)))))))))))))))))))).1, fun x0 hx0 => trivial⟩⟩, ⟨(good_sl (t := .lRow) (h _ (.tail _ (.tail _ (.tail _ (.tail _ (.tail _ (.tail _ (.tail _ (.tail _ (.tail _ (.tail _ (.tail _ (.tail _ (.tail _ (.tail _ (.tail _ (.tail _ (.tail _ (.tail _ (.tail _ (.tail _ (.tail _ (.head _)))))))))))))))))))))))).1, fun x0 hx0 => TRow.good ((good_sl (t := .lRow) (h _ (.tail _ (.tail _ (.tail _ (.tail _ (.tail _ (.tail _ (.tail _ (.tail _ (.tail _ (.tail _ (.tail _ (.tail _ (.tail _ (.tail _ (.tail _ (.tail _ (.tail _ (.tail _ (.tail _ (.tail _ (.tail _ (.head _)))))))))))))))))))))))).2 x0 hx0)⟩, ⟨(good_sl (t := .lKid) (h _ (.tail _ (.tail _ (.tail _ (.tail _ (.tail _ (.tail _ (.tail _ (.tail _ (.tail _ (.tail _ (.tail _ (.tail _ (.tail _ (.tail _ (.tail _ (.tail _ (.tail _ (.tail _ (.tail _ (.tail _ (.tail _ (.tail _ (.head _))))))))))))))))))))))))).1, fun x0 hx0 => TKid.good ((good_sl (t := .lKid) (h _ (.tail _ (.tail _ (.tail _ (.tail _ (.tail _ (.tail _ (.tail _ (.tail _ (.tail _ (.tail _ (.tail _ (.tail _ (.tail _ (.tail _ (.tail _ (.tail _ (.tail _ (.tail _ (.tail _ (.tail _ (.tail _ (.tail _ (.head _))))))))))))))))))))))))).2 x0 hx0)⟩⟩⟩
end Go.Pi
end
section
set_option linter.unusedVariables false
namespace Go.Pi
theorem good_ints {l : List Int} (h : Good (.sl .v .int l)) : ∀ c ∈ l, -9223372036854775808 ≤ c ∧ c ≤ 9223372036854775807 := fun c hc => by
  have := (good_sl (t := .int) h).2 c hc (.i .i64 c) (.head _)
  cases this with
  | i k n h =>
    have h : (decide (IntKind.i64.min ≤ c) && decide (c ≤ IntKind.i64.max)) = true := h
    rw [Bool.and_eq_true, decide_eq_true_eq, decide_eq_true_eq] at h
    exact h
end Go.Pi
end
section
set_option linter.unusedVariables false
namespace Go.Pi
open Go.Proofs Go.Proofs.YtpifpdljphobdaaGreatDoor
namespace laws_FnExactSessDue
theorem pure_law : Pure := fun x h0 => SessDue_law (TSess.good h0) ⟨good_ints (h0 (.sl .v .int x.view.q.show_) (by simp)), good_ints (h0 (.sl .v .int x.last.q.show_) (by simp))⟩
theorem proved : Rows.FnExactSessDueCardSaid := card pure_law
end laws_FnExactSessDue
end Go.Pi
end
namespace Go.Proofs.YtpifpdljphobdaaGreatDoor
theorem fnExactSessDue_holds : Rows.FnExactSessDueCardSaid := Go.Pi.laws_FnExactSessDue.proved
#print axioms fnExactSessDue_holds
end Go.Proofs.YtpifpdljphobdaaGreatDoor
