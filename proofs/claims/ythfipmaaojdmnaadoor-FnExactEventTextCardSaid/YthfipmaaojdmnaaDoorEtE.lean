/- The card of FnExactEventText: the law returns true at every input, and leaves its arguments unchanged; no condition. Text 5 of 5. -/
import Derived.Test.YthfipmaaojdmnaaDoorEtD
section
set_option linter.unusedVariables false
set_option maxRecDepth 100000
set_option linter.unusedSimpArgs false
namespace Go.Pi
/-! the size of a patch -/
def badOp (l : List TOp) : Nat := l.findIdx fun o => (FOpJson o).kind == 0
def FOpsJ (l : List TOp) : TJson := TJson.mk 4 0 [] (l.map FOpJson) []
def FPatchSize (l : List TOp) : Int := cond (decide (badOp l < l.length)) (-1) (cond (FEncode (FOpsJ l) == []) (-1) ((FEncode (FOpsJ l)).length : Int))
theorem bad_before {l : List TOp} {i : Nat} (hi : i < badOp l) : ((FOpJson (l.getD i TOp.dflt)).kind == 0) = false := by
  have hl : badOp l ≤ l.length := List.findIdx_le_length
  rw [List.getD_eq_getElem?_getD, List.getElem?_eq_getElem (by omega), Option.getD_some]
  have := List.not_of_lt_findIdx (xs := l) (p := fun o => (FOpJson o).kind == 0) (i := i) hi
  simpa using this
theorem bad_at {l : List TOp} (h : badOp l < l.length) : ((FOpJson (l.getD (badOp l) TOp.dflt)).kind == 0) = true := by
  rw [List.getD_eq_getElem?_getD, List.getElem?_eq_getElem h, Option.getD_some]
  exact List.findIdx_getElem (xs := l) (p := fun o => (FOpJson o).kind == 0) (w := h)
theorem map_next {α β : Type} (f : α → β) (d : α) {a : List α} {i : Nat} (h : i < a.length) : (a.take (i + 1)).map f = (a.take i).map f ++ [f (a.getD i d)] := by
  rw [take_next d h, List.map_append]; rfl
def lenOps (l : List TOp) : Prop := l.length ≤ 2000000 ∧ ∀ o ∈ l, lenOp o
theorem lenJ_ops {l : List TOp} (h : lenOps l) : lenJ 6 (FOpsJ l) := by
  refine ⟨⟨Nat.zero_le _, Nat.zero_le _, fun x hx => (by cases hx)⟩, by have := h.1; simp [FOpsJ, topN]; omega, fun x hx => ?_⟩
  obtain ⟨o, ho, e⟩ := List.mem_map.1 hx
  rw [← e]; exact lenJ_dn 5 _ (lenJ_opjson (h.2 o ho))
theorem impl_opsJson_ev {l : List TOp} (h : lenOps l) : Ev (fun n _ => impl_opsJson n l) (cond (decide (badOp l < l.length)) (nullJ, false) (FOpsJ l, true)) := by
  refine ev_succ ?_
  have hl := h.1
  have ht : l.length ≤ topN := by simp only [topN]; omega
  have hb : badOp l ≤ l.length := List.findIdx_le_length
  simp only [impl_opsJson]
  have := ev_seq (fun i => (l.take i).map FOpJson) (badOp l) (fun n N i (o : List TJson) => impl_opsJson.loop4 n (fun xy2 xy3 xy4 xy5 xy6 xy7 xy8 => (some ((TJson.mk xy5 xy6 xy7 xy8 ([] : List Bs)), true))) N l (l.length : Int) (i : Int) 0 0 [] 4 0 [] o) (cond (decide (badOp l < l.length)) (nullJ, false) (FOpsJ l, true)) (fun i hi F hF => ?_) ?_
  · exact this
  · have hi2 : i < l.length := by omega
    have hx := impl_OpJson_ev (h.2 _ (getD_mem TOp.dflt hi2))
    rw [map_next FOpJson TOp.dflt hi2] at hF
    have hol : ((l.take i).map FOpJson).length ≤ i := by simp; omega
    generalize (l.take i).map FOpJson = o at hF hol ⊢
    simp only [impl_opsJson.turn4, impl_opsJson.step4, json_re, op_eta, Int.toNat_natCast, W_up hi2 ht, lt_up hi2, in_up hi2, bad_before hi, cond_true, cond_false, ev_inB, ev_roomB, ev_bind hx]
    exact ⟨trivial, by simp; omega, hF⟩
  · by_cases hp : badOp l < l.length
    · have hx := impl_OpJson_ev (h.2 _ (getD_mem TOp.dflt hp))
      simp only [impl_opsJson.turn4, impl_opsJson.step4, json_re, op_eta, Int.toNat_natCast, lt_up hp, in_up hp, bad_at hp, cond_true, ev_inB, ev_bind hx, ev_some]
      rw [decide_eq_true hp]
      exact ⟨trivial, rfl⟩
    · have e : badOp l = l.length := by omega
      rw [decide_eq_false hp, cond_false]
      unfold FOpsJ
      rw [e, List.take_length]
      simp only [impl_opsJson.turn4, impl_opsJson.step4, lt_end, cond_false, ev_some]
theorem impl_PatchSize_ev {l : List TOp} (h : lenOps l) : Ev (fun n _ => impl_PatchSize n l) (FPatchSize l) := by
  refine ev_succ ?_
  simp only [impl_PatchSize, json_re, ev_bind (impl_opsJson_ev h)]
  unfold FPatchSize
  cases hp : decide (badOp l < l.length) with
  | true =>
    simp only [cond_true, ev_bind (impl_Encode_ev (lenJ_null 6)), ev_cond, ev_some]
    simp
  | false =>
    simp only [cond_false, ev_bind (impl_Encode_ev (lenJ_ops h)), ev_cond, ev_some]
    generalize FEncode (FOpsJ l) = s
    cases (s == []) <;> simp
theorem len_lenJ : ∀ (d : Nat) (j : TJson), TJson.len j → lenJ d j
  | 0, _, _ => trivial
  | d + 1, j, h => by
    have hq := (TJson.len_iff j).1 h
    exact ⟨⟨hq.1, hq.2.2.1, hq.2.2.2⟩, hq.2.1.1, fun x hx => len_lenJ d x (hq.2.1.2 x hx)⟩
end Go.Pi
end
section
set_option linter.unusedVariables false
set_option maxRecDepth 100000
set_option linter.unusedSimpArgs false
namespace Go.Pi
/-! events and their texts -/
theorem spec_l1Same_null {j : TJson} : Ev (fun n _ => spec_l1Same n j (TJson.mk 0 0 [] [] [])) (FZero j) := by
  refine ev_succ ?_
  simp only [spec_l1Same, ev_cond, ev_some, FZero]
  by_cases h1 : j.list = []
  · by_cases h2 : j.names = []
    · have hL : Ev (fun n _ => spec_l1Same.loop6 n (spec_l1Same n) (fun xy2 xy3 xy4 xy5 xy6 xy7 xy8 xy9 xy10 xy11 => (spec_l1Same.loop14 n (spec_l1Same n) (some true) n 0 xy2 xy3 xy4 xy5 xy6 xy7 xy8 xy9 xy10 xy11)) n 0 j.kind j.n_ j.s [] [] 0 0 [] [] []) true :=
        ev_diag (f := fun n N => spec_l1Same.loop6 n (spec_l1Same n) (fun xy2 xy3 xy4 xy5 xy6 xy7 xy8 xy9 xy10 xy11 => (spec_l1Same.loop14 n (spec_l1Same n) (some true) n 0 xy2 xy3 xy4 xy5 xy6 xy7 xy8 xy9 xy10 xy11)) N 0 j.kind j.n_ j.s [] [] 0 0 [] [] []) (ev_round (ev_diag (f := fun n N => spec_l1Same.loop14 n (spec_l1Same n) (some true) N 0 j.kind j.n_ j.s [] [] 0 0 [] [] []) (ev_round ⟨0, fun _ _ _ _ => rfl⟩)))
      rw [h1, h2]
      simp only [ev_iff hL, bne]
      cases (j.kind == 0) <;> cases (j.n_ == 0) <;> cases (j.s == []) <;> simp
    · simp only [bne]
      rw [h1]
      have e : ((j.names.length : Int) == (([] : List Bs).length : Int)) = false := by
        simp only [List.length_nil]
        rw [beq_eq_false_iff_ne]; intro e; exact h2 (List.eq_nil_of_length_eq_zero (by omega))
      have e2 : decide (j.names.length = 0) = false := decide_eq_false fun e => h2 (List.eq_nil_of_length_eq_zero e)
      rw [e, e2]
      cases (j.kind == 0) <;> cases (j.n_ == 0) <;> cases (j.s == []) <;> simp
  · simp only [bne]
    have e : ((j.list.length : Int) == (([] : List TJson).length : Int)) = false := by
      simp only [List.length_nil]
      rw [beq_eq_false_iff_ne]; intro e; exact h1 (List.eq_nil_of_length_eq_zero (by omega))
    have e2 : decide (j.list.length = 0) = false := decide_eq_false fun e => h1 (List.eq_nil_of_length_eq_zero e)
    rw [e, e2]
    cases (j.kind == 0) <;> cases (j.n_ == 0) <;> cases (j.s == []) <;> simp
theorem spec_l17Ops_ev {l : List TOp} (h : lenOps l) : Ev (fun n _ => spec_l17Ops n l) (cond (decide (badOp l < l.length)) (TJson.mk 4 0 [] ((l.take (badOp l)).map FOpJson) [], false) (FOpsJ l, decide ((l.length : Int) ≤ 40) && !(FEncode (FOpsJ l) == []))) := by
  refine ev_succ ?_
  have hl := h.1
  have ht : l.length ≤ topN := by simp only [topN]; omega
  have hb : badOp l ≤ l.length := List.findIdx_le_length
  simp only [spec_l17Ops]
  have := ev_seq (fun i => (l.take i).map FOpJson) (badOp l) (fun n N i (o : List TJson) => spec_l17Ops.loop4 n (fun xy2 xy3 xy4 xy5 xy6 xy7 xy8 xy9 => (cond (decide ((xy2.length : Int) ≤ 40)) ((spec_Encode n (TJson.mk xy6 xy7 xy8 xy9 [])).bind fun xr10 => (some ((TJson.mk xy6 xy7 xy8 xy9 ([] : List Bs)), (!(xr10 == []))))) (some ((TJson.mk xy6 xy7 xy8 xy9 ([] : List Bs)), false)))) N l (i : Int) 0 0 [] 4 0 [] o) (cond (decide (badOp l < l.length)) (TJson.mk 4 0 [] ((l.take (badOp l)).map FOpJson) [], false) (FOpsJ l, decide ((l.length : Int) ≤ 40) && !(FEncode (FOpsJ l) == []))) (fun i hi F hF => ?_) ?_
  · exact this
  · have hi2 : i < l.length := by omega
    have hx := spec_OpJson_ev (h.2 _ (getD_mem TOp.dflt hi2))
    rw [map_next FOpJson TOp.dflt hi2] at hF
    have hol : ((l.take i).map FOpJson).length ≤ i := by simp; omega
    generalize (l.take i).map FOpJson = o at hF hol ⊢
    simp only [spec_l17Ops.turn4, spec_l17Ops.step4, json_re, op_eta, Int.toNat_natCast, W_up hi2 ht, lt_up hi2, in_up hi2, bad_before hi, cond_true, cond_false, ev_inB, ev_roomB, ev_bind hx]
    exact ⟨trivial, by simp; omega, hF⟩
  · by_cases hp : badOp l < l.length
    · have hx := spec_OpJson_ev (h.2 _ (getD_mem TOp.dflt hp))
      simp only [spec_l17Ops.turn4, spec_l17Ops.step4, json_re, op_eta, Int.toNat_natCast, lt_up hp, in_up hp, bad_at hp, cond_true, ev_inB, ev_bind hx, ev_some]
      rw [decide_eq_true hp]
      exact ⟨trivial, rfl⟩
    · have e : badOp l = l.length := by omega
      have hE := spec_Encode_ev (lenJ_ops h)
      rw [decide_eq_false hp, cond_false]
      unfold FOpsJ at hE ⊢
      rw [e, List.take_length]
      simp only [spec_l17Ops.turn4, spec_l17Ops.step4, lt_end, cond_false, ev_cond, ev_bind hE, ev_some]
      cases decide ((l.length : Int) ≤ 40) <;> simp
def FOpsOk (l : List TOp) : Bool := (!decide (badOp l < l.length)) && (decide ((l.length : Int) ≤ 40) && !(FEncode (FOpsJ l) == []))
def FEventOk (e : TEvent) : Bool := inn e.version 0 100000 && cond (e.kind == 1) ((e.base == 0) && (decide (e.ops.length = 0) && !(FEncode e.doc == []))) (cond (e.kind == 2) (FOpsOk e.ops && (inn e.base 0 (W (e.version - 1)) && FZero e.doc)) false)
def lenEv (e : TEvent) : Prop := lenJ 6 e.doc ∧ lenOps e.ops
theorem ev_eta (e : TEvent) : TEvent.mk e.kind e.version e.base e.doc e.ops = e := rfl
theorem size_ok (l : List TOp) : decide (FPatchSize l ≥ 0) = ((!decide (badOp l < l.length)) && !(FEncode (FOpsJ l) == [])) := by
  unfold FPatchSize
  cases decide (badOp l < l.length) with
  | true => rfl
  | false =>
    cases hs : (FEncode (FOpsJ l) == []) with
    | true => rfl
    | false => simp only [cond_false, Bool.not_false, Bool.and_true]; exact decide_eq_true (by omega)
theorem spec_EventOk_ev {e : TEvent} (h : lenEv e) : Ev (fun n _ => spec_EventOk n e) (FEventOk e) := by
  refine ev_succ ?_
  simp only [spec_EventOk, json_re, l1In_b, ev_cond, ev_bind (spec_Encode_ev h.1), ev_bind (spec_l17Ops_ev h.2), ev_bind spec_l1Same_null, ev_some, len_zero, FEventOk, FOpsOk]
  generalize inn e.version 0 100000 = a1
  generalize (e.kind == 1) = a2
  generalize (e.kind == 2) = a3
  generalize (e.base == 0) = a4
  generalize decide (e.ops.length = 0) = a5
  generalize decide (badOp e.ops < e.ops.length) = a6
  generalize decide ((e.ops.length : Int) ≤ 40) = a7
  generalize (FEncode (FOpsJ e.ops) == []) = a8
  generalize (FEncode e.doc == []) = a9
  generalize inn e.base 0 (W (e.version - 1)) = b1
  generalize FZero e.doc = b2
  cases a1 <;> cases a2 <;> cases a3 <;> cases a4 <;> simp only [cond_true, cond_false, Bool.not_true, Bool.not_false, Bool.false_and, Bool.true_and, reduceCtorEq, false_implies, true_implies, true_and, and_true, implies_true]
  all_goals (cases a5 <;> cases a6 <;> cases a7 <;> cases a8 <;> cases a9 <;> cases b1 <;> cases b2 <;> simp)
theorem impl_isVersion_ev {n : Int} : Ev (fun m _ => impl_isVersion m n) (inn n 0 100000) := ev_succ (by simp only [impl_isVersion, within_b, ev_some])
theorem impl_EventOk_ev {e : TEvent} (h : lenEv e) : Ev (fun n _ => impl_EventOk n e) (FEventOk e) := by
  refine ev_succ ?_
  simp only [impl_EventOk, json_re, within_b, ev_cond, ev_bind impl_isVersion_ev, ev_bind (impl_Encode_ev h.1), ev_bind impl_isZero_ev, ev_bind (impl_PatchSize_ev h.2), ev_some, len_zero, size_ok, FEventOk, FOpsOk]
  generalize inn e.version 0 100000 = a1
  generalize (e.kind == 1) = a2
  generalize (e.kind == 2) = a3
  generalize (e.base == 0) = a4
  generalize decide (e.ops.length = 0) = a5
  generalize decide (badOp e.ops < e.ops.length) = a6
  generalize decide ((e.ops.length : Int) ≤ 40) = a7
  generalize (FEncode (FOpsJ e.ops) == []) = a8
  generalize (FEncode e.doc == []) = a9
  generalize inn e.base 0 (W (e.version - 1)) = b1
  generalize FZero e.doc = b2
  cases a1 <;> cases a2 <;> cases a3 <;> cases a4 <;> simp only [cond_true, cond_false, Bool.not_true, Bool.not_false, Bool.false_and, Bool.true_and, reduceCtorEq, false_implies, true_implies, true_and, and_true, implies_true]
  all_goals (cases a5 <;> cases a6 <;> cases a7 <;> cases a8 <;> cases a9 <;> cases b1 <;> cases b2 <;> simp)
end Go.Pi
end
section
set_option linter.unusedVariables false
namespace Go.Pi
theorem lenEv_of {e : TEvent} (h : TEvent.len e) (hs : TEvent.size e ≤ 1048576) : lenEv e := by
  simp only [TEvent.size] at hs
  have hn := sizeL_len TOp.size e.ops
  exact ⟨len_lenJ 6 _ h.1, by omega, fun o ho => ⟨⟨(h.2.2 o ho).1.1, (h.2.2 o ho).1.2⟩, len_lenJ 6 _ (h.2.2 o ho).2⟩⟩
end Go.Pi
end
section
set_option linter.unusedVariables false
set_option maxRecDepth 100000
set_option linter.unusedSimpArgs false
namespace Go.Pi
theorem impl_digits_ev {x : Int} (h0 : -9223372036854775808 ≤ x) (h1 : x ≤ 9223372036854775807) : Ev (fun n _ => impl_digits n x) (Lib.itoa x) := by
  refine ev_succ ?_
  have := Itoa_ev h0 h1
  simp only [impl_digits, ev_bind this, ev_some]
end Go.Pi
end
section
set_option linter.unusedVariables false
set_option maxRecDepth 100000
set_option linter.unusedSimpArgs false
namespace Go.Pi
def FHead (v : Int) : Bs := ([105, 100, 58, 32] ++ Lib.itoa v) ++ [10]
def FSnapText (v : Int) (d : Bs) : Bs := ((([101, 118, 101, 110, 116, 58, 32, 115, 110, 97, 112, 10] ++ FHead v) ++ [100, 97, 116, 97, 58, 32]) ++ d) ++ [10, 10]
def FPatchText (v b : Int) (d : Bs) : Bs := ((((([101, 118, 101, 110, 116, 58, 32, 112, 97, 116, 99, 104, 10] ++ FHead v) ++ [98, 97, 115, 101, 58, 32]) ++ Lib.itoa b) ++ [10, 100, 97, 116, 97, 58, 32]) ++ d) ++ [10, 10]
def FEventText (e : TEvent) : Bs := cond (FEventOk e) (cond (e.kind == 1) (FSnapText e.version (FEncode e.doc)) (FPatchText e.version e.base (FEncode (FOpsJ e.ops)))) []
theorem FEncode_len (j : TJson) : (FEncode j).length ≤ 6000 := by
  unfold FEncode
  cases FJsonOk j with
  | false => exact Nat.zero_le _
  | true =>
    simp only [cond_true]
    cases h : decide (((FEnc 6 j).length : Int) > 6000) with
    | true => exact Nat.zero_le _
    | false => have := of_decide_eq_false h; simp only [cond_false]; omega
structure EvIs (e : TEvent) : Prop where
  ver : 0 ≤ e.version ∧ e.version ≤ 100000
  base : (e.kind == 1) = false → 0 ≤ e.base ∧ e.base ≤ 100000
  ops : (e.kind == 1) = false → decide (badOp e.ops < e.ops.length) = false
theorem ev_is {e : TEvent} (h : FEventOk e = true) : EvIs e := by
  unfold FEventOk at h
  rw [Bool.and_eq_true] at h
  have hv := inn_true h.1
  refine ⟨by omega, fun hk => ?_, fun hk => ?_⟩
  all_goals (
    have h2 := h.2
    rw [hk, cond_false] at h2
    cases hk2 : (e.kind == 2) with
    | false => rw [hk2] at h2; cases h2
    | true =>
      rw [hk2, cond_true, Bool.and_eq_true, Bool.and_eq_true] at h2
      have hb := inn_true h2.2.1
      rw [W_id (by omega) (by omega)] at hb
      unfold FOpsOk at h2
      rw [Bool.and_eq_true] at h2
      first | (have := h2.1.1; simpa using this) | omega)
theorem spec_EventText_ev {e : TEvent} (h : lenEv e) : Ev (fun n _ => spec_EventText n e) (FEventText e) := by
  refine ev_succ ?_
  simp only [spec_EventText, json_re, ev_eta, ev_bind (spec_EventOk_ev h), ev_cond, ev_some, FEventText]
  cases ho : FEventOk e with
  | false => exact ⟨fun _ => rfl, fun h => (by cases h)⟩
  | true =>
    refine ⟨fun h => (by cases h), fun _ => ?_⟩
    have hi := ev_is ho
    have hd := hi.ver
    have hdl := Lib.itoa_length_le e.version (by omega) (by omega)
    cases hk : (e.kind == 1) with
    | true =>
      have hE := spec_Encode_ev h.1
      have hEl := FEncode_len e.doc
      simp only [ev_bind (spec_l2Digits_ev (x := e.version) (by omega) (by omega)), cond_true, ev_cond, ev_none, ev_bind hE, ev_some, FSnapText, FHead]
      generalize Lib.itoa e.version = a at hdl ⊢
      generalize FEncode e.doc = b at hEl ⊢
      repeat' (first | apply And.intro | intro _)
      all_goals (first | trivial | rfl | (rename_i hc; have hc := of_decide_eq_false hc; simp only [List.length_append, List.length_cons, List.length_nil] at hc; omega))
    | false =>
      have hb := hi.base hk
      have hbl := Lib.itoa_length_le e.base (by omega) (by omega)
      have hO := spec_l17Ops_ev h.2
      rw [hi.ops hk, cond_false] at hO
      have hE := spec_Encode_ev (lenJ_ops h.2)
      have hEl := FEncode_len (FOpsJ e.ops)
      simp only [ev_bind (spec_l2Digits_ev (x := e.version) (by omega) (by omega)), ev_bind (spec_l2Digits_ev (x := e.base) (by omega) (by omega)), ev_bind hO, cond_true, cond_false, ev_cond, ev_none, ev_bind hE, ev_some, FPatchText, FHead]
      generalize Lib.itoa e.version = a at hdl ⊢
      generalize Lib.itoa e.base = c at hbl ⊢
      generalize FEncode (FOpsJ e.ops) = b at hEl ⊢
      repeat' (first | apply And.intro | intro _)
      all_goals (first | trivial | rfl | (rename_i hc; have hc := of_decide_eq_false hc; simp only [List.length_append, List.length_cons, List.length_nil] at hc; omega))
theorem impl_EventText_ev {e : TEvent} (h : lenEv e) : Ev (fun n _ => impl_EventText n e) (FEventText e) := by
  refine ev_succ ?_
  simp only [impl_EventText, json_re, ev_eta, ev_bind (impl_EventOk_ev h), ev_cond, ev_some, FEventText]
  cases ho : FEventOk e with
  | false => exact ⟨fun _ => rfl, fun h => (by cases h)⟩
  | true =>
    refine ⟨fun h => (by cases h), fun _ => ?_⟩
    have hi := ev_is ho
    have hd := hi.ver
    have hdl := Lib.itoa_length_le e.version (by omega) (by omega)
    cases hk : (e.kind == 1) with
    | true =>
      have hE := impl_Encode_ev h.1
      have hEl := FEncode_len e.doc
      simp only [ev_bind (impl_digits_ev (x := e.version) (by omega) (by omega)), cond_true, ev_cond, ev_none, ev_bind hE, ev_some, FSnapText, FHead]
      generalize Lib.itoa e.version = a at hdl ⊢
      generalize FEncode e.doc = b at hEl ⊢
      repeat' (first | apply And.intro | intro _)
      all_goals (first | trivial | rfl | (rename_i hc; have hc := of_decide_eq_false hc; simp only [List.length_append, List.length_cons, List.length_nil] at hc; omega))
    | false =>
      have hb := hi.base hk
      have hbl := Lib.itoa_length_le e.base (by omega) (by omega)
      have hO := impl_opsJson_ev h.2
      rw [hi.ops hk, cond_false] at hO
      have hE := impl_Encode_ev (lenJ_ops h.2)
      have hEl := FEncode_len (FOpsJ e.ops)
      simp only [ev_bind (impl_digits_ev (x := e.version) (by omega) (by omega)), ev_bind (impl_digits_ev (x := e.base) (by omega) (by omega)), ev_bind hO, cond_true, cond_false, ev_cond, ev_none, ev_bind hE, ev_some, FPatchText, FHead]
      generalize Lib.itoa e.version = a at hdl ⊢
      generalize Lib.itoa e.base = c at hbl ⊢
      generalize FEncode (FOpsJ e.ops) = b at hEl ⊢
      repeat' (first | apply And.intro | intro _)
      all_goals (first | trivial | rfl | (rename_i hc; have hc := of_decide_eq_false hc; simp only [List.length_append, List.length_cons, List.length_nil] at hc; omega))
end Go.Pi
end
section
set_option linter.unusedVariables false
set_option maxRecDepth 100000
set_option linter.unusedSimpArgs false
namespace Go.Pi
theorem EventText_law {e : TEvent} (he : TEvent.len e) : ∃ n, laws_FnExactEventText n e = some true := by
  refine ev_ex (ev_succ ?_)
  simp only [laws_FnExactEventText, json_re, ev_eta, ev_bind (szEvent_ev (a := e) (l := 1048576) he (by omega) (by omega)), ev_cond, ev_some]
  refine ⟨fun _ => trivial, fun h => ?_⟩
  have hz := subS_ok (of_decide_eq_false h)
  have k1 : TEvent.size e ≤ cap := by simp only [cap]; omega
  have t1 : TEvent.size e ≤ topN := by simp only [topN]; omega
  have hL := lenEv_of he k1
  simp only [json_re, ev_eta, ev_bind (toEvent_ev k1), ev_bind (spec_EventText_ev hL), ev_bind (impl_EventText_ev hL), ev_bind (eqEvent_ev t1), beq_self_eq_true, Bool.not_true, cond_false, ev_cond, ev_some]
end Go.Pi
end
section
set_option linter.unusedVariables false
namespace Go.Pi
/-! the lengths, out of what an argument was read to be -/
theorem good_sl {t : TC} {xs : List (El t)} (h : Good (.sl .v t xs)) : xs.length ≤ topN ∧ ∀ x ∈ xs, ∀ c ∈ Coding.enc .v t x, Good c := by
  cases h with
  | sl t xs h1 h2 => exact ⟨h1, h2⟩
end Go.Pi
end
section
set_option linter.unusedVariables false
namespace Go.Pi
theorem good_str {l : Bs} (h : Good (.s l)) : lenB l := by
  cases h with
  | s l h => exact h
theorem TJson.good (x : TJson) (h : ∀ c ∈ ([.i .i64 x.kind, .i .i64 x.n_, .s x.s, .sl .v .lJson x.list, .sl .v .str x.names] : List AV), Good c) : TJson.len x :=
  (TJson.len_iff x).2 ⟨good_str (h _ (.tail _ (.tail _ (.head _)))), ⟨(good_sl (t := .lJson) (h _ (.tail _ (.tail _ (.tail _ (.head _)))))).1, fun y hy => TJson.good y ((good_sl (t := .lJson) (h _ (.tail _ (.tail _ (.tail _ (.head _)))))).2 y hy)⟩,
    (good_sl (t := .str) (h _ (.tail _ (.tail _ (.tail _ (.tail _ (.head _))))))).1, fun y hy => good_str ((good_sl (t := .str) (h _ (.tail _ (.tail _ (.tail _ (.tail _ (.head _))))))).2 y hy _ (.head _))⟩
termination_by SizeOf.sizeOf x
decreasing_by
  have := List.sizeOf_lt_of_mem hy
  cases x
  simp at this ⊢
  omega
theorem TOp.good {x : TOp} (h : ∀ c ∈ ([.i .i64 x.kind, .sl .v .str x.way, .i .i64 x.value.kind, .i .i64 x.value.n_, .s x.value.s, .sl .v .lJson x.value.list, .sl .v .str x.value.names] : List AV), Good c) : TOp.len x := ⟨⟨(good_sl (t := .str) (h _ (.tail _ (.head _)))).1, fun x0 hx0 => (good_str ((good_sl (t := .str) (h _ (.tail _ (.head _)))).2 x0 hx0 _ (.head _)))⟩, (TJson.good x.value fun c hc => h c (List.mem_of_mem_drop (i := 2) (List.mem_of_mem_take (i := 5) hc)))⟩
theorem TEvent.good {x : TEvent} (h : ∀ c ∈ ([.i .i64 x.kind, .i .i64 x.version, .i .i64 x.base, .i .i64 x.doc.kind, .i .i64 x.doc.n_, .s x.doc.s, .sl .v .lJson x.doc.list, .sl .v .str x.doc.names, .sl .v .lOp x.ops] : List AV), Good c) : TEvent.len x := ⟨(TJson.good x.doc fun c hc => h c (List.mem_of_mem_drop (i := 3) (List.mem_of_mem_take (i := 5) hc))), ⟨(good_sl (t := .lOp) (h _ (.tail _ (.tail _ (.tail _ (.tail _ (.tail _ (.tail _ (.tail _ (.tail _ (.head _))))))))))).1, fun x0 hx0 => TOp.good ((good_sl (t := .lOp) (h _ (.tail _ (.tail _ (.tail _ (.tail _ (.tail _ (.tail _ (.tail _ (.tail _ (.head _))))))))))).2 x0 hx0)⟩⟩
end Go.Pi
end
section
set_option linter.unusedVariables false
namespace Go.Pi
open Go.Proofs Go.Proofs.YthfipmaaojdmnaaDoor
namespace laws_FnExactEventText
theorem pure_law : Pure := fun e h0 => EventText_law (TEvent.good h0)
theorem proved : Rows.FnExactEventTextCardSaid := card pure_law
end laws_FnExactEventText
end Go.Pi
end
namespace Go.Proofs.YthfipmaaojdmnaaDoor
theorem fnExactEventText_holds : Rows.FnExactEventTextCardSaid := Go.Pi.laws_FnExactEventText.proved
#print axioms fnExactEventText_holds
end Go.Proofs.YthfipmaaojdmnaaDoor
