/- EventRead of the program returns what EventRead of the reference returns, for all arguments. Text 5 of 6. -/
import Derived.Test.YtccdklkcfjmchaaGreatDoorErD
import Derived.Shelf.RegionOpenPlain
import Derived.WalkKit
import Derived.Deep.RegionLaw
import Derived.Lib.Walk
import Derived.Lib.SliceRun
import Derived.Laws.CopyRow
import Derived.RowKit
import Derived.Lib.Overlaps
import Derived.Lib.AppendZerosOnto
import Derived.Laws.NewBlocks
import Derived.Laws.Externs
import Derived.Shelf.Strconv.AtoiAll
import Derived.Shelf.Strings.Search2
import Derived.Shelf.Strings.OnBuilder
import Derived.Shelf.Strings.Split
import Derived.Shelf.Strings.Replace
import Derived.ChangeArms
import Derived.DataReads
import Derived.ChangeOld
import Derived.Test.YtccdklkcfjmchaaGreatDoorRows
import Derived.ProofKit
import Derived.OpenShut
import Derived.JoinedOf
import Derived.JoinedAt
import Derived.ChangeVars
import Derived.ChangeMaps5
import Derived.Test.YtccdklkcfjmchaaGreatDoorTie
import Derived.Test.YtccdklkcfjmchaaGreatDoorCards
import Derived.IntWalk
import Derived.Lib.ItoaLen
import Derived.Lib.AtoiAllCases
section
set_option linter.unusedVariables false
namespace Go.Pi
def InsM (P : Program) (f : FuncId) (e : TypeId) (K B : Nat) : Prop :=
  ∀ (w : World) (S : Value) (n : Nat) (vals : List Value) (U : Value) (m : Nat) (us : List Value) (i : Nat), w.ownsRow 0 e K S n vals → w.ownsRow 0 e K U m us → (∀ b, cy_ S b ≠ 0 → cy_ U b = 0) → i ≤ n →
    (∀ v ∈ vals, v.oneCell' = true) → (∀ v ∈ us, v.oneCell' = true) → (n + m) * B ≤ 140737488355328 →
    Calls P f (List.toArray [S, .int .i64 i, U]) w fun e' w' => ∃ R, e' = .returned R ∧ w'.ownsRow 0 e K R (n + m) (vals.take (i * K) ++ us ++ vals.drop (i * K)) ∧ j7_ w w' (fun b => cy_ S b ≠ 0) ∧
      ∀ b, cy_ R b ≠ 0 → (w.heap.size ≤ b ∨ cy_ S b ≠ 0) ∧ b < w'.heap.size
def DelM (P : Program) (f : FuncId) (e : TypeId) (K : Nat) : Prop :=
  ∀ (w : World) (S : Value) (n : Nat) (vals : List Value) (i j : Nat), w.ownsRow 0 e K S n vals → i ≤ j → j ≤ n → (∀ v ∈ vals, v.oneCell' = true) →
    Calls P f (List.toArray [S, .int .i64 i, .int .i64 j]) w fun e' w' => ∃ R, e' = .returned R ∧ w'.ownsRow 0 e K R (n - (j - i)) (vals.take (i * K) ++ vals.drop (j * K)) ∧ j7_ w w' (fun b => cy_ S b ≠ 0) ∧
      ∀ b, cy_ R b ≠ 0 → (w.heap.size ≤ b ∨ cy_ S b ≠ 0) ∧ b < w'.heap.size
def M.both : M → M → M
  | .d, .d => .d
  | _, _ => .s
variable [al_]
open al_
variable {E : Env} {w w' : World} {F F' : Nat → Prop}
theorem RL.own_inv {m t xs v l vs φ} (hm : m ≠ .v) (h : RL E w F (.sl m t xs :: l) (v :: vs) φ) : ∃ vals φ₁ φ₂, w.ownsRow 0 (E.eid t) t.width v xs.length vals ∧ RL E w F (be_ m.sub t xs) vals φ₁ ∧ (∀ b, cy_ v b ≠ 0 → F b) ∧ RL E w F l vs φ₂ ∧ ∀ b, φ b = cy_ v b + φ₁ b + φ₂ b := by
  cases h with
  | scal _ _ _ _ _ h => exact h.elim
  | view => exact absurd rfl hm
  | own m t xs v vals φ₁ l vs φ₂ φ h1 h2 h3 h4 h5 h6 => exact ⟨vals, φ₁, φ₂, h2, h3, h4, h5, h6⟩
theorem RL.len_inv {a l Vs φ} (h : RL E w F (a :: l) Vs φ) : ∃ v vs, Vs = v :: vs := by
  obtain ⟨v, vs, _, _, h, _⟩ := RL.uncons h
  exact ⟨v, vs, h⟩
theorem ma_ [ao_] {φ : Nat → Nat} (h1 : ∀ b, φ b ≤ 1) (low : ∀ b, φ b ≠ 0 → F b ∧ b < w.heap.size) {S : Value} (hSF : ∀ b, cy_ S b ≠ 0 → F b) {t : TC} {zs : List (El t)} {vals : List Value} {ψ : Nat → Nat}
    (hz : RL E w F (be_ .d t zs) vals ψ) (eφ : ∀ b, cy_ S b + ψ b ≤ φ b) {R : Value} (hR : w'.ownsRow 0 (E.eid t) t.width R zs.length vals) (hg : j7_ w w' (fun b => cy_ S b ≠ 0))
    (hRb : ∀ b, cy_ R b ≠ 0 → (w.heap.size ≤ b ∨ cy_ S b ≠ 0) ∧ b < w'.heap.size) :
    ∃ φ', RL E w' (fun b => (F b ∧ φ b = 0) ∨ φ' b ≠ 0) [.sl .d t zs] [R] φ' ∧ (∀ b, φ' b ≤ 1) ∧ (∀ b, φ' b ≠ 0 → φ b ≠ 0 ∨ w.heap.size ≤ b) ∧
      w'.os = w.os ∧ w'.tape = w.tape ∧ w'.output = w.output ∧ w.heap.size ≤ w'.heap.size ∧ ∀ b, b < w.heap.size → φ b = 0 → w'.heap[b]? = w.heap[b]? := by
  have key : ∀ b, cy_ R b ≠ 0 → cy_ S b ≠ 0 ∨ w.heap.size ≤ b := fun b hb => (hRb b hb).1.symm
  have elt : ∀ b, ψ b ≠ 0 → cy_ R b = 0 ∧ cy_ S b = 0 := fun b hb => by
    have q1 := eφ b; have q2 := h1 b
    have s0 : cy_ S b = 0 := by omega
    refine ⟨Classical.byContradiction fun hr => ?_, s0⟩
    rcases key b hr with hs | hs
    · exact hs s0
    · have := (low b (by omega)).2; omega
  refine ⟨fun b => cy_ R b + ψ b, ?_, fun b => ?_, fun b hb => ?_, hg.os, hg.tape, hg.output, hg.size, fun b hb h0 => hg.heap b hb fun hc => hc (by have := eφ b; omega)⟩
  · refine .own .d t zs R vals ψ [] _ (fun _ => 0) _ (by decide) hR ?_ (fun b hb => .inr (by show cy_ R b + _ ≠ 0; omega)) (.nil _ fun _ => rfl) (fun b => rfl)
    refine hz.frame hg.size (fun b hb => ⟨hg.heap b (hz.low b hb).2 fun hc => hc (elt b hb).2, .inr (by show cy_ R b + ψ b ≠ 0; omega)⟩) fun b hb hn => ⟨hg.heap b hb fun hc => hn (hSF b hc), fun hc => ?_⟩
    rcases hc with ⟨hf, -⟩ | hc
    · exact hn hf
    · have hc : cy_ R b + ψ b ≠ 0 := hc
      by_cases hr0 : cy_ R b = 0
      · exact hn (hz.low b (by omega)).1
      · rcases key b hr0 with hs | hs
        · exact hn (hSF b hs)
        · omega
  · show cy_ R b + ψ b ≤ 1
    have q1 := eφ b; have q2 := h1 b; have := jH_ R b
    by_cases h0 : ψ b = 0
    · omega
    · have := elt b h0; omega
  · have hb : cy_ R b + ψ b ≠ 0 := hb
    by_cases h0 : ψ b = 0
    · rcases key b (by omega) with hs | hs
      · exact .inl (by have := eφ b; omega)
      · exact .inr hs
    · exact .inl (by have := eφ b; omega)
theorem iY_ [ao_] {φ : Nat → Nat} (h1 : ∀ b, φ b ≤ 1) (low : ∀ b, φ b ≠ 0 → F b ∧ b < w.heap.size) {S : Value} (hSF : ∀ b, cy_ S b ≠ 0 → F b) {t : TC} {zs : List (El t)} {L : List AV} {vals : List Value} {ψ : Nat → Nat}
    (hz : RL E w F L vals ψ) (hL : L.map AV.asView = be_ .v t zs) (eφ : ∀ b, cy_ S b + ψ b ≤ φ b) {R : Value} (hR : w'.ownsRow 0 (E.eid t) t.width R zs.length vals) (hg : j7_ w w' (fun b => cy_ S b ≠ 0))
    (hRb : ∀ b, cy_ R b ≠ 0 → (w.heap.size ≤ b ∨ cy_ S b ≠ 0) ∧ b < w'.heap.size) :
    ∃ φ', RL E w' (fun b => (F b ∧ φ b = 0) ∨ φ' b ≠ 0) [.sl .s t zs] [R] φ' ∧ (∀ b, φ' b ≤ 1) ∧ (∀ b, φ' b ≠ 0 → φ b ≠ 0 ∨ w.heap.size ≤ b) ∧
      w'.os = w.os ∧ w'.tape = w.tape ∧ w'.output = w.output ∧ w.heap.size ≤ w'.heap.size ∧ ∀ b, b < w.heap.size → φ b = 0 → w'.heap[b]? = w.heap[b]? := by
  have key : ∀ b, cy_ R b ≠ 0 → cy_ S b ≠ 0 ∨ w.heap.size ≤ b := fun b hb => (hRb b hb).1.symm
  have hv := hz.seen (F' := fun b => F b ∧ ψ b = 0) (fun b hb hc => hb hc.2) (fun b _ hn hc => hn hc.1)
  rw [hL] at hv
  refine ⟨cy_ R, ?_, jH_ R, fun b hb => ?_, hg.os, hg.tape, hg.output, hg.size, fun b hb h0 => hg.heap b hb fun hc => hc (by have := eφ b; omega)⟩
  · refine .own .s t zs R vals (fun _ => 0) [] _ (fun _ => 0) _ (by decide) hR ?_ (fun b hb => .inr hb) (.nil _ fun _ => rfl) (fun b => rfl)
    refine hv.frame hg.size (fun b hb => absurd rfl hb) fun b hb hn => ⟨hg.heap b hb fun hc => hn ⟨hSF b hc, by have := eφ b; have := h1 b; omega⟩, fun hc => ?_⟩
    rcases hc with ⟨hf, h0⟩ | hc
    · exact hn ⟨hf, by have := eφ b; omega⟩
    · rcases key b hc with hs | hs
      · exact hn ⟨hSF b hs, by have := eφ b; have := h1 b; omega⟩
      · omega
  · rcases key b hb with hs | hs
    · exact .inl (by have := eφ b; omega)
    · exact .inr hs
theorem RL.int_inv {k n l v vs φ} (h : RL E w F (.i k n :: l) (v :: vs) φ) : v = .int k n ∧ RL E w F l vs φ := by
  cases h with
  | scal _ _ _ _ _ h1 h2 => exact ⟨h1, h2⟩
theorem codedD [ao_] {m : M} {t : TC} (zs : List (El t)) : ∀ a ∈ be_ m t zs, ∃ m, a.coded m := fun a ha => ⟨m, cW_ a ha⟩
theorem na_ [ao_] {f : FuncId} {t : TC} {m1 m2 : M} (hm1 : m1 ≠ .v) (hm2 : m2 ≠ .v) (h : InsM E.P f (E.eid t) t.width t.bytes) {xs ys : List (El t)} {i : Nat} (hi : i ≤ xs.length) (hb : (xs.length + ys.length) * t.bytes ≤ 140737488355328) :
    de_ E f [.sl m1 t xs, .i .i64 i, .sl m2 t ys] (.sl (M.both m1 m2) t (xs.take i ++ ys ++ xs.drop i)) [] [.o, .v, .o] := by
  intro w F Vs φ hrl h1 hlow _
  have low : ∀ b, φ b ≠ 0 → F b ∧ b < w.heap.size := hrl.low
  obtain ⟨S, _, rfl⟩ := hrl.len_inv
  replace hrl := hrl.own_inv hm1
  obtain ⟨vals, φx, φ2, hS, hx, hSF, hrl, e1⟩ := hrl
  obtain ⟨I, _, rfl⟩ := hrl.len_inv
  replace hrl := hrl.int_inv
  obtain ⟨rfl, hrl⟩ := hrl
  obtain ⟨U, _, rfl⟩ := hrl.len_inv
  replace hrl := hrl.own_inv hm2
  obtain ⟨us, φy, φ4, hU, hy, hUF, hrl, e3⟩ := hrl
  obtain ⟨rfl, e4⟩ := RL.nil_inv hrl
  have eφ : ∀ b, φ b = cy_ S b + φx b + (cy_ U b + φy b) := fun b => by rw [e1, e3, e4]; omega
  refine (h w S xs.length vals U ys.length us i hS hU (fun b hb => by have := h1 b; have := eφ b; omega) hi (hx.one (codedD _)) (hy.one (codedD _)) hb).mono ?_
  rintro e' w' ⟨R, rfl, hR, hg, hRb⟩
  have hx' : RL E w F (be_ m1.sub t (xs.take i) ++ be_ m1.sub t (xs.drop i)) vals φx := by rw [← cj_, List.take_append_drop]; exact hx
  obtain ⟨va, vb, φa, φb, rfl, ha, hb', e6⟩ := hx'.split
  have hla : va.length = i * t.width := by rw [← ha.length, cK_, List.length_take, Nat.min_eq_left hi]
  rw [← hla, List.take_left, List.drop_left] at hR
  have hz : RL E w F (be_ m1.sub t (xs.take i) ++ be_ m2.sub t ys ++ be_ m1.sub t (xs.drop i)) (va ++ us ++ vb) (fun b => φa b + φy b + φb b) :=
    (ha.append hy (ψ := fun b => φa b + φy b) (fun b => rfl)).append hb' (fun b => rfl)
  have hl : (xs.take i ++ ys ++ xs.drop i).length = xs.length + ys.length := by simp; omega
  have he : ∀ b, cy_ S b + (φa b + φy b + φb b) ≤ φ b := fun b => by have := eφ b; have := e6 b; omega
  by_cases hd : m1 = .d ∧ m2 = .d
  · obtain ⟨rfl, rfl⟩ := hd
    have hz' : RL E w F (be_ .d t (xs.take i ++ ys ++ xs.drop i)) (va ++ us ++ vb) (fun b => φa b + φy b + φb b) := by
      rw [cj_, cj_]; exact hz
    obtain ⟨φ', k1, k2⟩ := ma_ (S := S) (R := R) h1 low hSF hz' he (by rw [hl]; exact hR) hg hRb
    exact ⟨R, φ', rfl, k1, k2⟩
  · have hb2 : M.both m1 m2 = .s := by cases m1 <;> cases m2 <;> first | rfl | exact absurd rfl hm1 | exact absurd rfl hm2 | exact absurd ⟨rfl, rfl⟩ hd
    rw [hb2]
    obtain ⟨φ', k1, k2⟩ := iY_ (S := S) (R := R) (t := t) (zs := xs.take i ++ ys ++ xs.drop i) h1 low hSF hz (by rw [List.map_append, List.map_append, dK_, dK_, dK_, cj_, cj_]) he (by rw [hl]; exact hR) hg hRb
    exact ⟨R, φ', rfl, k1, k2⟩
theorem nm_ [ao_] {f : FuncId} {t : TC} {m : M} (hm0 : m ≠ .v) (h : DelM E.P f (E.eid t) t.width) {xs : List (El t)} {i j : Nat} (hij : i ≤ j) (hj : j ≤ xs.length) :
    de_ E f [.sl m t xs, .i .i64 i, .i .i64 j] (.sl (M.both m m) t (xs.take i ++ xs.drop j)) [] [.o, .v, .v] := by
  intro w F Vs φ hrl h1 hlow _
  have low : ∀ b, φ b ≠ 0 → F b ∧ b < w.heap.size := hrl.low
  obtain ⟨S, _, rfl⟩ := hrl.len_inv
  replace hrl := hrl.own_inv hm0
  obtain ⟨vals, φx, φ2, hS, hx, hSF, hrl, e1⟩ := hrl
  obtain ⟨I, _, rfl⟩ := hrl.len_inv
  replace hrl := hrl.int_inv
  obtain ⟨rfl, hrl⟩ := hrl
  obtain ⟨J, _, rfl⟩ := hrl.len_inv
  replace hrl := hrl.int_inv
  obtain ⟨rfl, hrl⟩ := hrl
  obtain ⟨rfl, e4⟩ := RL.nil_inv hrl
  have eφ : ∀ b, φ b = cy_ S b + φx b := fun b => by rw [e1, e4]; omega
  refine (h w S xs.length vals i j hS hij hj (hx.one (codedD _))).mono ?_
  rintro e' w' ⟨R, rfl, hR, hg, hRb⟩
  have hx' : RL E w F (be_ m.sub t (xs.take i) ++ (be_ m.sub t ((xs.drop i).take (j - i)) ++ be_ m.sub t (xs.drop j))) vals φx := by
    rw [← cj_, ← cj_]
    have : xs.drop j = (xs.drop i).drop (j - i) := by rw [List.drop_drop]; congr 1; omega
    rw [this, List.take_append_drop, List.take_append_drop]; exact hx
  obtain ⟨va, vc, φa, φc, rfl, ha, hc, e6⟩ := hx'.split
  obtain ⟨vm, vb, φm, φb, rfl, hm, hb', e7⟩ := hc.split
  have hla : va.length = i * t.width := by rw [← ha.length, cK_, List.length_take, Nat.min_eq_left (by omega)]
  have hlm : vm.length = (j - i) * t.width := by rw [← hm.length, cK_, List.length_take, List.length_drop, Nat.min_eq_left (by omega)]
  have hlj : (va ++ vm).length = j * t.width := by rw [List.length_append, hla, hlm, ← Nat.add_mul]; congr 1; omega
  rw [← hla, List.take_left, ← hlj, ← List.append_assoc, List.drop_left] at hR
  have hz : RL E w F (be_ m.sub t (xs.take i) ++ be_ m.sub t (xs.drop j)) (va ++ vb) (fun b => φa b + φb b) := ha.append hb' (fun b => rfl)
  have hl : (xs.take i ++ xs.drop j).length = xs.length - (j - i) := by simp; omega
  have he : ∀ b, cy_ S b + (φa b + φb b) ≤ φ b := fun b => by have := eφ b; have := e6 b; have := e7 b; omega
  cases m with
  | v => exact absurd rfl hm0
  | d =>
    have hz' : RL E w F (be_ .d t (xs.take i ++ xs.drop j)) (va ++ vb) (fun b => φa b + φb b) := by
      rw [cj_]; exact hz
    obtain ⟨φ', k1, k2⟩ := ma_ (S := S) (R := R) h1 low hSF hz' he (by rw [hl]; exact hR) hg hRb
    exact ⟨R, φ', rfl, k1, k2⟩
  | s =>
    obtain ⟨φ', k1, k2⟩ := iY_ (S := S) (R := R) (t := t) (zs := xs.take i ++ xs.drop j) h1 low hSF hz (by rw [List.map_append, dK_, dK_, cj_]) he (by rw [hl]; exact hR) hg hRb
    exact ⟨R, φ', rfl, k1, k2⟩
theorem nDel_ok [ao_] {f : FuncId} {t : TC} {m : M} (hm0 : m ≠ .v) (h : DelM E.P f (E.eid t) t.width) {xs r : List (El t)} {i j : Int} (hr : nDelete xs i j = some r) :
    de_ E f [.sl m t xs, .i .i64 i, .i .i64 j] (.sl (M.both m m) t r) [] [.o, .v, .v] := by
  unfold nDelete at hr
  by_cases hc : 0 ≤ i ∧ i ≤ j ∧ j ≤ (xs.length : Int)
  · obtain ⟨h1, h2, h3⟩ := hc
    obtain ⟨i, rfl⟩ := Int.eq_ofNat_of_zero_le h1
    obtain ⟨j, rfl⟩ := Int.eq_ofNat_of_zero_le (Int.le_trans h1 h2)
    simp only [h1, h2, h3, decide_true, Bool.and_true, cond_true, Option.some.injEq] at hr
    subst hr
    exact nm_ hm0 h (by omega) (by omega)
  · have : (decide (0 ≤ i) && (decide (i ≤ j) && decide (j ≤ (xs.length : Int)))) = false := by
      rw [Bool.eq_false_iff]; intro h; simp only [Bool.and_eq_true, decide_eq_true_eq] at h; exact hc h
    rw [this] at hr; cases hr
theorem nIns_ok [ao_] {f : FuncId} {t : TC} {m1 m2 : M} (hm1 : m1 ≠ .v) (hm2 : m2 ≠ .v) (h : InsM E.P f (E.eid t) t.width t.bytes) {xs ys r : List (El t)} {i : Int} (hr : nInsert t.bytes xs i ys = some r) :
    de_ E f [.sl m1 t xs, .i .i64 i, .sl m2 t ys] (.sl (M.both m1 m2) t r) [] [.o, .v, .o] := by
  unfold nInsert at hr
  by_cases hc : 0 ≤ i ∧ i ≤ (xs.length : Int)
  · obtain ⟨h1, h2⟩ := hc
    obtain ⟨i, rfl⟩ := Int.eq_ofNat_of_zero_le h1
    by_cases hb : (xs.length + ys.length) * t.bytes ≤ 140737488355328
    · simp only [h1, h2, hb, decide_true, Bool.and_true, cond_true, Option.some.injEq] at hr
      subst hr
      exact na_ hm1 hm2 h (by omega) hb
    · simp [h1, h2, hb] at hr
  · have : (decide (0 ≤ i) && decide (i ≤ (xs.length : Int))) = false := by
      rw [Bool.eq_false_iff]; intro h; simp only [Bool.and_eq_true, decide_eq_true_eq] at h; exact hc h
    rw [this] at hr; cases hr
end Go.Pi
end
section
set_option linter.unusedVariables false
set_option linter.unusedSimpArgs false
namespace Go.Proofs
open Go.Shelf Go.RowKit Go.Lib Go.Pi
section
variable {P : Program}
theorem nw_ {ops : Array Oper} {o : Oper} {a : Act} {w : World} {K : Act → World → Prop} {Q : Exit → Act → World → Prop} {E : Prop}
    (hg : o.guard = none) (d x : Operand) (dT sT : TypeId) (hop : o.op = Op.call { callee := Callee.builtin Builtin.append, args := #[d, x], argTypes := #[dT, sT] })
    (v u : Value) (hd : a.eval d = v) (hx : a.eval x = u) {v' : Value} {w' : World} (hr : (Builtin.append_ #[dT, sT] o.type #[v, u]).run P w = .ok v' w') (hK : K (a.put o.dst v') w') :
    if Region.wanted o (yielded ops a.tmps) = true then Oper.wp P o a w K Q else E := by
  have hw : Region.wanted o (yielded ops a.tmps) = true := by simp [Region.wanted, hg]
  rw [if_pos hw]
  unfold Oper.wp
  simp [execOp, hop, resolve, invoke, builtin, hd, hx, hr, Result.andThen]
  exact hK
theorem mS_ (w : World) {ops : Array Oper} {ff_ : List Oper} {o : Oper} {a : Act} {Q : Exit → Act → World → Prop} (hgd : o.guard = none) (d : Operand) (t : TypeId)
    (ho : o.op = .call { callee := .builtin .clear, args := #[d], argTypes := #[t] }) (v : Value) (hd : a.eval d = v) {v' : Value} {w' : World}
    (hr : (Builtin.clear_ #[t] o.type #[v]).run P w = .ok v' w') (h : wpList P ops Q ff_ (a.put o.dst v') w') : wpList P ops Q (o :: ff_) a w :=
  wpList_plain hgd fun _ hK => by
    unfold Oper.wp execOp
    simp only [ho, resolve, invoke, builtin, Sem.run_bind, Sem.run_pure, Result.andThen_ok, List.map_toArray, List.map_cons, List.map_nil, hd, hr]
    exact hK _ _ h
theorem run_clear_k (w : World) (t e ty : TypeId) (z : Value) (ht : P.underlying t = some (.slice e)) (hv : ∀ w, (zeroValue e).run P w = .ok z w) (g o n c : Nat) (hn : 0 < n) (cur : Array Value) (T : TypeId) (hg : w.heap[g]? = some (.cells cur T (0, 0)))
    (hfit : o + (Builtin.zeroCells z.cells n).toList.length ≤ cur.size) (h1 : ∀ v ∈ (Builtin.zeroCells z.cells n).toList, v.oneCell' = true) :
    (Builtin.clear_ #[t] ty #[.slice (some ⟨g, o, none⟩) n c]).run P w = .ok (.tuple #[]) (w.setRow g (cur.toList.take o ++ (Builtin.zeroCells z.cells n).toList ++ cur.toList.drop (o + (Builtin.zeroCells z.cells n).toList.length)).toArray) := by
  have hst := run_storeCells_at P g o T (Builtin.zeroCells z.cells n).toList 0 cur w hg (by simpa using hfit) h1
  obtain ⟨m, rfl⟩ : ∃ m, n = m + 1 := ⟨n - 1, by omega⟩
  simp only [Builtin.clear_, run_underlying ht, Sem.run_bind, Result.andThen_ok, hv]
  simp only [List.getElem?_toArray, List.getElem?_cons_zero, Sem.run_bind, run_underlying ht, Result.andThen_ok, hv, hst, Nat.add_zero, Sem.run_pure]
end
theorem nv_ (w : World) {P : Program} {ops : Array Oper} {ff_ : List Oper} {o : Oper} {a : Act} {Q : Exit → Act → World → Prop} (hgd : o.guard = none) (d s : Operand) (t t' : TypeId)
    (ho : o.op = .call { callee := .builtin .copy, args := #[d, s], argTypes := #[t, t'] }) (v u : Value) (hd : a.eval d = v) (hs : a.eval s = u) {v' : Value} {w' : World}
    (hr : (Builtin.copy_ #[t, t'] o.type #[v, u]).run P w = .ok v' w') (h : wpList P ops Q ff_ (a.put o.dst v') w') : wpList P ops Q (o :: ff_) a w :=
  wpList_plain hgd fun _ hK => by
    unfold Oper.wp execOp
    simp only [ho, resolve, invoke, builtin, Sem.run_bind, Sem.run_pure, Result.andThen_ok, List.map_toArray, List.map_cons, List.map_nil, hd, hs, hr]
    exact hK _ _ h
theorem step_copy_runI {P : Program} {ops : Array Oper} {o : Oper} {a : Act} {w : World} {K : Act → World → Prop} {Q : Exit → Act → World → Prop} {E : Prop}
    (hg : o.guard = none) (d x : Operand) (dT sT : TypeId) (hop : o.op = Op.call { callee := Callee.builtin Builtin.copy, args := #[d, x], argTypes := #[dT, sT] })
    (v u : Value) (hd : a.eval d = v) (hx : a.eval x = u) {v' : Value} {w' : World} (hr : (Builtin.copy_ #[dT, sT] o.type #[v, u]).run P w = .ok v' w') (hK : K (a.put o.dst v') w') :
    if Region.wanted o (yielded ops a.tmps) = true then Oper.wp P o a w K Q else E := by
  have hw : Region.wanted o (yielded ops a.tmps) = true := by simp [Region.wanted, hg]
  rw [if_pos hw]
  unfold Oper.wp
  simp [execOp, hop, resolve, invoke, builtin, hd, hx, hr, Result.andThen]
  exact hK
theorem run_copy_rowK {P : Program} (w : World) (dT sT ty elem : TypeId) (k : Nat) (g o dLen dCap : Nat) (a : Addr) (sLen sCap : Nat) (cur : Array Value) (t : TypeId) (cs : List Value)
    (hu : P.underlying dT = some (.slice elem)) (hs : (P.info? elem).map (·.size) = some k)
    (hg : w.heap[g]? = some (.cells cur t (0, 0))) (hn : cs.length = Nat.min sLen dLen * k)
    (hsrc : ∀ j v, cs[j]? = some v → w.cell? (a.add j) = some v) (hfit : o + cs.length ≤ cur.size) (h1 : ∀ v ∈ cs, v.oneCell' = true) :
    (Builtin.copy_ #[dT, sT] ty #[.slice (some ⟨g, o, none⟩) dLen dCap, .slice (some a) sLen sCap]).run P w =
      .ok (goInt (Nat.min sLen dLen)) (w.setRow g (cur.toList.take o ++ cs ++ cur.toList.drop (o + cs.length)).toArray) := by
  have hl := run_loadCells_list (P := P) w a cs hsrc
  have hst := run_storeCells_at P g o t cs 0 cur w hg (by simpa using hfit) h1
  cases hq : P.info? elem with
  | none => simp [hq] at hs
  | some i =>
    have hi : i.size = k := by simpa [hq] using hs
    simp [Builtin.copy_, run_underlying hu, Builtin.lenOf, Builtin.firstCells, sizeOf, typeInfo, hq, hi, ← hn, hl, hst]
theorem zc_one (cs : Array Value) (h : cs.toList.all Value.oneCell' = true) (n : Nat) : ∀ v ∈ (Builtin.zeroCells cs n).toList, v.oneCell' = true := by
  intro v hv
  simp only [Builtin.zeroCells, Array.toList_map, List.mem_map, Array.toList_range, List.mem_range] at hv
  obtain ⟨x, hx, rfl⟩ := hv
  have h0 : 0 < cs.size := Nat.pos_of_mul_pos_left (by omega : 0 < n * cs.size)
  have : x % cs.size < cs.size := Nat.mod_lt _ h0
  rw [getElem!_pos cs _ this]
  exact List.all_eq_true.1 h _ (by simp)
theorem own_low {w : World} {e : TypeId} {K : Nat} {S : Value} {n : Nat} {vals : List Value} (h : w.ownsRow 0 e K S n vals) : ∀ b, cy_ S b ≠ 0 → b < w.heap.size := by
  intro b hb
  rcases h.2 with ⟨rfl, _⟩ | ⟨g, cap, cur, rfl, _, hg, _⟩
  · simp [cy_] at hb
  · have : g = b := by simp only [cy_] at hb; exact Classical.byContradiction fun h => hb (if_neg h)
    subst this
    exact (Array.getElem?_eq_some_iff.1 hg).1
theorem drow_size (w : World) (g : Nat) (A : Array Value) : w.heap.size ≤ (w.drew.setRow g A).heap.size := by
  have : (w.drew.setRow g A).heap.size = w.drew.heap.size := by simp [World.setRow]
  rw [this]; exact Nat.le_refl _
theorem owns1_iff {w : World} {e : TypeId} {v : Value} {n : Nat} {xs : List Value} : w.ownsRow 0 e 1 v n xs ↔
    (xs.length = n ∧ (v = .slice none 0 0 ∧ n = 0 ∨ ∃ g cap cur, v = .slice (some ⟨g, 0, none⟩) n cap ∧ 0 ≤ g ∧ w.heap[g]? = some (.cells cur e (0, 0)) ∧ n ≤ cap ∧ cap ≤ maxLen ∧ cur.size = cap ∧ cur.toList.take n = xs)) := by
  unfold World.ownsRow
  simp only [Nat.mul_one]
end Go.Proofs
end
section
set_option linter.unusedVariables false
set_option linter.unusedSimpArgs false
namespace Go.Proofs
open Go.Shelf
def Tryz.laysC172_ren : Go.Shelf.Ren := ⟨fun | 172 => 87 | 244 => 123 | 245 => 124 | 247 => 144 | 279 => 145 | 280 => 146 | 281 => 147 | 282 => 148 | 287 => 176 | 316 => 177 | 171 => 128 | 205 => 178 | 321 => 197 | 322 => 198 | 243 => 159 | 246 => 183 | 283 => 203 | 284 => 204 | 285 => 205 | 286 => 206 | 129 => 219 | 317 => 218 | 318 => 220 | 319 => 221 | 320 => 222 | 337 => 231 | 338 => 232 | n => n, fun | 9 => 9 | 3 => 3 | 75 => 121 | 76 => 122 | 4 => 4 | 5 => 5 | 167 => 160 | 37 => 139 | 0 => 0 | 85 => 161 | 2 => 2 | 168 => 163 | 53 => 177 | 175 => 178 | 46 => 157 | 210 => 181 | 127 => 198 | 145 => 201 | 143 => 199 | 21 => 21 | 171 => 205 | 173 => 208 | 212 => 216 | 51 => 174 | 20 => 20 | 213 => 217 | 232 => 229 | 233 => 230 | 80 => 166 | n => n, fun | 15 => 1 | 16 => 2 | 17 => 3 | 18 => 6 | 19 => 7 | n => n⟩
theorem Tryz.laysC172 : Go.Proofs.LaysC.n172 Tryz.prog Tryz.laysC172_ren := {
  mixed := by kernel_rfl
  f129 := Tryz.func219.trans (congrArg some (by kernel_rfl))
  f171 := Tryz.func128.trans (congrArg some (by kernel_rfl))
  f172 := Tryz.func87.trans (congrArg some (by kernel_rfl))
  f205 := Tryz.func178.trans (congrArg some (by kernel_rfl))
  f243 := Tryz.func159.trans (congrArg some (by kernel_rfl))
  f244 := Tryz.func123.trans (congrArg some (by kernel_rfl))
  f245 := Tryz.func124.trans (congrArg some (by kernel_rfl))
  f246 := Tryz.func183.trans (congrArg some (by kernel_rfl))
  f247 := Tryz.func144.trans (congrArg some (by kernel_rfl))
  f279 := Tryz.func145.trans (congrArg some (by kernel_rfl))
  f280 := Tryz.func146.trans (congrArg some (by kernel_rfl))
  f281 := Tryz.func147.trans (congrArg some (by kernel_rfl))
  f282 := Tryz.func148.trans (congrArg some (by kernel_rfl))
  f283 := Tryz.func203.trans (congrArg some (by kernel_rfl))
  f284 := Tryz.func204.trans (congrArg some (by kernel_rfl))
  f285 := Tryz.func205.trans (congrArg some (by kernel_rfl))
  f286 := Tryz.func206.trans (congrArg some (by kernel_rfl))
  f287 := Tryz.func176.trans (congrArg some (by kernel_rfl))
  f316 := Tryz.func177.trans (congrArg some (by kernel_rfl))
  f317 := Tryz.func218.trans (congrArg some (by kernel_rfl))
  f318 := Tryz.func220.trans (congrArg some (by kernel_rfl))
  f319 := Tryz.func221.trans (congrArg some (by kernel_rfl))
  f320 := Tryz.func222.trans (congrArg some (by kernel_rfl))
  f321 := Tryz.func197.trans (congrArg some (by kernel_rfl))
  f322 := Tryz.func198.trans (congrArg some (by kernel_rfl))
  f337 := Tryz.func231.trans (congrArg some (by kernel_rfl))
  f338 := Tryz.func232.trans (congrArg some (by kernel_rfl))
  t0 := Tryz.underlying0
  a0 := Tryz.isAgg0
  z0 := Tryz.sizeOf0
  v0 := Tryz.zeroValue0
  t2 := Tryz.underlying2
  a2 := Tryz.isAgg2
  z2 := Tryz.sizeOf2
  v2 := Tryz.zeroValue2
  t3 := Tryz.underlying3
  a3 := Tryz.isAgg3
  z3 := Tryz.sizeOf3
  v3 := Tryz.zeroValue3
  t4 := Tryz.underlying4
  a4 := Tryz.isAgg4
  z4 := Tryz.sizeOf4
  v4 := Tryz.zeroValue4
  t5 := Tryz.underlying5
  a5 := Tryz.isAgg5
  z5 := Tryz.sizeOf5
  v5 := Tryz.zeroValue5
  t9 := Tryz.underlying9
  a9 := Tryz.isAgg9
  z9 := Tryz.sizeOf9
  v9 := Tryz.zeroValue9
  t20 := Tryz.underlying20
  a20 := Tryz.isAgg20
  z20 := Tryz.sizeOf20
  v20 := Tryz.zeroValue20
  t21 := Tryz.underlying21
  a21 := Tryz.isAgg21
  z21 := Tryz.sizeOf21
  v21 := Tryz.zeroValue21
  t37 := Tryz.underlying139
  a37 := Tryz.isAgg139
  z37 := Tryz.sizeOf139
  v37 := Tryz.zeroValue139
  t46 := Tryz.underlying157
  a46 := Tryz.isAgg157
  z46 := Tryz.sizeOf157
  v46 := Tryz.zeroValue157
  t51 := Tryz.underlying174
  a51 := Tryz.isAgg174
  z51 := Tryz.sizeOf174
  v51 := Tryz.zeroValue174
  t53 := Tryz.underlying177
  a53 := Tryz.isAgg177
  z53 := Tryz.sizeOf177
  v53 := Tryz.zeroValue177
  t75 := Tryz.underlying121
  a75 := Tryz.isAgg121
  z75 := Tryz.sizeOf121
  v75 := Tryz.zeroValue121
  t76 := Tryz.underlying122
  a76 := Tryz.isAgg122
  z76 := Tryz.sizeOf122
  v76 := Tryz.zeroValue122
  t85 := Tryz.underlying161
  a85 := Tryz.isAgg161
  z85 := Tryz.sizeOf161
  v85 := Tryz.zeroValue161
  t127 := Tryz.underlying198
  a127 := Tryz.isAgg198
  z127 := Tryz.sizeOf198
  v127 := Tryz.zeroValue198
  t143 := Tryz.underlying199
  a143 := Tryz.isAgg199
  z143 := Tryz.sizeOf199
  v143 := Tryz.zeroValue199
  t145 := Tryz.underlying201
  a145 := Tryz.isAgg201
  z145 := Tryz.sizeOf201
  v145 := Tryz.zeroValue201
  t167 := Tryz.underlying160
  a167 := Tryz.isAgg160
  z167 := Tryz.sizeOf160
  v167 := Tryz.zeroValue160
  t168 := Tryz.underlying163
  a168 := Tryz.isAgg163
  z168 := Tryz.sizeOf163
  v168 := Tryz.zeroValue163
  t171 := Tryz.underlying205
  a171 := Tryz.isAgg205
  z171 := Tryz.sizeOf205
  v171 := Tryz.zeroValue205
  t173 := Tryz.underlying208
  a173 := Tryz.isAgg208
  z173 := Tryz.sizeOf208
  v173 := Tryz.zeroValue208
  t175 := Tryz.underlying178
  a175 := Tryz.isAgg178
  z175 := Tryz.sizeOf178
  v175 := Tryz.zeroValue178
  t210 := Tryz.underlying181
  a210 := Tryz.isAgg181
  z210 := Tryz.sizeOf181
  v210 := Tryz.zeroValue181
  t212 := Tryz.underlying216
  a212 := Tryz.isAgg216
  z212 := Tryz.sizeOf216
  v212 := Tryz.zeroValue216
  t213 := Tryz.underlying217
  a213 := Tryz.isAgg217
  z213 := Tryz.sizeOf217
  t232 := Tryz.underlying229
  a232 := Tryz.isAgg229
  z232 := Tryz.sizeOf229
  v232 := Tryz.zeroValue229
  t233 := Tryz.underlying230
  a233 := Tryz.isAgg230
  z233 := Tryz.sizeOf230
  v233 := Tryz.zeroValue230
  g15 := by kernel_rfl
  g16 := by kernel_rfl
  g17 := by kernel_rfl
  g18 := by kernel_rfl
  g19 := by kernel_rfl
  t80 := Tryz.underlying166
  a80 := Tryz.isAgg166
  z80 := Tryz.sizeOf166
  v80 := Tryz.zeroValue166
  i0 := by kernel_rfl
  i2 := by kernel_rfl
  i3 := by kernel_rfl
  i4 := by kernel_rfl
  i5 := by kernel_rfl
  i9 := by kernel_rfl
  i20 := by kernel_rfl
  i21 := by kernel_rfl
  i37 := by kernel_rfl
  i46 := by kernel_rfl
  i51 := by kernel_rfl
  i53 := by kernel_rfl
  i75 := by kernel_rfl
  i76 := by kernel_rfl
  i80 := by kernel_rfl
  i85 := by kernel_rfl
  i127 := by kernel_rfl
  i143 := by kernel_rfl
  i145 := by kernel_rfl
  i167 := by kernel_rfl
  i168 := by kernel_rfl
  i171 := by kernel_rfl
  i173 := by kernel_rfl
  i175 := by kernel_rfl
  i210 := by kernel_rfl
  i212 := by kernel_rfl
  i232 := by kernel_rfl
  i233 := by kernel_rfl
  m15 := by kernel_rfl
  m16 := by kernel_rfl
  m17 := by kernel_rfl
  m18 := by kernel_rfl
  m19 := by kernel_rfl
  c0 := by kernel_rfl
  c2 := by kernel_rfl
  c3 := by kernel_rfl
  c4 := by kernel_rfl
  c5 := by kernel_rfl
  c9 := by kernel_rfl
  c20 := by kernel_rfl
  c21 := by kernel_rfl
  c37 := by kernel_rfl
  c46 := by kernel_rfl
  c51 := by kernel_rfl
  c53 := by kernel_rfl
  c75 := by kernel_rfl
  c76 := by kernel_rfl
  c80 := by kernel_rfl
  c85 := by kernel_rfl
  c127 := by kernel_rfl
  c143 := by kernel_rfl
  c145 := by kernel_rfl
  c167 := by kernel_rfl
  c168 := by kernel_rfl
  c171 := by kernel_rfl
  c173 := by kernel_rfl
  c175 := by kernel_rfl
  c210 := by kernel_rfl
  c212 := by kernel_rfl
  c213 := by kernel_rfl
  c232 := by kernel_rfl
  c233 := by kernel_rfl }
end Go.Proofs
namespace Go.Pi
open Go.Proofs
theorem atoiM : AtoiM E.P 87 1 2 5 := ⟨fun s v w h1 h2 => Any.strconv_Atoi_ok Tryz.laysC172 s h1 v h2 w, fun s ev w h1 h2 h3 h4 => by
  cases ha : Lib.atoiAll s.data.toList
  · rename_i v; exact absurd ha (h2.1 v)
  · exact (Any.strconv_Atoi_syntax Tryz.laysC172 s h1 ha ev w h3 h4).mono fun e w' ⟨N, he, _, _, hb⟩ => ⟨⟨_, _, he⟩, hb⟩
  · exact absurd ha h2.2, fun s ev w h1 h2 h3 h4 => (Any.strconv_Atoi_range Tryz.laysC172 s h1 h2 ev w h3 h4).mono fun e w' ⟨N, he, _, _, hb⟩ => ⟨⟨_, _, he⟩, hb⟩⟩
end Go.Pi
namespace Go.Pi
open Go.Proofs
theorem bH_.ok (n : Nat) (_ : CxOk E (cx n bH_.d.nt)) (_ : KPar (cx n bH_.d.nt)) : bH_.d.Ok E (bH_.F (n + 1)) := fun _ _ h => nAtoi_ok atoiM (.tail _ (.tail _ (.head _))) (.tail _ (.tail _ (.tail _ (.head _)))) h
end Go.Pi
end
section
set_option linter.unusedVariables false
set_option linter.unusedSimpArgs false
namespace Go.Proofs
open Go.Shelf
def Tryz.lays219_ren : Go.Shelf.Ren := ⟨fun | 219 => 111 | 217 => 136 | 225 => 137 | 224 => 138 | 267 => 139 | 266 => 174 | 314 => 175 | n => n, fun | 9 => 9 | 3 => 3 | 4 => 4 | 5 => 5 | 46 => 157 | 146 => 175 | 51 => 174 | n => n, fun | 1 => 0 | n => n⟩
theorem Tryz.lays219 : Go.Proofs.Lays.n219 Tryz.prog Tryz.lays219_ren := {
  mixed := by kernel_rfl
  f217 := Tryz.func136.trans (congrArg some (by kernel_rfl))
  f219 := Tryz.func111.trans (congrArg some (by kernel_rfl))
  f224 := Tryz.func138.trans (congrArg some (by kernel_rfl))
  f225 := Tryz.func137.trans (congrArg some (by kernel_rfl))
  f266 := Tryz.func174.trans (congrArg some (by kernel_rfl))
  f267 := Tryz.func139.trans (congrArg some (by kernel_rfl))
  f314 := Tryz.func175.trans (congrArg some (by kernel_rfl))
  t3 := Tryz.underlying3
  a3 := Tryz.isAgg3
  z3 := Tryz.sizeOf3
  v3 := Tryz.zeroValue3
  t4 := Tryz.underlying4
  a4 := Tryz.isAgg4
  z4 := Tryz.sizeOf4
  v4 := Tryz.zeroValue4
  t5 := Tryz.underlying5
  a5 := Tryz.isAgg5
  z5 := Tryz.sizeOf5
  v5 := Tryz.zeroValue5
  t9 := Tryz.underlying9
  a9 := Tryz.isAgg9
  z9 := Tryz.sizeOf9
  v9 := Tryz.zeroValue9
  t46 := Tryz.underlying157
  a46 := Tryz.isAgg157
  z46 := Tryz.sizeOf157
  v46 := Tryz.zeroValue157
  t51 := Tryz.underlying174
  a51 := Tryz.isAgg174
  z51 := Tryz.sizeOf174
  v51 := Tryz.zeroValue174
  t146 := Tryz.underlying175
  a146 := Tryz.isAgg175
  z146 := Tryz.sizeOf175
  v146 := Tryz.zeroValue175
  g1 := by kernel_rfl }
open Go.RowKit Go.Sort Go.Lib in
theorem Tryz.stringslite_Index_one (s : ByteArray) (c : UInt8) (w : World) :
    Calls Tryz.prog 111 #[.string s, .string ⟨#[c]⟩] w fun e w' => e = .returned (.int .i64 (Lib.indexByte s.data.toList c)) ∧ w' = w := Any.stringslite_Index_one Tryz.lays219 s c w
end Go.Proofs
namespace Go.Pi
open Go.Proofs
theorem a2_.ok (n : Nat) (_ : CxOk E (cx n a2_.d.nt)) (_ : KPar (cx n a2_.d.nt)) : a2_.d.Ok E (a2_.F (n + 1)) := fun _ _ h => nIndex_ok (fun s c w => Tryz.stringslite_Index_one s c w) h
end Go.Pi
end
section
set_option linter.unusedVariables false
set_option linter.unusedSimpArgs false
namespace Go.Proofs
open Go.Shelf
def Tryz.laysM171_ren : Go.Shelf.Ren := ⟨fun | 171 => 128 | 243 => 159 | 246 => 183 | 283 => 203 | 284 => 204 | 285 => 205 | 286 => 206 | 129 => 219 | 317 => 218 | 318 => 220 | 319 => 221 | 320 => 222 | 337 => 231 | 338 => 232 | n => n, fun | 3 => 3 | 9 => 9 | 2 => 2 | 4 => 4 | 171 => 205 | 0 => 0 | 53 => 177 | 37 => 139 | 5 => 5 | 173 => 208 | 212 => 216 | 51 => 174 | 20 => 20 | 213 => 217 | 46 => 157 | 232 => 229 | 233 => 230 | n => n, fun | 17 => 3 | 18 => 6 | 19 => 7 | n => n⟩
theorem Tryz.laysM171 : Go.Proofs.LaysM.n171 Tryz.prog Tryz.laysM171_ren := {
  mixed := by kernel_rfl
  f129 := Tryz.func219.trans (congrArg some (by kernel_rfl))
  f171 := Tryz.func128.trans (congrArg some (by kernel_rfl))
  f243 := Tryz.func159.trans (congrArg some (by kernel_rfl))
  f246 := Tryz.func183.trans (congrArg some (by kernel_rfl))
  f283 := Tryz.func203.trans (congrArg some (by kernel_rfl))
  f284 := Tryz.func204.trans (congrArg some (by kernel_rfl))
  f285 := Tryz.func205.trans (congrArg some (by kernel_rfl))
  f286 := Tryz.func206.trans (congrArg some (by kernel_rfl))
  f317 := Tryz.func218.trans (congrArg some (by kernel_rfl))
  f318 := Tryz.func220.trans (congrArg some (by kernel_rfl))
  f319 := Tryz.func221.trans (congrArg some (by kernel_rfl))
  f320 := Tryz.func222.trans (congrArg some (by kernel_rfl))
  f337 := Tryz.func231.trans (congrArg some (by kernel_rfl))
  f338 := Tryz.func232.trans (congrArg some (by kernel_rfl))
  t0 := Tryz.underlying0
  a0 := Tryz.isAgg0
  z0 := Tryz.sizeOf0
  v0 := Tryz.zeroValue0
  t2 := Tryz.underlying2
  a2 := Tryz.isAgg2
  z2 := Tryz.sizeOf2
  v2 := Tryz.zeroValue2
  t3 := Tryz.underlying3
  a3 := Tryz.isAgg3
  z3 := Tryz.sizeOf3
  v3 := Tryz.zeroValue3
  t4 := Tryz.underlying4
  a4 := Tryz.isAgg4
  z4 := Tryz.sizeOf4
  v4 := Tryz.zeroValue4
  t5 := Tryz.underlying5
  a5 := Tryz.isAgg5
  z5 := Tryz.sizeOf5
  v5 := Tryz.zeroValue5
  t9 := Tryz.underlying9
  a9 := Tryz.isAgg9
  z9 := Tryz.sizeOf9
  v9 := Tryz.zeroValue9
  t20 := Tryz.underlying20
  a20 := Tryz.isAgg20
  z20 := Tryz.sizeOf20
  v20 := Tryz.zeroValue20
  t37 := Tryz.underlying139
  a37 := Tryz.isAgg139
  z37 := Tryz.sizeOf139
  v37 := Tryz.zeroValue139
  t46 := Tryz.underlying157
  a46 := Tryz.isAgg157
  z46 := Tryz.sizeOf157
  v46 := Tryz.zeroValue157
  t51 := Tryz.underlying174
  a51 := Tryz.isAgg174
  z51 := Tryz.sizeOf174
  v51 := Tryz.zeroValue174
  t53 := Tryz.underlying177
  a53 := Tryz.isAgg177
  z53 := Tryz.sizeOf177
  v53 := Tryz.zeroValue177
  t171 := Tryz.underlying205
  a171 := Tryz.isAgg205
  z171 := Tryz.sizeOf205
  v171 := Tryz.zeroValue205
  t173 := Tryz.underlying208
  a173 := Tryz.isAgg208
  z173 := Tryz.sizeOf208
  v173 := Tryz.zeroValue208
  t212 := Tryz.underlying216
  a212 := Tryz.isAgg216
  z212 := Tryz.sizeOf216
  v212 := Tryz.zeroValue216
  t213 := Tryz.underlying217
  a213 := Tryz.isAgg217
  z213 := Tryz.sizeOf217
  t232 := Tryz.underlying229
  a232 := Tryz.isAgg229
  z232 := Tryz.sizeOf229
  v232 := Tryz.zeroValue229
  t233 := Tryz.underlying230
  a233 := Tryz.isAgg230
  z233 := Tryz.sizeOf230
  v233 := Tryz.zeroValue230
  g17 := by kernel_rfl
  g18 := by kernel_rfl
  g19 := by kernel_rfl
  i0 := by kernel_rfl
  i2 := by kernel_rfl
  i3 := by kernel_rfl
  i4 := by kernel_rfl
  i5 := by kernel_rfl
  i9 := by kernel_rfl
  i20 := by kernel_rfl
  i37 := by kernel_rfl
  i46 := by kernel_rfl
  i51 := by kernel_rfl
  i53 := by kernel_rfl
  i171 := by kernel_rfl
  i173 := by kernel_rfl
  i212 := by kernel_rfl
  i232 := by kernel_rfl
  i233 := by kernel_rfl
  m17 := by kernel_rfl
  m18 := by kernel_rfl
  m19 := by kernel_rfl }
open Go.RowKit Go.Sort Go.Lib in
theorem Tryz.strconv_Itoa (n : Int) (h0 : -9223372036854775808 ≤ n) (h1 : n ≤ 9223372036854775807) (w : World) (htab : Lib.TabIs Tryz.prog w "internal/strconv.uint64pow10" .u64 Lib.pow10Tab) :
    Calls Tryz.prog 128 #[.int .i64 n] w fun e w' => e = .returned (.string ⟨(Lib.itoa n).toArray⟩) ∧ ∃ k os, w' = grow (w.drewN k) os := Any.strconv_Itoa Tryz.laysM171 n h0 h1 w htab
end Go.Proofs
namespace Go.Pi
open Go.Proofs
theorem in_ : E.P.globalNamed "internal/strconv.uint64pow10" = some 3 := by kernel_rfl
theorem strconv_Itoa.ok (n : Nat) (_ : CxOk E (cx n strconv_Itoa.d.nt)) (_ : KPar (cx n strconv_Itoa.d.nt)) : strconv_Itoa.d.Ok E (strconv_Itoa.F (n + 1)) := fun _ _ h => nItoa_ok (fun n h0 h1 w ht => Tryz.strconv_Itoa n h0 h1 w ht) (.head _) in_ h
end Go.Pi
end
section
set_option linter.unusedVariables false
set_option linter.unusedSimpArgs false
namespace Go.Proofs
open Go.Shelf
def Tryz.lays156_ren : Go.Shelf.Ren := ⟨fun | 156 => 161 | 165 => 184 | 166 => 185 | 169 => 186 | 240 => 207 | 241 => 208 | 276 => 223 | 277 => 224 | n => n, fun | 31 => 23 | 9 => 9 | 3 => 3 | 4 => 4 | 0 => 0 | 20 => 20 | 72 => 189 | 76 => 122 | 70 => 187 | 37 => 139 | 75 => 121 | 127 => 198 | 164 => 219 | 5 => 5 | 80 => 166 | n => n, fun | n => n⟩
theorem Tryz.lays156 : Go.Proofs.Lays.n156 Tryz.prog Tryz.lays156_ren := {
  mixed := by kernel_rfl
  f156 := Tryz.func161.trans (congrArg some (by kernel_rfl))
  f165 := Tryz.func184.trans (congrArg some (by kernel_rfl))
  f166 := Tryz.func185.trans (congrArg some (by kernel_rfl))
  f169 := Tryz.func186.trans (congrArg some (by kernel_rfl))
  f240 := Tryz.func207.trans (congrArg some (by kernel_rfl))
  f241 := Tryz.func208.trans (congrArg some (by kernel_rfl))
  f276 := Tryz.func223.trans (congrArg some (by kernel_rfl))
  f277 := Tryz.func224.trans (congrArg some (by kernel_rfl))
  t0 := Tryz.underlying0
  a0 := Tryz.isAgg0
  z0 := Tryz.sizeOf0
  v0 := Tryz.zeroValue0
  t3 := Tryz.underlying3
  a3 := Tryz.isAgg3
  z3 := Tryz.sizeOf3
  v3 := Tryz.zeroValue3
  t4 := Tryz.underlying4
  a4 := Tryz.isAgg4
  z4 := Tryz.sizeOf4
  v4 := Tryz.zeroValue4
  t9 := Tryz.underlying9
  a9 := Tryz.isAgg9
  z9 := Tryz.sizeOf9
  v9 := Tryz.zeroValue9
  t20 := Tryz.underlying20
  a20 := Tryz.isAgg20
  z20 := Tryz.sizeOf20
  v20 := Tryz.zeroValue20
  t31 := Tryz.underlying23
  a31 := Tryz.isAgg23
  z31 := Tryz.sizeOf23
  v31 := Tryz.zeroValue23
  t37 := Tryz.underlying139
  a37 := Tryz.isAgg139
  z37 := Tryz.sizeOf139
  v37 := Tryz.zeroValue139
  t70 := Tryz.underlying187
  a70 := Tryz.isAgg187
  z70 := Tryz.sizeOf187
  v70 := Tryz.zeroValue187
  t72 := Tryz.underlying189
  a72 := Tryz.isAgg189
  z72 := Tryz.sizeOf189
  v72 := Tryz.zeroValue189
  t75 := Tryz.underlying121
  a75 := Tryz.isAgg121
  z75 := Tryz.sizeOf121
  v75 := Tryz.zeroValue121
  t76 := Tryz.underlying122
  a76 := Tryz.isAgg122
  z76 := Tryz.sizeOf122
  v76 := Tryz.zeroValue122
  t127 := Tryz.underlying198
  a127 := Tryz.isAgg198
  z127 := Tryz.sizeOf198
  v127 := Tryz.zeroValue198
  t164 := Tryz.underlying219
  a164 := Tryz.isAgg219
  z164 := Tryz.sizeOf219
  v164 := Tryz.zeroValue219 }
theorem Tryz.Builder_Extra_156 : Builder.Extra Tryz.prog Tryz.lays156_ren := {
  sizeBuilder := by kernel_rfl
  liesBuilder := by kernel_rfl
  t5 := Tryz.underlying5
  a5 := Tryz.isAgg5
  z5 := Tryz.sizeOf5
  v5 := Tryz.zeroValue5
  infoByte := by kernel_rfl
  cellsByte := by kernel_rfl
  sizeByte := by kernel_rfl
  neB5 := by decide }
open Go.RowKit Go.Sort Go.Lib in
theorem Tryz.strings_Join_none (a : Option Addr) (c : Nat) (sep : ByteArray) (w : World) :
    Calls Tryz.prog 161 #[.slice a 0 c, .string sep] w fun e w' => e = .returned (.string ⟨#[]⟩) ∧ w' = w := Any.strings_Join_none Tryz.lays156 Tryz.Builder_Extra_156 a c sep w
open Go.RowKit Go.Sort Go.Lib in
theorem Tryz.strings_Join (bk o c : Nat) (xs : List ByteArray) (sep : ByteArray) (w : World) (hcells : ∀ (j : Nat) x, xs[j]? = some x → w.cell? ⟨bk, o + j, none⟩ = some (.string x)) (hbk : bk < w.heap.size) (hN : xs.length ≤ 140737488355328) (hcap : xs.length ≤ c) (hlen : (Lib.join (xs.map (·.data.toList)) sep.data.toList).length ≤ 140737488355328) :
    Calls Tryz.prog 161 #[.slice (some ⟨bk, o, none⟩) xs.length c, .string sep] w fun e w' => e = .returned (.string ⟨(Lib.join (xs.map (·.data.toList)) sep.data.toList).toArray⟩) ∧ Below w.heap.size w w' := Any.strings_Join Tryz.lays156 Tryz.Builder_Extra_156 bk o c xs sep w hcells hbk hN hcap hlen
end Go.Proofs
namespace Go.Pi
open Go.Proofs
theorem strings_Join.ok (n : Nat) (_ : CxOk E (cx n strings_Join.d.nt)) (_ : KPar (cx n strings_Join.d.nt)) : strings_Join.d.Ok E (strings_Join.F (n + 1)) := fun _ _ h => nJoin_ok ⟨fun a c sep w => Tryz.strings_Join_none a c sep w, fun bk o c xs sep w h1 h2 h3 h4 h5 => Tryz.strings_Join bk o c xs sep w h1 h2 h3 h4 h5⟩ (fun _ => rfl) h
end Go.Pi
end
section
set_option linter.unusedVariables false
set_option linter.unusedSimpArgs false
namespace Go.Proofs
open Go.Shelf
def Tryz.lays146_ren : Go.Shelf.Ren := ⟨fun | 146 => 180 | 221 => 199 | 268 => 215 | 138 => 216 | 143 => 72 | 195 => 228 | 197 => 217 | 218 => 229 | 219 => 111 | 260 => 230 | 217 => 136 | 225 => 137 | 224 => 138 | 267 => 139 | 266 => 174 | 314 => 175 | n => n, fun | 9 => 9 | 31 => 23 | 3 => 3 | 4 => 4 | 0 => 0 | 105 => 213 | 21 => 21 | 5 => 5 | 46 => 157 | 119 => 225 | 139 => 228 | 138 => 227 | 146 => 175 | 51 => 174 | n => n, fun | 1 => 0 | 3 => 4 | 4 => 5 | n => n⟩
theorem Tryz.lays146 : Go.Proofs.Lays.n146 Tryz.prog Tryz.lays146_ren := {
  mixed := by kernel_rfl
  f138 := Tryz.func216.trans (congrArg some (by kernel_rfl))
  f143 := Tryz.func72.trans (congrArg some (by kernel_rfl))
  f146 := Tryz.func180.trans (congrArg some (by kernel_rfl))
  f195 := Tryz.func228.trans (congrArg some (by kernel_rfl))
  f197 := Tryz.func217.trans (congrArg some (by kernel_rfl))
  f217 := Tryz.func136.trans (congrArg some (by kernel_rfl))
  f218 := Tryz.func229.trans (congrArg some (by kernel_rfl))
  f219 := Tryz.func111.trans (congrArg some (by kernel_rfl))
  f221 := Tryz.func199.trans (congrArg some (by kernel_rfl))
  f224 := Tryz.func138.trans (congrArg some (by kernel_rfl))
  f225 := Tryz.func137.trans (congrArg some (by kernel_rfl))
  f260 := Tryz.func230.trans (congrArg some (by kernel_rfl))
  f266 := Tryz.func174.trans (congrArg some (by kernel_rfl))
  f267 := Tryz.func139.trans (congrArg some (by kernel_rfl))
  f268 := Tryz.func215.trans (congrArg some (by kernel_rfl))
  f314 := Tryz.func175.trans (congrArg some (by kernel_rfl))
  t0 := Tryz.underlying0
  a0 := Tryz.isAgg0
  z0 := Tryz.sizeOf0
  v0 := Tryz.zeroValue0
  t3 := Tryz.underlying3
  a3 := Tryz.isAgg3
  z3 := Tryz.sizeOf3
  v3 := Tryz.zeroValue3
  t4 := Tryz.underlying4
  a4 := Tryz.isAgg4
  z4 := Tryz.sizeOf4
  v4 := Tryz.zeroValue4
  t5 := Tryz.underlying5
  a5 := Tryz.isAgg5
  z5 := Tryz.sizeOf5
  v5 := Tryz.zeroValue5
  t9 := Tryz.underlying9
  a9 := Tryz.isAgg9
  z9 := Tryz.sizeOf9
  v9 := Tryz.zeroValue9
  t21 := Tryz.underlying21
  a21 := Tryz.isAgg21
  z21 := Tryz.sizeOf21
  v21 := Tryz.zeroValue21
  t31 := Tryz.underlying23
  a31 := Tryz.isAgg23
  z31 := Tryz.sizeOf23
  v31 := Tryz.zeroValue23
  t46 := Tryz.underlying157
  a46 := Tryz.isAgg157
  z46 := Tryz.sizeOf157
  v46 := Tryz.zeroValue157
  t51 := Tryz.underlying174
  a51 := Tryz.isAgg174
  z51 := Tryz.sizeOf174
  v51 := Tryz.zeroValue174
  t105 := Tryz.underlying213
  a105 := Tryz.isAgg213
  z105 := Tryz.sizeOf213
  v105 := Tryz.zeroValue213
  t119 := Tryz.underlying225
  a119 := Tryz.isAgg225
  z119 := Tryz.sizeOf225
  t138 := Tryz.underlying227
  a138 := Tryz.isAgg227
  z138 := Tryz.sizeOf227
  v138 := Tryz.zeroValue227
  t139 := Tryz.underlying228
  a139 := Tryz.isAgg228
  z139 := Tryz.sizeOf228
  v139 := Tryz.zeroValue228
  t146 := Tryz.underlying175
  a146 := Tryz.isAgg175
  z146 := Tryz.sizeOf175
  v146 := Tryz.zeroValue175
  g1 := by kernel_rfl
  g3 := by kernel_rfl
  g4 := by kernel_rfl }
open Go.RowKit Go.Sort Go.Lib in
theorem Tryz.strings_Split (s sep : ByteArray) (m : Int) (w : World) (hs : s.size < 4294967281) (hm : w.cell? ⟨0, 0, none⟩ = some (.int .i64 m)) (h1 : 1 ≤ sep.size) :
    Calls Tryz.prog 180 #[.string s, .string sep] w fun e w' =>
      e = .returned (.slice (some ⟨w.heap.size, 0, none⟩) (Lib.countB s sep + 1) (Lib.countB s sep + 1)) ∧ w' = w.alloc (.cells ((Lib.splitB sep 0 (Lib.countB s sep) s).map Value.string).toArray 9) := Any.strings_Split Tryz.lays146 (by kernel_rfl) s sep m w hs hm h1
end Go.Proofs
namespace Go.Pi
open Go.Proofs
theorem strings_Split.ok (n : Nat) (_ : CxOk E (cx n strings_Split.d.nt)) (_ : KPar (cx n strings_Split.d.nt)) : strings_Split.d.Ok E (strings_Split.F (n + 1)) := fun _ _ h => nSplit_ok (g := 0) (T := 9) (fun s sep m w h1 h2 h3 => Tryz.strings_Split s sep m w h1 h2 h3) (.tail _ (.head _)) rfl (fun _ _ => rfl) rfl h
end Go.Pi
end
section
set_option linter.unusedVariables false
set_option linter.unusedSimpArgs false
namespace Go.Proofs
open Go.Shelf
def Tryz.lays155_ren : Go.Shelf.Ren := ⟨fun | 155 => 181 | 154 => 200 | 138 => 216 | 165 => 184 | 143 => 72 | 166 => 185 | 197 => 217 | 169 => 186 | 195 => 228 | 218 => 229 | 240 => 207 | 241 => 208 | 219 => 111 | 260 => 230 | 276 => 223 | 277 => 224 | 217 => 136 | 225 => 137 | 224 => 138 | 267 => 139 | 266 => 174 | 314 => 175 | n => n, fun | 9 => 9 | 3 => 3 | 4 => 4 | 72 => 189 | 0 => 0 | 76 => 122 | 105 => 213 | 21 => 21 | 5 => 5 | 70 => 187 | 20 => 20 | 37 => 139 | 75 => 121 | 127 => 198 | 164 => 219 | 46 => 157 | 119 => 225 | 139 => 228 | 138 => 227 | 146 => 175 | 51 => 174 | 80 => 166 | n => n, fun | 1 => 0 | 3 => 4 | 4 => 5 | n => n⟩
theorem Tryz.lays155 : Go.Proofs.Lays.n155 Tryz.prog Tryz.lays155_ren := {
  mixed := by kernel_rfl
  f138 := Tryz.func216.trans (congrArg some (by kernel_rfl))
  f143 := Tryz.func72.trans (congrArg some (by kernel_rfl))
  f154 := Tryz.func200.trans (congrArg some (by kernel_rfl))
  f155 := Tryz.func181.trans (congrArg some (by kernel_rfl))
  f165 := Tryz.func184.trans (congrArg some (by kernel_rfl))
  f166 := Tryz.func185.trans (congrArg some (by kernel_rfl))
  f169 := Tryz.func186.trans (congrArg some (by kernel_rfl))
  f195 := Tryz.func228.trans (congrArg some (by kernel_rfl))
  f197 := Tryz.func217.trans (congrArg some (by kernel_rfl))
  f217 := Tryz.func136.trans (congrArg some (by kernel_rfl))
  f218 := Tryz.func229.trans (congrArg some (by kernel_rfl))
  f219 := Tryz.func111.trans (congrArg some (by kernel_rfl))
  f224 := Tryz.func138.trans (congrArg some (by kernel_rfl))
  f225 := Tryz.func137.trans (congrArg some (by kernel_rfl))
  f240 := Tryz.func207.trans (congrArg some (by kernel_rfl))
  f241 := Tryz.func208.trans (congrArg some (by kernel_rfl))
  f260 := Tryz.func230.trans (congrArg some (by kernel_rfl))
  f266 := Tryz.func174.trans (congrArg some (by kernel_rfl))
  f267 := Tryz.func139.trans (congrArg some (by kernel_rfl))
  f276 := Tryz.func223.trans (congrArg some (by kernel_rfl))
  f277 := Tryz.func224.trans (congrArg some (by kernel_rfl))
  f314 := Tryz.func175.trans (congrArg some (by kernel_rfl))
  t0 := Tryz.underlying0
  a0 := Tryz.isAgg0
  z0 := Tryz.sizeOf0
  v0 := Tryz.zeroValue0
  t3 := Tryz.underlying3
  a3 := Tryz.isAgg3
  z3 := Tryz.sizeOf3
  v3 := Tryz.zeroValue3
  t4 := Tryz.underlying4
  a4 := Tryz.isAgg4
  z4 := Tryz.sizeOf4
  v4 := Tryz.zeroValue4
  t5 := Tryz.underlying5
  a5 := Tryz.isAgg5
  z5 := Tryz.sizeOf5
  v5 := Tryz.zeroValue5
  t9 := Tryz.underlying9
  a9 := Tryz.isAgg9
  z9 := Tryz.sizeOf9
  v9 := Tryz.zeroValue9
  t20 := Tryz.underlying20
  a20 := Tryz.isAgg20
  z20 := Tryz.sizeOf20
  v20 := Tryz.zeroValue20
  t21 := Tryz.underlying21
  a21 := Tryz.isAgg21
  z21 := Tryz.sizeOf21
  v21 := Tryz.zeroValue21
  t37 := Tryz.underlying139
  a37 := Tryz.isAgg139
  z37 := Tryz.sizeOf139
  v37 := Tryz.zeroValue139
  t46 := Tryz.underlying157
  a46 := Tryz.isAgg157
  z46 := Tryz.sizeOf157
  v46 := Tryz.zeroValue157
  t51 := Tryz.underlying174
  a51 := Tryz.isAgg174
  z51 := Tryz.sizeOf174
  v51 := Tryz.zeroValue174
  t70 := Tryz.underlying187
  a70 := Tryz.isAgg187
  z70 := Tryz.sizeOf187
  v70 := Tryz.zeroValue187
  t72 := Tryz.underlying189
  a72 := Tryz.isAgg189
  z72 := Tryz.sizeOf189
  v72 := Tryz.zeroValue189
  t75 := Tryz.underlying121
  a75 := Tryz.isAgg121
  z75 := Tryz.sizeOf121
  v75 := Tryz.zeroValue121
  t76 := Tryz.underlying122
  a76 := Tryz.isAgg122
  z76 := Tryz.sizeOf122
  v76 := Tryz.zeroValue122
  t105 := Tryz.underlying213
  a105 := Tryz.isAgg213
  z105 := Tryz.sizeOf213
  v105 := Tryz.zeroValue213
  t119 := Tryz.underlying225
  a119 := Tryz.isAgg225
  z119 := Tryz.sizeOf225
  t127 := Tryz.underlying198
  a127 := Tryz.isAgg198
  z127 := Tryz.sizeOf198
  v127 := Tryz.zeroValue198
  t138 := Tryz.underlying227
  a138 := Tryz.isAgg227
  z138 := Tryz.sizeOf227
  v138 := Tryz.zeroValue227
  t139 := Tryz.underlying228
  a139 := Tryz.isAgg228
  z139 := Tryz.sizeOf228
  v139 := Tryz.zeroValue228
  t146 := Tryz.underlying175
  a146 := Tryz.isAgg175
  z146 := Tryz.sizeOf175
  v146 := Tryz.zeroValue175
  t164 := Tryz.underlying219
  a164 := Tryz.isAgg219
  z164 := Tryz.sizeOf219
  v164 := Tryz.zeroValue219
  g1 := by kernel_rfl
  g3 := by kernel_rfl
  g4 := by kernel_rfl }
theorem Tryz.Builder_Extra_155 : Builder.Extra Tryz.prog Tryz.lays155_ren := {
  sizeBuilder := by kernel_rfl
  liesBuilder := by kernel_rfl
  t5 := Tryz.underlying5
  a5 := Tryz.isAgg5
  z5 := Tryz.sizeOf5
  v5 := Tryz.zeroValue5
  infoByte := by kernel_rfl
  cellsByte := by kernel_rfl
  sizeByte := by kernel_rfl
  neB5 := by decide }
open Go.RowKit Go.Sort Go.Lib in
theorem Tryz.strings_ReplaceAll (s old new : ByteArray) (m : Int) (w : World) (hs : s.size < 4294967281) (hm : w.cell? ⟨0, 0, none⟩ = some (.int .i64 m)) (h1 : 1 ≤ old.size) (hlen : s.size + Lib.countB s old * new.size ≤ 140737488355328) :
    Calls Tryz.prog 181 #[.string s, .string old, .string new] w fun e w' =>
      e = .returned (.string ⟨(Lib.replaceAll s.data.toList old.data.toList new.data.toList).toArray⟩) ∧ Below w.heap.size w w' := Any.strings_ReplaceAll Tryz.lays155 Tryz.Builder_Extra_155 s old new m w hs hm h1 hlen
end Go.Proofs
namespace Go.Pi
open Go.Proofs
theorem strings_ReplaceAll.ok (n : Nat) (_ : CxOk E (cx n strings_ReplaceAll.d.nt)) (_ : KPar (cx n strings_ReplaceAll.d.nt)) : strings_ReplaceAll.d.Ok E (strings_ReplaceAll.F (n + 1)) := fun _ _ h => nRepl_ok (g := 0) (fun s old new m w h1 h2 h3 h4 => Tryz.strings_ReplaceAll s old new m w h1 h2 h3 h4) (.tail _ (.head _)) h
end Go.Pi
end
section
set_option linter.unusedVariables false
set_option maxRecDepth 100000
namespace Go.Pi
open Go.Proofs
theorem kpar (n nt : Nat) : KPar (cx n nt) := KH_par (l := KL n) ⟨FD.kp, FD.kp, FD.kp, FD.kp, FD.kp, FD.kp, FD.kp, FD.kp, FD.kp, FD.kp, FD.kp, FD.kp, FD.kp, FD.kp, FD.kp, FD.kp, FD.kp, FD.kp, FD.kp, FD.kp, FD.kp, FD.kp, FD.kp, FD.kp, FD.kp, FD.kp, FD.kp, FD.kp, FD.kp, FD.kp, FD.kp, FD.kp, FD.kp, FD.kp, FD.kp, FD.kp, FD.kp, FD.kp, FD.kp, FD.kp, FD.kp, FD.kp, FD.kp, FD.kp, FD.kp, FD.kp, FD.kp, FD.kp, FD.kp, FD.kp, FD.kp, FD.kp, FD.kp, FD.kp, FD.kp, FD.kp, FD.kp, FD.kp, FD.kp, FD.kp, FD.kp, FD.kp, FD.kp, FD.kp, FD.kp, FD.kp, FD.kp, FD.kp, FD.kp, FD.kp, FD.kp, FD.kp, FD.kp, FD.kp, FD.kp, FD.kp, FD.kp, FD.kp, FD.kp, FD.kp, FD.kp, FD.kp, FD.kp, FD.kp, FD.kp, FD.kp, FD.kp, FD.kp, FD.kp, FD.kp, FD.kp, FD.kp, FD.kp, FD.kp, FD.kp, FD.kp, FD.kp, FD.kp, FD.kp, FD.kp, FD.kp, FD.kp, FD.kp, FD.kp, FD.kp, FD.kp, FD.kp, FD.kp, FD.kp, FD.kp, trivial⟩
structure AllOk (n : Nat) : Prop where
  h0 : aP_.d.Ok E (aP_.F n)
  h1 : bn_.d.Ok E (bn_.F n)
  h2 : bG_.d.Ok E (bG_.F n)
  h3 : ax_.d.Ok E (ax_.F n)
  h4 : aI_.d.Ok E (aI_.F n)
  h5 : bY_.d.Ok E (bY_.F n)
  h6 : bj_.d.Ok E (bj_.F n)
  h7 : ay_.d.Ok E (ay_.F n)
  h8 : aL_.d.Ok E (aL_.F n)
  h9 : ba_.d.Ok E (ba_.F n)
  h10 : a6_.d.Ok E (a6_.F n)
  h11 : ad_.d.Ok E (ad_.F n)
  h12 : cl_.d.Ok E (cl_.F n)
  h13 : aD_.d.Ok E (aD_.F n)
  h14 : bM_.d.Ok E (bM_.F n)
  h15 : aU_.d.Ok E (aU_.F n)
  h16 : aA_.d.Ok E (aA_.F n)
  h17 : bU_.d.Ok E (bU_.F n)
  h18 : b3_.d.Ok E (b3_.F n)
  h19 : bo_.d.Ok E (bo_.F n)
  h20 : a4_.d.Ok E (a4_.F n)
  h21 : cc_.d.Ok E (cc_.F n)
  h22 : bJ_.d.Ok E (bJ_.F n)
  h23 : aK_.d.Ok E (aK_.F n)
  h24 : ah_.d.Ok E (ah_.F n)
  h25 : bl_.d.Ok E (bl_.F n)
  h26 : ar_.d.Ok E (ar_.F n)
  h27 : bf_.d.Ok E (bf_.F n)
  h28 : b8_.d.Ok E (b8_.F n)
  h29 : bO_.d.Ok E (bO_.F n)
  h30 : aH_.d.Ok E (aH_.F n)
  h31 : a5_.d.Ok E (a5_.F n)
  h32 : b0_.d.Ok E (b0_.F n)
  h33 : bB_.d.Ok E (bB_.F n)
  h34 : ac_.d.Ok E (ac_.F n)
  h35 : aw_.d.Ok E (aw_.F n)
  h36 : aB_.d.Ok E (aB_.F n)
  h37 : bi_.d.Ok E (bi_.F n)
  h38 : a2_.d.Ok E (a2_.F n)
  h39 : aT_.d.Ok E (aT_.F n)
  h40 : cg_.d.Ok E (cg_.F n)
  h41 : az_.d.Ok E (az_.F n)
  h42 : bg_.d.Ok E (bg_.F n)
  h43 : b2_.d.Ok E (b2_.F n)
  h44 : bH_.d.Ok E (bH_.F n)
  h45 : a0_.d.Ok E (a0_.F n)
  h46 : bk_.d.Ok E (bk_.F n)
  h47 : bd_.d.Ok E (bd_.F n)
  h48 : ai_.d.Ok E (ai_.F n)
  h49 : af_.d.Ok E (af_.F n)
  h50 : aO_.d.Ok E (aO_.F n)
  h51 : ag_.d.Ok E (ag_.F n)
  h52 : aF_.d.Ok E (aF_.F n)
  h53 : a9_.d.Ok E (a9_.F n)
  h54 : as_.d.Ok E (as_.F n)
  h55 : am_.d.Ok E (am_.F n)
  h56 : cn_.d.Ok E (cn_.F n)
  h57 : aW_.d.Ok E (aW_.F n)
  h58 : bN_.d.Ok E (bN_.F n)
  h59 : a8_.d.Ok E (a8_.F n)
  h60 : strconv_Itoa.d.Ok E (strconv_Itoa.F n)
  h61 : strings_Join.d.Ok E (strings_Join.F n)
  h62 : aN_.d.Ok E (aN_.F n)
  h63 : bX_.d.Ok E (bX_.F n)
  h64 : bZ_.d.Ok E (bZ_.F n)
  h65 : aj_.d.Ok E (aj_.F n)
  h66 : bD_.d.Ok E (bD_.F n)
  h67 : aJ_.d.Ok E (aJ_.F n)
  h68 : ck_.d.Ok E (ck_.F n)
  h69 : strings_Split.d.Ok E (strings_Split.F n)
  h70 : strings_ReplaceAll.d.Ok E (strings_ReplaceAll.F n)
  h71 : aV_.d.Ok E (aV_.F n)
  h72 : a1_.d.Ok E (a1_.F n)
  h73 : bK_.d.Ok E (bK_.F n)
  h74 : b4_.d.Ok E (b4_.F n)
  h75 : bm_.d.Ok E (bm_.F n)
  h76 : b9_.d.Ok E (b9_.F n)
  h77 : cb_.d.Ok E (cb_.F n)
  h78 : ak_.d.Ok E (ak_.F n)
  h79 : ab_.d.Ok E (ab_.F n)
  h80 : cd_.d.Ok E (cd_.F n)
  h81 : bR_.d.Ok E (bR_.F n)
  h82 : b5_.d.Ok E (b5_.F n)
  h83 : bc_.d.Ok E (bc_.F n)
  h84 : bL_.d.Ok E (bL_.F n)
  h85 : bz_.d.Ok E (bz_.F n)
  h86 : aR_.d.Ok E (aR_.F n)
  h87 : bE_.d.Ok E (bE_.F n)
  h88 : b1_.d.Ok E (b1_.F n)
  h89 : ca_.d.Ok E (ca_.F n)
  h90 : bF_.d.Ok E (bF_.F n)
  h91 : bq_.d.Ok E (bq_.F n)
  h92 : aZ_.d.Ok E (aZ_.F n)
  h93 : aG_.d.Ok E (aG_.F n)
  h94 : bA_.d.Ok E (bA_.F n)
  h95 : cw_.d.Ok E (cw_.F n)
  h96 : bh_.d.Ok E (bh_.F n)
  h97 : bW_.d.Ok E (bW_.F n)
  h98 : aE_.d.Ok E (aE_.F n)
  h99 : ap_.d.Ok E (ap_.F n)
  h100 : au_.d.Ok E (au_.F n)
  h101 : bP_.d.Ok E (bP_.F n)
  h102 : aX_.d.Ok E (aX_.F n)
  h103 : bC_.d.Ok E (bC_.F n)
  h104 : aq_.d.Ok E (aq_.F n)
  h105 : av_.d.Ok E (av_.F n)
  h106 : bQ_.d.Ok E (bQ_.F n)
  h107 : aY_.d.Ok E (aY_.F n)
  h108 : by_.d.Ok E (by_.F n)
  h109 : laws_FnExactEventRead.d.Ok E (laws_FnExactEventRead.F n)
theorem kok (n nt : Nat) (a : AllOk n) : KOk E (cx n nt) := KH_ok (l := KL n) ⟨FD.kf (d := laws_FnExactEventRead.d) Tryz.func3 (by kernel_rfl) (by kernel_rfl) (by kernel_rfl) a.h109, FD.kf (d := ac_.d) Tryz.func9 (by kernel_rfl) (by kernel_rfl) (by kernel_rfl) a.h34, FD.kf (d := bq_.d) Tryz.func10 (by kernel_rfl) (by kernel_rfl) (by kernel_rfl) a.h91, FD.kf (d := bW_.d) Tryz.func11 (by kernel_rfl) (by kernel_rfl) (by kernel_rfl) a.h97, FD.kf (d := bC_.d) Tryz.func12 (by kernel_rfl) (by kernel_rfl) (by kernel_rfl) a.h103, FD.kf (d := by_.d) Tryz.func13 (by kernel_rfl) (by kernel_rfl) (by kernel_rfl) a.h108, FD.kf (d := aG_.d) Tryz.func39 (by kernel_rfl) (by kernel_rfl) (by kernel_rfl) a.h93, FD.kf (d := ap_.d) Tryz.func40 (by kernel_rfl) (by kernel_rfl) (by kernel_rfl) a.h99, FD.kf (d := aP_.d) Tryz.func43 (by kernel_rfl) (by kernel_rfl) (by kernel_rfl) a.h0, FD.kf (d := bn_.d) Tryz.func44 (by kernel_rfl) (by kernel_rfl) (by kernel_rfl) a.h1, FD.kf (d := bY_.d) Tryz.func45 (by kernel_rfl) (by kernel_rfl) (by kernel_rfl) a.h5, FD.kf (d := b3_.d) Tryz.func46 (by kernel_rfl) (by kernel_rfl) (by kernel_rfl) a.h18, FD.kf (d := aH_.d) Tryz.func47 (by kernel_rfl) (by kernel_rfl) (by kernel_rfl) a.h30, FD.kf (d := bB_.d) Tryz.func48 (by kernel_rfl) (by kernel_rfl) (by kernel_rfl) a.h33, FD.kf (d := bL_.d) Tryz.func49 (by kernel_rfl) (by kernel_rfl) (by kernel_rfl) a.h84, FD.kf (d := bF_.d) Tryz.func50 (by kernel_rfl) (by kernel_rfl) (by kernel_rfl) a.h90, FD.kf (d := bA_.d) Tryz.func51 (by kernel_rfl) (by kernel_rfl) (by kernel_rfl) a.h94, FD.kf (d := bh_.d) Tryz.func52 (by kernel_rfl) (by kernel_rfl) (by kernel_rfl) a.h96, FD.kf (d := bP_.d) Tryz.func53 (by kernel_rfl) (by kernel_rfl) (by kernel_rfl) a.h101, FD.kf (d := aX_.d) Tryz.func54 (by kernel_rfl) (by kernel_rfl) (by kernel_rfl) a.h102, FD.kf (d := bQ_.d) Tryz.func55 (by kernel_rfl) (by kernel_rfl) (by kernel_rfl) a.h106, FD.kf (d := aY_.d) Tryz.func56 (by kernel_rfl) (by kernel_rfl) (by kernel_rfl) a.h107, FD.kf (d := b0_.d) Tryz.func60 (by kernel_rfl) (by kernel_rfl) (by kernel_rfl) a.h32, FD.kf (d := a4_.d) Tryz.func61 (by kernel_rfl) (by kernel_rfl) (by kernel_rfl) a.h20, FD.kf (d := b1_.d) Tryz.func66 (by kernel_rfl) (by kernel_rfl) (by kernel_rfl) a.h88, FD.kf (d := aJ_.d) Tryz.func67 (by kernel_rfl) (by kernel_rfl) (by kernel_rfl) a.h67, FD.kf (d := aE_.d) Tryz.func69 (by kernel_rfl) (by kernel_rfl) (by kernel_rfl) a.h98, FD.kf (d := au_.d) Tryz.func70 (by kernel_rfl) (by kernel_rfl) (by kernel_rfl) a.h100, FD.kf (d := av_.d) Tryz.func73 (by kernel_rfl) (by kernel_rfl) (by kernel_rfl) a.h105, FD.kf (d := aq_.d) Tryz.func74 (by kernel_rfl) (by kernel_rfl) (by kernel_rfl) a.h104, FD.kf (d := ax_.d) Tryz.func75 (by kernel_rfl) (by kernel_rfl) (by kernel_rfl) a.h3, FD.kf (d := aI_.d) Tryz.func76 (by kernel_rfl) (by kernel_rfl) (by kernel_rfl) a.h4, FD.kf (d := ba_.d) Tryz.func77 (by kernel_rfl) (by kernel_rfl) (by kernel_rfl) a.h9, FD.kf (d := bU_.d) Tryz.func78 (by kernel_rfl) (by kernel_rfl) (by kernel_rfl) a.h17, FD.kf (d := cc_.d) Tryz.func79 (by kernel_rfl) (by kernel_rfl) (by kernel_rfl) a.h21, FD.kf (d := bJ_.d) Tryz.func80 (by kernel_rfl) (by kernel_rfl) (by kernel_rfl) a.h22, FD.kf (d := aK_.d) Tryz.func81 (by kernel_rfl) (by kernel_rfl) (by kernel_rfl) a.h23, FD.kf (d := bO_.d) Tryz.func82 (by kernel_rfl) (by kernel_rfl) (by kernel_rfl) a.h29, FD.kf (d := b8_.d) Tryz.func83 (by kernel_rfl) (by kernel_rfl) (by kernel_rfl) a.h28, FD.kf (d := a5_.d) Tryz.func84 (by kernel_rfl) (by kernel_rfl) (by kernel_rfl) a.h31, FD.kf (d := bi_.d) Tryz.func85 (by kernel_rfl) (by kernel_rfl) (by kernel_rfl) a.h37, FD.kf (d := b2_.d) Tryz.func86 (by kernel_rfl) (by kernel_rfl) (by kernel_rfl) a.h43, FD.kf (d := bH_.d) Tryz.func87 (by kernel_rfl) (by kernel_rfl) (by kernel_rfl) a.h44, FD.kf (d := bZ_.d) Tryz.func88 (by kernel_rfl) (by kernel_rfl) (by kernel_rfl) a.h64, FD.kf (d := bg_.d) Tryz.func89 (by kernel_rfl) (by kernel_rfl) (by kernel_rfl) a.h42, FD.kf (d := bc_.d) Tryz.func90 (by kernel_rfl) (by kernel_rfl) (by kernel_rfl) a.h83, FD.kf (d := ca_.d) Tryz.func91 (by kernel_rfl) (by kernel_rfl) (by kernel_rfl) a.h89, FD.kf (d := bX_.d) Tryz.func92 (by kernel_rfl) (by kernel_rfl) (by kernel_rfl) a.h63, FD.kf (d := aR_.d) Tryz.func93 (by kernel_rfl) (by kernel_rfl) (by kernel_rfl) a.h86, FD.kf (d := aZ_.d) Tryz.func94 (by kernel_rfl) (by kernel_rfl) (by kernel_rfl) a.h92, FD.kf (d := cw_.d) Tryz.func95 (by kernel_rfl) (by kernel_rfl) (by kernel_rfl) a.h95, FD.kf (d := cl_.d) Tryz.func98 (by kernel_rfl) (by kernel_rfl) (by kernel_rfl) a.h12, FD.kf (d := ah_.d) Tryz.func99 (by kernel_rfl) (by kernel_rfl) (by kernel_rfl) a.h24, FD.kf (d := bM_.d) Tryz.func100 (by kernel_rfl) (by kernel_rfl) (by kernel_rfl) a.h14, FD.kf (d := bz_.d) Tryz.func104 (by kernel_rfl) (by kernel_rfl) (by kernel_rfl) a.h85, FD.kf (d := aO_.d) Tryz.func105 (by kernel_rfl) (by kernel_rfl) (by kernel_rfl) a.h50, FD.kf (d := b4_.d) Tryz.func106 (by kernel_rfl) (by kernel_rfl) (by kernel_rfl) a.h74, FD.kf (d := bE_.d) Tryz.func107 (by kernel_rfl) (by kernel_rfl) (by kernel_rfl) a.h87, FD.kf (d := bD_.d) Tryz.func108 (by kernel_rfl) (by kernel_rfl) (by kernel_rfl) a.h66, FD.kf (d := bN_.d) Tryz.func109 (by kernel_rfl) (by kernel_rfl) (by kernel_rfl) a.h58, FD.kf (d := a2_.d) Tryz.func111 (by kernel_rfl) (by kernel_rfl) (by kernel_rfl) a.h38, FD.kf (d := bG_.d) Tryz.func112 (by kernel_rfl) (by kernel_rfl) (by kernel_rfl) a.h2, FD.kf (d := bj_.d) Tryz.func113 (by kernel_rfl) (by kernel_rfl) (by kernel_rfl) a.h6, FD.kf (d := ay_.d) Tryz.func114 (by kernel_rfl) (by kernel_rfl) (by kernel_rfl) a.h7, FD.kf (d := aL_.d) Tryz.func115 (by kernel_rfl) (by kernel_rfl) (by kernel_rfl) a.h8, FD.kf (d := aA_.d) Tryz.func116 (by kernel_rfl) (by kernel_rfl) (by kernel_rfl) a.h16, FD.kf (d := bo_.d) Tryz.func117 (by kernel_rfl) (by kernel_rfl) (by kernel_rfl) a.h19, FD.kf (d := bl_.d) Tryz.func118 (by kernel_rfl) (by kernel_rfl) (by kernel_rfl) a.h25, FD.kf (d := ar_.d) Tryz.func119 (by kernel_rfl) (by kernel_rfl) (by kernel_rfl) a.h26, FD.kf (d := bf_.d) Tryz.func120 (by kernel_rfl) (by kernel_rfl) (by kernel_rfl) a.h27, FD.kf (d := aB_.d) Tryz.func121 (by kernel_rfl) (by kernel_rfl) (by kernel_rfl) a.h36, FD.kf (d := cg_.d) Tryz.func122 (by kernel_rfl) (by kernel_rfl) (by kernel_rfl) a.h40, FD.kf (d := aF_.d) Tryz.func125 (by kernel_rfl) (by kernel_rfl) (by kernel_rfl) a.h52, FD.kf (d := az_.d) Tryz.func126 (by kernel_rfl) (by kernel_rfl) (by kernel_rfl) a.h41, FD.kf (d := b5_.d) Tryz.func127 (by kernel_rfl) (by kernel_rfl) (by kernel_rfl) a.h82, FD.kf (d := strconv_Itoa.d) Tryz.func128 (by kernel_rfl) (by kernel_rfl) (by kernel_rfl) a.h60, FD.kf (d := aN_.d) Tryz.func129 (by kernel_rfl) (by kernel_rfl) (by kernel_rfl) a.h62, FD.kf (d := cb_.d) Tryz.func130 (by kernel_rfl) (by kernel_rfl) (by kernel_rfl) a.h77, FD.kf (d := aD_.d) Tryz.func131 (by kernel_rfl) (by kernel_rfl) (by kernel_rfl) a.h13, FD.kf (d := aW_.d) Tryz.func133 (by kernel_rfl) (by kernel_rfl) (by kernel_rfl) a.h57, FD.kf (d := bm_.d) Tryz.func134 (by kernel_rfl) (by kernel_rfl) (by kernel_rfl) a.h75, FD.kf (d := aU_.d) Tryz.func140 (by kernel_rfl) (by kernel_rfl) (by kernel_rfl) a.h15, FD.kf (d := a6_.d) Tryz.func141 (by kernel_rfl) (by kernel_rfl) (by kernel_rfl) a.h10, FD.kf (d := aw_.d) Tryz.func142 (by kernel_rfl) (by kernel_rfl) (by kernel_rfl) a.h35, FD.kf (d := aT_.d) Tryz.func143 (by kernel_rfl) (by kernel_rfl) (by kernel_rfl) a.h39, FD.kf (d := a0_.d) Tryz.func149 (by kernel_rfl) (by kernel_rfl) (by kernel_rfl) a.h45, FD.kf (d := bk_.d) Tryz.func150 (by kernel_rfl) (by kernel_rfl) (by kernel_rfl) a.h46, FD.kf (d := ai_.d) Tryz.func151 (by kernel_rfl) (by kernel_rfl) (by kernel_rfl) a.h48, FD.kf (d := af_.d) Tryz.func152 (by kernel_rfl) (by kernel_rfl) (by kernel_rfl) a.h49, FD.kf (d := ag_.d) Tryz.func153 (by kernel_rfl) (by kernel_rfl) (by kernel_rfl) a.h51, FD.kf (d := ck_.d) Tryz.func154 (by kernel_rfl) (by kernel_rfl) (by kernel_rfl) a.h68, FD.kf (d := a1_.d) Tryz.func155 (by kernel_rfl) (by kernel_rfl) (by kernel_rfl) a.h72, FD.kf (d := aj_.d) Tryz.func156 (by kernel_rfl) (by kernel_rfl) (by kernel_rfl) a.h65, FD.kf (d := bK_.d) Tryz.func157 (by kernel_rfl) (by kernel_rfl) (by kernel_rfl) a.h73, FD.kf (d := bR_.d) Tryz.func158 (by kernel_rfl) (by kernel_rfl) (by kernel_rfl) a.h81, FD.kf (d := a8_.d) Tryz.func160 (by kernel_rfl) (by kernel_rfl) (by kernel_rfl) a.h59, FD.kf (d := strings_Join.d) Tryz.func161 (by kernel_rfl) (by kernel_rfl) (by kernel_rfl) a.h61, FD.kf (d := aV_.d) Tryz.func162 (by kernel_rfl) (by kernel_rfl) (by kernel_rfl) a.h71, FD.kf (d := b9_.d) Tryz.func163 (by kernel_rfl) (by kernel_rfl) (by kernel_rfl) a.h76, FD.kf (d := ad_.d) Tryz.func164 (by kernel_rfl) (by kernel_rfl) (by kernel_rfl) a.h11, FD.kf (d := cn_.d) Tryz.func168 (by kernel_rfl) (by kernel_rfl) (by kernel_rfl) a.h56, FD.kf (d := as_.d) Tryz.func169 (by kernel_rfl) (by kernel_rfl) (by kernel_rfl) a.h54, FD.kf (d := bd_.d) Tryz.func179 (by kernel_rfl) (by kernel_rfl) (by kernel_rfl) a.h47, FD.kf (d := strings_Split.d) Tryz.func180 (by kernel_rfl) (by kernel_rfl) (by kernel_rfl) a.h69, FD.kf (d := strings_ReplaceAll.d) Tryz.func181 (by kernel_rfl) (by kernel_rfl) (by kernel_rfl) a.h70, FD.kf (d := cd_.d) Tryz.func182 (by kernel_rfl) (by kernel_rfl) (by kernel_rfl) a.h80, FD.kf (d := a9_.d) Tryz.func189 (by kernel_rfl) (by kernel_rfl) (by kernel_rfl) a.h53, FD.kf (d := am_.d) Tryz.func190 (by kernel_rfl) (by kernel_rfl) (by kernel_rfl) a.h55, FD.kf (d := ak_.d) Tryz.func201 (by kernel_rfl) (by kernel_rfl) (by kernel_rfl) a.h78, FD.kf (d := ab_.d) Tryz.func202 (by kernel_rfl) (by kernel_rfl) (by kernel_rfl) a.h79, trivial⟩
theorem cJ_ (n nt : Nat) (a : AllOk n) : CxOk E (cx n nt) := ⟨ttOk, tcOk, u8Ok, kok n nt a⟩
theorem bV_ : ∀ n, AllOk n
  | 0 => ⟨fun _ _ h => (by cases h), fun _ _ h => (by cases h), fun _ _ h => (by cases h), fun _ _ h => (by cases h), fun _ _ h => (by cases h), fun _ _ h => (by cases h), fun _ _ h => (by cases h), fun _ _ h => (by cases h), fun _ _ h => (by cases h), fun _ _ h => (by cases h), fun _ _ h => (by cases h), fun _ _ h => (by cases h), fun _ _ h => (by cases h), fun _ _ h => (by cases h), fun _ _ h => (by cases h), fun _ _ h => (by cases h), fun _ _ h => (by cases h), fun _ _ h => (by cases h), fun _ _ h => (by cases h), fun _ _ h => (by cases h), fun _ _ h => (by cases h), fun _ _ h => (by cases h), fun _ _ h => (by cases h), fun _ _ h => (by cases h), fun _ _ h => (by cases h), fun _ _ h => (by cases h), fun _ _ h => (by cases h), fun _ _ h => (by cases h), fun _ _ h => (by cases h), fun _ _ h => (by cases h), fun _ _ h => (by cases h), fun _ _ h => (by cases h), fun _ _ h => (by cases h), fun _ _ h => (by cases h), fun _ _ h => (by cases h), fun _ _ h => (by cases h), fun _ _ h => (by cases h), fun _ _ h => (by cases h), fun _ _ h => (by cases h), fun _ _ h => (by cases h), fun _ _ h => (by cases h), fun _ _ h => (by cases h), fun _ _ h => (by cases h), fun _ _ h => (by cases h), fun _ _ h => (by cases h), fun _ _ h => (by cases h), fun _ _ h => (by cases h), fun _ _ h => (by cases h), fun _ _ h => (by cases h), fun _ _ h => (by cases h), fun _ _ h => (by cases h), fun _ _ h => (by cases h), fun _ _ h => (by cases h), fun _ _ h => (by cases h), fun _ _ h => (by cases h), fun _ _ h => (by cases h), fun _ _ h => (by cases h), fun _ _ h => (by cases h), fun _ _ h => (by cases h), fun _ _ h => (by cases h), fun _ _ h => (by cases h), fun _ _ h => (by cases h), fun _ _ h => (by cases h), fun _ _ h => (by cases h), fun _ _ h => (by cases h), fun _ _ h => (by cases h), fun _ _ h => (by cases h), fun _ _ h => (by cases h), fun _ _ h => (by cases h), fun _ _ h => (by cases h), fun _ _ h => (by cases h), fun _ _ h => (by cases h), fun _ _ h => (by cases h), fun _ _ h => (by cases h), fun _ _ h => (by cases h), fun _ _ h => (by cases h), fun _ _ h => (by cases h), fun _ _ h => (by cases h), fun _ _ h => (by cases h), fun _ _ h => (by cases h), fun _ _ h => (by cases h), fun _ _ h => (by cases h), fun _ _ h => (by cases h), fun _ _ h => (by cases h), fun _ _ h => (by cases h), fun _ _ h => (by cases h), fun _ _ h => (by cases h), fun _ _ h => (by cases h), fun _ _ h => (by cases h), fun _ _ h => (by cases h), fun _ _ h => (by cases h), fun _ _ h => (by cases h), fun _ _ h => (by cases h), fun _ _ h => (by cases h), fun _ _ h => (by cases h), fun _ _ h => (by cases h), fun _ _ h => (by cases h), fun _ _ h => (by cases h), fun _ _ h => (by cases h), fun _ _ h => (by cases h), fun _ _ h => (by cases h), fun _ _ h => (by cases h), fun _ _ h => (by cases h), fun _ _ h => (by cases h), fun _ _ h => (by cases h), fun _ _ h => (by cases h), fun _ _ h => (by cases h), fun _ _ h => (by cases h), fun _ _ h => (by cases h), fun _ _ h => (by cases h)⟩
  | n + 1 => ⟨aP_.ok n (cJ_ n _ (bV_ n)) (kpar n _), bn_.ok n (cJ_ n _ (bV_ n)) (kpar n _), bG_.ok n (cJ_ n _ (bV_ n)) (kpar n _), ax_.ok n (cJ_ n _ (bV_ n)) (kpar n _), aI_.ok n (cJ_ n _ (bV_ n)) (kpar n _), bY_.ok n (cJ_ n _ (bV_ n)) (kpar n _), bj_.ok n (cJ_ n _ (bV_ n)) (kpar n _), ay_.ok n (cJ_ n _ (bV_ n)) (kpar n _), aL_.ok n (cJ_ n _ (bV_ n)) (kpar n _), ba_.ok n (cJ_ n _ (bV_ n)) (kpar n _), a6_.ok n (cJ_ n _ (bV_ n)) (kpar n _), ad_.ok n (cJ_ n _ (bV_ n)) (kpar n _), cl_.ok n (cJ_ n _ (bV_ n)) (kpar n _), aD_.ok n (cJ_ n _ (bV_ n)) (kpar n _), bM_.ok n (cJ_ n _ (bV_ n)) (kpar n _), aU_.ok n (cJ_ n _ (bV_ n)) (kpar n _), aA_.ok n (cJ_ n _ (bV_ n)) (kpar n _), bU_.ok n (cJ_ n _ (bV_ n)) (kpar n _), b3_.ok n (cJ_ n _ (bV_ n)) (kpar n _), bo_.ok n (cJ_ n _ (bV_ n)) (kpar n _), a4_.ok n (cJ_ n _ (bV_ n)) (kpar n _), cc_.ok n (cJ_ n _ (bV_ n)) (kpar n _), bJ_.ok n (cJ_ n _ (bV_ n)) (kpar n _), aK_.ok n (cJ_ n _ (bV_ n)) (kpar n _), ah_.ok n (cJ_ n _ (bV_ n)) (kpar n _), bl_.ok n (cJ_ n _ (bV_ n)) (kpar n _), ar_.ok n (cJ_ n _ (bV_ n)) (kpar n _), bf_.ok n (cJ_ n _ (bV_ n)) (kpar n _), b8_.ok n (cJ_ n _ (bV_ n)) (kpar n _), bO_.ok n (cJ_ n _ (bV_ n)) (kpar n _), aH_.ok n (cJ_ n _ (bV_ n)) (kpar n _), a5_.ok n (cJ_ n _ (bV_ n)) (kpar n _), b0_.ok n (cJ_ n _ (bV_ n)) (kpar n _), bB_.ok n (cJ_ n _ (bV_ n)) (kpar n _), ac_.ok n (cJ_ n _ (bV_ n)) (kpar n _), aw_.ok n (cJ_ n _ (bV_ n)) (kpar n _), aB_.ok n (cJ_ n _ (bV_ n)) (kpar n _), bi_.ok n (cJ_ n _ (bV_ n)) (kpar n _), a2_.ok n (cJ_ n _ (bV_ n)) (kpar n _), aT_.ok n (cJ_ n _ (bV_ n)) (kpar n _), cg_.ok n (cJ_ n _ (bV_ n)) (kpar n _), az_.ok n (cJ_ n _ (bV_ n)) (kpar n _), bg_.ok n (cJ_ n _ (bV_ n)) (kpar n _), b2_.ok n (cJ_ n _ (bV_ n)) (kpar n _), bH_.ok n (cJ_ n _ (bV_ n)) (kpar n _), a0_.ok n (cJ_ n _ (bV_ n)) (kpar n _), bk_.ok n (cJ_ n _ (bV_ n)) (kpar n _), bd_.ok n (cJ_ n _ (bV_ n)) (kpar n _), ai_.ok n (cJ_ n _ (bV_ n)) (kpar n _), af_.ok n (cJ_ n _ (bV_ n)) (kpar n _), aO_.ok n (cJ_ n _ (bV_ n)) (kpar n _), ag_.ok n (cJ_ n _ (bV_ n)) (kpar n _), aF_.ok n (cJ_ n _ (bV_ n)) (kpar n _), a9_.ok n (cJ_ n _ (bV_ n)) (kpar n _), as_.ok n (cJ_ n _ (bV_ n)) (kpar n _), am_.ok n (cJ_ n _ (bV_ n)) (kpar n _), cn_.ok n (cJ_ n _ (bV_ n)) (kpar n _), aW_.ok n (cJ_ n _ (bV_ n)) (kpar n _), bN_.ok n (cJ_ n _ (bV_ n)) (kpar n _), a8_.ok n (cJ_ n _ (bV_ n)) (kpar n _), strconv_Itoa.ok n (cJ_ n _ (bV_ n)) (kpar n _), strings_Join.ok n (cJ_ n _ (bV_ n)) (kpar n _), aN_.ok n (cJ_ n _ (bV_ n)) (kpar n _), bX_.ok n (cJ_ n _ (bV_ n)) (kpar n _), bZ_.ok n (cJ_ n _ (bV_ n)) (kpar n _), aj_.ok n (cJ_ n _ (bV_ n)) (kpar n _), bD_.ok n (cJ_ n _ (bV_ n)) (kpar n _), aJ_.ok n (cJ_ n _ (bV_ n)) (kpar n _), ck_.ok n (cJ_ n _ (bV_ n)) (kpar n _), strings_Split.ok n (cJ_ n _ (bV_ n)) (kpar n _), strings_ReplaceAll.ok n (cJ_ n _ (bV_ n)) (kpar n _), aV_.ok n (cJ_ n _ (bV_ n)) (kpar n _), a1_.ok n (cJ_ n _ (bV_ n)) (kpar n _), bK_.ok n (cJ_ n _ (bV_ n)) (kpar n _), b4_.ok n (cJ_ n _ (bV_ n)) (kpar n _), bm_.ok n (cJ_ n _ (bV_ n)) (kpar n _), b9_.ok n (cJ_ n _ (bV_ n)) (kpar n _), cb_.ok n (cJ_ n _ (bV_ n)) (kpar n _), ak_.ok n (cJ_ n _ (bV_ n)) (kpar n _), ab_.ok n (cJ_ n _ (bV_ n)) (kpar n _), cd_.ok n (cJ_ n _ (bV_ n)) (kpar n _), bR_.ok n (cJ_ n _ (bV_ n)) (kpar n _), b5_.ok n (cJ_ n _ (bV_ n)) (kpar n _), bc_.ok n (cJ_ n _ (bV_ n)) (kpar n _), bL_.ok n (cJ_ n _ (bV_ n)) (kpar n _), bz_.ok n (cJ_ n _ (bV_ n)) (kpar n _), aR_.ok n (cJ_ n _ (bV_ n)) (kpar n _), bE_.ok n (cJ_ n _ (bV_ n)) (kpar n _), b1_.ok n (cJ_ n _ (bV_ n)) (kpar n _), ca_.ok n (cJ_ n _ (bV_ n)) (kpar n _), bF_.ok n (cJ_ n _ (bV_ n)) (kpar n _), bq_.ok n (cJ_ n _ (bV_ n)) (kpar n _), aZ_.ok n (cJ_ n _ (bV_ n)) (kpar n _), aG_.ok n (cJ_ n _ (bV_ n)) (kpar n _), bA_.ok n (cJ_ n _ (bV_ n)) (kpar n _), cw_.ok n (cJ_ n _ (bV_ n)) (kpar n _), bh_.ok n (cJ_ n _ (bV_ n)) (kpar n _), bW_.ok n (cJ_ n _ (bV_ n)) (kpar n _), aE_.ok n (cJ_ n _ (bV_ n)) (kpar n _), ap_.ok n (cJ_ n _ (bV_ n)) (kpar n _), au_.ok n (cJ_ n _ (bV_ n)) (kpar n _), bP_.ok n (cJ_ n _ (bV_ n)) (kpar n _), aX_.ok n (cJ_ n _ (bV_ n)) (kpar n _), bC_.ok n (cJ_ n _ (bV_ n)) (kpar n _), aq_.ok n (cJ_ n _ (bV_ n)) (kpar n _), av_.ok n (cJ_ n _ (bV_ n)) (kpar n _), bQ_.ok n (cJ_ n _ (bV_ n)) (kpar n _), aY_.ok n (cJ_ n _ (bV_ n)) (kpar n _), by_.ok n (cJ_ n _ (bV_ n)) (kpar n _), laws_FnExactEventRead.ok n (cJ_ n _ (bV_ n)) (kpar n _)⟩
end Go.Pi
end
section
set_option linter.unusedVariables false
namespace Go.Pi
inductive Kd where
  | i (k : IntKind)
  | b
  | s
  | sl (t : TC)
def kdsL (P : Program) (rec_ : TypeId → Option (List Kd)) : List Field → Nat → Option (List Kd)
  | [], _ => some []
  | f :: fs, off => cond (Nat.beq f.offset off) (match rec_ f.type with
    | some ks => cond (Nat.beq (P.cellsOf f.type) ks.length) (match kdsL P rec_ fs (off + ks.length) with
      | some r => some (ks ++ r)
      | none => none) none
    | none => none) none
def kds (P : Program) (hx_ : TypeId → Option TC) : Nat → TypeId → Option (List Kd)
  | 0, _ => none
  | d + 1, T => match P.underlying T with
    | some (.int k) => some [.i k]
    | some .bool => some [.b]
    | some .string => some [.s]
    | some (.slice e) => match hx_ e with
      | some t => some [.sl t]
      | none => none
    | some (.struct fs) => match kdsL P (kds P hx_ d) fs.toList 0 with
      | some ks => cond (Nat.beq (P.cellsOf T) ks.length) (some ks) none
      | none => none
    | _ => none
inductive Good [al_] : AV → Prop
  | i (k n) : (Lit.int k n).wf = true → Good (.i k n)
  | b (q) : Good (.b q)
  | s (l) : l.length ≤ maxLen → Good (.s l)
  | sl (t xs) : xs.length ≤ maxLen → (∀ x ∈ xs, ∀ c ∈ al_.enc .v t x, Good c) → Good (.sl .v t xs)
def KindOk : Kd → AV → Prop
  | .i k, a => ∃ n, a = .i k n
  | .b, a => ∃ q, a = .b q
  | .s, a => ∃ l, a = .s l
  | .sl t, a => ∃ xs, a = .sl .v t xs
def hz_ : List Kd → List AV → Prop
  | [], [] => True
  | k :: ks, a :: l => KindOk k a ∧ hz_ ks l
  | _, _ => False
section
variable {H : Type} {enc : TypeId × Value → H} {P : Program} {w : World} {spare : Nat → Bool}
def le_ (enc : TypeId × Value → H) (P : Program) (w : World) (spare : Nat → Bool) (eid : TC → TypeId) (F : Nat) : Kd → Value → Prop
  | .i k, v => ∃ n, v = .int k n ∧ (Lit.int k n).wf = true
  | .b, v => ∃ q, v = .bool q
  | .s, v => ∃ s : ByteArray, v = .string s ∧ s.size ≤ maxLen
  | .sl t, v => v = .slice none 0 0 ∨ ∃ (a : Addr) (len cap N : Nat), v = .slice (some a) len cap ∧ len ≤ cap ∧ cap ≤ maxLen ∧ N < F ∧
      ∀ i, i < len → ∃ cs x, w.cells? 0 (a.add (i * P.cellsOf (eid t))) (P.cellsOf (eid t)) = some cs ∧ DataW.trod enc P w 0 spare true N (eid t) cs = some x
def dz_ (enc : TypeId × Value → H) (P : Program) (w : World) (spare : Nat → Bool) (eid : TC → TypeId) (F : Nat) : List Kd → List Value → Prop
  | [], [] => True
  | k :: ks, v :: vs => le_ enc P w spare eid F k v ∧ dz_ enc P w spare eid F ks vs
  | _, _ => False
theorem le_.mono {eid : TC → TypeId} {F F' : Nat} (hF : F ≤ F') {k : Kd} {v : Value} (h : le_ enc P w spare eid F k v) : le_ enc P w spare eid F' k v := by
  cases k with
  | sl t =>
    rcases h with h | ⟨a, len, cap, N, h1, h2, h3, h4, h5⟩
    · exact .inl h
    · exact .inr ⟨a, len, cap, N, h1, h2, h3, Nat.lt_of_lt_of_le h4 hF, h5⟩
  | _ => exact h
theorem dz_.mono {eid : TC → TypeId} {F F' : Nat} (hF : F ≤ F') : ∀ {ks : List Kd} {vs : List Value}, dz_ enc P w spare eid F ks vs → dz_ enc P w spare eid F' ks vs
  | [], [], _ => trivial
  | k :: ks, v :: vs, h => ⟨h.1.mono hF, dz_.mono hF h.2⟩
  | [], _ :: _, h => h.elim
  | _ :: _, [], h => h.elim
theorem dz_.append {eid : TC → TypeId} {F : Nat} : ∀ {ks : List Kd} {vs : List Value} {ks' : List Kd} {vs' : List Value}, dz_ enc P w spare eid F ks vs → dz_ enc P w spare eid F ks' vs' → dz_ enc P w spare eid F (ks ++ ks') (vs ++ vs')
  | [], [], _, _, _, h => h
  | k :: ks, v :: vs, _, _, h, h' => ⟨h.1, dz_.append h.2 h'⟩
  | [], _ :: _, _, _, h, _ => h.elim
  | _ :: _, [], _, _, h, _ => h.elim
theorem jj_ {hx_ : TypeId → Option TC} {eid : TC → TypeId} {n : Nat} {rec_ : TypeId → Option (List Kd)} {cs : List Value} (hrec : ∀ T ks cs x, rec_ T = some ks → DataW.trod enc P w 0 spare true n T cs = some x → dz_ enc P w spare eid n ks cs) :
    ∀ (fs : List Field) (off : Nat) (ks : List Kd), kdsL P rec_ fs off = some ks → (∀ f ∈ fs, ∃ x, DataW.trod enc P w 0 spare true n f.type ((cs.drop f.offset).take (P.cellsOf f.type)) = some x) → off + ks.length = cs.length → dz_ enc P w spare eid n ks (cs.drop off)
  | [], off, ks, h, _, hl => by
    simp only [kdsL, Option.some.injEq] at h
    subst h
    rw [List.drop_eq_nil_of_le (by simp at hl; omega)]
    trivial
  | f :: fs, off, ks, h, hx, hl => by
    simp only [kdsL] at h
    obtain ⟨h1, h2⟩ := b6_ h
    have h1 := cu_.1 h1
    cases hr : rec_ f.type with
    | none => rw [hr] at h2; cases h2
    | some k1 =>
      rw [hr] at h2
      obtain ⟨h3, h4⟩ := b6_ h2
      have h3 := cu_.1 h3
      cases hk : kdsL P rec_ fs (off + k1.length) with
      | none => rw [hk] at h4; cases h4
      | some r =>
        rw [hk] at h4
        simp only [Option.some.injEq] at h4
        subst h4
        obtain ⟨x, hx1⟩ := hx f (List.mem_cons_self ..)
        have h5 := hrec _ _ _ _ hr hx1
        have h6 := jj_ (hx_ := hx_) hrec fs (off + k1.length) r hk (fun g hg => hx g (List.mem_cons_of_mem _ hg)) (by simp at hl; omega)
        rw [h1, h3] at h5
        have : cs.drop off = (cs.drop off).take k1.length ++ cs.drop (off + k1.length) := by rw [← List.drop_drop, List.take_append_drop]
        rw [this]
        exact h5.append h6
theorem jw_ {hx_ : TypeId → Option TC} {eid : TC → TypeId} (hcode : ∀ e t, hx_ e = some t → eid t = e) : ∀ (d F : Nat) (T : TypeId) (ks : List Kd) (cs : List Value) (x : DataW H × List MemPlace), kds P hx_ d T = some ks → DataW.trod enc P w 0 spare true F T cs = some x → dz_ enc P w spare eid F ks cs
  | 0, F, T, ks, cs, x, hk, h => by cases hk
  | d + 1, F, T, ks, cs, x, hk, h => by
    simp only [kds] at hk
    cases hu : P.underlying T with
    | none => rw [hu] at hk; cases hk
    | some u =>
      rw [hu] at hk
      cases u <;> simp only at hk <;> (try (cases hk; done))
      case bool =>
        cases hk
        obtain ⟨q, rfl, _⟩ := DataW.trod_bool hu h
        exact ⟨⟨q, rfl⟩, trivial⟩
      case int k =>
        cases hk
        obtain ⟨n, rfl, _, hw⟩ := DataW.trod_int hu h
        exact ⟨⟨n, rfl, hw⟩, trivial⟩
      case string =>
        cases hk
        obtain ⟨s, rfl, _, hs⟩ := DataW.trod_string hu h
        exact ⟨⟨s, rfl, hs⟩, trivial⟩
      case slice e =>
        cases hc : hx_ e with
        | none => rw [hc] at hk; cases hk
        | some t =>
          rw [hc] at hk
          cases hk
          have he := hcode e t hc
          rcases DataW.trod_slice hu h with ⟨rfl, _⟩ | ⟨a, len, cap, elems, ff_, n, hF, rfl, _, _, hl, hm, hlen, hel, _, _⟩
          · exact ⟨.inl rfl, trivial⟩
          · refine ⟨.inr ⟨a, len, cap, n, rfl, hl, hm, by omega, fun i hi => ?_⟩, trivial⟩
            have h1 := hel i hi
            rw [List.getElem?_eq_getElem (by omega)] at h1
            rw [Option.bind_eq_some_iff] at h1
            obtain ⟨cs, k1, k2⟩ := h1
            exact ⟨cs, _, by rw [he]; exact k1, by rw [he]; exact k2⟩
      case struct fs =>
        obtain ⟨xs, n, hF, _, hcl, hxl, hx⟩ := DataW.trod_struct hu h
        cases hks : kdsL P (kds P hx_ d) fs.toList 0 with
        | none => rw [hks] at hk; cases hk
        | some ks' =>
          rw [hks] at hk
          obtain ⟨h1, h2⟩ := b6_ hk
          have h1 := cu_.1 h1
          cases h2
          subst hF
          have := jj_ (hx_ := hx_) (eid := eid) (n := n) (cs := cs) (fun T ks cs x k1 k2 => jw_ hcode d n T ks cs x k1 k2) fs.toList 0 ks hks (fun f hf => by
            obtain ⟨i, hi⟩ := List.getElem?_of_mem hf
            have hi' : fs[i]? = some f := by simpa using hi
            have h3 := hx i f hi'
            have hlt : i < xs.length := by rw [hxl]; exact (Array.getElem?_eq_some_iff.1 hi').1
            rw [List.getElem?_eq_getElem hlt] at h3
            exact ⟨_, h3⟩) (by omega)
          exact (this.mono (Nat.le_succ n))
end
end Go.Pi
end
section
set_option linter.unusedVariables false
namespace Go.Pi
variable [al_]
open al_
variable {H : Type} {enc' : TypeId × Value → H} {E : Env} {w : World} {spare : Nat → Bool}
abbrev NoF : Nat → Prop := fun _ => False
omit [al_] in
theorem h2_ : ∀ {ks : List Kd} {l c : List AV}, hz_ ks l → sims .v l c → c = l
  | [], [], [], _, _ => rfl
  | k :: ks, a :: l, b :: c, h, hs => by
    have e := h2_ h.2 hs.2
    subst e
    have h1 := h.1
    have h2 := hs.1
    cases k <;> obtain ⟨x, rfl⟩ := h1 <;> simp only [AV.sim] at h2 <;> rw [h2]
  | [], [], _ :: _, _, h => h.elim
  | [], _ :: _, _, h, _ => h.elim
  | _ :: _, [], _, h, _ => h.elim
  | _ :: _, _ :: _, [], _, h => h.elim
structure iC_ (E : Env) (hx_ : TypeId → Option TC) (kinds : TC → List Kd) (d : Nat) : Prop where
  codeOk : ∀ e t, hx_ e = some t → E.eid t = e
  kdsOk : ∀ t, kds E.P hx_ d (E.eid t) = some (kinds t)
  dec : ∀ t l, hz_ (kinds t) l → ∃ y, dec t l = some y
  cells : ∀ t, E.P.cellsOf (E.eid t) = t.width
theorem kv_ [ao_] {t : TC} {N : Nat} (hel : ∀ cs x, DataW.trod enc' E.P w 0 spare true N (E.eid t) cs = some x → ∃ y : El t, RL E w NoF (enc .v t y) cs (fun _ => 0) ∧ ∀ c ∈ enc .v t y, Good c) {b o : Nat} (hW : E.P.cellsOf (E.eid t) = t.width) :
    ∀ len, (∀ i, i < len → ∃ cs x, w.cells? 0 ((⟨b, o, none⟩ : Addr).add (i * E.P.cellsOf (E.eid t))) (E.P.cellsOf (E.eid t)) = some cs ∧ DataW.trod enc' E.P w 0 spare true N (E.eid t) cs = some x) →
    ∃ (xs : List (El t)) (vals : List Value), xs.length = len ∧ vals.length = len * t.width ∧ RL E w NoF (be_ .v t xs) vals (fun _ => 0) ∧ w.rangeAt b o vals ∧ ∀ x ∈ xs, ∀ c ∈ enc .v t x, Good c
  | 0, _ => ⟨[], [], rfl, by simp, RL.nil (fun _ => 0) fun _ => rfl, fun j v h => by simp at h, fun x hx => by cases hx⟩
  | len + 1, h => by
    obtain ⟨xs, vals, h1, h2, h3, h4, h5⟩ := kv_ hel hW len fun i hi => h i (by omega)
    obtain ⟨cs, x, k1, k2⟩ := h len (Nat.lt_succ_self _)
    obtain ⟨y, j1, j2⟩ := hel cs x k2
    obtain ⟨_, hl, hc⟩ := World.cells?_some k1
    rw [hW] at hl hc
    refine ⟨xs ++ [y], vals ++ cs, by simp [h1], by rw [List.length_append, h2, hl]; exact (Nat.succ_mul _ _).symm, ?_, fun j v hj => ?_, fun x hx => ?_⟩
    · rw [cj_]
      refine RL.append h3 (φ' := fun _ => 0) ?_ (fun b => rfl)
      simpa [be_] using j1
    · by_cases hlt : j < vals.length
      · rw [List.getElem?_append_left hlt] at hj
        exact h4 j v hj
      · rw [List.getElem?_append_right (by omega)] at hj
        have hjl : j - vals.length < t.width := by rw [← hl]; exact (List.getElem?_eq_some_iff.1 hj).1
        have := hc (j - vals.length) hjl
        rw [Addr.add_mid, Addr.add_mid, hj] at this
        rw [← this]
        congr 2
        omega
    · rcases List.mem_append.1 hx with hx | hx
      · exact h5 x hx
      · rw [List.mem_singleton] at hx; subst hx; exact j2
theorem cell_open [ao_] {hx_ : TypeId → Option TC} {kinds : TC → List Kd} {d : Nat} (hk : iC_ E hx_ kinds d) {F : Nat} (ih : ∀ N, N < F → ∀ t cs x, DataW.trod enc' E.P w 0 spare true N (E.eid t) cs = some x → ∃ y : El t, RL E w NoF (enc .v t y) cs (fun _ => 0) ∧ ∀ c ∈ enc .v t y, Good c) {k : Kd} {v : Value} (h : le_ enc' E.P w spare E.eid F k v) :
    ∃ a, KindOk k a ∧ RL E w NoF [a] [v] (fun _ => 0) ∧ Good a := by
  cases k with
  | i k => obtain ⟨n, rfl, hw⟩ := h; exact ⟨.i k n, ⟨n, rfl⟩, .scal _ _ _ _ _ rfl (.nil _ fun _ => rfl), .i _ _ hw⟩
  | b => obtain ⟨q, rfl⟩ := h; exact ⟨.b q, ⟨q, rfl⟩, .scal _ _ _ _ _ rfl (.nil _ fun _ => rfl), .b _⟩
  | s =>
    obtain ⟨s, rfl, hs⟩ := h
    refine ⟨.s s.data.toList, ⟨_, rfl⟩, .scal _ _ _ _ _ ?_ (.nil _ fun _ => rfl), .s _ ?_⟩
    · show Value.string s = .string ⟨s.data.toList.toArray⟩
      simp
    · rw [Array.length_toList]; exact hs
  | sl t =>
    rcases h with rfl | ⟨a, len, cap, N, rfl, hl, hm, hN, hel⟩
    · exact ⟨.sl .v t [], ⟨_, rfl⟩, .view t [] none 0 0 [] (fun _ => 0) _ _ _ ⟨rfl, Nat.le_refl _⟩ (.nil _ fun _ => rfl) (fun _ => rfl) (fun hp => by omega) (.nil _ fun _ => rfl), .sl _ _ (Nat.zero_le _) (fun x hx => by cases hx)⟩
    · cases len with
      | zero => exact ⟨.sl .v t [], ⟨_, rfl⟩, .view t [] (some a) 0 cap [] (fun _ => 0) _ _ _ ⟨rfl, hl⟩ (.nil _ fun _ => rfl) (fun _ => rfl) (fun hp => by omega) (.nil _ fun _ => rfl), .sl _ _ (Nat.zero_le _) (fun x hx => by cases hx)⟩
      | succ len =>
        have hW := hk.cells t
        have hpos : 0 < t.width := ao_.pos t
        obtain ⟨cs0, x0, k1, _⟩ := hel 0 (Nat.succ_pos _)
        obtain ⟨_, hl0, hc0⟩ := World.cells?_some k1
        have hcell := hc0 0 (by rw [hW]; exact hpos)
        rw [List.getElem?_eq_getElem (by rw [hl0, hW]; exact hpos)] at hcell
        have ha : a.spot = none := by
          have h0 : (a.add (0 * E.P.cellsOf (E.eid t))).add 0 = a := by simp [Addr.add]
          rw [h0] at hcell
          unfold World.cell? at hcell
          split at hcell
          · cases hs : a.spot with
            | none => rfl
            | some q => simp [hs] at hcell
          · cases hcell
        obtain ⟨b, o, sp⟩ := a
        simp only at ha
        subst ha
        have hb : b < w.heap.size := World.cells?_block k1 (by rw [hW]; exact hpos) |> fun h => by simpa [Addr.add] using h
        obtain ⟨xs, vals, e1, e2, e3, e4, e5⟩ := kv_ (ih N hN t) hW (len + 1) hel
        refine ⟨.sl .v t xs, ⟨_, rfl⟩, ?_, .sl _ _ (by omega) e5⟩
        exact .view t xs (some ⟨b, o, none⟩) (len + 1) cap vals (fun _ => 0) _ _ _ ⟨e1.symm, hl⟩ e3 (fun _ => rfl) (fun _ => ⟨b, o, rfl, e4, hb, fun h => h⟩) (.nil _ fun _ => rfl)
theorem hj_ [ao_] {hx_ : TypeId → Option TC} {kinds : TC → List Kd} {d : Nat} (hk : iC_ E hx_ kinds d) {F : Nat} (ih : ∀ N, N < F → ∀ t cs x, DataW.trod enc' E.P w 0 spare true N (E.eid t) cs = some x → ∃ y : El t, RL E w NoF (enc .v t y) cs (fun _ => 0) ∧ ∀ c ∈ enc .v t y, Good c) :
    ∀ {ks : List Kd} {vs : List Value}, dz_ enc' E.P w spare E.eid F ks vs → ∃ l, hz_ ks l ∧ RL E w NoF l vs (fun _ => 0) ∧ ∀ c ∈ l, Good c
  | [], [], _ => ⟨[], trivial, .nil _ fun _ => rfl, fun c hc => by cases hc⟩
  | k :: ks, v :: vs, h => by
    obtain ⟨a, h1, h2, h3⟩ := cell_open hk ih h.1
    obtain ⟨l, k1, k2, k3⟩ := hj_ hk ih h.2
    refine ⟨a :: l, ⟨h1, k1⟩, RL.cons h2 k2 (fun b => rfl), fun c hc => ?_⟩
    rcases List.mem_cons.1 hc with rfl | hc
    · exact h3
    · exact k3 c hc
  | [], _ :: _, h => h.elim
  | _ :: _, [], h => h.elim
theorem el_open [ao_] {hx_ : TypeId → Option TC} {kinds : TC → List Kd} {d : Nat} (hk : iC_ E hx_ kinds d) : ∀ (F : Nat) (t : TC) (cs : List Value) (x : DataW H × List MemPlace), DataW.trod enc' E.P w 0 spare true F (E.eid t) cs = some x →
    ∃ y : El t, RL E w NoF (enc .v t y) cs (fun _ => 0) ∧ ∀ c ∈ enc .v t y, Good c := by
  intro F
  induction F using Nat.strongRecOn with
  | _ F ih =>
    intro t cs x h
    have h1 := jw_ hk.codeOk d F _ _ _ _ (hk.kdsOk t) h
    obtain ⟨l, h2, h3, h4⟩ := hj_ hk ih h1
    obtain ⟨y, hy⟩ := hk.dec t l h2
    have h5 := ao_.dec .v t l y hy
    have h6 := h2_ h2 h5
    exact ⟨y, by rw [h6]; exact h3, by rw [h6]; exact h4⟩
theorem arg_open [ao_] {hx_ : TypeId → Option TC} {kinds : TC → List Kd} {d : Nat} (hk : iC_ E hx_ kinds d) {T : TypeId} {ks : List Kd} (hT : kds E.P hx_ d T = some ks) {v : Value} {dd : DataW H} {ps : List MemPlace} (h : DataW.Trod enc' E.P w 0 spare true T v dd ps) :
    ∃ l, hz_ ks l ∧ RL E w NoF l v.cells.toList (fun _ => 0) ∧ ∀ c ∈ l, Good c := by
  obtain ⟨F, hF⟩ := h
  exact hj_ hk (fun N _ => el_open hk N) (jw_ hk.codeOk d F T ks _ _ hT hF)
end Go.Pi
end
section
set_option linter.unusedVariables false
namespace Go.Pi
open Go.RowKit
variable [al_]
open al_
omit [al_] in
theorem dq_ {k : Kd} {ks : List Kd} {l : List AV} (h : hz_ (k :: ks) l) : ∃ a l', l = a :: l' ∧ KindOk k a ∧ hz_ ks l' := by
  cases l with
  | nil => exact h.elim
  | cons a l => exact ⟨a, l, rfl, h.1, h.2⟩
omit [al_] in
theorem dG_ {l : List AV} (h : hz_ [] l) : l = [] := by
  cases l with
  | nil => rfl
  | cons a l => exact h.elim
def codeL (eid : TC → TypeId) : List TC → TypeId → Option TC
  | [], _ => none
  | t :: ts, e => cond (Nat.beq (eid t) e) (some t) (codeL eid ts e)
omit [al_] in
theorem mK_ {eid : TC → TypeId} {e : TypeId} {t : TC} : ∀ ts, codeL eid ts e = some t → eid t = e
  | [], h => by cases h
  | u :: ts, h => by
    simp only [codeL] at h
    cases hb : Nat.beq (eid u) e with
    | true => rw [hb] at h; cases h; exact cu_.1 hb
    | false => rw [hb] at h; exact mK_ ts h
theorem law_true [ao_] {E : Env} {f : FuncId} {avs : List AV} {outs : List AV} {ps : List PS} (h : de_ E f avs (.b true) outs ps) {w : World} (hgl : Glob E w NoF) {Vs : List Value} (hr : RL E w NoF avs Vs (fun _ => 0)) :
    Calls E.P f Vs.toArray w fun e W' => e = .returned (.bool true) ∧ Below w.heap.size w W' := by
  refine (h w NoF Vs _ hr (fun _ => Nat.zero_le _) (fun b hb => hb.elim) hgl).mono fun e W' ⟨V, φ', he, h1, _, _, e1, e2, e3, e4, e5⟩ => ⟨?_, e1, e2, e3, e4, fun k hk => e5 k hk rfl⟩
  cases h1 with
  | scal a v l vs φ hs _ => rw [he, show V = .bool true from hs]
theorem ag_open {E : Env} {w : World} {l : List AV} {cs : Array Value} (h : RL E w NoF l (Value.agg cs).cells.toList (fun _ => 0)) {l' : List AV} {vs : List Value} (h' : RL E w NoF l' vs (fun _ => 0)) :
    RL E w NoF (.ag l :: l') (.agg cs :: vs) (fun _ => 0) := by
  have := RL.ag (E := E) (w := w) (F := NoF) l cs.toList (fun _ => 0) l' vs (fun _ => 0) (fun _ => 0) h h' (fun b => rfl)
  simpa using this
end Go.Pi
end
section
set_option linter.unusedVariables false
set_option maxRecDepth 100000
namespace Go.Pi
open Go.Proofs Go.Proofs.YtccdklkcfjmchaaGreatDoor
open Go.ChangeShapes Go.WideShapes Go.ChangeAt Go.RowKit
def hx_ : TypeId → Option TC := codeL eid [.str, .u8, .iJson, .iOp, .lJson, .lOp]
def kinds : TC → List Kd
  | .str => [.s]
  | .u8 => [.i .u8]
  | .iJson => [.i .i64, .i .i64, .s, .sl .iJson, .sl .str]
  | .iOp => [.i .i64, .sl .str, .i .i64, .i .i64, .s, .sl .iJson, .sl .str]
  | .lJson => [.i .i64, .i .i64, .s, .sl .lJson, .sl .str]
  | .lOp => [.i .i64, .sl .str, .i .i64, .i .i64, .s, .sl .lJson, .sl .str]
theorem kindsOk : iC_ E hx_ kinds 12 where
  codeOk := fun e t h => mK_ _ h
  kdsOk := by intro t; cases t <;> kernel_rfl
  cells := by intro t; cases t <;> kernel_rfl
  dec := by
    intro t l h
    cases t with
    | str =>
      iterate 1 (replace h := dq_ h; obtain ⟨_, _, rfl, ⟨_, rfl⟩, h⟩ := h)
      replace h := dG_ h; subst h; exact ⟨_, rfl⟩
    | u8 =>
      iterate 1 (replace h := dq_ h; obtain ⟨_, _, rfl, ⟨_, rfl⟩, h⟩ := h)
      replace h := dG_ h; subst h; exact ⟨_, rfl⟩
    | iJson =>
      iterate 5 (replace h := dq_ h; obtain ⟨_, _, rfl, ⟨_, rfl⟩, h⟩ := h)
      replace h := dG_ h; subst h; exact ⟨_, rfl⟩
    | iOp =>
      iterate 7 (replace h := dq_ h; obtain ⟨_, _, rfl, ⟨_, rfl⟩, h⟩ := h)
      replace h := dG_ h; subst h; exact ⟨_, rfl⟩
    | lJson =>
      iterate 5 (replace h := dq_ h; obtain ⟨_, _, rfl, ⟨_, rfl⟩, h⟩ := h)
      replace h := dG_ h; subst h; exact ⟨_, rfl⟩
    | lOp =>
      iterate 7 (replace h := dq_ h; obtain ⟨_, _, rfl, ⟨_, rfl⟩, h⟩ := h)
      replace h := dG_ h; subst h; exact ⟨_, rfl⟩
namespace laws_FnExactEventRead
theorem own : ownKnob Tryz.prog.godebug = none := by kernel_rfl
theorem laidOut : laidOutB Tryz.prog = true := by kernel_rfl
def mW_ : DataW Unit → ByteArray
  | .iface _ (.ptr (.agg [.lit (.string l)])) => ⟨l.toArray⟩
  | _ => ByteArray.empty
def tab1 : DataW Unit → List Value
  | .lit (.int k n) => [Value.int k n]
  | _ => []
def tab2 : DataW Unit → List Value
  | .agg l => l.flatMap tab1
  | d => tab1 d
def tabOf : DataW Unit → Array Value
  | .agg l => (l.flatMap tab2).toArray
  | _ => #[]
def Pure : Prop := ∀ (o : Bs), (∀ c ∈ ([.s o] : List AV), Good c) → ∃ n, Go.Pi.laws_FnExactEventRead n o = some true
noncomputable def low : Nat := (World.holding Tryz.prog default ⟨#[], #[], []⟩).heap.size
noncomputable def kK_ (os : Os) : World :=
  let w0 := World.holding Tryz.prog os ⟨#[.cells #[.string (mW_ Rows.laid_strconv_ErrRange)] 201, .cells #[.string (mW_ Rows.laid_strconv_ErrSyntax)] 201], #[], []⟩
  let put := fun (h : Array Obj) (g : Nat) (cs : Array Value) => h.modify g fun
    | .cells _ t frozen => .cells cs t frozen
    | o => o
  { w0 with heap := put (put (put (put (put (put (put (w0.heap) 6 (tabOf Rows.laid_math_bits_deBruijn32tab)) 7 (tabOf Rows.laid_math_bits_deBruijn64tab)) 3 (tabOf Rows.laid_internal_strconv_uint64pow10)) 5 (tabOf Rows.laid_unicode_utf8_acceptRanges)) 2 (#[.iface 199 (.pointer (some ⟨low + 0, 0, none⟩))])) 1 (#[.iface 199 (.pointer (some ⟨low + 1, 0, none⟩))])) 4 (tabOf Rows.laid_unicode_utf8_first) }
theorem jQ_ (os : Os) (args : Array Value) : laidMet Tryz.prog Rows.fnExactEventReadRow.laid ((kK_ os).forCall (fun _ _ => 0) ⟨#[], args, []⟩).memory :=
  laidMet_of_run' 8 (by kernel_rfl) (by kernel_rfl)
theorem lifted (hp : Pure) (os : Os) (started : os.Started) (H : Type) (enc : TypeId × Value → H) :
    ReturnsInHanded {} Tryz.checked os 3 .any (fun w args => (Rows.fnExactEventReadSpec.pre enc Tryz.prog Tryz.f3 Rows.fnExactEventReadRow.domain false w args ∧ laidMet Tryz.prog Rows.fnExactEventReadRow.laid w) ∧ sizedMet enc Tryz.prog Tryz.f3 (OpenSpec.ofChange Rows.fnExactEventReadSpec) false w args) (Rows.fnExactEventReadSpec.post enc Tryz.prog Tryz.f3 false true false false) := by
  refine returnsInHanded_of_calls own started (by kernel_rfl) (ChangeSpec.witness_at (enc := enc) (C := Tryz.checked) (os := os) (X := fun w _ => laidMet Tryz.prog Rows.fnExactEventReadRow.laid w) false (kK_ os) #[.string ByteArray.empty] 8 rfl (by kernel_rfl) (by kernel_rfl) (by kernel_rfl) (by kernel_rfl) (by kernel_rfl) (jQ_ os _)) ?_
  intro w0 tape inp _ hsh _ hok hpre _
  obtain ⟨_, _, _, fn', hfn', _, _, _, _, hval0⟩ := hok
  obtain rfl : fn' = Tryz.f3 := Option.some.inj (hfn'.symm.trans Tryz.func3)
  obtain ⟨⟨⟨ds, gs, before, hw0, hcnd⟩, hL0⟩, hz⟩ := hpre
  have hW := DataW.Whole.of_heap (w' := w0.forCall tape inp) (by rfl) hw0
  have hL : laidMet Tryz.prog Rows.fnExactEventReadRow.laid (w0.forCall tape inp) := hL0.of_heap (by rfl)
  clear hw0 hL0 hz hfn' hcnd
  generalize w0.forCall tape inp = W at hsh hval0 hW hL ⊢
  generalize inp.args = args at hval0 hW ⊢
  generalize w0.heap.size = base at hval0
  suffices hgo : Calls Tryz.prog 3 args W fun e W' => ∃ v, e = .returned v ∧ Rows.fnExactEventReadSpec.post enc Tryz.prog Tryz.f3 false true false false W args v W' from hgo.mono fun e W' ⟨v, he, hp⟩ => by subst he; exact ChangeSpec.post_blind hp
  have hval : ∀ (j : Nat) t v, Tryz.f3.params[j]? = some t → args[j]? = some v → Value.okWide Tryz.prog W .any base t v := hval0
  have hW' := hW
  obtain ⟨p, q, hA0, hV, rfl, hfz, hnd⟩ := hW
  have hA : DataW.TrodAll enc Tryz.prog W 0 (fun _ => true) true Tryz.f3.params.toList args.toList ds p := hA0
  rw [Tryz.params3] at hA hval
  obtain ⟨v0, vs0, d0, ds0, p0, q0, hargs, rfl, rfl, h0, r0⟩ := trodAll_cons hA
  obtain ⟨rfl, rfl, rfl⟩ := trodAll_nil r0
  obtain rfl : args = #[v0] := by cases args; simp_all
  obtain ⟨rfl, rfl⟩ := trodVars_none hV
  obtain ⟨c0, rfl⟩ := okWide_string Tryz.underlying9 (hval 0 9 v0 rfl rfl)
  have lt0 : ∀ x ∈ p0, x.block < W.heap.size := by obtain ⟨m, hm⟩ := h0; exact DataW.trod_lt m _ _ _ hm
  obtain ⟨l0, k0, e0, g0⟩ := arg_open kindsOk (T := 9) (ks := [.s]) (by kernel_rfl) h0
  replace k0 := dq_ k0; obtain ⟨_, _, rfl, ⟨z0, rfl⟩, k0⟩ := k0
  replace k0 := dG_ k0; subst k0
  have hT : Lib.TabIs Tryz.prog W "internal/strconv.uint64pow10" .u64 Lib.pow10Tab := Lib.tabIs_of_head (t := 216) (e := 177) (n := 20) in_ (by kernel_rfl) (by kernel_rfl) (by kernel_rfl) (by kernel_rfl) (by kernel_rfl) (show laidMet Tryz.prog ((_, Lib.tabData .u64 Lib.pow10Tab) :: _) W from hL.tail.tail)
  obtain ⟨mx, hmx⟩ := cell_of_shapedOpen_int (g := 0) (t := 3) (k := .i64) (zero := #[.int .i64 0]) hsh (by decide +kernel) (by kernel_rfl) rfl (by kernel_rfl) (by kernel_rfl) (by kernel_rfl)
  have hgl : Glob E W NoF := fun p hp => by
    rcases List.mem_cons.1 hp with rfl | hp
    · obtain ⟨T, fr, h⟩ := tab_glob hT in_; exact ⟨⟨_, T, fr, h, rfl⟩, fun h => h.elim⟩
    rcases List.mem_cons.1 hp with rfl | hp
    · exact ⟨int_glob hmx, fun h => h.elim⟩
    rcases List.mem_cons.1 hp with rfl | hp
    · exact ⟨mC_ (d := .ptr (.agg [.lit (.string (mW_ Rows.laid_strconv_ErrSyntax).data.toList)])) (show laidMet Tryz.prog (("strconv.ErrSyntax", .iface "*errors.errorString" (.ptr (.agg [.lit (.string (mW_ Rows.laid_strconv_ErrSyntax).data.toList)]))) :: _) W from hL.tail.tail.tail.tail.tail) (by kernel_rfl) (by kernel_rfl), fun h => h.elim⟩
    rcases List.mem_singleton.1 hp with rfl
    exact ⟨mC_ (d := .ptr (.agg [.lit (.string (mW_ Rows.laid_strconv_ErrRange).data.toList)])) (show laidMet Tryz.prog (("strconv.ErrRange", .iface "*errors.errorString" (.ptr (.agg [.lit (.string (mW_ Rows.laid_strconv_ErrRange).data.toList)]))) :: _) W from hL.tail.tail.tail.tail) (by kernel_rfl) (by kernel_rfl), fun h => h.elim⟩
  obtain ⟨n, hn⟩ := hp z0 g0
  refine (law_true ((bV_ n).h109 (z0, ()) _ hn) hgl (RL.cons e0 (.nil _ fun _ => rfl) (fun b => rfl))).mono fun e W' ⟨he, bel⟩ => ?_
  subst he
  exact ⟨_, rfl, _, _, _, [], _, [], hW', trodAll_mk1 (shut_bool Tryz.underlying4 _), (trodAll_cons_mk (Below.trod laidOut (by kernel_rfl) (of_decide_eq_true (by kernel_rfl)) h0 bel lt0) trodAll_mk0), rfl, bel.frame _, fun h => by cases h⟩
theorem jf0 : (Rows.fnExactEventReadRow.wf (OpenSpec.ofChange Rows.fnExactEventReadSpec)) = true := by kernel_rfl
theorem jf1 : (laidOutB Tryz.prog) = true := by kernel_rfl
theorem jf2 : (mapsRowed Tryz.prog) = true := by kernel_rfl
theorem jf3 : (Tryz.f3.params.all (Tryz.prog.readableRec ·)) = true := by kernel_rfl
theorem jf4 : (namedTie Tryz.prog Rows.fnExactEventReadRow.named Rows.fnExactEventReadSpec.vars) = true := by kernel_rfl
theorem jf5 : ((Rows.fnExactEventReadRow.stops == [])) = true := by kernel_rfl
theorem jf6 : ((Tryz.prog.stops == [])) = true := by kernel_rfl
theorem jf7 : ((Rows.fnExactEventReadRow.knobs == [])) = true := by kernel_rfl
theorem jf8 : ((Tryz.prog.stopKnobs == [])) = true := by kernel_rfl
theorem jf9 : ((Rows.fnExactEventReadRow.inPlace == Tryz.prog.inPlace 3)) = true := by kernel_rfl
theorem jf10 : ((Rows.fnExactEventReadRow.unfollowed == Tryz.prog.unfollowed 3)) = true := by kernel_rfl
theorem jf11 : ((Rows.fnExactEventReadRow.recurses == Tryz.prog.recurses 3)) = true := by kernel_rfl
theorem jf12 : ((Rows.fnExactEventReadRow.named == Tryz.prog.varsNamed 3)) = true := by kernel_rfl
theorem jf13 : ((Rows.fnExactEventReadRow.maps == (Tryz.f3.params.toList ++ Rows.fnExactEventReadSpec.plain.varTypes Tryz.prog).any (Tryz.prog.mapsRec ·))) = true := by kernel_rfl
theorem jf14 : ((Rows.fnExactEventReadRow.ifaces == (Tryz.f3.params.toList ++ Rows.fnExactEventReadSpec.plain.varTypes Tryz.prog).any (Tryz.prog.ifacesRec ·))) = true := by kernel_rfl
theorem jf15 : ((Rows.fnExactEventReadRow.mapsOut == Tryz.prog.mapsAmong Tryz.f3.resultTypes.toList)) = true := by kernel_rfl
theorem jf16 : ((Rows.fnExactEventReadRow.loops == (Tryz.f3.params.toList ++ Rows.fnExactEventReadSpec.plain.varTypes Tryz.prog).any (Tryz.prog.loopsFrom ·))) = true := by kernel_rfl
theorem jf17 : ((Rows.fnExactEventReadRow.wideKeys == (Tryz.f3.params.toList ++ Rows.fnExactEventReadSpec.plain.varTypes Tryz.prog ++ Tryz.f3.resultTypes.toList).any (Tryz.prog.wideKeysFrom ·))) = true := by kernel_rfl
theorem jf18 : (Rows.fnExactEventReadSpec.vars.all (Tryz.prog.varReadable ·)) = true := by kernel_rfl
theorem jf19 : (Tryz.f3.resultTypes.all (fun t => Tryz.prog.readableRec t && decide (t < Tryz.prog.types.size))) = true := by kernel_rfl
theorem jf20 : ((Rows.fnExactEventReadRow.ifacesOut == Tryz.f3.resultTypes.toList.any (Tryz.prog.ifacesRec ·))) = true := by kernel_rfl
theorem jf21 : ((Rows.fnExactEventReadRow.loopsOut == Tryz.f3.resultTypes.toList.any (Tryz.prog.loopsFrom ·))) = true := by kernel_rfl
theorem jf22 : ((Rows.fnExactEventReadRow.plainKeys == Tryz.prog.plainKeys)) = true := by kernel_rfl
theorem jf23 : (Rows.fnExactEventReadRow.shortTexts.isNone) = true := by kernel_rfl
theorem jf24 : (Tryz.prog.stopsHeard) = true := by kernel_rfl
theorem jf25 : (Tryz.prog.mayEnter) = true := by kernel_rfl
theorem jf26 : ((Rows.fnExactEventReadRow.lifted == Tryz.prog.liftsFinal)) = true := by kernel_rfl
theorem jf27 : ((Tryz.prog.make == some Rows.fnExactEventReadRow.make)) = true := by kernel_rfl
theorem jf28 : ((Rows.fnExactEventReadRow.kinds == (if Rows.fnExactEventReadRow.domain.isEmpty then [] else Tryz.f3.params.toList.map fun t => match Tryz.prog.underlying t with | some (.int k) => some k | _ => none))) = true := by kernel_rfl
theorem jf29 : ((Rows.fnExactEventReadRow.pinned == Rows.fnExactEventReadRow.pinnedBy)) = true := by kernel_rfl
theorem jf30 : ((Rows.fnExactEventReadRow.veiled == (Tryz.f3.params.toList ++ Rows.fnExactEventReadSpec.plain.varTypes Tryz.prog ++ Tryz.f3.resultTypes.toList).any (Tryz.prog.veiledRec ·))) = true := by kernel_rfl
theorem jf31 : (Rows.fnExactEventReadRow.veiledFits Tryz.prog Tryz.f3.params.toList (Tryz.f3.params.toList ++ Rows.fnExactEventReadSpec.plain.varTypes Tryz.prog ++ Tryz.f3.resultTypes.toList)) = true := by kernel_rfl
theorem gj_ {a b : Bool} (h : a = true) (k : b = true) : (a && b) = true := by rw [h, k]; rfl
theorem facts : joinedFacts Tryz.pinned.checked.prog 3 Tryz.f3 Rows.fnExactEventReadSpec Rows.fnExactEventReadRow = true := (gj_ (gj_ (gj_ (gj_ (gj_ (gj_ (gj_ (gj_ (gj_ (gj_ (gj_ (gj_ (gj_ (gj_ (gj_ (gj_ (gj_ (gj_ (gj_ (gj_ (gj_ (gj_ (gj_ (gj_ (gj_ (gj_ (gj_ (gj_ (gj_ (gj_ (gj_ jf0 jf1) jf2) jf3) jf4) jf5) jf6) jf7) jf8) jf9) jf10) jf11) jf12) jf13) jf14) jf15) jf16) jf17) jf18) jf19) jf20) jf21) jf22) jf23) jf24) jf25) jf26) jf27) jf28) jf29) jf30) jf31)
theorem over (hp : Pure) : Rows.fnExactEventReadRow.holds Tryz.pinned (OpenSpec.ofChange Rows.fnExactEventReadSpec) :=
  OpenClaim.holds_of_wide 3 Tryz.f3 rfl rfl rfl rfl rfl rfl rfl ⟨rfl, rfl, rfl, rfl, rfl⟩ rfl rfl rfl rfl rfl (by kernel_rfl) Tryz.func3 facts
    (of_decide_eq_true (by kernel_rfl)) (by unfold Func.isWrapper; first | (rw [if_pos (by decide +kernel)]; kernel_rfl) | (rw [if_neg (by decide +kernel)]; exact ⟨rfl, rfl⟩))
    (fun os started H enc _ => lifted hp os started H enc)
end laws_FnExactEventRead
theorem laws_FnExactEventRead.card (hp : laws_FnExactEventRead.Pure) : Rows.FnExactEventReadCardSaid :=
  Claim7.holds_tied_plain_at .later [] [.data, .data, .data, .data, .sentinel, .sentinel, .pinned] true (true, "eb8428fd810aea7f5a51b1307ca0e5a40614afabd133ac955bae0ee68fce9228") true
    (laws_FnExactEventRead.over hp) (fun _ h => by cases h) (by kernel_rfl) (fun _ h => by cases h) fnExactEventRead_row_tie rfl ⟨rfl, rfl⟩ (by kernel_rfl) rfl
    (fun f fn hf hfn => by
      obtain rfl : f = 3 := Option.some.inj ((show Tryz.prog.funcNamed "loop.example/g00198/laws.FnExactEventRead" = some 3 by kernel_rfl).symm.trans hf) |>.symm
      obtain rfl : fn = Tryz.f3 := (Option.some.inj (Tryz.func3.symm.trans hfn)).symm
      exact ⟨by kernel_rfl, fun j t ht => by
        rw [Tryz.params3] at ht
        have hm : t ∈ ([9] : List TypeId) := List.mem_of_getElem? (show ([9] : List TypeId)[j]? = some t by simpa using ht)
        have := List.all_eq_true.1 (show ([9] : List TypeId).all (fun t => !Tryz.prog.wantsStandIn t) = true by kernel_rfl) t hm
        exact (by simpa using this : Tryz.prog.wantsStandIn t = false)⟩)
    (by kernel_rfl)
end Go.Pi
end
section
set_option linter.unusedVariables false
namespace Go.Pi
section
variable {α β : Type}
def Ev (f : Nat → Nat → Option α) (v : α) : Prop := ∃ M, ∀ n N, M ≤ n → M ≤ N → f n N = some v
theorem an_ {v w : α} : Ev (fun _ _ => some v) w ↔ v = w :=
  ⟨fun ⟨M, h⟩ => Option.some.inj (h M M (Nat.le_refl _) (Nat.le_refl _)), fun h => ⟨0, fun _ _ _ _ => by rw [h]⟩⟩
theorem dC_ {f : Nat → Nat → Option α} {v w : α} (h : Ev f v) : Ev f w ↔ v = w := by
  constructor
  · rintro ⟨M', h'⟩
    obtain ⟨M, h⟩ := h
    have a := h (max M M') (max M M') (by omega) (by omega)
    have b := h' (max M M') (max M M') (by omega) (by omega)
    rw [a] at b
    exact Option.some.inj b
  · rintro rfl; exact h
theorem ae_ {f : Nat → Nat → Option α} {a : α} (h : Ev f a) {g : Nat → Nat → α → Option β} {v : β} : Ev (fun n N => (f n N).bind (g n N)) v ↔ Ev (fun n N => g n N a) v := by
  obtain ⟨M, h⟩ := h
  constructor
  · rintro ⟨M', h'⟩
    refine ⟨max M M', fun n N h1 h2 => ?_⟩
    have := h' n N (by omega) (by omega)
    simp only [h n N (by omega) (by omega), Option.bind_some] at this
    exact this
  · rintro ⟨M', h'⟩
    refine ⟨max M M', fun n N h1 h2 => ?_⟩
    simp only [h n N (by omega) (by omega), Option.bind_some]
    exact h' n N (by omega) (by omega)
theorem cM_ {v : α} : Ev (fun _ _ => none) v ↔ False := by
  simp only [iff_false]
  rintro ⟨M, h⟩
  cases h M M (Nat.le_refl _) (Nat.le_refl _)
theorem aM_ {c : Bool} {f g : Nat → Nat → Option α} {v : α} : Ev (fun n N => cond c (f n N) (g n N)) v ↔ (c = true → Ev f v) ∧ (c = false → Ev g v) := by
  cases c <;> simp
theorem bT_ {i : Int} {len : Nat} {f : Nat → Nat → Option α} {v : α} : Ev (fun n N => inB i len (f n N)) v ↔ (0 ≤ i ∧ i < (len : Int)) ∧ Ev f v := by
  unfold inB
  rw [aM_, aM_]
  by_cases h1 : 0 ≤ i <;> by_cases h2 : i < (len : Int) <;> simp [h1, h2, cM_]
theorem aS_ {f : Nat → Nat → Option α} {v : α} (h : Ev (fun n N => f (n + 1) N) v) : Ev f v := by
  obtain ⟨M, h⟩ := h
  refine ⟨M + 1, fun n N h1 h2 => ?_⟩
  obtain ⟨m, rfl⟩ : ∃ m, n = m + 1 := ⟨n - 1, by omega⟩
  exact h m N (by omega) (by omega)
theorem cE_ {f : Nat → Nat → Option α} {v : α} (h : Ev f v) : Ev (fun n _ => f n n) v := by
  obtain ⟨M, h⟩ := h
  exact ⟨M, fun n N h1 h2 => h n n h1 h1⟩
theorem bv_ {f : Nat → Nat → Option α} {v : α} (h : Ev (fun n N => f n (N + 1)) v) : Ev f v := by
  obtain ⟨M, h⟩ := h
  refine ⟨M + 1, fun n N h1 h2 => ?_⟩
  obtain ⟨m, rfl⟩ : ∃ m, N = m + 1 := ⟨N - 1, by omega⟩
  exact h n m (by omega) (by omega)
theorem ev_ex {f : Nat → Option α} {v : α} (h : Ev (fun n _ => f n) v) : ∃ n, f n = some v := by
  obtain ⟨M, h⟩ := h
  exact ⟨M, h M M (Nat.le_refl _) (Nat.le_refl _)⟩
theorem ev_up {σ : Type} (L : Nat → Nat → Nat → σ → Option α) (F : Nat → σ → α) (I : Nat → σ → Prop) (len : Nat)
    (h : ∀ i s, I i s → i ≤ len → (∀ s', I (i + 1) s' → i < len → Ev (fun n N => L n N (i + 1) s') (F (i + 1) s')) → Ev (fun n N => L n (N + 1) i s) (F i s)) :
    ∀ s, I 0 s → Ev (fun n _ => L n n 0 s) (F 0 s) := by
  have key : ∀ d i s, d + i = len → I i s → Ev (fun n N => L n N i s) (F i s) := by
    intro d
    induction d with
    | zero => exact fun i s hd hI => bv_ (h i s hI (by omega) fun s' _ hl => absurd hl (by omega))
    | succ d ih => exact fun i s hd hI => bv_ (h i s hI (by omega) fun s' hI' _ => ih (i + 1) s' (by omega) hI')
  exact fun s hI => cE_ (f := fun n N => L n N 0 s) (key len 0 s (by omega) hI)
theorem ev_up1 (L : Nat → Nat → Nat → Option α) (F : Nat → α) (len : Nat)
    (h : ∀ i, i ≤ len → (i < len → Ev (fun n N => L n N (i + 1)) (F (i + 1))) → Ev (fun n N => L n (N + 1) i) (F i)) :
    Ev (fun n _ => L n n 0) (F 0) :=
  ev_up (σ := Unit) (fun n N i _ => L n N i) (fun i _ => F i) (fun _ _ => True) len (fun i s _ hi k => h i hi fun hl => k () trivial hl) () trivial
end
abbrev cv_ : Nat := 9223372036854775807
theorem W_id {n : Int} (h : -9223372036854775808 ≤ n) (h' : n < 9223372036854775808) : W n = n := by
  show IntKind.i64.wrap n = n
  rw [IntKind.wrap_i64]; omega
theorem W_up {i : Nat} {len : Nat} (h : i < len) (hl : len ≤ cv_) : W ((i : Int) + 1) = ((i + 1 : Nat) : Int) := by
  rw [W_id (by omega) (by simp only [cv_] at hl; omega)]; omega
theorem eg_ {α : Type} (d : α) {a : List α} {i : Nat} (h : i < a.length) : a.drop i = a.getD i d :: a.drop (i + 1) := by
  rw [List.drop_eq_getElem_cons h, List.getD_eq_getElem?_getD, List.getElem?_eq_getElem h]; rfl
theorem mF_ {α : Type} {a : List α} {i : Nat} (h : a.length ≤ i) : a.drop i = [] := List.drop_eq_nil_of_le h
theorem cx_ {α : Type} (d : α) {a : List α} {i : Nat} (h : i < a.length) : a.getD i d ∈ a := by
  rw [List.getD_eq_getElem?_getD, List.getElem?_eq_getElem h]; exact List.getElem_mem h
end Go.Pi
end
section
set_option linter.unusedVariables false
set_option maxRecDepth 100000
namespace Go.Pi
abbrev aP_.K5 : Type := (List Bs) → Option (List Bs)
theorem aP_.turn5 {n N : Nat} {k : (List Bs) → Option (List Bs)} {x0 x1 x2 x3} : aP_.loop5 n k (N + 1) x0 x1 x2 x3 = aP_.step5 n k (aP_.loop5 n k N) x0 x1 x2 x3 := rfl
abbrev ax_.K7 : Type := Bool → Int → Int → Bs → Int → Bool → Int → Option (Int × a3_)
theorem ax_.turn7 {n N : Nat} {k : Bool → Int → Int → Bs → Int → Bool → Int → Option (Int × a3_)} {x0 x1 x2 x3 x4 x5 x6} : ax_.loop7 n k (N + 1) x0 x1 x2 x3 x4 x5 x6 = ax_.step7 n k (ax_.loop7 n k N) x0 x1 x2 x3 x4 x5 x6 := rfl
abbrev aI_.K7 : Type := Bool → Bs → Option Bs
theorem aI_.turn7 {n N : Nat} {k : Bool → Bs → Option Bs} {x0 x1 x2} : aI_.loop7 n k (N + 1) x0 x1 x2 = aI_.step7 n k (aI_.loop7 n k N) x0 x1 x2 := rfl
abbrev ay_.K4 : Type := Bs → Int → Bool → Int → (List Int) → Option (Bs × a3_)
theorem ay_.turn4 {n N : Nat} {k : Bs → Int → Bool → Int → (List Int) → Option (Bs × a3_)} {x0 x1 x2 x3 x4} : ay_.loop4 n k (N + 1) x0 x1 x2 x3 x4 = ay_.step4 n k (ay_.loop4 n k N) x0 x1 x2 x3 x4 := rfl
abbrev aL_.K8_1 : Type := Bs → Bs → Int → Bool → Int → Int → Int → Bs → Int → Int → Bs → (List aa_) → (List Bs) → Option (aa_ × a3_)
theorem aL_.turn8 {n N : Nat} {k0 : a3_ → Int → Option (aa_ × a3_)} {k1 : Bs → Bs → Int → Bool → Int → Int → Int → Bs → Int → Int → Bs → (List aa_) → (List Bs) → Option (aa_ × a3_)} {x0 x1 x2 x3 x4 x5 x6 x7 x8 x9 x10 x11 x12 x13} : aL_.loop8 n k0 k1 (N + 1) x0 x1 x2 x3 x4 x5 x6 x7 x8 x9 x10 x11 x12 x13 = aL_.step8 n k0 k1 (aL_.loop8 n k0 k1 N) x0 x1 x2 x3 x4 x5 x6 x7 x8 x9 x10 x11 x12 x13 := rfl
abbrev a6_.K3 : Type := Bs → Option Bool
theorem a6_.turn3 {n N : Nat} {k : Bs → Option Bool} {x0 x1} : a6_.loop3 n k (N + 1) x0 x1 = a6_.step3 n k (a6_.loop3 n k N) x0 x1 := rfl
abbrev ad_.K6 : Type := Int → Int → Bs → (List aa_) → (List Bs) → Option Bool
theorem ad_.turn6 {n N : Nat} {k : Int → Int → Bs → (List aa_) → (List Bs) → Option Bool} {x0 x1 x2 x3 x4 x5} : ad_.loop6 n k (N + 1) x0 x1 x2 x3 x4 x5 = ad_.step6 n k (ad_.loop6 n k N) x0 x1 x2 x3 x4 x5 := rfl
abbrev aD_.K23_1 : Type := Int → Int → Int → Int → Bs → (List aa_) → (List Bs) → Option Int
theorem aD_.turn23 {n N : Nat} {k0 : aa_ → Int → Option Int} {k1 : Int → Int → Int → Int → Bs → (List aa_) → (List Bs) → Option Int} {x0 x1 x2 x3 x4 x5 x6 x7 x8} : aD_.loop23 n k0 k1 (N + 1) x0 x1 x2 x3 x4 x5 x6 x7 x8 = aD_.step23 n k0 k1 (aD_.loop23 n k0 k1 N) x0 x1 x2 x3 x4 x5 x6 x7 x8 := rfl
abbrev aU_.K4 : Type := (List Int) → Option Bs
theorem aU_.turn4 {n N : Nat} {k : (List Int) → Option Bs} {x0 x1 x2} : aU_.loop4 n k (N + 1) x0 x1 x2 = aU_.step4 n k (aU_.loop4 n k N) x0 x1 x2 := rfl
abbrev aA_.K17_1 : Type := Bs → Int → Int → Bs → (List aa_) → (List Bs) → Option Bs
theorem aA_.turn17 {n N : Nat} {k0 : aa_ → Option Bs} {k1 : Bs → Int → Int → Bs → (List aa_) → (List Bs) → Option Bs} {x0 x1 x2 x3 x4 x5 x6} : aA_.loop17 n k0 k1 (N + 1) x0 x1 x2 x3 x4 x5 x6 = aA_.step17 n k0 k1 (aA_.loop17 n k0 k1 N) x0 x1 x2 x3 x4 x5 x6 := rfl
abbrev bo_.K3 : Type := Option Int
theorem bo_.turn3 {n N : Nat} {k : Option Int} {x0 x1 x2 x3 x4 x5 x6} : bo_.loop3 n k (N + 1) x0 x1 x2 x3 x4 x5 x6 = bo_.step3 n k (bo_.loop3 n k N) x0 x1 x2 x3 x4 x5 x6 := rfl
abbrev a4_.K4_1 : Type := Int → Int → Bs → Int → Int → Bs → (List aa_) → (List Bs) → Option aa_
theorem a4_.turn4 {n N : Nat} {k0 : aa_ → Option aa_} {k1 : Int → Int → Bs → Int → Int → Bs → (List aa_) → (List Bs) → Option aa_} {x0 x1 x2 x3 x4 x5 x6 x7 x8 x9 x10 x11 x12 x13} : a4_.loop4 n k0 k1 (N + 1) x0 x1 x2 x3 x4 x5 x6 x7 x8 x9 x10 x11 x12 x13 = a4_.step4 n k0 k1 (a4_.loop4 n k0 k1 N) x0 x1 x2 x3 x4 x5 x6 x7 x8 x9 x10 x11 x12 x13 := rfl
abbrev aK_.K6 : Type := Bs → (List Bs) → (List Bs) → (List Int) → Option ((List Bs) × Bool)
theorem aK_.turn6 {n N : Nat} {k : Bs → (List Bs) → (List Bs) → (List Int) → Option ((List Bs) × Bool)} {x0 x1 x2 x3 x4} : aK_.loop6 n k (N + 1) x0 x1 x2 x3 x4 = aK_.step6 n k (aK_.loop6 n k N) x0 x1 x2 x3 x4 := rfl
abbrev ah_.K6_1 : Type := Int → Int → Bs → (List aa_) → (List Bs) → Int → Int → Bs → (List aa_) → (List Bs) → Option Bool
theorem ah_.turn6 {n N : Nat} {k0 : aa_ → aa_ → Option Bool} {k1 : Int → Int → Bs → (List aa_) → (List Bs) → Int → Int → Bs → (List aa_) → (List Bs) → Option Bool} {x0 x1 x2 x3 x4 x5 x6 x7 x8 x9 x10} : ah_.loop6 n k0 k1 (N + 1) x0 x1 x2 x3 x4 x5 x6 x7 x8 x9 x10 = ah_.step6 n k0 k1 (ah_.loop6 n k0 k1 N) x0 x1 x2 x3 x4 x5 x6 x7 x8 x9 x10 := rfl
abbrev ah_.K14_1 : Type := Option Bool
theorem ah_.turn14 {n N : Nat} {k0 : aa_ → aa_ → Option Bool} {k1 : Option Bool} {x0 x1 x2 x3 x4 x5 x6 x7 x8 x9 x10} : ah_.loop14 n k0 k1 (N + 1) x0 x1 x2 x3 x4 x5 x6 x7 x8 x9 x10 = ah_.step14 n k0 k1 (ah_.loop14 n k0 k1 N) x0 x1 x2 x3 x4 x5 x6 x7 x8 x9 x10 := rfl
abbrev bl_.K6 : Type := Int → (List Bs) → Int → Int → Bs → (List aa_) → (List Bs) → Option Bool
theorem bl_.turn6 {n N : Nat} {k : Int → (List Bs) → Int → Int → Bs → (List aa_) → (List Bs) → Option Bool} {x0 x1 x2 x3 x4 x5 x6 x7} : bl_.loop6 n k (N + 1) x0 x1 x2 x3 x4 x5 x6 x7 = bl_.step6 n k (bl_.loop6 n k N) x0 x1 x2 x3 x4 x5 x6 x7 := rfl
abbrev ar_.K10 : Type := (List Bs) → Int → (List Int) → Option Bs
theorem ar_.turn10 {n N : Nat} {k : (List Bs) → Int → (List Int) → Option Bs} {x0 x1 x2 x3} : ar_.loop10 n k (N + 1) x0 x1 x2 x3 = ar_.step10 n k (ar_.loop10 n k N) x0 x1 x2 x3 := rfl
abbrev ar_.K4 : Type := (List Int) → Option Bs
theorem ar_.turn4 {n N : Nat} {k : (List Int) → Option Bs} {x0 x1 x2} : ar_.loop4 n k (N + 1) x0 x1 x2 = ar_.step4 n k (ar_.loop4 n k N) x0 x1 x2 := rfl
abbrev bf_.K5 : Type := Bs → Bool → Int → Int → Bs → (List aa_) → (List Bs) → Int → Int → Bs → Int → Int → Bs → (List aa_) → (List Bs) → Option aa_
theorem bf_.turn5 {n N : Nat} {k : Bs → Bool → Int → Int → Bs → (List aa_) → (List Bs) → Int → Int → Bs → Int → Int → Bs → (List aa_) → (List Bs) → Option aa_} {x0 x1 x2 x3 x4 x5 x6 x7 x8 x9 x10 x11 x12 x13 x14 x15 x16 x17 x18 x19 x20} : bf_.loop5 n k (N + 1) x0 x1 x2 x3 x4 x5 x6 x7 x8 x9 x10 x11 x12 x13 x14 x15 x16 x17 x18 x19 x20 = bf_.step5 n k (bf_.loop5 n k N) x0 x1 x2 x3 x4 x5 x6 x7 x8 x9 x10 x11 x12 x13 x14 x15 x16 x17 x18 x19 x20 := rfl
abbrev aH_.K7 : Type := Int → Int → Bs → (List aa_) → (List Bs) → Int → Int → Int → Bs → Int → Int → Int → Bs → Int → Int → Bs → (List aa_) → (List Bs) → Option (TOp × Bool)
theorem aH_.turn7 {n N : Nat} {k : Int → Int → Bs → (List aa_) → (List Bs) → Int → Int → Int → Bs → Int → Int → Int → Bs → Int → Int → Bs → (List aa_) → (List Bs) → Option (TOp × Bool)} {x0 x1 x2 x3 x4 x5 x6 x7 x8 x9 x10 x11 x12 x13 x14 x15 x16 x17 x18 x19 x20 x21 x22 x23 x24} : aH_.loop7 n k (N + 1) x0 x1 x2 x3 x4 x5 x6 x7 x8 x9 x10 x11 x12 x13 x14 x15 x16 x17 x18 x19 x20 x21 x22 x23 x24 = aH_.step7 n k (aH_.loop7 n k N) x0 x1 x2 x3 x4 x5 x6 x7 x8 x9 x10 x11 x12 x13 x14 x15 x16 x17 x18 x19 x20 x21 x22 x23 x24 := rfl
abbrev a5_.K4 : Type := (List TOp) → Int → Int → Bs → Int → Int → Bs → (List aa_) → Option (aa_ × Bool)
theorem a5_.turn4 {n N : Nat} {k : (List TOp) → Int → Int → Bs → Int → Int → Bs → (List aa_) → Option (aa_ × Bool)} {x0 x1 x2 x3 x4 x5 x6 x7 x8} : a5_.loop4 n k (N + 1) x0 x1 x2 x3 x4 x5 x6 x7 x8 = a5_.step4 n k (a5_.loop4 n k N) x0 x1 x2 x3 x4 x5 x6 x7 x8 := rfl
abbrev ac_.K20 : Type := Bs → Int → Int → Int → Int → Int → Int → Bs → Int → Int → Int → Int → Int → Bs → (List Bs) → (List aa_) → (List Bs) → (List TOp) → Option (bb_ × Bool)
theorem ac_.turn20 {n N : Nat} {k : Bs → Int → Int → Int → Int → Int → Int → Bs → Int → Int → Int → Int → Int → Bs → (List Bs) → (List aa_) → (List Bs) → (List TOp) → Option (bb_ × Bool)} {x0 x1 x2 x3 x4 x5 x6 x7 x8 x9 x10 x11 x12 x13 x14 x15 x16 x17 x18 x19 x20 x21 x22 x23} : ac_.loop20 n k (N + 1) x0 x1 x2 x3 x4 x5 x6 x7 x8 x9 x10 x11 x12 x13 x14 x15 x16 x17 x18 x19 x20 x21 x22 x23 = ac_.step20 n k (ac_.loop20 n k N) x0 x1 x2 x3 x4 x5 x6 x7 x8 x9 x10 x11 x12 x13 x14 x15 x16 x17 x18 x19 x20 x21 x22 x23 := rfl
abbrev ac_.K5 : Type := Bs → Int → Int → Int → Int → Int → Bs → Int → Int → Int → Int → Int → Bs → (List aa_) → (List Bs) → (List TOp) → Option (bb_ × Bool)
theorem ac_.turn5 {n N : Nat} {k : Bs → Int → Int → Int → Int → Int → Bs → Int → Int → Int → Int → Int → Bs → (List aa_) → (List Bs) → (List TOp) → Option (bb_ × Bool)} {x0 x1 x2 x3 x4 x5 x6 x7 x8 x9 x10 x11 x12 x13 x14 x15 x16 x17} : ac_.loop5 n k (N + 1) x0 x1 x2 x3 x4 x5 x6 x7 x8 x9 x10 x11 x12 x13 x14 x15 x16 x17 = ac_.step5 n k (ac_.loop5 n k N) x0 x1 x2 x3 x4 x5 x6 x7 x8 x9 x10 x11 x12 x13 x14 x15 x16 x17 := rfl
abbrev ai_.K4 : Type := Bs → Bool → Option (Bs × aC_)
theorem ai_.turn4 {n N : Nat} {k : Bs → Bool → Option (Bs × aC_)} {x0 x1 x2} : ai_.loop4 n k (N + 1) x0 x1 x2 = ai_.step4 n k (ai_.loop4 n k N) x0 x1 x2 := rfl
abbrev ag_.K3 : Type := Int → Bs → Bool → Int → Int → Bs → Option (aa_ × aC_)
theorem ag_.turn3 {n N : Nat} {k : Int → Bs → Bool → Int → Int → Bs → Option (aa_ × aC_)} {x0 x1 x2 x3 x4 x5} : ag_.loop3 n k (N + 1) x0 x1 x2 x3 x4 x5 = ag_.step3 n k (ag_.loop3 n k N) x0 x1 x2 x3 x4 x5 := rfl
abbrev af_.K7_1 : Type := Bs → Bs → Bool → Int → Int → Bs → Int → Int → Bs → (List aa_) → (List Bs) → Option (aa_ × aC_)
theorem af_.turn7 {n N : Nat} {k0 : aC_ → Int → Option (aa_ × aC_)} {k1 : Bs → Bs → Bool → Int → Int → Bs → Int → Int → Bs → (List aa_) → (List Bs) → Option (aa_ × aC_)} {x0 x1 x2 x3 x4 x5 x6 x7 x8 x9 x10 x11 x12 x13} : af_.loop7 n k0 k1 (N + 1) x0 x1 x2 x3 x4 x5 x6 x7 x8 x9 x10 x11 x12 x13 = af_.step7 n k0 k1 (af_.loop7 n k0 k1 N) x0 x1 x2 x3 x4 x5 x6 x7 x8 x9 x10 x11 x12 x13 := rfl
abbrev as_.K3 : Type := Bs → Option Bool
theorem as_.turn3 {n N : Nat} {k : Bs → Option Bool} {x0 x1 x2} : as_.loop3 n k (N + 1) x0 x1 x2 = as_.step3 n k (as_.loop3 n k N) x0 x1 x2 := rfl
abbrev am_.K3 : Type := Option Bool
theorem am_.turn3 {n N : Nat} {k : Option Bool} {x0 x1 x2 x3} : am_.loop3 n k (N + 1) x0 x1 x2 x3 = am_.step3 n k (am_.loop3 n k N) x0 x1 x2 x3 := rfl
abbrev aW_.K7_1 : Type := Int → Option Int
theorem aW_.turn7 {n N : Nat} {k0 : aa_ → Int → Option Int} {k1 : Int → Option Int} {x0 x1 x2 x3 x4} : aW_.loop7 n k0 k1 (N + 1) x0 x1 x2 x3 x4 = aW_.step7 n k0 k1 (aW_.loop7 n k0 k1 N) x0 x1 x2 x3 x4 := rfl
abbrev a8_.K4 : Type := (List Int) → Option Bs
theorem a8_.turn4 {n N : Nat} {k : (List Int) → Option Bs} {x0 x1 x2 x3} : a8_.loop4 n k (N + 1) x0 x1 x2 x3 = a8_.step4 n k (a8_.loop4 n k N) x0 x1 x2 x3 := rfl
abbrev aN_.K4_1 : Type := Int → Int → Bs → (List aa_) → (List Bs) → (List Bs) → Option Bs
theorem aN_.turn4 {n N : Nat} {k0 : aa_ → Option Bs} {k1 : Int → Int → Bs → (List aa_) → (List Bs) → (List Bs) → Option Bs} {x0 x1 x2 x3 x4 x5 x6 x7 x8} : aN_.loop4 n k0 k1 (N + 1) x0 x1 x2 x3 x4 x5 x6 x7 x8 = aN_.step4 n k0 k1 (aN_.loop4 n k0 k1 N) x0 x1 x2 x3 x4 x5 x6 x7 x8 := rfl
abbrev aj_.K3 : Type := Option Int
theorem aj_.turn3 {n N : Nat} {k : Option Int} {x0 x1 x2 x3} : aj_.loop3 n k (N + 1) x0 x1 x2 x3 = aj_.step3 n k (aj_.loop3 n k N) x0 x1 x2 x3 := rfl
abbrev aJ_.K4_1 : Type := Int → Int → Bs → Int → Int → Bs → (List aa_) → (List Bs) → Option aa_
theorem aJ_.turn4 {n N : Nat} {k0 : aa_ → Option aa_} {k1 : Int → Int → Bs → Int → Int → Bs → (List aa_) → (List Bs) → Option aa_} {x0 x1 x2 x3 x4 x5 x6 x7 x8 x9 x10} : aJ_.loop4 n k0 k1 (N + 1) x0 x1 x2 x3 x4 x5 x6 x7 x8 x9 x10 = aJ_.step4 n k0 k1 (aJ_.loop4 n k0 k1 N) x0 x1 x2 x3 x4 x5 x6 x7 x8 x9 x10 := rfl
abbrev aV_.K4 : Type := Bs → Option Bs
theorem aV_.turn4 {n N : Nat} {k : Bs → Option Bs} {x0 x1 x2 x3} : aV_.loop4 n k (N + 1) x0 x1 x2 x3 = aV_.step4 n k (aV_.loop4 n k N) x0 x1 x2 x3 := rfl
abbrev a1_.K7 : Type := Bs → (List Bs) → Option ((List Bs) × Bool)
theorem a1_.turn7 {n N : Nat} {k : Bs → (List Bs) → Option ((List Bs) × Bool)} {x0 x1 x2 x3 x4} : a1_.loop7 n k (N + 1) x0 x1 x2 x3 x4 = a1_.step7 n k (a1_.loop7 n k N) x0 x1 x2 x3 x4 := rfl
abbrev bm_.K3 : Type := Int → (List Bs) → Int → Int → Bs → (List aa_) → (List Bs) → Option Bool
theorem bm_.turn3 {n N : Nat} {k : Int → (List Bs) → Int → Int → Bs → (List aa_) → (List Bs) → Option Bool} {x0 x1 x2 x3 x4 x5 x6 x7 x8 x9} : bm_.loop3 n k (N + 1) x0 x1 x2 x3 x4 x5 x6 x7 x8 x9 = bm_.step3 n k (bm_.loop3 n k N) x0 x1 x2 x3 x4 x5 x6 x7 x8 x9 := rfl
abbrev ak_.K6 : Type := Option Bool
theorem ak_.turn6 {n N : Nat} {k : Option Bool} {x0 x1 x2 x3} : ak_.loop6 n k (N + 1) x0 x1 x2 x3 = ak_.step6 n k (ak_.loop6 n k N) x0 x1 x2 x3 := rfl
abbrev ab_.K6_1 : Type := Option Bool
theorem ab_.turn6 {n N : Nat} {k0 : aa_ → aa_ → Option Bool} {k1 : Option Bool} {x0 x1 x2 x3} : ab_.loop6 n k0 k1 (N + 1) x0 x1 x2 x3 = ab_.step6 n k0 k1 (ab_.loop6 n k0 k1 N) x0 x1 x2 x3 := rfl
abbrev bc_.K4 : Type := Int → Int → Bs → (List aa_) → (List Bs) → (List TOp) → Option ((List TOp) × Bool)
theorem bc_.turn4 {n N : Nat} {k : Int → Int → Bs → (List aa_) → (List Bs) → (List TOp) → Option ((List TOp) × Bool)} {x0 x1 x2 x3 x4 x5 x6 x7 x8} : bc_.loop4 n k (N + 1) x0 x1 x2 x3 x4 x5 x6 x7 x8 = bc_.step4 n k (bc_.loop4 n k N) x0 x1 x2 x3 x4 x5 x6 x7 x8 := rfl
abbrev aR_.K4 : Type := Int → Int → Bs → Int → Int → Bs → (List aa_) → Option (aa_ × Bool)
theorem aR_.turn4 {n N : Nat} {k : Int → Int → Bs → Int → Int → Bs → (List aa_) → Option (aa_ × Bool)} {x0 x1 x2 x3 x4 x5 x6 x7 x8 x9} : aR_.loop4 n k (N + 1) x0 x1 x2 x3 x4 x5 x6 x7 x8 x9 = aR_.step4 n k (aR_.loop4 n k N) x0 x1 x2 x3 x4 x5 x6 x7 x8 x9 := rfl
abbrev aG_.K6 : Type := Option Bool
theorem aG_.turn6 {n N : Nat} {k : Option Bool} {x0 x1 x2} : aG_.loop6 n k (N + 1) x0 x1 x2 = aG_.step6 n k (aG_.loop6 n k N) x0 x1 x2 := rfl
abbrev aZ_.K6_1 : Type := Option Bool
theorem aZ_.turn6 {n N : Nat} {k0 : aa_ → aa_ → Option Bool} {k1 : Option Bool} {x0 x1 x2} : aZ_.loop6 n k0 k1 (N + 1) x0 x1 x2 = aZ_.step6 n k0 k1 (aZ_.loop6 n k0 k1 N) x0 x1 x2 := rfl
abbrev bh_.K6 : Type := Option Bool
theorem bh_.turn6 {n N : Nat} {k : Option Bool} {x0 x1 x2} : bh_.loop6 n k (N + 1) x0 x1 x2 = bh_.step6 n k (bh_.loop6 n k N) x0 x1 x2 := rfl
abbrev aE_.K6 : Type := Bs → Option Bs
theorem aE_.turn6 {n N : Nat} {k : Bs → Option Bs} {x0 x1} : aE_.loop6 n k (N + 1) x0 x1 = aE_.step6 n k (aE_.loop6 n k N) x0 x1 := rfl
abbrev ap_.K3 : Type := Int → (List Bs) → Option (Int × (List Bs))
theorem ap_.turn3 {n N : Nat} {k : Int → (List Bs) → Option (Int × (List Bs))} {x0 x1 x2} : ap_.loop3 n k (N + 1) x0 x1 x2 = ap_.step3 n k (ap_.loop3 n k N) x0 x1 x2 := rfl
abbrev au_.K3_1 : Type := Int → (List aa_) → Option (Int × (List aa_))
theorem au_.turn3 {n N : Nat} {k0 : (List aa_) → Int → Option (Int × (List aa_))} {k1 : Int → (List aa_) → Option (Int × (List aa_))} {x0 x1 x2} : au_.loop3 n k0 k1 (N + 1) x0 x1 x2 = au_.step3 n k0 k1 (au_.loop3 n k0 k1 N) x0 x1 x2 := rfl
abbrev aX_.K3 : Type := Int → (List TOp) → Option (Int × (List TOp))
theorem aX_.turn3 {n N : Nat} {k : Int → (List TOp) → Option (Int × (List TOp))} {x0 x1 x2} : aX_.loop3 n k (N + 1) x0 x1 x2 = aX_.step3 n k (aX_.loop3 n k N) x0 x1 x2 := rfl
abbrev aq_.K3 : Type := Int → Option Int
theorem aq_.turn3 {n N : Nat} {k : Int → Option Int} {x0 x1 x2} : aq_.loop3 n k (N + 1) x0 x1 x2 = aq_.step3 n k (aq_.loop3 n k N) x0 x1 x2 := rfl
abbrev av_.K3_1 : Type := Int → Option Int
theorem av_.turn3 {n N : Nat} {k0 : (List aa_) → Int → Option Int} {k1 : Int → Option Int} {x0 x1 x2} : av_.loop3 n k0 k1 (N + 1) x0 x1 x2 = av_.step3 n k0 k1 (av_.loop3 n k0 k1 N) x0 x1 x2 := rfl
abbrev aY_.K3 : Type := Int → Option Int
theorem aY_.turn3 {n N : Nat} {k : Int → Option Int} {x0 x1 x2} : aY_.loop3 n k (N + 1) x0 x1 x2 = aY_.step3 n k (aY_.loop3 n k N) x0 x1 x2 := rfl
end Go.Pi
end
section
set_option linter.unusedVariables false
set_option maxRecDepth 100000
set_option linter.unusedSimpArgs false
namespace Go.Pi
def fD_ (p : Nat → Bool) : Nat → Nat → Bool
  | 0, _ => true
  | d + 1, i => p i && fD_ p d (i + 1)
def lQ_ (p : Nat → Bool) (len : Nat) : Bool := fD_ p len 0
theorem f5_ (L : Nat → Nat → Nat → Option Bool) (p : Nat → Bool) {len : Nat} {v : Bool}
    (h : ∀ i w, i < len → Ev (fun n N => L n N (i + 1)) w → Ev (fun n N => L n (N + 1) i) (p i && w)) (h2 : Ev (fun n N => L n (N + 1) len) v) :
    Ev (fun n _ => L n n 0) (lQ_ p len && v) := by
  have key : ∀ d i, d + i = len → Ev (fun n N => L n N i) (fD_ p d i && v) := by
    intro d
    induction d with
    | zero => intro i hd; obtain rfl : i = len := by omega
              simpa [fD_] using bv_ (f := fun n N => L n N i) h2
    | succ d ih => intro i hd
                   have := h i _ (by omega) (ih (i + 1) (by omega))
                   rw [← Bool.and_assoc] at this
                   exact bv_ (f := fun n N => L n N i) this
  exact cE_ (f := fun n N => L n N 0) (key len 0 (by omega))
theorem hM_ {α : Type} {f : Nat → Nat → Option α} {v w : α} (h : Ev f v) (e : v = w) : Ev f w := e ▸ h
def inn (x lo hi : Int) : Bool := decide (lo ≤ x) && decide (x ≤ hi)
theorem inn_iff {x lo hi : Int} : inn x lo hi = true ↔ lo ≤ x ∧ x ≤ hi := by simp [inn]
theorem l1In_ev {x lo hi : Int} : Ev (fun n _ => cl_ n x lo hi) (inn x lo hi) := by
  refine aS_ ?_
  simp only [cl_, aM_, an_, inn]
  grind
theorem kc_ {x lo hi : Int} : Ev (fun n _ => aO_ n x lo hi) (inn x lo hi) := by
  refine aS_ ?_
  simp only [aO_, aM_, an_, inn]
  grind
section
variable {β : Type} {x lo hi : Int} {g : Nat → Nat → Bool → Option β} {v : β}
theorem l1In_b : Ev (fun n N => (cl_ n x lo hi).bind (g n N)) v ↔ Ev (fun n N => g n N (inn x lo hi)) v := ae_ l1In_ev
theorem ep_ : Ev (fun n N => (aO_ n x lo hi).bind (g n N)) v ↔ Ev (fun n N => g n N (inn x lo hi)) v := ae_ kc_
theorem isNum_b : Ev (fun n N => (a9_ n x).bind (g n N)) v ↔ Ev (fun n N => g n N (inn x (-1000000000) 1000000000)) v :=
  ae_ (aS_ (by simp only [a9_, ep_, an_]))
end
theorem cO_ {i len : Nat} (h : i < len) : decide ((i : Int) < (len : Int)) = true := by simp; omega
theorem cL_ {len : Nat} : decide ((len : Int) < (len : Int)) = false := by simp
theorem cz_ {i len : Nat} (h : i < len) : ((0 : Int) ≤ (i : Int) ∧ (i : Int) < (len : Int)) ↔ True := by simp; omega
end Go.Pi
end
section
set_option linter.unusedVariables false
namespace Go.Pi
def ds_ {α : Type} (f : α → Nat) : List α → Nat
  | [] => 0
  | x :: xs => f x + ds_ f xs
def dk_ {α : Type} (f : α → Nat) (l : List α) : Nat := l.length + ds_ f l
def lenL {α : Type} (P : α → Prop) (l : List α) : Prop := l.length ≤ cv_ ∧ ∀ x ∈ l, P x
def szB (s : Bs) : Nat := s.length
def lenB (s : Bs) : Prop := s.length ≤ cv_
theorem gs_ {α : Type} (f : α → Nat) (d : α) {a : List α} {i : Nat} (h : i < a.length) : ds_ f (a.drop i) = f (a.getD i d) + ds_ f (a.drop (i + 1)) := by
  rw [eg_ d h]; rfl
theorem jy_ {α : Type} (f : α → Nat) (x : α) : ∀ (a : List α) (i : Nat), ds_ f ((a.set i x).drop (i + 1)) = ds_ f (a.drop (i + 1))
  | [], _ => rfl
  | _ :: _, 0 => rfl
  | _ :: a, i + 1 => by simpa using jy_ f x a i
theorem g2_ {α : Type} (f : α → Nat) {a : List α} {x : α} (h : x ∈ a) : f x ≤ ds_ f a := by
  induction a with
  | nil => cases h
  | cons y a ih =>
    simp only [ds_]
    rcases List.mem_cons.1 h with rfl | h
    · omega
    · have := ih h; omega
theorem jB_ {α : Type} (f : α → Nat) {a : List α} {x : α} (h : x ∈ a) : 1 + f x ≤ dk_ f a := by
  unfold dk_
  have := g2_ f h
  have := List.length_pos_of_mem h
  omega
theorem dc_ {α : Type} (f : α → Nat) (a : List α) : a.length ≤ dk_ f a := by unfold dk_; omega
theorem jW_ {α : Type} (d : α) {a : List α} {i : Nat} (h : i < a.length) (x : α) : (a.set i x).getD i d = x := by
  rw [List.getD_eq_getElem?_getD, List.getElem?_set_self h]; rfl
section
variable {α β : Type}
theorem i6_ (Q : α → Prop) (d : α) (f : α → Nat) (LM : Nat → Nat → Int → Nat → List α → Option (Int × List α)) (LH : Nat → Nat → List α → Int → Nat → Option Int)
    (hm : ∀ i (a : List α) (k : Int), i < a.length → Q (a.getD i d) → a.length ≤ cv_ → 0 ≤ k → k + 32 * (1 + f (a.getD i d) : Nat) ≤ cv_ →
      ∃ k' x', k ≤ k' ∧ k' ≤ k + 32 * (1 + f (a.getD i d) : Nat) ∧ (∀ F, Ev (fun n N => LM n N k' (i + 1) (a.set i x')) F → Ev (fun n N => LM n (N + 1) k i a) F) ∧
        ∀ (b : List α) F, i < b.length → b.length ≤ cv_ → b.getD i d = x' → Ev (fun n N => LH n N b k' (i + 1)) F → Ev (fun n N => LH n (N + 1) b k i) F)
    (em : ∀ (a : List α) k, Ev (fun n N => LM n (N + 1) k a.length a) (k, a)) (eh : ∀ (a : List α) k, Ev (fun n N => LH n (N + 1) a k a.length) k)
    (a : List α) (k : Int) (hq : ∀ i, i < a.length → Q (a.getD i d)) (ha : a.length ≤ cv_) (hk : 0 ≤ k) (hb : k + 32 * (dk_ f a : Nat) ≤ cv_) :
    ∃ k' a', k ≤ k' ∧ k' ≤ k + 32 * (dk_ f a : Nat) ∧ a'.length = a.length ∧ Ev (fun n _ => LM n n k 0 a) (k', a') ∧ Ev (fun n _ => LH n n a' k 0) k' := by
  have key : ∀ j i (a : List α) (k : Int), j + i = a.length → (∀ m, i ≤ m → m < a.length → Q (a.getD m d)) → a.length ≤ cv_ → 0 ≤ k → k + 32 * ((j + ds_ f (a.drop i) : Nat) : Int) ≤ cv_ →
      ∃ k' a', k ≤ k' ∧ k' ≤ k + 32 * ((j + ds_ f (a.drop i) : Nat) : Int) ∧ a'.length = a.length ∧ a'.take i = a.take i ∧ Ev (fun n N => LM n N k i a) (k', a') ∧ Ev (fun n N => LH n N a' k i) k' := by
    intro j
    induction j with
    | zero =>
      intro i a k hi _ _ hk _
      have : i = a.length := by omega
      subst this
      exact ⟨k, a, by omega, by omega, rfl, rfl, bv_ (em a k), bv_ (eh a k)⟩
    | succ j ih =>
      intro i a k hi hq ha hk hb
      rw [gs_ f d (by omega)] at hb ⊢
      obtain ⟨k1, x', p1, p2, p3, p4⟩ := hm i a k (by omega) (hq i (Nat.le_refl _) (by omega)) ha hk (by omega)
      obtain ⟨k2, a', q1, q2, q3, q4, q5, q6⟩ := ih (i + 1) (a.set i x') k1 (by rw [List.length_set]; omega) (fun m h1 h2 => by
        rw [List.length_set] at h2
        rw [List.getD_eq_getElem?_getD, List.getElem?_set_ne (by omega), ← List.getD_eq_getElem?_getD]
        exact hq m (by omega) h2) (by rw [List.length_set]; exact ha) (by omega) (by rw [jy_]; omega)
      rw [jy_] at q2
      rw [List.length_set] at q3
      have hlt : i < a'.length := by omega
      have hx : a'.getD i d = x' := by
        have e := congrArg (fun l => l[i]?) q4
        simp only [List.getElem?_take, if_pos (Nat.lt_succ_self i), List.getElem?_set_self (show i < a.length by omega)] at e
        rw [List.getD_eq_getElem?_getD, e]; rfl
      refine ⟨k2, a', by omega, by omega, q3, ?_, bv_ (p3 _ q5), bv_ (p4 a' k2 hlt (by omega) hx q6)⟩
      have e := congrArg (List.take i) q4
      simp only [List.take_take, Nat.min_eq_left (Nat.le_succ i), List.take_set_of_le (Nat.le_refl i)] at e
      exact e
  obtain ⟨k', a', h1, h2, h3, _, h5, h6⟩ := key a.length 0 a k (by omega) (fun m _ h => hq m h) ha hk (by rw [List.drop_zero]; unfold dk_ at hb; omega)
  refine ⟨k', a', h1, by rw [List.drop_zero] at h2; unfold dk_; omega, h3, cE_ (f := fun n N => LM n N k 0 a) h5, cE_ (f := fun n N => LH n N a' k 0) h6⟩
theorem kH_ (d : α) (f : α → Nat) (LM : Nat → Nat → Int → Nat → List α → Option (Int × List α)) (LH : Nat → Nat → List α → Int → Nat → Option Int)
    (hm : ∀ i (a : List α) (k : Int), i < a.length → a.length ≤ cv_ → 0 ≤ k → k + 32 * (1 + f (a.getD i d) : Nat) ≤ cv_ →
      ∃ k' x', k ≤ k' ∧ k' ≤ k + 32 * (1 + f (a.getD i d) : Nat) ∧ (∀ F, Ev (fun n N => LM n N k' (i + 1) (a.set i x')) F → Ev (fun n N => LM n (N + 1) k i a) F) ∧
        ∀ (b : List α) F, i < b.length → b.length ≤ cv_ → b.getD i d = x' → Ev (fun n N => LH n N b k' (i + 1)) F → Ev (fun n N => LH n (N + 1) b k i) F)
    (em : ∀ (a : List α) k, Ev (fun n N => LM n (N + 1) k a.length a) (k, a)) (eh : ∀ (a : List α) k, Ev (fun n N => LH n (N + 1) a k a.length) k)
    (a : List α) (k : Int) (ha : a.length ≤ cv_) (hk : 0 ≤ k) (hb : k + 32 * (dk_ f a : Nat) ≤ cv_) :
    ∃ k' a', k ≤ k' ∧ k' ≤ k + 32 * (dk_ f a : Nat) ∧ a'.length = a.length ∧ Ev (fun n _ => LM n n k 0 a) (k', a') ∧ Ev (fun n _ => LH n n a' k 0) k' :=
  i6_ (fun _ => True) d f LM LH (fun i a k h1 _ h2 h3 h4 => hm i a k h1 h2 h3 h4) em eh a k (fun _ _ => trivial) ha hk hb
end
theorem d2_ {k : Int} (h : 0 ≤ k) (h' : k + 1 ≤ cv_) : W (k + 1) = k + 1 := W_id (by omega) (by simp only [cv_] at h'; omega)
end Go.Pi
end
section
set_option linter.unusedVariables false
set_option maxRecDepth 100000
set_option linter.unusedSimpArgs false
namespace Go.Pi
theorem W_dn {i : Nat} (h : i ≤ cv_) : W ((i : Int) - 1) = (i : Int) - 1 := by
  rw [W_id (by omega) (by simp only [cv_] at h; omega)]
theorem l1_ {i : Nat} : ((i : Int) - 1).toNat = i - 1 := by omega
theorem fL_ {x lo hi : Int} (h : inn x lo hi = true) : lo ≤ x ∧ x ≤ hi := inn_iff.1 h
def fN_ {α : Type} (s : Nat → α → α) (v : α) : Nat → Nat → α
  | 0, _ => v
  | d + 1, i => s i (fN_ s v d (i + 1))
theorem ev_fold {α : Type} (L : Nat → Nat → Nat → Option α) (s : Nat → α → α) {len : Nat} {v : α}
    (h : ∀ i w, i < len → Ev (fun n N => L n N (i + 1)) w → Ev (fun n N => L n (N + 1) i) (s i w)) (h2 : Ev (fun n N => L n (N + 1) len) v) :
    Ev (fun n _ => L n n 0) (fN_ s v len 0) := by
  have key : ∀ d i, d + i = len → Ev (fun n N => L n N i) (fN_ s v d i) := by
    intro d
    induction d with
    | zero => intro i hd; obtain rfl : i = len := by omega
              exact bv_ (f := fun n N => L n N i) h2
    | succ d ih => intro i hd
                   exact bv_ (f := fun n N => L n N i) (h i _ (by omega) (ih (i + 1) (by omega)))
  exact cE_ (f := fun n N => L n N 0) (key len 0 (by omega))
theorem cf_ {α : Type} {n b : Nat} {f : Nat → Nat → Option α} {v : α} : Ev (fun m N => ci_ n b (f m N)) v ↔ n * b ≤ 140737488355328 ∧ Ev f v := by
  unfold ci_
  rw [aM_]
  by_cases h : n * b ≤ 140737488355328 <;> simp [h, cM_]
theorem ev_map {α β γ : Type} (d : α) (a : List α) (f : α → β) (L : Nat → Nat → Nat → List β → Option γ) (v : γ)
    (h1 : ∀ i s, i < a.length → s.length = i → ∀ F, Ev (fun n N => L n N (i + 1) (s ++ [f (a.getD i d)])) F → Ev (fun n N => L n (N + 1) i s) F)
    (h2 : Ev (fun n N => L n (N + 1) a.length (a.map f)) v) : Ev (fun n _ => L n n 0 []) v := by
  have key : ∀ j i, j + i = a.length → Ev (fun n N => L n N i ((a.take i).map f)) v := by
    intro j
    induction j with
    | zero =>
      intro i hi
      have : i = a.length := by omega
      subst this
      rw [List.take_of_length_le (Nat.le_refl _)]
      exact bv_ h2
    | succ j ih =>
      intro i hi
      refine bv_ (h1 i _ (by omega) (by simp; omega) _ ?_)
      have := ih (i + 1) (by omega)
      rw [List.take_add_one, List.map_append] at this
      have e : a[i]?.toList = [a.getD i d] := by
        rw [List.getD_eq_getElem?_getD, List.getElem?_eq_getElem (by omega)]; rfl
      rw [e] at this
      exact this
  have := key a.length 0 (by omega)
  exact cE_ (f := fun n N => L n N 0 []) this
theorem er_ {α γ : Type} (S : Nat → α) (len : Nat) (L : Nat → Nat → Nat → α → Option γ) (v : γ)
    (h1 : ∀ i, i < len → ∀ F, Ev (fun n N => L n N (i + 1) (S (i + 1))) F → Ev (fun n N => L n (N + 1) i (S i)) F)
    (h2 : Ev (fun n N => L n (N + 1) len (S len)) v) : Ev (fun n _ => L n n 0 (S 0)) v := by
  have key : ∀ j i, j + i = len → Ev (fun n N => L n N i (S i)) v := by
    intro j
    induction j with
    | zero =>
      intro i hi
      have : i = len := by omega
      subst this
      exact bv_ h2
    | succ j ih => exact fun i hi => bv_ (h1 i (by omega) _ (ih (i + 1) (by omega)))
  exact cE_ (f := fun n N => L n N 0 (S 0)) (key len 0 (by omega))
theorem cA_ {α : Type} (d : α) {a : List α} {i : Nat} (h : i < a.length) : a.take (i + 1) = a.take i ++ [a.getD i d] := by
  rw [List.take_add_one, List.getD_eq_getElem?_getD, List.getElem?_eq_getElem h]; rfl
theorem hu_ {α : Type} (d : α) (P : α → Bool) : ∀ (rows : List α), fN_ (fun i (x : Int) => cond (P (rows.getD i d)) (i : Int) x) (-1) rows.length 0 = if rows.findIdx P < rows.length then (rows.findIdx P : Int) else -1 := by
  intro rows
  have key : ∀ j i, j + i = rows.length → (∀ k, k < i → P (rows.getD k d) = false) → fN_ (fun i (x : Int) => cond (P (rows.getD i d)) (i : Int) x) (-1) j i = if rows.findIdx P < rows.length then (rows.findIdx P : Int) else -1 := by
    intro j
    induction j with
    | zero =>
      intro i hi hk
      have : ¬ rows.findIdx P < rows.length := by
        intro h
        have h1 := List.findIdx_getElem (w := h)
        have h2 := hk _ (show rows.findIdx P < i by omega)
        rw [List.getD_eq_getElem?_getD, List.getElem?_eq_getElem h] at h2
        simp only [Option.getD_some] at h2
        rw [h1] at h2; cases h2
      rw [if_neg this]; rfl
    | succ j ih =>
      intro i hi hk
      simp only [fN_]
      cases hp : P (rows.getD i d) with
      | true =>
        have hlt : i < rows.length := by omega
        rw [List.getD_eq_getElem?_getD, List.getElem?_eq_getElem hlt] at hp
        have e : rows.findIdx P = i := by
          apply Nat.le_antisymm
          · exact Nat.le_of_not_lt fun h => by have := List.not_of_lt_findIdx h; rw [Option.getD_some] at hp; rw [hp] at this; cases this
          · exact Nat.le_of_not_lt fun h => by
              have h2 := hk _ h
              have hl : rows.findIdx P < rows.length := by omega
              rw [List.getD_eq_getElem?_getD, List.getElem?_eq_getElem hl] at h2
              rw [Option.getD_some, List.findIdx_getElem (w := hl)] at h2; cases h2
        rw [e, if_pos hlt]; rfl
      | false =>
        rw [cond_false]
        exact ih (i + 1) (by omega) fun k hk' => by
          by_cases e : k = i
          · subst e; exact hp
          · exact hk k (by omega)
  exact key rows.length 0 (by omega) fun k hk => by omega
theorem dI_ {α : Type} {lo hi : Int} {len : Nat} {f : Nat → Nat → Option α} {v : α} : Ev (fun n N => gn_ lo hi len (f n N)) v ↔ (0 ≤ lo ∧ lo ≤ hi ∧ hi ≤ (len : Int)) ∧ Ev f v := by
  unfold gn_
  simp only [aM_, cM_]
  by_cases h1 : 0 ≤ lo <;> by_cases h2 : lo ≤ hi <;> by_cases h3 : hi ≤ (len : Int) <;> simp [h1, h2, h3]
theorem fT_ {p : Nat → Bool} {len : Nat} : lQ_ p len = true ↔ ∀ i, i < len → p i = true := by
  have key : ∀ d i, d + i = len → (fD_ p d i = true ↔ ∀ k, i ≤ k → k < len → p k = true) := by
    intro d
    induction d with
    | zero => intro i hi; simp only [fD_, true_iff]; intro k h1 h2; omega
    | succ d ih =>
      intro i hi
      simp only [fD_, Bool.and_eq_true, ih (i + 1) (by omega)]
      constructor
      · rintro ⟨h1, h2⟩ k h3 h4
        by_cases e : k = i
        · subst e; exact h1
        · exact h2 k (by omega) h4
      · exact fun h => ⟨h i (Nat.le_refl _) (by omega), fun k h1 h2 => h k (by omega) h2⟩
  have := key len 0 (by omega)
  unfold lQ_
  rw [this]
  exact ⟨fun h i hi => h i (Nat.zero_le _) hi, fun h i _ hi => h i hi⟩
end Go.Pi
end
section
set_option linter.unusedVariables false
namespace Go.Pi
section
variable {α β σ : Type}
def Ans (f : Nat → Nat → Option α) (Q : α → Prop) : Prop := ∃ v, Ev f v ∧ Q v
theorem ans_ev {f : Nat → Nat → Option α} {v : α} (h : Ev f v) {Q : α → Prop} : Ans f Q ↔ Q v :=
  ⟨fun ⟨w, h1, h2⟩ => (dC_ h).1 h1 ▸ h2, fun hq => ⟨v, h, hq⟩⟩
theorem ch_ {v : α} {Q : α → Prop} : Ans (fun _ _ => some v) Q ↔ Q v := ans_ev (an_.2 rfl)
theorem bI_ {f : Nat → Nat → Option α} {a : α} (h : Ev f a) {g : Nat → Nat → α → Option β} {Q : β → Prop} : Ans (fun n N => (f n N).bind (g n N)) Q ↔ Ans (fun n N => g n N a) Q := by
  unfold Ans; simp only [ae_ h]
theorem cG_ {f : Nat → Nat → Option α} {P : α → Prop} (h : Ans f P) {g : Nat → Nat → α → Option β} {Q : β → Prop} (k : ∀ v, P v → Ans (fun n N => g n N v) Q) : Ans (fun n N => (f n N).bind (g n N)) Q := by
  obtain ⟨v, h1, h2⟩ := h
  exact (bI_ h1).2 (k v h2)
theorem cp_ {c : Bool} {f g : Nat → Nat → Option α} {Q : α → Prop} : Ans (fun n N => cond c (f n N) (g n N)) Q ↔ (c = true → Ans f Q) ∧ (c = false → Ans g Q) := by
  cases c <;> simp
theorem hk_ {i : Int} {len : Nat} {f : Nat → Nat → Option α} {Q : α → Prop} : Ans (fun n N => inB i len (f n N)) Q ↔ (0 ≤ i ∧ i < (len : Int)) ∧ Ans f Q := by
  unfold Ans; simp only [bT_]
  exact ⟨fun ⟨v, ⟨h1, h2⟩, h3⟩ => ⟨h1, v, h2, h3⟩, fun ⟨h1, v, h2, h3⟩ => ⟨v, ⟨h1, h2⟩, h3⟩⟩
theorem ek_ {n b : Nat} {f : Nat → Nat → Option α} {Q : α → Prop} : Ans (fun m N => ci_ n b (f m N)) Q ↔ n * b ≤ 140737488355328 ∧ Ans f Q := by
  unfold Ans; simp only [cf_]
  exact ⟨fun ⟨v, ⟨h1, h2⟩, h3⟩ => ⟨h1, v, h2, h3⟩, fun ⟨h1, v, h2, h3⟩ => ⟨v, ⟨h1, h2⟩, h3⟩⟩
theorem mO_ {lo hi : Int} {len : Nat} {f : Nat → Nat → Option α} {Q : α → Prop} : Ans (fun n N => gn_ lo hi len (f n N)) Q ↔ (0 ≤ lo ∧ lo ≤ hi ∧ hi ≤ (len : Int)) ∧ Ans f Q := by
  unfold Ans; simp only [dI_]
  exact ⟨fun ⟨v, ⟨h1, h2⟩, h3⟩ => ⟨h1, v, h2, h3⟩, fun ⟨h1, v, h2, h3⟩ => ⟨v, ⟨h1, h2⟩, h3⟩⟩
theorem cS_ {f : Nat → Nat → Option α} {Q : α → Prop} (h : Ans (fun n N => f (n + 1) N) Q) : Ans f Q :=
  let ⟨v, h1, h2⟩ := h; ⟨v, aS_ h1, h2⟩
theorem ans_round {f : Nat → Nat → Option α} {Q : α → Prop} (h : Ans (fun n N => f n (N + 1)) Q) : Ans f Q :=
  let ⟨v, h1, h2⟩ := h; ⟨v, bv_ h1, h2⟩
theorem ans_diag {f : Nat → Nat → Option α} {Q : α → Prop} (h : Ans f Q) : Ans (fun n _ => f n n) Q :=
  let ⟨v, h1, h2⟩ := h; ⟨v, cE_ h1, h2⟩
theorem eu_ (L : Nat → Nat → σ → Option α) (m : σ → Nat) (I : σ → Prop) (Q : α → Prop)
    (h : ∀ s, I s → (∀ s', I s' → m s' < m s → Ans (fun n N => L n N s') Q) → Ans (fun n N => L n (N + 1) s) Q) : ∀ s, I s → Ans (fun n _ => L n n s) Q := by
  have key : ∀ k s, m s < k → I s → Ans (fun n N => L n N s) Q := by
    intro k
    induction k with
    | zero => intro s hk; omega
    | succ k ih => exact fun s hk hI => ans_round (h s hI fun s' hI' hm => ih s' (by omega) hI')
  exact fun s hI => ans_diag (f := fun n N => L n N s) (key _ s (Nat.lt_succ_self _) hI)
end
end Go.Pi
end
section
set_option linter.unusedVariables false
set_option maxRecDepth 100000
set_option linter.unusedSimpArgs false
namespace Go.Pi
theorem br_ (j : aa_) : aa_.re j = j := by cases j; rfl
def gl_ (s : Bs) : Bool := lQ_ (fun i => inn ((s.getD i 0).toNat : Int) 32 126) s.length && decide ((s.length : Int) ≤ 60)
theorem mN_ (b : UInt8) : W ((b.toNat : Int)) = (b.toNat : Int) := W_id (by omega) (by have := b.toNat_lt; omega)
theorem ew_ {s : Bs} (hs : s.length ≤ cv_) : Ev (fun n _ => a6_ n s) (gl_ s) := by
  refine aS_ ?_
  simp only [a6_]
  refine f5_ (fun n N i => a6_.loop3 n (fun xy1 => (some (decide ((xy1.length : Int) ≤ 60)))) N s (i : Int)) _ (fun i w hi ih => ?_) ?_
  · simp only [a6_.turn3, a6_.step3, Int.toNat_natCast, aM_, bT_, an_, W_up hi hs, dC_ ih, cO_ hi, cz_ hi]
    clear ih
    simp only [inn]
    by_cases h1 : (((s.getD i 0).toNat : Nat) : Int) < 32 <;> by_cases h2 : (((s.getD i 0).toNat : Nat) : Int) > 126 <;> simp [h1, h2] <;> (intros; omega)
  · simp only [a6_.turn3, a6_.step3, cL_, cond_false, an_]
theorem eC_ {s : Bs} (hs : s.length ≤ cv_) : Ev (fun n _ => as_ n s) (gl_ s) := by
  refine aS_ ?_
  simp only [as_]
  refine f5_ (fun n N i => as_.loop3 n (fun xy1 => (some (decide ((xy1.length : Int) ≤ 60)))) N s (s.length : Int) (i : Int)) _ (fun i w hi ih => ?_) ?_
  · simp only [as_.turn3, as_.step3, Int.toNat_natCast, aM_, bT_, ep_, mN_, an_, W_up hi hs, dC_ ih, cO_ hi, cz_ hi]
    clear ih
    grind
  · simp only [as_.turn3, as_.step3, cL_, cond_false, an_]
def lenNs (c : Nat) (l : List Bs) : Prop := l.length ≤ c ∧ ∀ x ∈ l, x.length ≤ c
theorem gM_ {c : Nat} {l : List Bs} (h : lenNs c l) (i : Nat) : (l.getD i []).length ≤ c := by
  by_cases hi : i < l.length
  · exact h.2 _ (cx_ [] hi)
  · rw [List.getD_eq_getElem?_getD, List.getElem?_eq_none (by omega)]; exact Nat.zero_le _
def hA_ (l : List Bs) : Bool := lQ_ (fun i => gl_ (l.getD i []) && (decide (i = 0) || Op.bytesLess (l.getD (i - 1) []) (l.getD i []))) l.length
theorem ij_ {l : List Bs} (h : lenNs cv_ l) : Ev (fun n _ => am_ n l) (hA_ l) := by
  refine aS_ ?_
  simp only [am_]
  refine hM_ (f5_ (fun n N i => am_.loop3 n (some true) N l l (l.length : Int) (i : Int)) (fun i => gl_ (l.getD i []) && (decide (i = 0) || Op.bytesLess (l.getD (i - 1) []) (l.getD i []))) (len := l.length) (v := true) (fun i w hi ih => ?_) ?_) (by rw [Bool.and_true]; rfl)
  · simp only [am_.turn3, am_.step3, Int.toNat_natCast, W_up hi h.1, W_dn (i := i) (by have := h.1; omega), l1_, aM_, bT_, ae_ (eC_ (gM_ h i)), an_, dC_ ih, cO_ hi, cz_ hi]
    clear ih
    repeat' (first | apply And.intro | intro _)
    all_goals (try rw [Bool.eq_iff_iff])
    all_goals (try simp only [Bool.not_eq_true', Bool.not_eq_false', decide_eq_true_eq, decide_eq_false_iff_not, Bool.and_eq_true, Bool.or_eq_true, Bool.and_eq_false_iff, Bool.or_eq_false_iff] at *)
    all_goals grind
  · simp only [am_.turn3, am_.step3, cL_, cond_false, an_]
def lT_ (j : aa_) : Bool := cond (j.kind != 5) ((j.names.length : Int) == 0) (hA_ j.names && ((j.names.length : Int) == (j.list.length : Int)))
theorem hV_ {j : aa_} (h : lenNs cv_ j.names) : Ev (fun n _ => ad_ n j) (lT_ j) := by
  refine aS_ ?_
  have hl : Ev (fun n _ => ad_.loop6 n (fun xy2 xy3 xy4 xy5 xy6 => (some ((xy6.length : Int) == (xy5.length : Int)))) n 0 j.kind j.n_ j.s j.list j.names) (hA_ j.names && ((j.names.length : Int) == (j.list.length : Int))) := by
    refine f5_ (fun n N i => ad_.loop6 n (fun xy2 xy3 xy4 xy5 xy6 => (some ((xy6.length : Int) == (xy5.length : Int)))) N (i : Int) j.kind j.n_ j.s j.list j.names) _ (fun i w hi ih => ?_) ?_
    · simp only [ad_.turn6, ad_.step6, Int.toNat_natCast, W_up hi h.1, W_dn (i := i) (by have := h.1; omega), l1_, aM_, bT_, ae_ (ew_ (gM_ h i)), an_, dC_ ih, cO_ hi, cz_ hi]
      clear ih
      repeat' (first | apply And.intro | intro _)
      all_goals (try rw [Bool.eq_iff_iff])
      all_goals (try simp only [Bool.not_eq_true', Bool.not_eq_false', decide_eq_true_eq, decide_eq_false_iff_not, Bool.and_eq_true, Bool.or_eq_true, Bool.and_eq_false_iff, Bool.or_eq_false_iff] at *)
      all_goals grind
    · simp only [ad_.turn6, ad_.step6, cL_, cond_false, an_]
  simp only [ad_, aM_, an_, dC_ hl, lT_]
  cases (j.kind != 5) <;> simp
end Go.Pi
end
section
set_option linter.unusedVariables false
set_option maxRecDepth 100000
set_option linter.unusedSimpArgs false
namespace Go.Pi
def bi (l : Bs) : List Int := l.map fun c => ((c.toNat : Nat) : Int)
theorem g0_ (l : Bs) : eN_ (bi l) = l := by
  unfold eN_ bi
  rw [List.map_map]
  refine (List.map_congr_left fun c _ => ?_).trans (List.map_id l)
  simp
theorem hy_ (l : Bs) : (bi l).length = l.length := List.length_map _
theorem bi_app (a b : Bs) : bi (a ++ b) = bi a ++ bi b := List.map_append
theorem iv_ (c : UInt8) (k : Nat) (d : UInt8) (hd : d.toNat = k) : (((c.toNat : Nat) : Int) == (k : Int)) = decide (c = d) := by
  by_cases h : c = d
  · subst h; rw [hd]; simp
  · rw [decide_eq_false h, beq_eq_false_iff_ne]
    intro e
    exact h (UInt8.toNat_inj.1 (by omega))
theorem byte34 (c : UInt8) : (((c.toNat : Nat) : Int) == 34) = decide (c = 34) := iv_ c 34 34 rfl
theorem byte92 (c : UInt8) : (((c.toNat : Nat) : Int) == 92) = decide (c = 92) := iv_ c 92 92 rfl
theorem byte126 (c : UInt8) : (((c.toNat : Nat) : Int) == 126) = decide (c = 126) := iv_ c 126 126 rfl
theorem byte47 (c : UInt8) : (((c.toNat : Nat) : Int) == 47) = decide (c = 47) := iv_ c 47 47 rfl
theorem d8_ (f : UInt8 → Bs) (h : ∀ c, (f c).length ≤ 2) : ∀ s : Bs, (s.flatMap f).length ≤ 2 * s.length
  | [] => Nat.le_refl _
  | c :: s => by
    have := d8_ f h s
    have := h c
    simp only [List.flatMap_cons, List.length_append, List.length_cons]; omega
theorem kV_ (f : UInt8 → Bs) {s : Bs} {i : Nat} (h : i < s.length) : (s.take (i + 1)).flatMap f = (s.take i).flatMap f ++ f (s.getD i 0) := by
  rw [cA_ 0 h, List.flatMap_append]; simp
def dR_ (c : UInt8) : Bs := if c = 34 ∨ c = 92 then [92, c] else [c]
theorem gA_ (c : UInt8) : (dR_ c).length ≤ 2 := by unfold dR_; split <;> simp
def cD_ (s : Bs) : Bs := 34 :: s.flatMap dR_ ++ [34]
theorem ea_ (s : Bs) : (cD_ s).length ≤ 2 * s.length + 2 := by
  have := d8_ dR_ gA_ s
  simp only [cD_, List.cons_append, List.length_cons, List.length_append, List.length_nil]; omega
theorem q2 (o : Bs) (c : UInt8) : bi (34 :: (o ++ [92, c])) = (bi (34 :: o) ++ [92]) ++ [((c.toNat : Nat) : Int)] := by simp [bi]
theorem q1 (o : Bs) (c : UInt8) : bi (34 :: (o ++ [c])) = bi (34 :: o) ++ [((c.toNat : Nat) : Int)] := by simp [bi]
theorem qEnd (o : Bs) : eN_ (bi (34 :: o) ++ [34]) = 34 :: o ++ [34] := by
  have : bi (34 :: o) ++ [34] = bi (34 :: o ++ [34]) := by simp [bi]
  rw [this, g0_]
theorem fh_ {s : Bs} (hs : s.length ≤ 1000000) : Ev (fun n _ => aU_ n s) (cD_ s) := by
  refine aS_ ?_
  have ht : s.length ≤ cv_ := by simp only [cv_]; omega
  simp only [aU_]
  have := er_ (fun i => bi (34 :: (s.take i).flatMap dR_)) s.length (fun n N i (o : List Int) => aU_.loop4 n (fun xy1 => (ci_ (xy1.length + ([34] : List Int).length) 1 (some (eN_ (xy1 ++ ([34] : List Int)))))) N s (i : Int) o) (cD_ s) (fun i hi F hF => ?_) ?_
  · exact this
  · have hl := d8_ dR_ gA_ (s.take i)
    rw [List.length_take] at hl
    rw [kV_ dR_ hi] at hF
    generalize (s.take i).flatMap dR_ = o at hF hl ⊢
    have hb := hy_ (34 :: o)
    simp only [List.length_cons] at hb
    simp only [aU_.turn4, aU_.step4, Int.toNat_natCast, W_up hi ht, aM_, bT_, cf_, cO_ hi, cz_ hi, byte34, byte92]
    generalize s.getD i 0 = c at hF ⊢
    unfold dR_ at hF
    by_cases h1 : c = 34
    · rw [if_pos (.inl h1), q2] at hF
      simp only [h1, decide_true] at hF ⊢
      repeat' (first | apply And.intro | intro _)
      all_goals (first | contradiction | exact hF | trivial | (simp [hb]; omega))
    · by_cases h2 : c = 92
      · rw [if_pos (.inr h2), q2] at hF
        simp only [h2, decide_true] at hF ⊢
        repeat' (first | apply And.intro | intro _)
        all_goals (first | contradiction | exact hF | trivial | (simp [hb]; omega))
      · rw [if_neg (fun h => h.elim h1 h2), q1] at hF
        simp only [h1, h2, decide_false] at hF ⊢
        repeat' (first | apply And.intro | intro _)
        all_goals (first | contradiction | exact hF | trivial | (simp [hb]; omega))
  · have hl := d8_ dR_ gA_ s
    have hb := hy_ (34 :: s.flatMap dR_)
    simp only [List.length_cons] at hb
    simp only [aU_.turn4, aU_.step4, cL_, cond_false, cf_, List.take_length, an_, qEnd]
    exact ⟨by simp only [hb, List.length_cons, List.length_nil]; omega, rfl⟩
theorem f3_ {s : Bs} (hs : s.length ≤ 1000000) : Ev (fun n _ => a8_ n s) (cD_ s) := by
  refine aS_ ?_
  have ht : s.length ≤ cv_ := by simp only [cv_]; omega
  simp only [a8_]
  have := er_ (fun i => bi (34 :: (s.take i).flatMap dR_)) s.length (fun n N i (o : List Int) => a8_.loop4 n (fun xy1 => (ci_ (xy1.length + ([34] : List Int).length) 1 (some (eN_ (xy1 ++ ([34] : List Int)))))) N s (s.length : Int) (i : Int) o) (cD_ s) (fun i hi F hF => ?_) ?_
  · exact this
  · have hl := d8_ dR_ gA_ (s.take i)
    rw [List.length_take] at hl
    rw [kV_ dR_ hi] at hF
    generalize (s.take i).flatMap dR_ = o at hF hl ⊢
    have hb := hy_ (34 :: o)
    simp only [List.length_cons] at hb
    simp only [a8_.turn4, a8_.step4, Int.toNat_natCast, W_up hi ht, aM_, bT_, cf_, cO_ hi, cz_ hi, byte34, byte92]
    generalize s.getD i 0 = c at hF ⊢
    unfold dR_ at hF
    by_cases h1 : c = 34
    · rw [if_pos (.inl h1), q2] at hF
      simp only [h1, decide_true] at hF ⊢
      repeat' (first | apply And.intro | intro _)
      all_goals (first | contradiction | exact hF | trivial | (simp [hb]; omega))
    · by_cases h2 : c = 92
      · rw [if_pos (.inr h2), q2] at hF
        simp only [h2, decide_true] at hF ⊢
        repeat' (first | apply And.intro | intro _)
        all_goals (first | contradiction | exact hF | trivial | (simp [hb]; omega))
      · rw [if_neg (fun h => h.elim h1 h2), q1] at hF
        simp only [h1, h2, decide_false] at hF ⊢
        repeat' (first | apply And.intro | intro _)
        all_goals (first | contradiction | exact hF | trivial | (simp [hb]; omega))
  · have hl := d8_ dR_ gA_ s
    have hb := hy_ (34 :: s.flatMap dR_)
    simp only [List.length_cons] at hb
    simp only [a8_.turn4, a8_.step4, cL_, cond_false, cf_, List.take_length, an_, qEnd]
    exact ⟨by simp only [hb, List.length_cons, List.length_nil]; omega, rfl⟩
end Go.Pi
end
section
set_option linter.unusedVariables false
set_option maxRecDepth 100000
set_option linter.unusedSimpArgs false
namespace Go.Pi
theorem d9_ (a b : UInt8) (l : Bs) : Lib.index (b :: l) [a] = if a = b then 0 else if Lib.index l [a] = -1 then -1 else Lib.index l [a] + 1 := by
  rw [Lib.index]
  have : List.isPrefixOf [a] (b :: l) = decide (a = b) := by
    simp only [List.isPrefixOf, Bool.and_true]
    exact Bool.eq_iff_iff.2 (by simp)
  rw [this]
  by_cases h : a = b
  · rw [decide_eq_true h, if_pos rfl, if_pos h]
  · rw [decide_eq_false h, if_neg (by simp), if_neg h]
    by_cases h2 : Lib.index l [a] = -1
    · rw [h2, if_pos rfl, if_pos (by decide)]
    · rw [if_neg h2, if_neg (by simpa using h2)]
theorem lo_ {a b : UInt8} (h : a ≠ b) (new l : Bs) : ∀ k, Lib.replaceK [a] new k (b :: l) = b :: Lib.replaceK [a] new k l
  | 0 => rfl
  | k + 1 => by
    rw [Lib.replaceK, Lib.replaceK, d9_, if_neg h]
    by_cases h2 : Lib.index l [a] = -1
    · rw [if_pos h2, if_pos (by decide), h2, if_pos (by decide)]
    · have := Lib.index_ge l [a]
      obtain ⟨i, hi⟩ : ∃ i : Nat, Lib.index l [a] = i := ⟨(Lib.index l [a]).toNat, by omega⟩
      rw [if_neg h2, if_neg (by rw [hi]; simp <;> omega), if_neg (by rw [hi]; simp <;> omega), hi, show ((i : Int) + 1).toNat = i + 1 by omega, show ((i : Int)).toNat = i by omega]
      rfl
theorem lp_ (a : UInt8) (new l : Bs) (k : Nat) : Lib.replaceK [a] new (k + 1) (a :: l) = new ++ Lib.replaceK [a] new k l := by
  rw [Lib.replaceK, d9_, if_pos rfl, if_neg (by decide)]
  rfl
theorem fo_ (a : UInt8) (new : Bs) : ∀ (s : Bs) (k : Nat), s.count a ≤ k → Lib.replaceK [a] new k s = s.flatMap fun c => if c = a then new else [c]
  | [], 0, _ => rfl
  | [], k + 1, _ => by
    rw [Lib.replaceK]
    have : Lib.index [] [a] = -1 := rfl
    rw [this, if_pos (by decide)]; rfl
  | b :: l, k, h => by
    by_cases e : b = a
    · subst e
      rw [List.count_cons_self] at h
      obtain ⟨k, rfl⟩ : ∃ m, k = m + 1 := ⟨k - 1, by omega⟩
      rw [lp_, fo_ b new l k (by omega), List.flatMap_cons, if_pos rfl]
    · rw [List.count_cons_of_ne e] at h
      rw [lo_ (fun h => e h.symm), fo_ a new l k h, List.flatMap_cons, if_neg e]; rfl
theorem eZ_ (a : UInt8) : ∀ (s : Bs) (f : Nat), s.length < f → Lib.countFrom [a] f s = s.count a
  | [], f + 1, _ => by
    rw [Lib.countFrom]
    have : Lib.index [] [a] = -1 := rfl
    rw [this, if_pos (by decide)]; rfl
  | b :: l, f + 1, h => by
    have hl : l.length < f := by simpa using h
    by_cases e : a = b
    · subst e
      rw [List.count_cons_self, Lib.countFrom, d9_, if_pos rfl, if_neg (by decide)]
      show 1 + Lib.countFrom [a] f l = _
      rw [eZ_ a l f hl]; omega
    · rw [List.count_cons_of_ne (fun h => e h.symm), ← eZ_ a l (f + 1) (by omega), Lib.countFrom, Lib.countFrom, d9_, if_neg e]
      by_cases h2 : Lib.index l [a] = -1
      · rw [if_pos h2, if_pos (by decide), h2, if_pos (by decide)]
      · have := Lib.index_ge l [a]
        obtain ⟨i, hi⟩ : ∃ i : Nat, Lib.index l [a] = i := ⟨(Lib.index l [a]).toNat, by omega⟩
        rw [if_neg h2, if_neg (by rw [hi]; simp <;> omega), if_neg (by rw [hi]; simp <;> omega), hi, show ((i : Int) + 1).toNat = i + 1 by omega, show ((i : Int)).toNat = i by omega]
        rfl
theorem ir_ (a : UInt8) (s : Bs) : Lib.count s [a] = s.count a := eZ_ a s _ (Nat.lt_succ_self _)
theorem iK_ (a : UInt8) (new s : Bs) (hne : ([a] == new) = false) : Lib.replaceAll s [a] new = s.flatMap fun c => if c = a then new else [c] := by
  unfold Lib.replaceAll Lib.replace Lib.replaceNum
  rw [hne, if_neg (by simp), if_pos (.inl (by decide)), ir_]
  exact fo_ a new s _ (Nat.le_refl _)
theorem gV_ {a b c : UInt8} {s : Bs} (hs : s.length ≤ 1000000) (hne : ([a] == [b, c]) = false) : Ev (fun n _ => strings_ReplaceAll n s [a] [b, c]) (s.flatMap fun x => if x = a then [b, c] else [x]) := by
  refine aS_ ?_
  have := List.count_le_length (a := a) (l := s)
  simp only [strings_ReplaceAll, ec_, ir_, iK_ a [b, c] s hne, aM_, an_, cM_]
  refine ⟨fun _ => trivial, fun h => ?_⟩
  have e1 : decide (s.length < 4294967281) = true := decide_eq_true (by omega)
  have e2 : decide (1 ≤ [a].length) = true := rfl
  have e3 : decide (s.length + List.count a s * [b, c].length ≤ 140737488355328) = true := decide_eq_true (by simp only [List.length_cons, List.length_nil]; omega)
  rw [e1, e2, e3] at h; cases h
def en_ (c : UInt8) : Bs := if c = 126 then [126, 48] else if c = 47 then [126, 49] else [c]
theorem lV_ (c : UInt8) : (en_ c).length ≤ 2 := by
  unfold en_
  split
  · simp
  · split <;> simp
theorem wesc_two (s : Bs) : ((s.flatMap fun x => if x = 126 then [126, 48] else [x]).flatMap fun x => if x = 47 then [126, 49] else [x]) = s.flatMap en_ := by
  induction s with
  | nil => rfl
  | cons c s ih =>
    rw [List.flatMap_cons, List.flatMap_append, ih, List.flatMap_cons]
    congr 1
    unfold en_
    by_cases h1 : c = 126
    · subst h1; rfl
    · by_cases h2 : c = 47
      · subst h2; rfl
      · rw [if_neg h1, if_neg h1, if_neg h2]; simp [h2]
def FWay (w : List Bs) : Bs := w.flatMap fun s => 47 :: s.flatMap en_
theorem lW_ {w : List Bs} {i : Nat} (h : i < w.length) : FWay (w.take (i + 1)) = FWay (w.take i) ++ (47 :: (w.getD i []).flatMap en_) := by
  unfold FWay
  rw [cA_ [] h, List.flatMap_append]; simp
theorem j8_ {w : List Bs} {c : Nat} (h : ∀ s ∈ w, s.length ≤ c) : (FWay w).length ≤ w.length * (2 * c + 1) := by
  induction w with
  | nil => exact Nat.zero_le _
  | cons s w ih =>
    have h1 := d8_ en_ lV_ s
    have h2 := h s (List.mem_cons_self ..)
    have h3 := ih fun x hx => h x (List.mem_cons_of_mem _ hx)
    have e : FWay (s :: w) = (47 :: s.flatMap en_) ++ FWay w := rfl
    rw [e, List.length_append, List.length_cons, List.length_cons, Nat.add_mul]; omega
theorem l2_ {w : List Bs} {c : Nat} (h : ∀ s ∈ w, s.length ≤ c) (i : Nat) : ∀ s ∈ w.take i, s.length ≤ c := fun s hs => h s (List.mem_of_mem_take hs)
theorem fs_ {w : List Bs} (hw : w.length ≤ 6) (hs : ∀ s ∈ w, s.length ≤ 60) : Ev (fun n _ => aV_ n w) (FWay w) := by
  refine aS_ ?_
  have ht : w.length ≤ cv_ := by simp only [cv_]; omega
  simp only [aV_]
  have := er_ (fun i => FWay (w.take i)) w.length (fun n N i (o : Bs) => aV_.loop4 n (fun xy3 => (some xy3)) N o w (w.length : Int) (i : Int)) (FWay w) (fun i hi F hF => ?_) ?_
  · exact this
  · have h1 := hs _ (cx_ [] hi)
    have h2 := d8_ en_ lV_ (w.getD i [])
    have h3 := j8_ (l2_ hs i)
    rw [List.length_take] at h3
    rw [lW_ hi] at hF
    have r1 := gV_ (a := 126) (b := 126) (c := 48) (s := w.getD i []) (by omega) (by decide)
    have h4 := d8_ (fun x => if x = 126 then [126, 48] else [x]) (fun c => by split <;> simp) (w.getD i [])
    have r2 := gV_ (a := 47) (b := 126) (c := 49) (s := (w.getD i []).flatMap fun x => if x = 126 then [126, 48] else [x]) (by omega) (by decide)
    rw [wesc_two] at r2
    generalize FWay (w.take i) = o at hF h3 ⊢
    simp only [aV_.turn4, aV_.step4, Int.toNat_natCast, W_up hi ht, aM_, bT_, cM_, cO_ hi, cz_ hi, ae_ r1, ae_ r2]
    generalize (w.getD i []).flatMap en_ = e at hF h2 ⊢
    have e2 : ([47] : Bs) ++ e = 47 :: e := rfl
    rw [e2]
    refine ⟨fun _ => ⟨trivial, fun _ => ⟨fun _ => hF, fun h => ?_⟩, fun h => ?_⟩, fun h => (by cases h)⟩
    · have h := of_decide_eq_false h
      simp only [List.length_cons] at h; omega
    · have h := of_decide_eq_false h
      simp only [List.length_cons, List.length_nil] at h; omega
  · simp only [aV_.turn4, aV_.step4, cL_, cond_false, List.take_length, an_]
theorem gG_ {α : Type} {i len : Nat} {x : Option α} (h : i < len) : inB (i : Int) len x = x := by
  unfold inB
  rw [decide_eq_true (by omega), decide_eq_true (by omega)]; rfl
theorem gy_ {α : Type} {n b : Nat} {x : Option α} (h : n * b ≤ 140737488355328) : ci_ n b x = x := by
  unfold ci_
  rw [decide_eq_true h]; rfl
theorem jZ_ {α : Type} {f g : Nat → Nat → Option α} {v : α} (M : Nat) (h : ∀ n N, M ≤ n → f n N = g n N) (hg : Ev g v) : Ev f v := by
  obtain ⟨M', hM⟩ := hg
  exact ⟨max M M', fun n N h1 h2 => by rw [h n N (by omega)]; exact hM n N (by omega) (by omega)⟩
theorem ke_ (n : Nat) (k2 : List Bs → Int → List Int → Option Bs) {w : List Bs} {i : Nat} (hi : i < w.length) (hl : (w.getD i []).length ≤ 1000000) : ∀ (d j m : Nat) (o : List Int), j + d = (w.getD i []).length → d < m → o.length + 2 * d ≤ 100000000 →
    ar_.loop10 n k2 m w (i : Int) (j : Int) o = k2 w (i : Int) (o ++ bi (((w.getD i []).drop j).flatMap en_))
  | 0, j, m + 1, o, hj, _, _ => by
    have e : (j : Int) = ((w.getD i []).length : Int) := by omega
    have e2 : (w.getD i []).drop j = [] := List.drop_eq_nil_of_le (by omega)
    rw [ar_.turn10, ar_.step10, Int.toNat_natCast, gG_ hi, e, cL_, e2]
    simp [bi]
  | d + 1, j, m + 1, o, hj, hm, ho => by
    have hjl : j < (w.getD i []).length := by omega
    have ih := fun o => ke_ n k2 hi hl d (j + 1) m o (by omega) (by omega)
    have e1 : (w.getD i []).drop j = (w.getD i []).getD j 0 :: (w.getD i []).drop (j + 1) := eg_ 0 hjl
    rw [ar_.turn10, ar_.step10, Int.toNat_natCast, Int.toNat_natCast, gG_ hi, gG_ hi, gG_ hi, gG_ hjl, gG_ hjl, cO_ hjl, W_up hjl (show (w.getD i []).length ≤ cv_ by simp only [cv_]; omega), byte126, byte47, e1, List.flatMap_cons, bi_app, ← List.append_assoc]
    generalize (w.getD i []).getD j 0 = c
    rw [gy_ (by simp; omega), gy_ (by simp; omega), gy_ (by simp; omega)]
    unfold en_
    by_cases h1 : c = 126
    · rw [decide_eq_true h1, if_pos h1]
      exact ih _ (by simp; omega)
    · by_cases h2 : c = 47
      · rw [decide_eq_false h1, decide_eq_true h2, if_neg h1, if_pos h2]
        exact ih _ (by simp; omega)
      · rw [decide_eq_false h1, decide_eq_false h2, if_neg h1, if_neg h2]
        exact ih _ (by simp; omega)
theorem hW_ {w : List Bs} (hw : w.length ≤ 6) (hs : ∀ s ∈ w, s.length ≤ 60) : Ev (fun n _ => ar_ n w) (FWay w) := by
  refine aS_ ?_
  have ht : w.length ≤ cv_ := by simp only [cv_]; omega
  simp only [ar_]
  have := er_ (fun i => bi (FWay (w.take i))) w.length (fun n N i (o : List Int) => ar_.loop4 n (fun xy4 => (some (eN_ xy4))) N w (i : Int) o) (FWay w) (fun i hi F hF => ?_) ?_
  · exact this
  · have h1 := hs _ (cx_ [] hi)
    have h3 := j8_ (l2_ hs i)
    rw [List.length_take] at h3
    rw [lW_ hi] at hF
    generalize FWay (w.take i) = o at hF h3 ⊢
    have hb := hy_ o
    simp only [ar_.turn4, ar_.step4, cO_ hi, cond_true, cf_]
    refine ⟨by simp [hb]; omega, jZ_ 61 (fun n N hn => ke_ n _ hi (by omega) (w.getD i []).length 0 n _ (by omega) (by omega) (by simp only [hb, List.length_append, List.length_cons, List.length_nil]; omega)) ?_⟩
    simp only [W_up hi ht, List.drop_zero]
    have e : bi (o ++ 47 :: (w.getD i []).flatMap en_) = bi o ++ ([47] : List Int) ++ bi ((w.getD i []).flatMap en_) := by simp [bi]
    rw [e] at hF
    exact hF
  · simp only [ar_.turn4, ar_.step4, cL_, cond_false, List.take_length, an_, g0_]
end Go.Pi
end
section
set_option linter.unusedVariables false
set_option maxRecDepth 100000
set_option linter.unusedSimpArgs false
namespace Go.Pi
theorem ih_ (k : Int) : k = 0 ∨ k = 1 ∨ k = 2 ∨ k = 3 ∨ k = 4 ∨ k = 5 ∨ (k ≠ 0 ∧ k ≠ 1 ∧ k ≠ 2 ∧ k ≠ 3 ∧ k ≠ 4 ∧ k ≠ 5) := by omega
theorem jO_ {α : Type} (l : List α) : decide (l.length = 0) = !decide ((l.length : Int) > 0) := by
  by_cases hz : l.length = 0
  · rw [hz]; rfl
  · rw [decide_eq_false hz, decide_eq_true (show (l.length : Int) > 0 by omega)]; rfl
def FOwnK (j : aa_) : Bool :=
  cond (j.kind == 1) (inn j.n_ 0 1) (cond (j.kind == 2) (inn j.n_ (-1000000000) 1000000000) (cond (j.kind == 3) (gl_ j.s) (cond (j.kind == 5) (((j.names.length : Int) == (j.list.length : Int)) && hA_ j.names) ((j.kind == 0) || (j.kind == 4)))))
def FOwn (j : aa_) : Bool :=
  (decide (j.list.length = 0) || ((j.kind == 4) || (j.kind == 5))) && ((decide (j.names.length = 0) || (j.kind == 5)) && (((j.n_ == 0) || ((j.kind == 1) || (j.kind == 2))) && (((j.s == []) || (j.kind == 3)) && FOwnK j)))
def lenJ1 (j : aa_) : Prop := j.s.length ≤ cv_ ∧ lenNs cv_ j.names
theorem jU_ {j : aa_} (h : lenJ1 j) : Ev (fun n _ => cn_ n j) (FOwn j) := by
  refine aS_ ?_
  simp only [cn_, aM_, ep_, isNum_b, ae_ (eC_ h.1), ae_ (ij_ h.2), an_]
  unfold FOwn FOwnK
  have e1 := jO_ j.list
  have e2 := jO_ j.names
  rw [e1, e2]
  generalize decide ((j.list.length : Int) > 0) = a
  generalize decide ((j.names.length : Int) > 0) = b
  generalize (j.s == []) = c
  have e3 : (j.n_ != 0) = !(j.n_ == 0) := rfl
  rw [e3]
  generalize hd : (j.n_ == 0) = d
  generalize gl_ j.s = ft
  generalize hA_ j.names = fn
  generalize ((j.names.length : Int) == (j.list.length : Int)) = eq
  rcases ih_ j.kind with hk | hk | hk | hk | hk | hk | ⟨k0, k1, k2, k3, k4, k5⟩
  all_goals (first | simp only [hk] | simp only [beq_eq_false_iff_ne.2 k0, beq_eq_false_iff_ne.2 k1, beq_eq_false_iff_ne.2 k2, beq_eq_false_iff_ne.2 k3, beq_eq_false_iff_ne.2 k4, beq_eq_false_iff_ne.2 k5, bne])
  all_goals (cases a <;> cases b <;> cases c <;> cases d <;> simp)
  all_goals (cases eq <;> simp)
def bw_ : Nat → aa_ → Nat
  | 0, _ => 401
  | d + 1, j => cond (FOwn j) (min 401 (1 + ds_ (bw_ d) j.list)) 401
theorem FSize_le : ∀ (d : Nat) (j : aa_), bw_ d j ≤ 401
  | 0, _ => Nat.le_refl _
  | d + 1, j => by
    simp only [bw_]
    cases FOwn j <;> simp only [cond_true, cond_false] <;> omega
def e8_ : Nat → aa_ → Prop
  | 0, _ => True
  | d + 1, j => lenJ1 j ∧ j.list.length ≤ cv_ ∧ ∀ x ∈ j.list, e8_ d x
theorem getD_json {d : Nat} {l : List aa_} (h : ∀ x ∈ l, e8_ d x) {i : Nat} (hi : i < l.length) : e8_ d (l.getD i aa_.dflt) := h _ (cx_ _ hi)
theorem f2_ : ∀ (d : Nat) (j : aa_), d ≤ 1000 → e8_ d j → Ev (fun n _ => aW_ n j (d : Int)) (bw_ d j : Int)
  | 0, j, _, _ => by
    refine aS_ ?_
    simp only [aW_, aM_, an_]
    exact ⟨fun _ => rfl, fun h => by simp at h⟩
  | d + 1, j, hd, h => by
    refine aS_ ?_
    have hW : W (((d + 1 : Nat) : Int) - 1) = (d : Int) := by rw [W_id (by omega) (by omega)]; omega
    simp only [aW_, br_, aM_, ae_ (jU_ h.1), an_, bw_]
    refine ⟨fun hc => by have := of_decide_eq_true hc; omega, fun _ => ?_⟩
    cases ho : FOwn j with
    | false => exact ⟨fun _ => rfl, fun h => by cases h⟩
    | true =>
      refine ⟨fun h => (by cases h), fun _ => ?_⟩
      have ht := h.2.1
      have key : ∀ (k i : Nat) (s : Nat), k + i = j.list.length → s ≤ 400 → Ev (fun n N => aW_.loop7 n (aW_ n) (fun xy3 => some xy3) N ((d + 1 : Nat) : Int) (s : Int) j.list (j.list.length : Int) (i : Int)) ((min 401 (s + ds_ (bw_ d) (j.list.drop i)) : Nat) : Int) := by
        intro k
        induction k with
        | zero =>
          intro i s hi hs
          have : i = j.list.length := by omega
          subst this
          refine bv_ ?_
          simp only [aW_.turn7, aW_.step7, cL_, cond_false, an_, List.drop_length, ds_]
          omega
        | succ k ih =>
          intro i s hi hs
          have hlt : i < j.list.length := by omega
          refine bv_ ?_
          have hc := f2_ d (j.list.getD i aa_.dflt) (by omega) (getD_json h.2.2 hlt)
          have hle := FSize_le d (j.list.getD i aa_.dflt)
          have hw : W ((s : Int) + (bw_ d (j.list.getD i aa_.dflt) : Int)) = ((s + bw_ d (j.list.getD i aa_.dflt) : Nat) : Int) := by rw [W_id (by omega) (by omega)]; omega
          simp only [aW_.turn7, aW_.step7, br_, Int.toNat_natCast, hW, W_up hlt ht, aM_, bT_, cO_ hlt, cz_ hlt, ae_ hc, hw, an_]
          rw [gs_ (bw_ d) aa_.dflt hlt]
          refine ⟨fun _ => ⟨trivial, fun hg => ?_, fun hg => ?_⟩, fun h => (by cases h)⟩
          · have := of_decide_eq_true hg; omega
          · have := of_decide_eq_false hg
            rw [show s + (bw_ d (j.list.getD i aa_.dflt) + ds_ (bw_ d) (j.list.drop (i + 1))) = (s + bw_ d (j.list.getD i aa_.dflt)) + ds_ (bw_ d) (j.list.drop (i + 1)) by omega]
            exact ih (i + 1) _ (by omega) (by omega)
      have := key j.list.length 0 1 (by omega) (by omega)
      rw [List.drop_zero] at this
      exact cE_ (f := fun n N => aW_.loop7 n (aW_ n) (fun xy3 => some xy3) N ((d + 1 : Nat) : Int) 1 j.list (j.list.length : Int) 0) this
def cF_ (j : aa_) : Bool := decide (bw_ 6 j ≤ 400)
theorem c5_ {j : aa_} (h : e8_ 6 j) : Ev (fun n _ => bN_ n j) (cF_ j) := by
  refine aS_ ?_
  have e : Ev (fun n _ => aW_ n j 6) (bw_ 6 j : Int) := f2_ 6 j (by omega) h
  simp only [bN_, br_, ae_ e, an_, cF_]
  by_cases hq : bw_ 6 j ≤ 400
  · rw [decide_eq_true hq, decide_eq_true (by omega)]
  · rw [decide_eq_false hq, decide_eq_false (by omega)]
end Go.Pi
end
section
set_option linter.unusedVariables false
set_option maxRecDepth 100000
set_option linter.unusedSimpArgs false
namespace Go.Pi
def Great (d : Nat) (j : aa_) : Prop := ∃ v : Nat, v ≤ 401 + 401 * d ∧ min 401 v = bw_ d j ∧ Ev (fun n _ => aD_ n j (d : Int)) (v : Int)
theorem nc_ {d : Nat} {l : List aa_} (hd : d ≤ 1000) (ht : l.length ≤ cv_) (ih : ∀ x ∈ l, Great d x) (kd nn : Int) (s : Bs) (ns : List Bs) :
    ∃ w : Nat, w ≤ 401 + 401 * (d + 1) ∧ min 401 w = min 401 (1 + ds_ (bw_ d) l) ∧ ∀ (K : Nat → aD_.K23_1) (F : Int), Ev (fun n N => K n 401 (w : Int) kd nn s l ns) F → Ev (fun n _ => aD_.loop23 n (aD_ n) (K n) n ((d + 1 : Nat) : Int) 401 1 0 kd nn s l ns) F := by
  have hW : W (((d + 1 : Nat) : Int) - 1) = (d : Int) := by rw [W_id (by omega) (by omega)]; omega
  have key : ∀ (k i : Nat) (m : Nat), k + i = l.length → m ≤ 401 + 401 * (d + 1) → ∃ w : Nat, w ≤ 401 + 401 * (d + 1) ∧ min 401 w = min 401 (m + ds_ (bw_ d) (l.drop i)) ∧ ∀ (K : Nat → aD_.K23_1) (F : Int), Ev (fun n N => K n 401 (w : Int) kd nn s l ns) F →
      Ev (fun n N => aD_.loop23 n (aD_ n) (K n) N ((d + 1 : Nat) : Int) 401 (m : Int) (i : Int) kd nn s l ns) F := by
    intro k
    induction k with
    | zero =>
      intro i m hi hm
      have : i = l.length := by omega
      subst this
      refine ⟨m, hm, by simp [ds_], fun K F hF => bv_ ?_⟩
      simp only [aD_.turn23, aD_.step23, cL_, cond_false]
      exact hF
    | succ k ihk =>
      intro i m hi hm
      have hlt : i < l.length := by omega
      by_cases hg : m ≤ 400
      · obtain ⟨v, hv1, hv2, hv3⟩ := ih _ (cx_ aa_.dflt hlt)
        have hw : W ((m : Int) + (v : Int)) = ((m + v : Nat) : Int) := by rw [W_id (by omega) (by omega)]; omega
        obtain ⟨w, a1, a2, a3⟩ := ihk (i + 1) (m + v) (by omega) (by omega)
        refine ⟨w, a1, ?_, fun K F hF => bv_ ?_⟩
        · rw [a2, gs_ (bw_ d) aa_.dflt hlt, ← hv2]; omega
        · simp only [aD_.turn23, aD_.step23, br_, Int.toNat_natCast, hW, W_up hlt ht, aM_, bT_, cO_ hlt, cz_ hlt, ae_ hv3, hw]
          exact ⟨fun _ => ⟨fun _ => ⟨trivial, a3 K F hF⟩, fun h => by have := of_decide_eq_false h; omega⟩, fun h => (by cases h)⟩
      · refine ⟨m, hm, by omega, fun K F hF => bv_ ?_⟩
        simp only [aD_.turn23, aD_.step23, Int.toNat_natCast, aM_, cO_ hlt]
        exact ⟨fun _ => ⟨fun h => by have := of_decide_eq_true h; omega, fun _ => hF⟩, fun h => (by cases h)⟩
  obtain ⟨w, a1, a2, a3⟩ := key l.length 0 1 (by omega) (by omega)
  rw [List.drop_zero] at a2
  exact ⟨w, a1, a2, fun K F hF => cE_ (f := fun n N => aD_.loop23 n (aD_ n) (K n) N ((d + 1 : Nat) : Int) 401 1 0 kd nn s l ns) (a3 K F hF)⟩
theorem dg_ (j : aa_) : aa_.mk j.kind j.n_ j.s j.list j.names = j := by cases j; rfl
theorem fi_ : ∀ (d : Nat) (j : aa_), d ≤ 1000 → e8_ d j → Great d j
  | 0, j, _, _ => by
    refine ⟨401, by omega, rfl, aS_ ?_⟩
    simp only [aD_, aM_, an_]
    exact ⟨fun _ => rfl, fun h => by simp at h⟩
  | d + 1, j, hd, h => by
    obtain ⟨w, w1, w2, w3⟩ := nc_ (d := d) (l := j.list) (by omega) h.2.1 (fun x hx => fi_ d x (by omega) (h.2.2 x hx)) j.kind j.n_ j.s j.names
    have hz : ((((d + 1 : Nat) : Int)) == 0) = false := by simp; omega
    have hN := hV_ (j := j) h.1.2
    obtain ⟨v, hv⟩ : ∃ v : Nat, v = cond (FOwn j) (cond ((j.kind == 4) || (j.kind == 5)) w 1) 401 := ⟨_, rfl⟩
    refine ⟨v, ?_, ?_, aS_ ?_⟩
    · rw [hv]; cases FOwn j <;> cases ((j.kind == 4) || (j.kind == 5)) <;> simp only [cond_true, cond_false] <;> omega
    · rw [hv]
      simp only [bw_]
      cases ho : FOwn j with
      | false => rfl
      | true =>
        cases hk : ((j.kind == 4) || (j.kind == 5)) with
        | true => simp only [cond_true]; exact w2
        | false =>
          have : j.list = [] := by
            unfold FOwn at ho
            rw [hk, Bool.or_false] at ho
            simp only [Bool.and_eq_true, decide_eq_true_eq] at ho
            exact List.eq_nil_of_length_eq_zero ho.1
          rw [this]; rfl
    · have hT := ew_ (s := j.s) h.1.1
      have e1 := jO_ j.list
      have e2 := jO_ j.names
      have e4 : ((j.names.length : Int) == 0) = !decide ((j.names.length : Int) > 0) := by
        by_cases hz : j.names.length = 0
        · rw [hz]; rfl
        · rw [beq_eq_false_iff_ne.2 (show (j.names.length : Int) ≠ 0 by omega), decide_eq_true (show (j.names.length : Int) > 0 by omega)]; rfl
      subst hv
      unfold FOwn FOwnK
      unfold lT_ at hN
      rw [e1, e2]
      rw [e4] at hN
      simp only [aD_, br_, hz, cond_false, aM_, l1In_b, ae_ hT, ae_ hN, an_, bne]
      rcases ih_ j.kind with hk | hk | hk | hk | hk | hk | ⟨k0, k1, k2, k3, k4, k5⟩
      case inr.inr.inr.inr.inl =>
        have hj : aa_.mk 4 j.n_ j.s j.list j.names = j := by rw [← hk]; exact dg_ j
        rw [hk] at w3
        simp only [hk, Int.reduceBEq, Int.reduceLT, Int.reduceLE, Int.reduceNeg, ge_iff_le, gt_iff_lt, decide_true, decide_false, Bool.not_false, Bool.not_true, Bool.or_true, Bool.true_or, Bool.or_false, Bool.false_or, Bool.and_true, Bool.true_and, Bool.not_not, forall_const, reduceCtorEq, false_implies, true_and, and_true, implies_true, cond_true, cond_false] at hN ⊢
        refine w3 _ _ ?_
        simp only [hj, aM_, ae_ hN, an_, Int.reduceBEq, Int.reduceLT, Int.reduceLE, Int.reduceNeg, ge_iff_le, gt_iff_lt, decide_true, decide_false, Bool.not_false, Bool.not_true, Bool.or_true, Bool.true_or, Bool.or_false, Bool.false_or, Bool.and_true, Bool.true_and, Bool.not_not, forall_const, reduceCtorEq, false_implies, true_and, and_true, implies_true, cond_true, cond_false]
        clear hN w3 hT e1 e2 e4 hj
        generalize decide (0 < (j.names.length : Int)) = b
        generalize (j.s == []) = c
        generalize hd : (j.n_ == 0) = dd
        cases b <;> cases c <;> cases dd <;> simp
      case inr.inr.inr.inr.inr.inl =>
        have hj : aa_.mk 5 j.n_ j.s j.list j.names = j := by rw [← hk]; exact dg_ j
        rw [hk] at w3
        simp only [hk, Int.reduceBEq, Int.reduceLT, Int.reduceLE, Int.reduceNeg, ge_iff_le, gt_iff_lt, decide_true, decide_false, Bool.not_false, Bool.not_true, Bool.or_true, Bool.true_or, Bool.or_false, Bool.false_or, Bool.and_true, Bool.true_and, Bool.not_not, forall_const, reduceCtorEq, false_implies, true_and, and_true, implies_true, cond_true, cond_false] at hN ⊢
        refine w3 _ _ ?_
        simp only [hj, aM_, ae_ hN, an_, Int.reduceBEq, Int.reduceLT, Int.reduceLE, Int.reduceNeg, ge_iff_le, gt_iff_lt, decide_true, decide_false, Bool.not_false, Bool.not_true, Bool.or_true, Bool.true_or, Bool.or_false, Bool.false_or, Bool.and_true, Bool.true_and, Bool.not_not, forall_const, reduceCtorEq, false_implies, true_and, and_true, implies_true, cond_true, cond_false]
        clear hN w3 hT e1 e2 e4 hj
        generalize hA_ j.names = fn
        generalize ((j.names.length : Int) == (j.list.length : Int)) = eq
        generalize (j.s == []) = c
        generalize hd : (j.n_ == 0) = dd
        cases fn <;> cases eq <;> cases c <;> cases dd <;> simp
      case inr.inr.inr.inr.inr.inr =>
        simp only [beq_eq_false_iff_ne.2 k0, beq_eq_false_iff_ne.2 k1, beq_eq_false_iff_ne.2 k2, beq_eq_false_iff_ne.2 k3, beq_eq_false_iff_ne.2 k4, beq_eq_false_iff_ne.2 k5, Int.reduceBEq, Int.reduceLT, Int.reduceLE, Int.reduceNeg, ge_iff_le, gt_iff_lt, decide_true, decide_false, Bool.not_false, Bool.not_true, Bool.or_true, Bool.true_or, Bool.or_false, Bool.false_or, Bool.and_true, Bool.true_and, Bool.not_not, forall_const, reduceCtorEq, false_implies, true_and, and_true, implies_true, cond_true, cond_false, Bool.and_false, Bool.false_and]
        rfl
      all_goals (
        simp only [hk, Int.reduceBEq, Int.reduceLT, Int.reduceLE, Int.reduceNeg, ge_iff_le, gt_iff_lt, decide_true, decide_false, Bool.not_false, Bool.not_true, Bool.or_true, Bool.true_or, Bool.or_false, Bool.false_or, Bool.and_true, Bool.true_and, Bool.not_not, forall_const, reduceCtorEq, false_implies, true_and, and_true, implies_true, cond_true, cond_false]
        clear hN w3 hT e1 e2 e4
        generalize decide (0 < (j.names.length : Int)) = b
        generalize decide (0 < (j.list.length : Int)) = a
        generalize (j.s == []) = c
        generalize hd : (j.n_ == 0) = dd
        generalize inn j.n_ 0 1 = i1
        generalize inn j.n_ (-1000000000) 1000000000 = i2
        generalize gl_ j.s = ft
        cases a <;> cases b <;> cases c <;> cases dd <;> cases i1 <;> cases i2 <;> cases ft <;> simp)
theorem c2_ {j : aa_} (h : e8_ 6 j) : Ev (fun n _ => bM_ n j) (cF_ j) := by
  refine aS_ ?_
  obtain ⟨v, v1, v2, v3⟩ := fi_ 6 j (by omega) h
  have e : Ev (fun n _ => aD_ n j 6) (v : Int) := v3
  simp only [bM_, br_, ae_ e, an_, cF_]
  by_cases hq : bw_ 6 j ≤ 400
  · rw [decide_eq_true hq, decide_eq_true (by omega)]
  · rw [decide_eq_false hq, decide_eq_false (by omega)]
end Go.Pi
end
section
set_option linter.unusedVariables false
set_option maxRecDepth 100000
set_option linter.unusedSimpArgs false
namespace Go.Pi
def digs (u : Nat) : Bs := if u = 0 then [] else Lib.decDigits u
theorem digs_step {u : Nat} (h : u ≠ 0) : digs u = digs (u / 10) ++ [UInt8.ofNat (48 + u % 10)] := by
  unfold digs
  rw [if_neg h, Lib.decDigits]
  by_cases h1 : u < 10
  · rw [dif_pos h1, if_pos (by omega), Nat.mod_eq_of_lt h1]; rfl
  · rw [dif_neg h1, if_neg (by omega)]
theorem mG_ {d : Nat} (h : d < 10) : eN_ ([(IntKind.u8.wrap (W (48 + (d : Int))))] : List Int) = [UInt8.ofNat (48 + d)] := by
  have e1 : W (48 + (d : Int)) = ((48 + d : Nat) : Int) := by rw [W_id (by omega) (by omega)]; omega
  rw [e1]
  have e2 : IntKind.u8.wrap (((48 + d : Nat) : Int)) = ((48 + d : Nat) : Int) := by
    have : d = 0 ∨ d = 1 ∨ d = 2 ∨ d = 3 ∨ d = 4 ∨ d = 5 ∨ d = 6 ∨ d = 7 ∨ d = 8 ∨ d = 9 := by omega
    rcases this with rfl | rfl | rfl | rfl | rfl | rfl | rfl | rfl | rfl | rfl <;> rfl
  rw [e2]
  rfl
theorem cV_ {x : Int} (h0 : -9223372036854775808 ≤ x) (h1 : x ≤ 9223372036854775807) : Ev (fun n _ => aI_ n x) (Lib.itoa x) := by
  refine aS_ ?_
  simp only [aI_, aM_, an_]
  refine ⟨fun h => ?_, fun h => ?_⟩
  · have : x = 0 := by simpa using h
    subst this
    unfold Lib.itoa
    rw [if_neg (by decide)]
    show _ = Lib.decDigits 0
    rw [Lib.decDigits_one (by decide)]; rfl
  have hx0 : x ≠ 0 := by simpa using h
  have key : ∀ (k : Nat) (y : Int) (out : Bs), y.natAbs < 10 ^ k → -9223372036854775808 ≤ y → y ≤ 9223372036854775807 → out.length + k ≤ 100 →
      Ev (fun n N => aI_.loop7 n (fun xy3 xy4 => (cond xy3 (cond (decide ([45].length + xy4.length ≤ 9223372036854775807)) (some (([45] : Bs) ++ xy4)) none) (some xy4))) N y (decide (x < 0)) out) (cond (decide (x < 0)) ([45] ++ (digs y.natAbs ++ out)) (digs y.natAbs ++ out)) := by
    intro k
    induction k with
    | zero =>
      intro y out hy _ _ ho
      have : y = 0 := by simp at hy; omega
      subst this
      refine bv_ ?_
      simp only [aI_.turn7, aI_.step7, bne_self_eq_false, cond_false, aM_, an_, cM_]
      refine ⟨fun hb => ⟨fun _ => by rw [hb]; rfl, fun hc => by have := of_decide_eq_false hc; simp at this; omega⟩, fun hb => by rw [hb]; rfl⟩
    | succ k ih =>
      intro y out hy hy0 hy1 ho
      by_cases hz : y = 0
      · subst hz
        refine bv_ ?_
        simp only [aI_.turn7, aI_.step7, bne_self_eq_false, cond_false, aM_, an_, cM_]
        refine ⟨fun hb => ⟨fun _ => by rw [hb]; rfl, fun hc => by have := of_decide_eq_false hc; simp at this; omega⟩, fun hb => by rw [hb]; rfl⟩
      · have hm : (Int.tmod y 10).natAbs = y.natAbs % 10 := by rw [Int.natAbs_tmod]; rfl
        have hd : (Int.tdiv y 10).natAbs = y.natAbs / 10 := by rw [Int.natAbs_tdiv]; rfl
        have hW : W (Int.tdiv y 10) = Int.tdiv y 10 := W_id (by omega) (by omega)
        have hlt : y.natAbs % 10 < 10 := Nat.mod_lt _ (by decide)
        have hdl : (Int.tdiv y 10).natAbs < 10 ^ k := by rw [hd]; rw [Nat.pow_succ] at hy; omega
        have hrec := ih (Int.tdiv y 10) ([UInt8.ofNat (48 + y.natAbs % 10)] ++ out) hdl (by omega) (by omega) (by simp; omega)
        have hdig : digs (Int.tdiv y 10).natAbs ++ ([UInt8.ofNat (48 + y.natAbs % 10)] ++ out) = digs y.natAbs ++ out := by rw [hd, digs_step (show y.natAbs ≠ 0 by omega), List.append_assoc]
        rw [hdig] at hrec
        have hne : (y != 0) = true := by simpa using hz
        refine bv_ ?_
        simp only [aI_.turn7, aI_.step7, hne, cond_true, aM_, cM_, hW]
        refine ⟨fun hneg => ?_, fun hneg => ?_⟩
        · have hneg := of_decide_eq_true hneg
          have e : W (0 - Int.tmod y 10) = ((y.natAbs % 10 : Nat) : Int) := by rw [W_id (by omega) (by omega)]; omega
          rw [e, mG_ hlt]
          exact ⟨fun _ => hrec, fun hc => by have := of_decide_eq_false hc; simp at this; omega⟩
        · have hneg := of_decide_eq_false hneg
          have e : Int.tmod y 10 = ((y.natAbs % 10 : Nat) : Int) := by omega
          rw [e, mG_ hlt]
          exact ⟨fun _ => hrec, fun hc => by have := of_decide_eq_false hc; simp at this; omega⟩
  have hfin := key 19 x [] (by omega) h0 h1 (by simp)
  have hv : Lib.itoa x = cond (decide (x < 0)) ([45] ++ (digs x.natAbs ++ [])) (digs x.natAbs ++ []) := by
    unfold Lib.itoa digs
    rw [if_neg (show x.natAbs ≠ 0 by omega)]
    by_cases hn : x < 0
    · rw [if_pos hn, decide_eq_true hn]; simp
    · rw [if_neg hn, decide_eq_false hn, cond_false, List.append_nil, show x.toNat = x.natAbs by omega]
  rw [hv]
  exact cE_ hfin
theorem Itoa_ev {x : Int} (h0 : -9223372036854775808 ≤ x) (h1 : x ≤ 9223372036854775807) : Ev (fun n _ => strconv_Itoa n x) (Lib.itoa x) :=
  aS_ (by simp only [strconv_Itoa, nItoa, aM_, an_, cM_]; exact ⟨fun _ => trivial, fun h => by simp at h; omega⟩)
end Go.Pi
end
section
set_option linter.unusedVariables false
set_option maxRecDepth 100000
set_option linter.unusedSimpArgs false
namespace Go.Pi
theorem join_snoc (x sep : Bs) : ∀ l : List Bs, Lib.join (l ++ [x]) sep = if l = [] then x else Lib.join l sep ++ sep ++ x
  | [] => by rw [if_pos rfl]; exact Lib.join_one x sep
  | y :: l => by
    rw [if_neg (by simp), List.cons_append, Lib.join_cons, Lib.join_cons]
    simp [Lib.joinTail]
theorem l5_ {α : Type} (f : α → Nat) : ∀ a b : List α, ds_ f (a ++ b) = ds_ f a + ds_ f b
  | [], b => by simp [ds_]
  | x :: a, b => by simp only [List.cons_append, ds_, l5_ f a b]; omega
theorem l4_ {α : Type} (f : α → Nat) (h : ∀ x, 1 ≤ f x) : ∀ a : List α, a.length ≤ ds_ f a
  | [] => Nat.le_refl _
  | x :: a => by have := l4_ f h a; have := h x; simp only [ds_, List.length_cons]; omega
theorem lc_ : ∀ (d : Nat) (j : aa_), 1 ≤ bw_ d j
  | 0, _ => by simp only [bw_]; omega
  | d + 1, j => by
    simp only [bw_]
    cases FOwn j <;> simp only [cond_true, cond_false] <;> omega
theorem fG_ {s : Bs} (h : gl_ s = true) : s.length ≤ 60 := by
  unfold gl_ at h
  rw [Bool.and_eq_true] at h
  have := of_decide_eq_true h.2; omega
theorem fW_ {l : List Bs} (h : hA_ l = true) {i : Nat} (hi : i < l.length) : (l.getD i []).length ≤ 60 := by
  have := fT_.1 h i hi
  rw [Bool.and_eq_true] at this
  exact fG_ this.1
structure Own (j : aa_) : Prop where
  kind : j.kind = 0 ∨ j.kind = 1 ∨ j.kind = 2 ∨ j.kind = 3 ∨ j.kind = 4 ∨ j.kind = 5
  list : j.kind ≠ 4 → j.kind ≠ 5 → j.list = []
  bool : j.kind = 1 → 0 ≤ j.n_ ∧ j.n_ ≤ 1
  num : j.kind = 2 → -1000000000 ≤ j.n_ ∧ j.n_ ≤ 1000000000
  text : j.kind = 3 → j.s.length ≤ 60
  obj : j.kind = 5 → j.names.length = j.list.length ∧ hA_ j.names = true
theorem FOwn_own {j : aa_} (h : FOwn j = true) : Own j := by
  unfold FOwn FOwnK at h
  simp only [Bool.and_eq_true, Bool.or_eq_true] at h
  obtain ⟨h1, h2, h3, h4, h5⟩ := h
  refine ⟨?_, fun k4 k5 => ?_, fun hk => ?_, fun hk => ?_, fun hk => ?_, fun hk => ?_⟩
  · rcases ih_ j.kind with hk | hk | hk | hk | hk | hk | ⟨k0, k1, k2, k3, k4, k5⟩
    · exact .inl hk
    · exact .inr (.inl hk)
    · exact .inr (.inr (.inl hk))
    · exact .inr (.inr (.inr (.inl hk)))
    · exact .inr (.inr (.inr (.inr (.inl hk))))
    · exact .inr (.inr (.inr (.inr (.inr hk))))
    · simp only [beq_eq_false_iff_ne.2 k0, beq_eq_false_iff_ne.2 k1, beq_eq_false_iff_ne.2 k2, beq_eq_false_iff_ne.2 k3, beq_eq_false_iff_ne.2 k4, beq_eq_false_iff_ne.2 k5, cond_false, Bool.or_false] at h5
      cases h5
  · rcases h1 with h1 | h1 | h1
    · exact List.eq_nil_of_length_eq_zero (of_decide_eq_true h1)
    · exact absurd (by simpa using h1) k4
    · exact absurd (by simpa using h1) k5
  · simp only [hk, Int.reduceBEq, cond_true, cond_false] at h5; exact fL_ h5
  · simp only [hk, Int.reduceBEq, cond_true, cond_false] at h5; exact fL_ h5
  · simp only [hk, Int.reduceBEq, cond_true, cond_false] at h5; exact fG_ h5
  · simp only [hk, Int.reduceBEq, cond_true, cond_false, Bool.and_eq_true] at h5
    exact ⟨by have := h5.1; simp at this; omega, h5.2⟩
def cP_ (enc : aa_ → Bs) (j : aa_) (i : Nat) : Bs := cond (j.kind == 5) (cD_ (j.names.getD i []) ++ ([58] ++ enc (j.list.getD i aa_.dflt))) (enc (j.list.getD i aa_.dflt))
def cY_ (enc : aa_ → Bs) (j : aa_) (m : Nat) : Bs := Lib.join ((List.range m).map (cP_ enc j)) [44]
def FEnc : Nat → aa_ → Bs
  | 0, _ => []
  | d + 1, j => cond (j.kind == 0) [110, 117, 108, 108] (cond (j.kind == 1) (cond (j.n_ == 1) [116, 114, 117, 101] [102, 97, 108, 115, 101]) (cond (j.kind == 2) (Lib.itoa j.n_) (cond (j.kind == 3) (cD_ j.s)
      (cond (j.kind == 5) ([123] ++ cY_ (FEnc d) j j.list.length ++ [125]) ([91] ++ cY_ (FEnc d) j j.list.length ++ [93])))))
theorem jt_ (enc : aa_ → Bs) (j : aa_) : cY_ enc j 0 = [] := rfl
theorem fI_ (enc : aa_ → Bs) (j : aa_) : cY_ enc j 1 = cP_ enc j 0 := Lib.join_one _ _
theorem eL_ (enc : aa_ → Bs) (j : aa_) {m : Nat} (h : 0 < m) : cY_ enc j (m + 1) = cY_ enc j m ++ [44] ++ cP_ enc j m := by
  unfold cY_
  rw [List.range_succ, List.map_append, List.map_cons, List.map_nil, join_snoc, if_neg]
  intro e
  have := congrArg List.length e
  simp at this; omega
theorem cU_ {d : Nat} {j : aa_} (h : bw_ (d + 1) j ≤ 400) : Own j ∧ bw_ (d + 1) j = 1 + ds_ (bw_ d) j.list := by
  simp only [bw_] at h ⊢
  cases ho : FOwn j with
  | false => rw [ho, cond_false] at h; omega
  | true =>
    rw [ho, cond_true] at h
    exact ⟨FOwn_own ho, by rw [cond_true]; omega⟩
theorem enc_len : ∀ (d : Nat) (j : aa_), bw_ d j ≤ 400 → (FEnc d j).length + 150 ≤ 300 * bw_ d j
  | 0, j, h => by simp only [bw_] at h; omega
  | d + 1, j, h => by
    obtain ⟨ho, hs⟩ := cU_ h
    have hJ : ∀ m, m ≤ j.list.length → (cY_ (FEnc d) j m).length ≤ 300 * ds_ (bw_ d) (j.list.take m) := by
      intro m
      induction m with
      | zero => intro _; exact Nat.zero_le _
      | succ m ih =>
        intro hm
        have hi : m < j.list.length := by omega
        have h1 := ih (by omega)
        have h2 := g2_ (bw_ d) (cx_ aa_.dflt hi)
        have h3 := enc_len d (j.list.getD m aa_.dflt) (by omega)
        have h4 : (cP_ (FEnc d) j m).length ≤ 123 + (FEnc d (j.list.getD m aa_.dflt)).length := by
          unfold cP_
          cases hk : (j.kind == 5) with
          | false => rw [cond_false]; omega
          | true =>
            obtain ⟨e1, e2⟩ := ho.obj (by simpa using hk)
            have := fW_ e2 (i := m) (by omega)
            have := ea_ (j.names.getD m [])
            rw [cond_true]; simp only [List.length_append, List.length_cons, List.length_nil]; omega
        rw [cA_ aa_.dflt hi, l5_]
        simp only [ds_, Nat.mul_add]
        by_cases h0 : m = 0
        · subst h0; rw [fI_]; omega
        · rw [eL_ _ _ (by omega)]; simp only [List.length_append, List.length_cons, List.length_nil]; omega
    have hL := hJ j.list.length (Nat.le_refl _)
    rw [List.take_length] at hL
    rw [hs]
    rcases ho.kind with hk | hk | hk | hk | hk | hk
    · simp only [FEnc, hk, Int.reduceBEq, cond_true, cond_false, List.length_cons, List.length_nil]; omega
    · simp only [FEnc, hk, Int.reduceBEq, cond_true, cond_false]
      cases (j.n_ == 1) <;> simp only [cond_true, cond_false, List.length_cons, List.length_nil] <;> omega
    · have := ho.num hk
      have := Lib.itoa_length_le j.n_ (by omega) (by omega)
      simp only [FEnc, hk, Int.reduceBEq, cond_true, cond_false]; omega
    · have := ho.text hk
      have := ea_ j.s
      simp only [FEnc, hk, Int.reduceBEq, cond_true, cond_false]; omega
    · simp only [FEnc, hk, Int.reduceBEq, cond_true, cond_false, List.length_append, List.length_cons, List.length_nil]; omega
    · simp only [FEnc, hk, Int.reduceBEq, cond_true, cond_false, List.length_append, List.length_cons, List.length_nil]; omega
structure Part (d : Nat) (j : aa_) (i : Nat) : Prop where
  size : bw_ d (j.list.getD i aa_.dflt) ≤ 400
  enc : (FEnc d (j.list.getD i aa_.dflt)).length ≤ 120000
  name : j.kind = 5 → i < j.names.length ∧ (j.names.getD i []).length ≤ 60
theorem dF_ {d : Nat} {j : aa_} (h : bw_ (d + 1) j ≤ 400) {i : Nat} (hi : i < j.list.length) : Part d j i := by
  obtain ⟨ho, hs⟩ := cU_ h
  have h2 := g2_ (bw_ d) (cx_ aa_.dflt hi)
  have h3 := enc_len d (j.list.getD i aa_.dflt) (by omega)
  exact ⟨by omega, by omega, fun hk => ⟨by have := (ho.obj hk).1; omega, fW_ (ho.obj hk).2 (by have := (ho.obj hk).1; omega)⟩⟩
theorem jT_ {d : Nat} {j : aa_} (h : bw_ (d + 1) j ≤ 400) : ∀ m, m ≤ j.list.length → (cY_ (FEnc d) j m).length ≤ m * 120200 := by
  intro m
  induction m with
  | zero => intro _; exact Nat.zero_le _
  | succ m ih =>
    intro hm
    have hp := dF_ h (i := m) (by omega)
    have h1 := ih (by omega)
    have h4 : (cP_ (FEnc d) j m).length ≤ 123 + 120000 := by
      have := hp.enc
      unfold cP_
      cases hk : (j.kind == 5) with
      | false => rw [cond_false]; omega
      | true =>
        have := (hp.name (by simpa using hk)).2
        have := ea_ (j.names.getD m [])
        rw [cond_true]; simp only [List.length_append, List.length_cons, List.length_nil]; omega
    by_cases h0 : m = 0
    · subst h0; rw [fI_]; omega
    · rw [eL_ _ _ (by omega)]; simp only [List.length_append, List.length_cons, List.length_nil]; omega
theorem df_ {d : Nat} {j : aa_} (h : bw_ (d + 1) j ≤ 400) : j.list.length ≤ 400 := by
  have := (cU_ h).2
  have := l4_ (bw_ d) (lc_ d) j.list
  omega
end Go.Pi
end
section
set_option linter.unusedVariables false
set_option maxRecDepth 100000
set_option linter.unusedSimpArgs false
namespace Go.Pi
def dH_ (c : UInt8) : Prop := 48 ≤ c.toNat ∧ c.toNat ≤ 57
theorem gQ_ {d : Nat} (h : d < 10) : (UInt8.ofNat (48 + d)).toNat = 48 + d := by
  rw [UInt8.toNat_ofNat']; omega
theorem fB_ : ∀ (u : Nat), ∀ c ∈ Lib.decDigits u, dH_ c := by
  intro u
  induction u using Nat.strongRecOn with
  | ind u ih =>
    intro c hc
    rw [Lib.decDigits] at hc
    by_cases h : u < 10
    · rw [dif_pos h] at hc
      obtain rfl := List.mem_singleton.1 hc
      unfold dH_; rw [gQ_ h]; omega
    · rw [dif_neg h] at hc
      rcases List.mem_append.1 hc with hc | hc
      · exact ih (u / 10) (by omega) c hc
      · obtain rfl := List.mem_singleton.1 hc
        unfold dH_; rw [gQ_ (by omega)]; omega
theorem iq_ (u : Nat) : 1 ≤ (Lib.decDigits u).length := by
  rw [Lib.decDigits]
  by_cases h : u < 10
  · rw [dif_pos h]; simp
  · rw [dif_neg h]; simp
theorem lG_ : ∀ (k u : Nat), u < 10 ^ (k + 1) → (Lib.decDigits u).length ≤ k + 1
  | 0, u, h => by rw [Lib.decDigits, dif_pos (by simpa using h)]; simp
  | k + 1, u, h => by
    rw [Lib.decDigits]
    by_cases h1 : u < 10
    · rw [dif_pos h1]; simp
    · rw [dif_neg h1, List.length_append]
      have := lG_ k (u / 10) (by rw [Nat.pow_succ] at h; omega)
      simp; omega
def gY_ (x : Nat) (l : Bs) : Nat := l.foldl (fun x c => 10 * x + (c.toNat - 48)) x
theorem val_nil (x : Nat) : gY_ x [] = x := rfl
theorem go_ (x : Nat) (c : UInt8) (l : Bs) : gY_ x (c :: l) = gY_ (10 * x + (c.toNat - 48)) l := by unfold gY_; rw [List.foldl_cons]
theorem val_app (x : Nat) (a b : Bs) : gY_ x (a ++ b) = gY_ (gY_ x a) b := List.foldl_append
theorem jv_ : ∀ (u : Nat), gY_ 0 (Lib.decDigits u) = u := by
  intro u
  induction u using Nat.strongRecOn with
  | ind u ih =>
    rw [Lib.decDigits]
    by_cases h : u < 10
    · rw [dif_pos h, go_, val_nil, gQ_ h]; omega
    · rw [dif_neg h, val_app, ih (u / 10) (by omega)]
      have e := gQ_ (d := u % 10) (by omega)
      rw [go_, val_nil, e]
      omega
theorem val_le : ∀ (x : Nat) (l : Bs), x ≤ gY_ x l
  | _, [] => Nat.le_refl _
  | x, c :: l => by rw [go_]; exact Nat.le_trans (by omega) (val_le _ l)
theorem pu_val : ∀ (x : Nat) (l : Bs), (∀ c ∈ l, dH_ c) → gY_ x l ≤ 1000000000000000000 → Lib.parseUint10 x l = .ok (gY_ x l)
  | _, [], _, _ => rfl
  | x, c :: l, h, hv => by
    have hc := h c (List.mem_cons_self ..)
    have h1 := val_le (10 * x + (c.toNat - 48)) l
    rw [go_] at hv ⊢
    unfold dH_ at hc
    rw [Lib.parseUint10, if_pos hc, if_neg (by omega), if_neg (by omega), show x * 10 + (c.toNat - 48) = 10 * x + (c.toNat - 48) by omega]
    exact pu_val _ l (fun c hc => h c (List.mem_cons_of_mem _ hc)) hv
theorem k6_ {n : Int} (h0 : -1000000000 ≤ n) (h1 : n ≤ 1000000000) : Lib.atoiAll (Lib.itoa n) = .ok n := by
  unfold Lib.itoa
  have key : ∀ u : Nat, u ≤ 1000000000 → Lib.parseMag (Lib.decDigits u) = .ok u := by
    intro u hu
    have := iq_ u
    unfold Lib.parseMag
    rw [if_neg (fun e => by rw [e] at this; simp at this), pu_val 0 _ (fB_ u) (by rw [jv_]; omega), jv_]
  by_cases hn : n < 0
  · rw [if_pos hn, Lib.atoiAll_minus, key n.natAbs (by omega)]
    show (if 9223372036854775808 < n.natAbs then Lib.NumEnd.range else .ok (-(n.natAbs : Int))) = _
    rw [if_neg (by omega), show (-(n.natAbs : Int)) = n by omega]
  · rw [if_neg hn]
    have e := key n.toNat (by omega)
    have hp := iq_ n.toNat
    have hd := fB_ n.toNat
    generalize Lib.decDigits n.toNat = l at e hp hd ⊢
    cases l with
    | nil => simp at hp
    | cons c r =>
      have hc := hd c (List.mem_cons_self ..)
      unfold dH_ at hc
      rw [Lib.atoiAll_plain c r (by omega) (by omega), e]
      show (if 9223372036854775808 ≤ n.toNat then Lib.NumEnd.range else .ok (n.toNat : Int)) = _
      rw [if_neg (by omega), show (n.toNat : Int) = n by omega]
def cR_ (enc : aa_ → Bs) (j : aa_) : Nat → Nat → Bs
  | 0, _ => []
  | k + 1, i => (if i = 0 then [] else [44]) ++ (cP_ enc j i ++ cR_ enc j k (i + 1))
theorem ju_ (enc : aa_ → Bs) (j : aa_) : ∀ k i, cY_ enc j i ++ cR_ enc j k i = cY_ enc j (i + k)
  | 0, i => by rw [cR_, List.append_nil]; rfl
  | k + 1, i => by
    rw [cR_, show i + (k + 1) = i + 1 + k by omega, ← ju_ enc j k (i + 1)]
    by_cases h : i = 0
    · subst h; rw [jt_, fI_, if_pos rfl]; simp
    · rw [if_neg h, eL_ enc j (by omega)]; simp
theorem iF_ (enc : aa_ → Bs) (j : aa_) (m : Nat) : cY_ enc j m = cR_ enc j m 0 := by
  have := ju_ enc j m 0
  rw [jt_, List.nil_append, Nat.zero_add] at this
  exact this.symm
def Stop (r : Bs) : Prop := ∀ c t, r = c :: t → ¬ dH_ c
theorem jz_ : Stop [] := fun c t h => (by cases h)
theorem hS_ {c : UInt8} {t : Bs} (h : ¬ dH_ c) : Stop (c :: t) := fun d u e => by cases e; exact h
theorem fp_ (n : Int) : ∃ c t, Lib.itoa n = c :: t ∧ (c = 45 ∨ dH_ c) := by
  unfold Lib.itoa
  by_cases h : n < 0
  · rw [if_pos h]; exact ⟨45, _, rfl, .inl rfl⟩
  · rw [if_neg h]
    have hp := iq_ n.toNat
    have hd := fB_ n.toNat
    generalize Lib.decDigits n.toNat = l at hp hd ⊢
    cases l with
    | nil => simp at hp
    | cons c r => exact ⟨c, r, rfl, .inr (hd c (List.mem_cons_self ..))⟩
theorem enc_head {d : Nat} {j : aa_} (h : bw_ d j ≤ 400) : ∃ c t, FEnc d j = c :: t ∧ c.toNat ≠ 93 ∧ c.toNat ≠ 125 ∧ c.toNat ≠ 44 := by
  cases d with
  | zero => simp only [bw_] at h; omega
  | succ d =>
    have ho := (cU_ h).1
    rcases ho.kind with hk | hk | hk | hk | hk | hk
    · exact ⟨110, [117, 108, 108], by simp only [FEnc, hk, Int.reduceBEq, cond_true], by decide⟩
    · cases hb : (j.n_ == 1) with
      | true => exact ⟨116, [114, 117, 101], by simp only [FEnc, hk, hb, Int.reduceBEq, cond_true, cond_false], by decide⟩
      | false => exact ⟨102, [97, 108, 115, 101], by simp only [FEnc, hk, hb, Int.reduceBEq, cond_true, cond_false], by decide⟩
    · obtain ⟨c, t, e, hc⟩ := fp_ j.n_
      refine ⟨c, t, by simp only [FEnc, hk, Int.reduceBEq, cond_true, cond_false, e], ?_⟩
      rcases hc with rfl | hc
      · decide
      · unfold dH_ at hc; omega
    · exact ⟨34, j.s.flatMap dR_ ++ [34], by simp only [FEnc, hk, Int.reduceBEq, cond_true, cond_false, cD_]; rfl, by decide⟩
    · exact ⟨91, cY_ (FEnc d) j j.list.length ++ [93], by simp only [FEnc, hk, Int.reduceBEq, cond_true, cond_false]; rfl, by decide⟩
    · exact ⟨123, cY_ (FEnc d) j j.list.length ++ [125], by simp only [FEnc, hk, Int.reduceBEq, cond_true, cond_false]; rfl, by decide⟩
theorem js_ {d : Nat} {j : aa_} (h : bw_ (d + 1) j ≤ 400) {i : Nat} (hi : i < j.list.length) : ∃ c t, cP_ (FEnc d) j i = c :: t ∧ c.toNat ≠ 93 ∧ c.toNat ≠ 125 ∧ c.toNat ≠ 44 := by
  unfold cP_
  cases (j.kind == 5) with
  | true => exact ⟨34, (j.names.getD i []).flatMap dR_ ++ [34] ++ ([58] ++ FEnc d (j.list.getD i aa_.dflt)), by simp only [cond_true, cD_]; rfl, by decide⟩
  | false => exact enc_head (dF_ h hi).size
theorem qesc_nl {s : Bs} (h : ∀ c ∈ s, c ≠ 10) : ∀ c ∈ cD_ s, c ≠ 10 := by
  intro c hc
  unfold cD_ at hc
  simp only [List.cons_append, List.mem_cons, List.mem_append, List.mem_flatMap, List.not_mem_nil, or_false] at hc
  rcases hc with rfl | ⟨b, hb, hc⟩ | rfl
  · decide
  · have := h b hb
    unfold dR_ at hc
    split at hc
    · simp only [List.mem_cons, List.not_mem_nil, or_false] at hc
      rcases hc with rfl | rfl
      · decide
      · exact this
    · obtain rfl := List.mem_singleton.1 hc; exact this
  · decide
theorem text_nl {s : Bs} (h : gl_ s = true) : ∀ c ∈ s, c ≠ 10 := by
  intro c hc e
  subst e
  unfold gl_ at h
  rw [Bool.and_eq_true] at h
  obtain ⟨i, hi, e⟩ := List.getElem_of_mem hc
  have := fT_.1 h.1 i hi
  rw [List.getD_eq_getElem?_getD, List.getElem?_eq_getElem hi, Option.getD_some, e] at this
  revert this; decide
theorem gf_ (n : Int) : ∀ c ∈ Lib.itoa n, c ≠ 10 := by
  intro c hc e
  subst e
  unfold Lib.itoa at hc
  have key : ∀ u, (10 : UInt8) ∈ Lib.decDigits u → False := fun u h => by have := fB_ u 10 h; unfold dH_ at this; revert this; decide
  split at hc
  · rcases List.mem_cons.1 hc with h | h
    · revert h; decide
    · exact key _ h
  · exact key _ hc
structure Own2 (j : aa_) : Prop where
  text : j.kind = 3 → gl_ j.s = true
  n0 : j.kind ≠ 1 → j.kind ≠ 2 → j.n_ = 0
  s0 : j.kind ≠ 3 → j.s = []
  ns0 : j.kind ≠ 5 → j.names = []
theorem dy_ {j : aa_} (h : FOwn j = true) : Own2 j := by
  unfold FOwn FOwnK at h
  simp only [Bool.and_eq_true, Bool.or_eq_true] at h
  obtain ⟨h1, h2, h3, h4, h5⟩ := h
  refine ⟨fun hk => ?_, fun k1 k2 => ?_, fun k3 => ?_, fun k5 => ?_⟩
  · simpa only [hk, Int.reduceBEq, cond_true, cond_false] using h5
  · rcases h3 with h | h | h
    · simpa using h
    · exact absurd (by simpa using h) k1
    · exact absurd (by simpa using h) k2
  · rcases h4 with h | h
    · simpa using h
    · exact absurd (by simpa using h) k3
  · rcases h2 with h | h
    · exact List.eq_nil_of_length_eq_zero (of_decide_eq_true h)
    · exact absurd (by simpa using h) k5
theorem dl_ {d : Nat} {j : aa_} (h : bw_ (d + 1) j ≤ 400) : FOwn j = true := by
  simp only [bw_] at h
  cases ho : FOwn j with
  | false => rw [ho, cond_false] at h; omega
  | true => rfl
theorem enc_nl : ∀ (d : Nat) (j : aa_), bw_ d j ≤ 400 → ∀ c ∈ FEnc d j, c ≠ 10
  | 0, j, h => by simp only [bw_] at h; omega
  | d + 1, j, h => by
    have ho := (cU_ h).1
    have ho2 := dy_ (dl_ h)
    have hJ : ∀ k i, i + k ≤ j.list.length → ∀ c ∈ cR_ (FEnc d) j k i, c ≠ 10 := by
      intro k
      induction k with
      | zero => intro i _ c hc; cases hc
      | succ k ih =>
        intro i hi c hc
        have hp := dF_ h (i := i) (by omega)
        simp only [cR_, List.mem_append] at hc
        rcases hc with hc | hc | hc
        · split at hc
          · cases hc
          · obtain rfl := List.mem_singleton.1 hc; decide
        · have he := enc_nl d _ hp.size
          unfold cP_ at hc
          cases hk : (j.kind == 5) with
          | false => rw [hk, cond_false] at hc; exact he c hc
          | true =>
            obtain ⟨e1, e2⟩ := ho.obj (by simpa using hk)
            have hn := fT_.1 e2 i (by omega)
            rw [Bool.and_eq_true] at hn
            rw [hk, cond_true] at hc
            simp only [List.mem_append] at hc
            rcases hc with hc | hc | hc
            · exact qesc_nl (text_nl hn.1) c hc
            · obtain rfl := List.mem_singleton.1 hc; decide
            · exact he c hc
        · exact ih (i + 1) (by omega) c hc
    have hA := hJ j.list.length 0 (by omega)
    rw [← iF_] at hA
    intro c hc
    rcases ho.kind with hk | hk | hk | hk | hk | hk
    · simp only [FEnc, hk, Int.reduceBEq, cond_true] at hc
      intro e; subst e; revert hc; decide
    · simp only [FEnc, hk, Int.reduceBEq, cond_true, cond_false] at hc
      intro e; subst e; revert hc; cases (j.n_ == 1) <;> decide
    · simp only [FEnc, hk, Int.reduceBEq, cond_true, cond_false] at hc
      exact gf_ _ c hc
    · simp only [FEnc, hk, Int.reduceBEq, cond_true, cond_false] at hc
      exact qesc_nl (text_nl (ho2.text hk)) c hc
    all_goals (
      simp only [FEnc, hk, Int.reduceBEq, cond_true, cond_false, List.mem_append, List.mem_singleton] at hc
      rcases hc with (rfl | hc) | rfl
      · decide
      · exact hA c hc
      · decide)
end Go.Pi
end
section
set_option linter.unusedVariables false
set_option maxRecDepth 100000
set_option linter.unusedSimpArgs false
namespace Go.Pi
def db_ (b : UInt8) : Bs → List Bs
  | [] => [[]]
  | c :: l => if c = b then [] :: db_ b l else match db_ b l with
    | [] => [[c]]
    | p :: ps => (c :: p) :: ps
theorem g4_ (b : UInt8) : ∀ l, ∃ p ps, db_ b l = p :: ps
  | [] => ⟨[], [], rfl⟩
  | c :: l => by
    obtain ⟨p, ps, e⟩ := g4_ b l
    unfold db_
    by_cases h : c = b
    · rw [if_pos h]; exact ⟨_, _, rfl⟩
    · rw [if_neg h, e]; exact ⟨_, _, rfl⟩
theorem g3_ (b : UInt8) : ∀ (s : Bs) (k : Nat), s.count b ≤ k → Lib.splitK [b] 0 k s = db_ b s
  | [], 0, _ => rfl
  | [], k + 1, _ => by
    rw [Lib.splitK]
    have : Lib.index [] [b] = -1 := rfl
    rw [this, if_pos (by decide)]; rfl
  | c :: l, k, h => by
    unfold db_
    by_cases e : c = b
    · subst e
      rw [List.count_cons_self] at h
      obtain ⟨k, rfl⟩ : ∃ m, k = m + 1 := ⟨k - 1, by omega⟩
      rw [Lib.splitK, d9_, if_pos rfl, if_neg (by decide), if_pos rfl]
      show [] :: Lib.splitK [c] 0 k l = _
      rw [g3_ c l k (by omega)]
    · rw [List.count_cons_of_ne e] at h
      have ih := g3_ b l k h
      rw [if_neg e, ← ih]
      cases k with
      | zero => rfl
      | succ k =>
        have hx : Lib.index (c :: l) [b] = if Lib.index l [b] = -1 then -1 else Lib.index l [b] + 1 := by rw [d9_, if_neg (show ¬ b = c from fun h => e h.symm)]
        rw [Lib.splitK, Lib.splitK, hx]
        by_cases h2 : Lib.index l [b] = -1
        · rw [if_pos h2, if_pos (by decide), h2, if_pos (by decide)]
        · have := Lib.index_ge l [b]
          obtain ⟨i, hi⟩ : ∃ i : Nat, Lib.index l [b] = i := ⟨(Lib.index l [b]).toNat, by omega⟩
          rw [if_neg h2, if_neg (by rw [hi]; simp <;> omega), if_neg (by rw [hi]; simp <;> omega), hi, show ((i : Int) + 1).toNat = i + 1 by omega, show ((i : Int)).toNat = i by omega]
          rfl
theorem split_one (b : UInt8) (s : Bs) : Lib.split s [b] = db_ b s := by
  unfold Lib.split
  rw [ir_]
  exact g3_ b s _ (Nat.le_refl _)
theorem g5_ (b : UInt8) : ∀ (s : Bs), (db_ b s).length ≤ s.length + 1 ∧ ∀ p ∈ db_ b s, p.length ≤ s.length
  | [] => ⟨Nat.le_refl _, fun p hp => by obtain rfl := List.mem_singleton.1 hp; exact Nat.le_refl _⟩
  | c :: l => by
    obtain ⟨h1, h2⟩ := g5_ b l
    obtain ⟨p, ps, e⟩ := g4_ b l
    unfold db_
    by_cases h : c = b
    · rw [if_pos h]
      refine ⟨by simp; omega, fun q hq => ?_⟩
      rcases List.mem_cons.1 hq with rfl | hq
      · simp
      · have := h2 q hq; simp; omega
    · rw [if_neg h, e]
      rw [e] at h1 h2
      refine ⟨by simp at h1 ⊢; omega, fun q hq => ?_⟩
      rcases List.mem_cons.1 hq with rfl | hq
      · have := h2 p (List.mem_cons_self ..); simp; omega
      · have := h2 q (List.mem_cons_of_mem _ hq); simp; omega
theorem g6_ (b : UInt8) (r : Bs) : ∀ (a : Bs), (∀ c ∈ a, c ≠ b) → db_ b (a ++ b :: r) = a :: db_ b r
  | [], _ => by rw [List.nil_append, db_, if_pos rfl]
  | c :: a, h => by
    rw [List.cons_append, db_, if_neg (h c (List.mem_cons_self ..)), g6_ b r a fun x hx => h x (List.mem_cons_of_mem _ hx)]
theorem iW_ (b : UInt8) : ∀ (a : Bs), (∀ c ∈ a, c ≠ b) → db_ b a = [a]
  | [], _ => rfl
  | c :: a, h => by rw [db_, if_neg (h c (List.mem_cons_self ..)), iW_ b a fun x hx => h x (List.mem_cons_of_mem _ hx)]
theorem wesc_sl (s : Bs) : ∀ c ∈ s.flatMap en_, c ≠ 47 := by
  intro c hc
  obtain ⟨b, _, hc⟩ := List.mem_flatMap.1 hc
  unfold en_ at hc
  split at hc
  · intro e; subst e; revert hc; decide
  · split at hc
    · intro e; subst e; revert hc; decide
    · obtain rfl := List.mem_singleton.1 hc; assumption
theorem kn_ : ∀ (w : List Bs), db_ 47 (FWay w) = [] :: w.map fun s => s.flatMap en_
  | [] => rfl
  | s :: w => by
    have e : FWay (s :: w) = [] ++ 47 :: (s.flatMap en_ ++ FWay w) := rfl
    rw [e, g6_ 47 _ [] (fun c h => by cases h)]
    congr 1
    cases w with
    | nil =>
      have : FWay ([] : List Bs) = [] := rfl
      rw [this, List.append_nil, iW_ 47 _ (wesc_sl s)]; rfl
    | cons t w =>
      have ih := kn_ (t :: w)
      have e2 : FWay (t :: w) = 47 :: (t.flatMap en_ ++ FWay w) := rfl
      rw [e2, db_, if_pos rfl] at ih
      rw [e2, g6_ 47 _ _ (wesc_sl s), List.map_cons, List.cons.inj ih |>.2]
def eB_ (a b : UInt8) (new : Bs) : Bs → Bs
  | [] => []
  | [x] => [x]
  | x :: y :: l => if x = a ∧ y = b then new ++ eB_ a b new l else x :: eB_ a b new (y :: l)
theorem jb_ (a b x : UInt8) (l : Bs) : Lib.index (x :: l) [a, b] = if x = a ∧ l.head? = some b then 0 else if Lib.index l [a, b] = -1 then -1 else Lib.index l [a, b] + 1 := by
  rw [Lib.index]
  have : List.isPrefixOf [a, b] (x :: l) = decide (x = a ∧ l.head? = some b) := by
    refine Bool.eq_iff_iff.2 ?_
    cases l with
    | nil => simp [List.isPrefixOf]
    | cons y l =>
      simp only [List.isPrefixOf, List.head?_cons, Option.some.injEq, decide_eq_true_eq, Bool.and_true, Bool.and_eq_true, beq_iff_eq]
      exact ⟨fun ⟨h1, h2⟩ => ⟨h1.symm, h2.symm⟩, fun ⟨h1, h2⟩ => ⟨h1.symm, h2.symm⟩⟩
  rw [this]
  by_cases h : x = a ∧ l.head? = some b
  · rw [decide_eq_true h, if_pos rfl, if_pos h]
  · rw [decide_eq_false h, if_neg (by simp), if_neg h]
    by_cases h2 : Lib.index l [a, b] = -1
    · rw [h2, if_pos rfl, if_pos (by decide)]
    · rw [if_neg h2, if_neg (by simpa using h2)]
def cnt2 (a b : UInt8) : Bs → Nat
  | [] => 0
  | [_] => 0
  | x :: y :: l => if x = a ∧ y = b then 1 + cnt2 a b l else cnt2 a b (y :: l)
theorem lK_ (a b : UInt8) : ∀ l : Bs, cnt2 a b l ≤ l.length
  | [] => Nat.le_refl _
  | [_] => by simp [cnt2]
  | x :: y :: l => by
    unfold cnt2
    have h1 := lK_ a b l
    have h2 := lK_ a b (y :: l)
    split
    · simp; omega
    · simp at h2 ⊢; omega
theorem hi_ (a b : UInt8) : ∀ (s : Bs) (f : Nat), s.length < f → Lib.countFrom [a, b] f s = cnt2 a b s
  | [], f + 1, _ => by
    rw [Lib.countFrom]
    have : Lib.index [] [a, b] = -1 := rfl
    rw [this, if_pos (by decide)]; rfl
  | [x], f + 1, _ => by
    rw [Lib.countFrom]
    have : Lib.index [x] [a, b] = -1 := by
      rw [jb_, if_neg (by simp)]; rfl
    rw [this, if_pos (by decide)]; rfl
  | x :: y :: l, f + 1, h => by
    have hl : l.length + 1 < f := by simpa using h
    unfold cnt2
    by_cases e : x = a ∧ y = b
    · have hx : Lib.index (x :: y :: l) [a, b] = 0 := by rw [jb_, if_pos (show x = a ∧ (y :: l).head? = some b by simpa using e)]
      rw [if_pos e, Lib.countFrom, hx, if_neg (by decide)]
      show 1 + Lib.countFrom [a, b] f l = _
      rw [hi_ a b l f (by omega)]
    · have hx : Lib.index (x :: y :: l) [a, b] = if Lib.index (y :: l) [a, b] = -1 then -1 else Lib.index (y :: l) [a, b] + 1 := by rw [jb_, if_neg (show ¬ (x = a ∧ (y :: l).head? = some b) by simpa using e)]
      rw [if_neg e, ← hi_ a b (y :: l) (f + 1) (by simp; omega), Lib.countFrom, Lib.countFrom, hx]
      by_cases h2 : Lib.index (y :: l) [a, b] = -1
      · rw [if_pos h2, if_pos (by decide), h2, if_pos (by decide)]
      · have := Lib.index_ge (y :: l) [a, b]
        obtain ⟨i, hi⟩ : ∃ i : Nat, Lib.index (y :: l) [a, b] = i := ⟨(Lib.index (y :: l) [a, b]).toNat, by omega⟩
        rw [if_neg h2, if_neg (by rw [hi]; simp <;> omega), if_neg (by rw [hi]; simp <;> omega), hi, show ((i : Int) + 1).toNat = i + 1 by omega, show ((i : Int)).toNat = i by omega]
        rfl
theorem count2 (a b : UInt8) (s : Bs) : Lib.count s [a, b] = cnt2 a b s := hi_ a b s _ (Nat.lt_succ_self _)
theorem h7_ (a b : UInt8) (new : Bs) : ∀ (s : Bs) (k : Nat), cnt2 a b s ≤ k → Lib.replaceK [a, b] new k s = eB_ a b new s
  | [], 0, _ => rfl
  | [], k + 1, _ => by
    rw [Lib.replaceK]
    have : Lib.index [] [a, b] = -1 := rfl
    rw [this, if_pos (by decide)]; rfl
  | [x], 0, _ => rfl
  | [x], k + 1, _ => by
    rw [Lib.replaceK]
    have : Lib.index [x] [a, b] = -1 := by rw [jb_, if_neg (by simp)]; rfl
    rw [this, if_pos (by decide)]; rfl
  | x :: y :: l, k, h => by
    unfold cnt2 at h
    unfold eB_
    by_cases e : x = a ∧ y = b
    · rw [if_pos e] at h ⊢
      obtain ⟨k, rfl⟩ : ∃ m, k = m + 1 := ⟨k - 1, by omega⟩
      have hx : Lib.index (x :: y :: l) [a, b] = 0 := by rw [jb_, if_pos (show x = a ∧ (y :: l).head? = some b by simpa using e)]
      rw [Lib.replaceK, hx, if_neg (by decide)]
      show [] ++ new ++ Lib.replaceK [a, b] new k l = _
      rw [h7_ a b new l k (by omega)]; rfl
    · rw [if_neg e] at h ⊢
      have ih := h7_ a b new (y :: l) k h
      rw [← ih]
      cases k with
      | zero => rfl
      | succ k =>
        have hx : Lib.index (x :: y :: l) [a, b] = if Lib.index (y :: l) [a, b] = -1 then -1 else Lib.index (y :: l) [a, b] + 1 := by rw [jb_, if_neg (show ¬ (x = a ∧ (y :: l).head? = some b) by simpa using e)]
        rw [Lib.replaceK, Lib.replaceK, hx]
        by_cases h2 : Lib.index (y :: l) [a, b] = -1
        · rw [if_pos h2, if_pos (by decide), h2, if_pos (by decide)]
        · have := Lib.index_ge (y :: l) [a, b]
          obtain ⟨i, hi⟩ : ∃ i : Nat, Lib.index (y :: l) [a, b] = i := ⟨(Lib.index (y :: l) [a, b]).toNat, by omega⟩
          rw [if_neg h2, if_neg (by rw [hi]; simp <;> omega), if_neg (by rw [hi]; simp <;> omega), hi, show ((i : Int) + 1).toNat = i + 1 by omega, show ((i : Int)).toNat = i by omega]
          rfl
theorem lq_ (a b : UInt8) (new s : Bs) (hne : ([a, b] == new) = false) : Lib.replaceAll s [a, b] new = eB_ a b new s := by
  unfold Lib.replaceAll Lib.replace Lib.replaceNum
  rw [hne, if_neg (by simp), if_pos (.inl (by decide)), count2]
  exact h7_ a b new s _ (Nat.le_refl _)
theorem eR_ (a b c : UInt8) : ∀ l : Bs, (eB_ a b [c] l).length ≤ l.length
  | [] => Nat.le_refl _
  | [_] => Nat.le_refl _
  | x :: y :: l => by
    unfold eB_
    have h1 := eR_ a b c l
    have h2 := eR_ a b c (y :: l)
    split
    · simp; omega
    · simp at h2 ⊢; omega
theorem mb_ (a b : UInt8) (new l : Bs) : eB_ a b new (a :: b :: l) = new ++ eB_ a b new l := by rw [eB_, if_pos ⟨rfl, rfl⟩]
theorem h8_ {a b x : UInt8} (h : x ≠ a) (new l : Bs) : eB_ a b new (x :: l) = x :: eB_ a b new l := by
  cases l with
  | nil => rfl
  | cons y l => rw [eB_, if_neg fun e => h e.1]
theorem mZ_ {a b y : UInt8} (h : y ≠ b) (new l : Bs) (h2 : y ≠ a) : eB_ a b new (a :: y :: l) = a :: y :: eB_ a b new l := by
  rw [eB_, if_neg fun e => h e.2, h8_ h2]
def kd_ (c : UInt8) : Bs := if c = 126 then [126, 48] else [c]
theorem unesc1 : ∀ (s : Bs), eB_ 126 49 [47] (s.flatMap en_) = s.flatMap kd_
  | [] => rfl
  | c :: s => by
    have ih := unesc1 s
    rw [List.flatMap_cons, List.flatMap_cons]
    generalize s.flatMap en_ = x at ih ⊢
    generalize s.flatMap kd_ = y at ih ⊢
    by_cases h1 : c = 126
    · have e1 : en_ c = [126, 48] := if_pos h1
      have e2 : kd_ c = [126, 48] := if_pos h1
      rw [e1, e2]
      show eB_ 126 49 [47] (126 :: 48 :: x) = 126 :: 48 :: y
      rw [mZ_ (by decide) _ _ (by decide), ih]
    · have e2 : kd_ c = [c] := if_neg h1
      by_cases h2 : c = 47
      · have e1 : en_ c = [126, 49] := by unfold en_; rw [if_neg h1, if_pos h2]
        rw [e1, e2]
        show eB_ 126 49 [47] (126 :: 49 :: x) = c :: y
        rw [mb_, ih, h2]; rfl
      · have e1 : en_ c = [c] := by unfold en_; rw [if_neg h1, if_neg h2]
        rw [e1, e2]
        show eB_ 126 49 [47] (c :: x) = c :: y
        rw [h8_ h1, ih]
theorem unesc2 : ∀ (s : Bs), eB_ 126 48 [126] (s.flatMap kd_) = s
  | [] => rfl
  | c :: s => by
    have ih := unesc2 s
    rw [List.flatMap_cons]
    generalize s.flatMap kd_ = y at ih ⊢
    by_cases h1 : c = 126
    · have e2 : kd_ c = [126, 48] := if_pos h1
      rw [e2]
      show eB_ 126 48 [126] (126 :: 48 :: y) = _
      rw [mb_, ih, h1]; rfl
    · have e2 : kd_ c = [c] := if_neg h1
      rw [e2]
      show eB_ 126 48 [126] (c :: y) = _
      rw [h8_ h1, ih]
end Go.Pi
end
section
set_option linter.unusedVariables false
set_option maxRecDepth 100000
set_option linter.unusedSimpArgs false
namespace Go.Pi
theorem e5_ : ∀ (d : Nat) (j : aa_), bw_ d j ≤ 400 → Ev (fun n _ => aA_ n j) (FEnc d j)
  | 0, j, h => by simp only [bw_] at h; omega
  | d + 1, j, h => by
    have ho := (cU_ h).1
    have hll := df_ h
    refine aS_ ?_
    have hloop : (j.kind = 4 ∨ j.kind = 5) → ∀ (K : Nat → Bs → Int → Int → Bs → List aa_ → List Bs → Option Bs) (v : Bs), Ev (fun n N => K n (cY_ (FEnc d) j j.list.length) j.kind j.n_ j.s j.list j.names) v → Ev (fun n _ => aA_.loop17 n (aA_ n) (K n) n [] 0 j.kind j.n_ j.s j.list j.names) v := by
      intro hk45 K v hK
      refine er_ (fun i => cY_ (FEnc d) j i) j.list.length (fun n N i (o : Bs) => aA_.loop17 n (aA_ n) (K n) N o (i : Int) j.kind j.n_ j.s j.list j.names) v (fun i hi F hF => ?_) ?_
      · have hp := dF_ h hi
        have hx := e5_ d (j.list.getD i aa_.dflt) hp.size
        have hjl := jT_ h i (by omega)
        have he := hp.enc
        have hW := W_up hi (show j.list.length ≤ cv_ by simp only [cv_]; omega)
        rcases hk45 with hk | hk
        · have h5 : (j.kind == 5) = false := by rw [hk]; rfl
          by_cases h0 : i = 0
          · have hg : decide ((i : Int) > 0) = false := decide_eq_false (by omega)
            have e0 : cY_ (FEnc d) j i = [] := by rw [h0]; rfl
            have e1 : cY_ (FEnc d) j (i + 1) = cP_ (FEnc d) j i := by rw [h0]; exact fI_ _ _
            rw [e1] at hF
            unfold cP_ at hF
            rw [h5, cond_false] at hF
            simp only [e0, aA_.turn17, aA_.step17, br_, Int.toNat_natCast, hW, h5, hg, reduceCtorEq, false_implies, true_implies, true_and, and_true, aM_, bT_, cM_, cO_ hi, cz_ hi, ae_ hx, List.nil_append]
            generalize FEnc d (j.list.getD i aa_.dflt) = x at hF he ⊢
            repeat' (first | apply And.intro | intro _)
            all_goals (first | contradiction | exact hF | trivial | (rename_i hc; have hc := of_decide_eq_false hc; simp only [List.length_append, List.length_cons, List.length_nil] at hc; omega))
          · rw [eL_ _ _ (by omega)] at hF
            unfold cP_ at hF
            rw [h5, cond_false] at hF
            have hg : decide ((i : Int) > 0) = true := decide_eq_true (by omega)
            simp only [aA_.turn17, aA_.step17, br_, Int.toNat_natCast, hW, h5, hg, aM_, bT_, cM_, cO_ hi, cz_ hi, ae_ hx]
            generalize FEnc d (j.list.getD i aa_.dflt) = x at hF he ⊢
            generalize cY_ (FEnc d) j i = o at hF hjl ⊢
            repeat' (first | apply And.intro | intro _)
            all_goals (first | contradiction | exact hF | trivial | (rename_i hc; have hc := of_decide_eq_false hc; simp only [List.length_append, List.length_cons, List.length_nil] at hc; omega))
        · have h5 : (j.kind == 5) = true := by rw [hk]; rfl
          have hn := hp.name hk
          have hq := fh_ (s := j.names.getD i []) (by omega)
          have hql := ea_ (j.names.getD i [])
          by_cases h0 : i = 0
          · have hg : decide ((i : Int) > 0) = false := decide_eq_false (by omega)
            have e0 : cY_ (FEnc d) j i = [] := by rw [h0]; rfl
            have e1 : cY_ (FEnc d) j (i + 1) = cP_ (FEnc d) j i := by rw [h0]; exact fI_ _ _
            rw [e1] at hF
            unfold cP_ at hF
            rw [h5, cond_true] at hF
            simp only [e0, aA_.turn17, aA_.step17, br_, Int.toNat_natCast, hW, h5, hg, reduceCtorEq, false_implies, true_implies, true_and, and_true, aM_, bT_, cM_, cO_ hi, cz_ hi, cz_ hn.1, ae_ hx, ae_ hq, List.nil_append]
            generalize FEnc d (j.list.getD i aa_.dflt) = x at hF he ⊢
            generalize cD_ (j.names.getD i []) = y at hF hql ⊢
            rw [← List.append_assoc] at hF
            repeat' (first | apply And.intro | intro _)
            all_goals (first | contradiction | exact hF | trivial | (rename_i hc; have hc := of_decide_eq_false hc; simp only [List.length_append, List.length_cons, List.length_nil] at hc; omega))
          · rw [eL_ _ _ (by omega)] at hF
            unfold cP_ at hF
            rw [h5, cond_true] at hF
            have hg : decide ((i : Int) > 0) = true := decide_eq_true (by omega)
            simp only [aA_.turn17, aA_.step17, br_, Int.toNat_natCast, hW, h5, hg, aM_, bT_, cM_, cO_ hi, cz_ hi, cz_ hn.1, ae_ hx, ae_ hq]
            generalize FEnc d (j.list.getD i aa_.dflt) = x at hF he ⊢
            generalize cD_ (j.names.getD i []) = y at hF hql ⊢
            generalize cY_ (FEnc d) j i = o at hF hjl ⊢
            rw [← List.append_assoc, ← List.append_assoc] at hF
            repeat' (first | apply And.intro | intro _)
            all_goals (first | contradiction | exact hF | trivial | (rename_i hc; have hc := of_decide_eq_false hc; simp only [List.length_append, List.length_cons, List.length_nil] at hc; omega))
      · simp only [aA_.turn17, aA_.step17, cL_, cond_false]
        exact hK
    have hjl := jT_ h j.list.length (Nat.le_refl _)
    simp only [aA_, br_]
    rcases ho.kind with hk | hk | hk | hk | hk | hk
    · simp only [FEnc, hk, Int.reduceBEq, cond_true, an_]
    · simp only [FEnc, hk, Int.reduceBEq, cond_true, cond_false, aM_, an_]
      cases (j.n_ == 1) <;> simp
    · have hn := ho.num hk
      simp only [FEnc, hk, Int.reduceBEq, cond_true, cond_false, ae_ (cV_ (x := j.n_) (by omega) (by omega)), an_]
    · have hs := ho.text hk
      simp only [FEnc, hk, Int.reduceBEq, cond_true, cond_false, ae_ (fh_ (s := j.s) (by omega)), an_]
    all_goals (
      have e0 : (j.kind == 0) = false := by rw [hk]; rfl
      have e1 : (j.kind == 1) = false := by rw [hk]; rfl
      have e2 : (j.kind == 2) = false := by rw [hk]; rfl
      have e3 : (j.kind == 3) = false := by rw [hk]; rfl
      simp only [FEnc, e0, e1, e2, e3, cond_false]
      refine hloop (by omega) _ _ ?_
      generalize cY_ (FEnc d) j j.list.length = o at hjl ⊢
      simp only [hk, Int.reduceBEq, cond_true, cond_false, aM_, an_, cM_]
      refine ⟨fun _ => ⟨fun _ => trivial, fun hc => ?_⟩, fun hc => ?_⟩
      · have hc := of_decide_eq_false hc
        simp only [List.length_append, List.length_cons, List.length_nil] at hc; omega
      · have hc := of_decide_eq_false hc
        simp only [List.length_append, List.length_cons, List.length_nil] at hc; omega)
theorem Join_ev {l : List Bs} {sep : Bs} (hl : l.length ≤ 1000000) (hj : (Lib.join l sep).length ≤ 1000000000) : Ev (fun n _ => strings_Join n l sep) (Lib.join l sep) := by
  refine aS_ ?_
  simp only [strings_Join, nJoin, aM_, an_, cM_]
  refine ⟨fun _ => trivial, fun h => ?_⟩
  rw [decide_eq_true (by omega), decide_eq_true (by omega)] at h; cases h
theorem fq_ : ∀ (d : Nat) (j : aa_), bw_ d j ≤ 400 → Ev (fun n _ => aN_ n j) (FEnc d j)
  | 0, j, h => by simp only [bw_] at h; omega
  | d + 1, j, h => by
    have ho := (cU_ h).1
    have hll := df_ h
    refine aS_ ?_
    have hloop : ∀ (K : Nat → Int → Int → Bs → List aa_ → List Bs → List Bs → Option Bs) (v : Bs), Ev (fun n N => K n j.kind j.n_ j.s j.list j.names ((List.range j.list.length).map (cP_ (FEnc d) j))) v → Ev (fun n _ => aN_.loop4 n (aN_ n) (K n) n j.list (j.list.length : Int) 0 j.kind j.n_ j.s j.list j.names []) v := by
      intro K v hK
      refine er_ (fun i => (List.range i).map (cP_ (FEnc d) j)) j.list.length (fun n N i (o : List Bs) => aN_.loop4 n (aN_ n) (K n) N j.list (j.list.length : Int) (i : Int) j.kind j.n_ j.s j.list j.names o) v (fun i hi F hF => ?_) ?_
      · have hp := dF_ h hi
        have hx := fq_ d (j.list.getD i aa_.dflt) hp.size
        have he := hp.enc
        have hW := W_up hi (show j.list.length ≤ cv_ by simp only [cv_]; omega)
        have hol : ((List.range i).map (cP_ (FEnc d) j)).length = i := by simp
        rw [List.range_succ, List.map_append, List.map_cons, List.map_nil] at hF
        unfold cP_ at hF
        cases h5 : (j.kind == 5) with
        | false =>
          simp only [h5, cond_false] at hF
          unfold cP_ at hol ⊢
          simp only [h5, cond_false] at hol ⊢
          simp only [aN_.turn4, aN_.step4, br_, Int.toNat_natCast, hW, h5, cond_false, aM_, bT_, cM_, cf_, cO_ hi, cz_ hi, ae_ hx]
          generalize FEnc d (j.list.getD i aa_.dflt) = x at hF he ⊢
          generalize (List.range i).map _ = o at hF hol ⊢
          exact ⟨fun _ => ⟨trivial, by simp; omega, hF⟩, fun h => (by cases h)⟩
        | true =>
          have hn := hp.name (by simpa using h5)
          have hq := f3_ (s := j.names.getD i []) (by omega)
          have hql := ea_ (j.names.getD i [])
          simp only [h5, cond_true] at hF
          unfold cP_ at hol ⊢
          simp only [h5, cond_true] at hol ⊢
          simp only [aN_.turn4, aN_.step4, br_, Int.toNat_natCast, hW, h5, cond_true, aM_, bT_, cM_, cf_, cO_ hi, cz_ hi, cz_ hn.1, ae_ hx, ae_ hq]
          generalize FEnc d (j.list.getD i aa_.dflt) = x at hF he ⊢
          generalize cD_ (j.names.getD i []) = y at hF hql ⊢
          generalize (List.range i).map _ = o at hF hol ⊢
          rw [← List.append_assoc] at hF
          repeat' (first | apply And.intro | intro _)
          all_goals (first | contradiction | exact hF | trivial | (rename_i hc; have hc := of_decide_eq_false hc; simp only [List.length_append, List.length_cons, List.length_nil] at hc; omega) | (simp; omega))
      · simp only [aN_.turn4, aN_.step4, cL_, cond_false]
        exact hK
    have hjl := jT_ h j.list.length (Nat.le_refl _)
    have hJ := Join_ev (l := (List.range j.list.length).map (cP_ (FEnc d) j)) (sep := [44]) (by simp; omega) (by unfold cY_ at hjl; omega)
    simp only [aN_, br_]
    refine hloop _ _ ?_
    rcases ho.kind with hk | hk | hk | hk | hk | hk
    · simp only [FEnc, hk, Int.reduceBEq, cond_true, an_]
    · have hb := ho.bool hk
      simp only [FEnc, hk, Int.reduceBEq, cond_true, cond_false, bT_, an_]
      have : j.n_ = 0 ∨ j.n_ = 1 := by omega
      rcases this with e | e <;> rw [e] <;> exact ⟨⟨by decide, by decide⟩, rfl⟩
    · have hn := ho.num hk
      simp only [FEnc, hk, Int.reduceBEq, cond_true, cond_false, ae_ (Itoa_ev (x := j.n_) (by omega) (by omega)), an_]
    · have hs := ho.text hk
      simp only [FEnc, hk, Int.reduceBEq, cond_true, cond_false, ae_ (f3_ (s := j.s) (by omega)), an_]
    all_goals (
      simp only [FEnc, hk, Int.reduceBEq, cond_true, cond_false, ae_ hJ]
      unfold cY_ at hjl ⊢
      generalize Lib.join ((List.range j.list.length).map (cP_ (FEnc d) j)) [44] = o at hjl ⊢
      simp only [aM_, an_, cM_]
      refine ⟨fun _ => ⟨fun _ => trivial, fun hc => ?_⟩, fun hc => ?_⟩
      · have hc := of_decide_eq_false hc
        simp only [List.length_append, List.length_cons, List.length_nil] at hc; omega
      · have hc := of_decide_eq_false hc
        simp only [List.length_append, List.length_cons, List.length_nil] at hc; omega)
def bu_ (j : aa_) : Bs := cond (cF_ j) (cond (decide (((FEnc 6 j).length : Int) > 6000)) [] (FEnc 6 j)) []
theorem c3_ {j : aa_} (h : e8_ 6 j) : Ev (fun n _ => bU_ n j) (bu_ j) := by
  refine aS_ ?_
  simp only [bU_, br_, ae_ (c2_ h), aM_, an_, bu_]
  cases hj : cF_ j with
  | false => simp
  | true =>
    simp only [ae_ (e5_ 6 j (of_decide_eq_true hj)), aM_, an_]
    cases decide (((FEnc 6 j).length : Int) > 6000) <;> simp
theorem cX_ {j : aa_} (h : e8_ 6 j) : Ev (fun n _ => bX_ n j) (bu_ j) := by
  refine aS_ ?_
  simp only [bX_, br_, ae_ (c5_ h), aM_, an_, bu_]
  cases hj : cF_ j with
  | false => simp
  | true =>
    simp only [ae_ (fq_ 6 j (of_decide_eq_true hj)), aM_, an_]
    cases decide (((FEnc 6 j).length : Int) > 6000) <;> simp
end Go.Pi
end
section
set_option linter.unusedVariables false
set_option maxRecDepth 100000
set_option linter.unusedSimpArgs false
namespace Go.Pi
def nn_ : Nat → aa_ → Prop
  | 0, _ => False
  | d + 1, j => ∀ x ∈ j.list, nn_ d x
theorem fU_ : ∀ (d : Nat) (j : aa_), bw_ d j ≤ 400 → nn_ d j
  | 0, j, h => by simp only [bw_] at h; omega
  | d + 1, j, h => fun x hx => by
    refine fU_ d x ?_
    simp only [bw_] at h
    have := g2_ (bw_ d) hx
    cases ho : FOwn j with
    | false => rw [ho] at h; simp only [cond_false] at h; omega
    | true => rw [ho] at h; simp only [cond_true] at h; omega
def gk_ (a b : List Bs) : Bool := decide (a.length = b.length) && lQ_ (fun i => a.getD i [] == b.getD i []) a.length
def d4_ : Nat → aa_ → aa_ → Bool
  | 0, _, _ => true
  | d + 1, a, b => (a.kind == b.kind) && ((a.n_ == b.n_) && ((a.s == b.s) && (gk_ a.names b.names && (decide (a.list.length = b.list.length) && lQ_ (fun i => d4_ d (a.list.getD i aa_.dflt) (b.list.getD i aa_.dflt)) a.list.length))))
theorem ne_len {n m : Nat} : ((n : Int) != (m : Int)) = !decide (n = m) := by
  by_cases h : n = m
  · rw [h, decide_eq_true rfl]; simp
  · rw [decide_eq_false h]; simp; omega
theorem ex_ : ∀ (d : Nat) (a b : aa_), nn_ d a → e8_ d a → Ev (fun n _ => ah_ n a b) (d4_ d a b)
  | 0, a, b, h, _ => h.elim
  | d + 1, a, b, h, hl => by
    refine aS_ ?_
    simp only [ah_, ne_len, aM_, an_, d4_, gk_]
    by_cases hq : a.list.length = b.list.length
    · by_cases hq2 : a.names.length = b.names.length
      · have hN : Ev (fun n _ => ah_.loop14 n (ah_ n) (some true) n 0 a.kind a.n_ a.s a.list a.names b.kind b.n_ b.s b.list b.names) (lQ_ (fun i => a.names.getD i [] == b.names.getD i []) a.names.length) := by
          refine hM_ (f5_ (fun n N i => ah_.loop14 n (ah_ n) (some true) N (i : Int) a.kind a.n_ a.s a.list a.names b.kind b.n_ b.s b.list b.names) (fun i => a.names.getD i [] == b.names.getD i []) (len := a.names.length) (v := true) (fun i w hi ih => ?_) ?_) (by rw [Bool.and_true])
          · simp only [ah_.turn14, ah_.step14, Int.toNat_natCast, W_up hi hl.1.2.1, aM_, bT_, an_, dC_ ih, cO_ hi, cz_ hi, cz_ (hq2 ▸ hi)]
            cases (a.names.getD i [] == b.names.getD i []) <;> simp
          · simp only [ah_.turn14, ah_.step14, cL_, cond_false, an_]
        have hL : Ev (fun n _ => ah_.loop6 n (ah_ n) (fun xy2 xy3 xy4 xy5 xy6 xy7 xy8 xy9 xy10 xy11 => (ah_.loop14 n (ah_ n) (some true) n 0 xy2 xy3 xy4 xy5 xy6 xy7 xy8 xy9 xy10 xy11)) n 0 a.kind a.n_ a.s a.list a.names b.kind b.n_ b.s b.list b.names) (lQ_ (fun i => d4_ d (a.list.getD i aa_.dflt) (b.list.getD i aa_.dflt)) a.list.length && lQ_ (fun i => a.names.getD i [] == b.names.getD i []) a.names.length) := by
          refine f5_ (fun n N i => ah_.loop6 n (ah_ n) (fun xy2 xy3 xy4 xy5 xy6 xy7 xy8 xy9 xy10 xy11 => (ah_.loop14 n (ah_ n) (some true) n 0 xy2 xy3 xy4 xy5 xy6 xy7 xy8 xy9 xy10 xy11)) N (i : Int) a.kind a.n_ a.s a.list a.names b.kind b.n_ b.s b.list b.names) _ (fun i w hi ih => ?_) ?_
          · have hx := ex_ d (a.list.getD i aa_.dflt) (b.list.getD i aa_.dflt) (h _ (cx_ _ hi)) (hl.2.2 _ (cx_ _ hi))
            simp only [ah_.turn6, ah_.step6, br_, Int.toNat_natCast, W_up hi hl.2.1, aM_, bT_, ae_ hx, an_, dC_ ih, cO_ hi, cz_ hi, cz_ (hq ▸ hi)]
            cases d4_ d (a.list.getD i aa_.dflt) (b.list.getD i aa_.dflt) <;> simp
          · simp only [ah_.turn6, ah_.step6, cL_, cond_false]
            exact hN
        rw [decide_eq_true hq, decide_eq_true hq2]
        simp only [dC_ hL, bne]
        generalize lQ_ (fun i => d4_ d (a.list.getD i aa_.dflt) (b.list.getD i aa_.dflt)) a.list.length = u
        generalize lQ_ (fun i => a.names.getD i [] == b.names.getD i []) a.names.length = w
        cases (a.kind == b.kind) <;> cases (a.n_ == b.n_) <;> cases (a.s == b.s) <;> cases u <;> cases w <;> simp
      · rw [decide_eq_false hq2]
        simp only [bne]
        cases (a.kind == b.kind) <;> cases (a.n_ == b.n_) <;> cases (a.s == b.s) <;> cases decide (a.list.length = b.list.length) <;> simp
    · rw [decide_eq_false hq]
      simp only [bne]
      cases (a.kind == b.kind) <;> cases (a.n_ == b.n_) <;> cases (a.s == b.s) <;> simp
end Go.Pi
end
section
set_option linter.unusedVariables false
set_option maxRecDepth 100000
set_option linter.unusedSimpArgs false
namespace Go.Pi
def jF_ (ns : List Bs) (x : Bs) : Nat := ns.findIdx (fun y => !Op.bytesLess y x)
def jE_ (ns : List Bs) (x : Bs) : Nat := if ns.getD (jF_ ns x) [] = x ∧ jF_ ns x < ns.length then jF_ ns x + 1 else jF_ ns x
def putL {α : Type} (ns : List Bs) (x : Bs) (l : List α) (y : α) : List α := l.take (jF_ ns x) ++ [y] ++ l.drop (jE_ ns x)
theorem fJ_ {α : Type} (d : α) {a m : List α} {i q : Nat} (p : Nat) (hi : i < a.length) (h : q ≤ i) : a.take p ++ m ++ (a.take (i + 1)).drop q = a.take p ++ m ++ (a.take i).drop q ++ [a.getD i d] := by
  rw [cA_ d hi, List.drop_append_of_le_length (by simp; omega)]
  simp
theorem put_idx {ns : List Bs} {x : Bs} {i : Nat} (hi : i < ns.length) (hle : i ≤ jF_ ns x) : (!Op.bytesLess (ns.getD i []) x) = decide (i = jF_ ns x) := by
  rw [List.getD_eq_getElem?_getD, List.getElem?_eq_getElem hi, Option.getD_some]
  unfold jF_ at hle ⊢
  by_cases h : i = ns.findIdx (fun y => !Op.bytesLess y x)
  · rw [decide_eq_true h]
    have := List.findIdx_getElem (xs := ns) (p := fun y => !Op.bytesLess y x) (w := by omega)
    simp only [← h] at this
    exact this
  · rw [decide_eq_false h]
    exact List.not_of_lt_findIdx (xs := ns) (p := fun y => !Op.bytesLess y x) (i := i) (by omega)
theorem jA_ {o j : aa_} {x : Bs} (hk : o.names.length ≤ 2000000) (he : o.list.length = o.names.length) (hlt : ∀ y, Op.bytesLess y x = true → (y == x) = false) (hne : ∀ i, jE_ o.names x ≤ i → i < o.names.length → (o.names.getD i [] == x) = false) :
    Ev (fun n _ => bf_ n o x j) (aa_.mk 5 0 [] (putL o.names x o.list j) (putL o.names x o.names x)) := by
  refine aS_ ?_
  have ht : o.names.length ≤ cv_ := by simp only [cv_]; omega
  obtain ⟨p, hp⟩ : ∃ p, p = jF_ o.names x := ⟨_, rfl⟩
  have hpl : p ≤ o.names.length := by rw [hp]; exact List.findIdx_le_length
  obtain ⟨q, hq⟩ : ∃ q, q = jE_ o.names x := ⟨_, rfl⟩
  have hqp : p ≤ q ∧ q ≤ p + 1 := by rw [hq, hp]; unfold jE_; split <;> omega
  have hT : o.list.take o.names.length = o.list := List.take_of_length_le (by omega)
  let S : Nat → Bool × List aa_ × List Bs := fun i => if i ≤ p then (false, o.list.take i, o.names.take i) else (true, o.list.take p ++ [j] ++ (o.list.take i).drop q, o.names.take p ++ [x] ++ (o.names.take i).drop q)
  have hS0 : S 0 = (false, [], []) := by simp [S]
  simp only [bf_]
  have := er_ S o.names.length (fun n N i (s : Bool × List aa_ × List Bs) => bf_.loop5 n (fun xy1 xy2 xy3 xy4 xy5 xy6 xy7 xy8 xy9 xy10 xy11 xy12 xy13 xy14 xy15 => (cond (!xy2) (ci_ (xy15.length + ([xy1] : List Bs).length) 16 (ci_ (xy14.length + ([(aa_.mk xy3 xy4 xy5 xy6 xy7)] : List aa_).length) 80 (some (aa_.mk xy11 xy12 xy13 (xy14 ++ ([(aa_.mk xy3 xy4 xy5 xy6 xy7)] : List aa_)) (xy15 ++ ([xy1] : List Bs)))))) (some (aa_.mk xy11 xy12 xy13 xy14 xy15)))) N x s.1 (i : Int) o.kind o.n_ o.s o.list o.names j.kind j.n_ j.s j.list j.names 0 0 [] 5 0 [] s.2.1 s.2.2)
    (aa_.mk 5 0 [] (putL o.names x o.list j) (putL o.names x o.names x)) (fun i hi F hF => ?_) ?_
  · rw [hS0] at this; exact this
  · have hx := put_idx (ns := o.names) (x := x) hi
    rw [← hp] at hx
    have hln : (S i).2.2.length ≤ o.names.length + 1 := by simp only [S]; split <;> simp <;> omega
    have hll : (S i).2.1.length ≤ o.names.length + 1 := by simp only [S]; split <;> simp <;> omega
    have hil : i < o.list.length := by omega
    simp only [bf_.turn5, bf_.step5, dg_, br_, Int.toNat_natCast, W_up hi ht, aM_, bT_, cf_, cO_ hi, cz_ hi, cz_ hil]
    by_cases hle : i ≤ p
    · have s1 : S i = (false, o.list.take i, o.names.take i) := by simp only [S, if_pos hle]
      rw [s1] at hln hll ⊢
      by_cases e : i = p
      · have hb : (!Op.bytesLess (o.names.getD i []) x) = true := by rw [hx hle]; exact decide_eq_true e
        subst e
        by_cases hs : o.names.getD i [] = x
        · have hqv : q = i + 1 := by rw [hq]; unfold jE_; rw [← hp, if_pos ⟨hs, hi⟩]
          have s2 : S (i + 1) = (true, o.list.take i ++ [j], o.names.take i ++ [x]) := by
            simp only [S, if_neg (show ¬ i + 1 ≤ i by omega)]
            rw [List.drop_eq_nil_of_le (by simp; omega), List.drop_eq_nil_of_le (by simp; omega), List.append_nil, List.append_nil]
          rw [s2] at hF
          have hs' : (o.names.getD i [] == x) = true := by simpa using hs
          simp only [hb, hs', cond_true, cond_false, Bool.not_true, Bool.not_false]
          repeat' (first | apply And.intro | intro _)
          all_goals (first | contradiction | exact hF | trivial | (simp; omega))
        · have hqv : q = i := by rw [hq]; unfold jE_; rw [← hp, if_neg (fun h => hs h.1)]
          have s2 : S (i + 1) = (true, o.list.take i ++ [j] ++ [o.list.getD i aa_.dflt], o.names.take i ++ [x] ++ [o.names.getD i []]) := by
            simp only [S, if_neg (show ¬ i + 1 ≤ i by omega), hqv]
            rw [fJ_ aa_.dflt i hil (Nat.le_refl _), fJ_ [] i hi (Nat.le_refl _), List.drop_eq_nil_of_le (by simp; omega), List.drop_eq_nil_of_le (by simp; omega), List.append_nil, List.append_nil]
          rw [s2] at hF
          have hs' : (o.names.getD i [] == x) = false := by simpa using hs
          simp only [hb, hs', cond_true, cond_false, Bool.not_true, Bool.not_false]
          repeat' (first | apply And.intro | intro _)
          all_goals (first | contradiction | exact hF | trivial | (simp; omega))
      · have hb : (!Op.bytesLess (o.names.getD i []) x) = false := by rw [hx hle]; exact decide_eq_false e
        have hs' : (o.names.getD i [] == x) = false := hlt (o.names.getD i []) (by rw [Bool.not_eq_false'] at hb; exact hb)
        have s2 : S (i + 1) = (false, o.list.take i ++ [o.list.getD i aa_.dflt], o.names.take i ++ [o.names.getD i []]) := by
          simp only [S, if_pos (show i + 1 ≤ p by omega), cA_ aa_.dflt hil, cA_ [] hi]
        rw [s2] at hF
        simp only [hb, hs', cond_true, cond_false, Bool.not_true, Bool.not_false]
        repeat' (first | apply And.intro | intro _)
        all_goals (first | contradiction | exact hF | trivial | (simp; omega))
    · have s1 : S i = (true, o.list.take p ++ [j] ++ (o.list.take i).drop q, o.names.take p ++ [x] ++ (o.names.take i).drop q) := by simp only [S, if_neg hle]
      have s2 : S (i + 1) = (true, o.list.take p ++ [j] ++ (o.list.take i).drop q ++ [o.list.getD i aa_.dflt], o.names.take p ++ [x] ++ (o.names.take i).drop q ++ [o.names.getD i []]) := by
        simp only [S, if_neg (show ¬ i + 1 ≤ p by omega)]
        rw [fJ_ aa_.dflt p hil (by omega), fJ_ [] p hi (by omega)]
      have hs' := hne i (by omega) hi
      rw [s1] at hln hll ⊢
      rw [s2] at hF
      simp only [hs', cond_true, cond_false, Bool.not_true, Bool.not_false]
      repeat' (first | apply And.intro | intro _)
      all_goals (first | contradiction | exact hF | trivial | (simp at hln hll ⊢; omega))
  · simp only [bf_.turn5, bf_.step5, dg_, cL_, cond_false, aM_, cf_, an_]
    unfold putL
    rw [← hp, ← hq]
    by_cases hle : o.names.length ≤ p
    · have e : p = o.names.length := by omega
      have hqv : q = p := by rw [hq]; unfold jE_; rw [← hp, if_neg (fun h => by omega)]
      have s1 : S o.names.length = (false, o.list, o.names) := by simp only [S, if_pos hle, List.take_length]; rw [List.take_of_length_le (by omega)]
      rw [s1, hqv, e, List.take_of_length_le (l := o.list) (by omega), List.drop_eq_nil_of_le (show o.list.length ≤ o.names.length by omega), List.take_length, List.drop_length]
      refine ⟨fun _ => ⟨by simp; omega, by simp; omega, by simp⟩, fun h => (by cases h)⟩
    · have s1 : S o.names.length = (true, o.list.take p ++ [j] ++ o.list.drop q, o.names.take p ++ [x] ++ o.names.drop q) := by simp only [S, if_neg hle, List.take_length]; rw [hT]
      rw [s1]
      exact ⟨fun h => (by cases h), fun _ => rfl⟩
end Go.Pi
end
section
set_option linter.unusedVariables false
set_option maxRecDepth 100000
set_option linter.unusedSimpArgs false
namespace Go.Pi
theorem bytesLt : ∀ (x y : Bs), Op.bytesLess x y = decide (x < y)
  | [], [] => by simp [Op.bytesLess]
  | _ :: _, [] => by simp [Op.bytesLess]
  | [], _ :: _ => by simp [Op.bytesLess]
  | a :: x, b :: y => by
    rw [Op.bytesLess, bytesLt x y]
    simp only [List.cons_lt_cons_iff]
    by_cases h1 : a < b <;> by_cases h2 : a = b <;> by_cases h3 : x < y <;> simp [h1, h2, h3]
theorem less_ne {x y : Bs} (h : Op.bytesLess y x = true) : (y == x) = false := by
  rw [bytesLt] at h
  exact beq_eq_false_iff_ne.2 fun e => by subst e; exact List.lt_irrefl y (of_decide_eq_true h)
end Go.Pi
end
section
set_option linter.unusedVariables false
set_option maxRecDepth 100000
set_option linter.unusedSimpArgs false
namespace Go.Pi
def fd_ : aa_ := aa_.mk 0 0 [] [] []
def iE_ (j : aa_) : aa_ := cond (cF_ j) j fd_
theorem orNull_ev {j : aa_} (h : e8_ 6 j) : Ev (fun n _ => b9_ n j) (iE_ j) := by
  refine aS_ ?_
  simp only [b9_, br_, ae_ (c5_ h), aM_, an_, iE_, fd_]
  cases cF_ j <;> simp
end Go.Pi
end
section
set_option linter.unusedVariables false
set_option maxRecDepth 100000
set_option linter.unusedSimpArgs false
namespace Go.Pi
theorem dT_ {d : Nat} {j : aa_} (h : bw_ (d + 1) j ≤ 400) : j.names.length ≤ 400 := by
  have h1 := df_ h
  have ho := (cU_ h).1
  by_cases hk : j.kind = 5
  · have := (ho.obj hk).1; omega
  · have : FOwn j = true := by
      simp only [bw_] at h
      cases hf : FOwn j with
      | true => rfl
      | false => rw [hf, cond_false] at h; omega
    unfold FOwn at this
    simp only [Bool.and_eq_true, Bool.or_eq_true] at this
    rcases this.2.1 with h2 | h2
    · have := of_decide_eq_true h2; omega
    · exact absurd (by simpa using h2) hk
theorem dY_ : ∀ (d : Nat) (j : aa_), bw_ d j ≤ 400 → Ev (fun n _ => aJ_ n j) j
  | 0, j, h => by simp only [bw_] at h; omega
  | d + 1, j, h => by
    have hll := df_ h
    have hnl := dT_ h
    refine aS_ ?_
    have hc : Ev (fun n _ => bD_ n j.names) j.names := aS_ (by simp only [bD_, cf_, an_, List.nil_append, List.length_nil, and_true]; omega)
    simp only [aJ_, ae_ hc]
    have := er_ (fun i => j.list.take i) j.list.length (fun n N i (o : List aa_) => aJ_.loop4 n (aJ_ n) (fun xy3 xy4 xy5 xy6 xy7 xy8 xy9 xy10 => (some (aa_.mk xy6 xy7 xy8 xy9 xy10))) N j.list (j.list.length : Int) (i : Int) 0 0 [] j.kind j.n_ j.s o j.names) j (fun i hi F hF => ?_) ?_
    · exact this
    · have hp := dF_ h hi
      have hx := dY_ d (j.list.getD i aa_.dflt) hp.size
      rw [cA_ aa_.dflt hi] at hF
      simp only [aJ_.turn4, aJ_.step4, br_, Int.toNat_natCast, W_up hi (show j.list.length ≤ cv_ by simp only [cv_]; omega), aM_, bT_, cf_, cO_ hi, cz_ hi, ae_ hx]
      exact ⟨fun _ => ⟨trivial, by simp; omega, hF⟩, fun h => (by cases h)⟩
    · simp only [aJ_.turn4, aJ_.step4, cL_, cond_false, List.take_length, an_, dg_]
theorem ey_ : ∀ (d : Nat) (j : aa_), bw_ d j ≤ 400 → Ev (fun n _ => a4_ n j) j
  | 0, j, h => by simp only [bw_] at h; omega
  | d + 1, j, h => by
    have hll := df_ h
    have hnl := dT_ h
    refine aS_ ?_
    simp only [a4_, cf_, List.nil_append, List.length_nil]
    refine ⟨by omega, ?_⟩
    have := er_ (fun i => j.list.take i) j.list.length (fun n N i (o : List aa_) => a4_.loop4 n (a4_ n) (fun xy2 xy3 xy4 xy5 xy6 xy7 xy8 xy9 => (some (aa_.mk xy5 xy6 xy7 xy8 xy9))) N (i : Int) j.kind j.n_ j.s j.list j.names 0 0 [] j.kind j.n_ j.s o j.names) j (fun i hi F hF => ?_) ?_
    · exact this
    · have hp := dF_ h hi
      have hx := ey_ d (j.list.getD i aa_.dflt) hp.size
      rw [cA_ aa_.dflt hi] at hF
      simp only [a4_.turn4, a4_.step4, br_, Int.toNat_natCast, W_up hi (show j.list.length ≤ cv_ by simp only [cv_]; omega), aM_, bT_, cf_, cO_ hi, cz_ hi, ae_ hx]
      exact ⟨fun _ => ⟨trivial, by simp; omega, hF⟩, fun h => (by cases h)⟩
    · simp only [a4_.turn4, a4_.step4, cL_, cond_false, List.take_length, an_, dg_]
def gW_ (j : aa_) : Bool := (j.kind == 0) && ((j.n_ == 0) && ((j.s == []) && (decide (j.list.length = 0) && decide (j.names.length = 0))))
theorem jN_ {α : Type} (l : List α) : ((l.length : Int) == 0) = decide (l.length = 0) := by
  by_cases h : l.length = 0
  · rw [h]; rfl
  · rw [decide_eq_false h]; simp; intro e; exact h (by rw [e]; rfl)
theorem f4_ {j : aa_} : Ev (fun n _ => b4_ n j) (gW_ j) := by
  refine aS_ ?_
  simp only [b4_, aM_, an_, gW_, jN_]
  cases (j.kind == 0) <;> cases (j.n_ == 0) <;> cases (j.s == []) <;> cases decide (j.list.length = 0) <;> simp
theorem nr_ (d : Nat) (j : aa_) : d4_ (d + 1) j fd_ = gW_ j := by
  simp only [d4_, fd_, gk_, gW_, List.length_nil]
  by_cases h1 : j.names.length = 0
  · by_cases h2 : j.list.length = 0
    · rw [h1, h2]; simp [lQ_, fD_]
    · have h2 : j.list ≠ [] := fun e => h2 (by rw [e]; rfl)
      simp [h2]
  · have h1 : j.names ≠ [] := fun e => h1 (by rw [e]; rfl)
    simp [h1]
def mR_ (w : List Bs) : Bool := lQ_ (fun i => gl_ (w.getD i [])) w.length
def fZ_ (o : TOp) : Bool := inn o.kind 1 4 && (decide (o.way.length ≤ 6) && (cF_ o.value && (mR_ o.way && ((o.kind != 2) || gW_ o.value))))
def dU_ (o : TOp) : Prop := lenNs cv_ o.way ∧ e8_ 6 o.value
theorem f1_ (o : TOp) : TOp.mk o.kind o.way o.value = o := rfl
theorem gt_le {n : Nat} : decide ((n : Int) > 6) = !decide (n ≤ 6) := by
  by_cases h : n ≤ 6
  · rw [decide_eq_true h, decide_eq_false (by omega)]; rfl
  · rw [decide_eq_false h, decide_eq_true (by omega)]; rfl
theorem le_le {n : Nat} : decide ((n : Int) ≤ 6) = decide (n ≤ 6) := by
  by_cases h : n ≤ 6
  · rw [decide_eq_true h, decide_eq_true (by omega)]
  · rw [decide_eq_false h, decide_eq_false (by omega)]
theorem kp_ {o : TOp} (h : dU_ o) : Ev (fun n _ => bl_ n o) (fZ_ o) := by
  refine aS_ ?_
  simp only [bl_, br_, l1In_b, ae_ (c2_ h.2), aM_, an_, gt_le, fZ_]
  cases hj : cF_ o.value with
  | false => cases inn o.kind 1 4 <;> cases decide (o.way.length ≤ 6) <;> simp
  | true =>
    have hS := ex_ 6 o.value fd_ (fU_ 6 o.value (of_decide_eq_true hj)) h.2
    rw [nr_] at hS
    unfold fd_ at hS
    have hl : Ev (fun n _ => bl_.loop6 n (fun xy4 xy5 xy6 xy7 xy8 xy9 xy10 => (cond (xy4 != 2) (some true) ((ah_ n (aa_.mk xy6 xy7 xy8 xy9 xy10) (aa_.mk 0 0 [] [] [])).bind fun xr11 => (some xr11)))) n 0 o.kind o.way o.value.kind o.value.n_ o.value.s o.value.list o.value.names) (mR_ o.way && ((o.kind != 2) || gW_ o.value)) := by
      refine f5_ (fun n N i => bl_.loop6 n (fun xy4 xy5 xy6 xy7 xy8 xy9 xy10 => (cond (xy4 != 2) (some true) ((ah_ n (aa_.mk xy6 xy7 xy8 xy9 xy10) (aa_.mk 0 0 [] [] [])).bind fun xr11 => (some xr11)))) N (i : Int) o.kind o.way o.value.kind o.value.n_ o.value.s o.value.list o.value.names) _ (fun i w hi ih => ?_) ?_
      · simp only [bl_.turn6, bl_.step6, Int.toNat_natCast, W_up hi h.1.1, aM_, bT_, ae_ (ew_ (gM_ h.1 i)), an_, dC_ ih, cO_ hi, cz_ hi]
        cases gl_ (o.way.getD i []) <;> simp
      · simp only [bl_.turn6, bl_.step6, cL_, cond_false, dg_, aM_, ae_ hS, an_]
        cases (o.kind != 2) <;> simp
    simp only [dC_ hl]
    cases inn o.kind 1 4 <;> cases decide (o.way.length ≤ 6) <;> simp
theorem fu_ {o : TOp} (h : dU_ o) : Ev (fun n _ => bm_ n o) (fZ_ o) := by
  refine aS_ ?_
  simp only [bm_]
  have e : fZ_ o = (mR_ o.way && (inn o.kind 1 4 && (decide (o.way.length ≤ 6) && (cF_ o.value && ((o.kind != 2) || gW_ o.value))))) := by
    unfold fZ_
    cases inn o.kind 1 4 <;> cases decide (o.way.length ≤ 6) <;> cases cF_ o.value <;> cases mR_ o.way <;> simp
  rw [e]
  refine f5_ (fun n N i => bm_.loop3 n (fun xy2 xy3 xy4 xy5 xy6 xy7 xy8 => ((aO_ n xy2 1 4).bind fun xr9 => (cond xr9 (cond (decide ((xy3.length : Int) ≤ 6)) ((bN_ n (aa_.mk xy4 xy5 xy6 xy7 xy8)).bind fun xr10 => (cond xr10 (cond (xy2 != 2) (some true) ((b4_ n (aa_.mk xy4 xy5 xy6 xy7 xy8)).bind fun xr11 => (some xr11))) (some false))) (some false)) (some false)))) N o.way (o.way.length : Int) (i : Int) o.kind o.way o.value.kind o.value.n_ o.value.s o.value.list o.value.names) _ (fun i w hi ih => ?_) ?_
  · simp only [bm_.turn3, bm_.step3, Int.toNat_natCast, W_up hi h.1.1, aM_, bT_, ae_ (eC_ (gM_ h.1 i)), an_, dC_ ih, cO_ hi, cz_ hi]
    cases gl_ (o.way.getD i []) <;> simp
  · simp only [bm_.turn3, bm_.step3, cL_, cond_false, dg_, aM_, ep_, le_le, ae_ (c5_ h.2), ae_ f4_, an_]
    cases inn o.kind 1 4 <;> cases decide (o.way.length ≤ 6) <;> cases cF_ o.value <;> cases (o.kind != 2) <;> simp
def d1_ (k : Int) : Bs := cond (k == 1) [97, 100, 100] (cond (k == 2) [114, 101, 109, 111, 118, 101] (cond (k == 3) [114, 101, 112, 108, 97, 99, 101] [116, 101, 115, 116]))
def mT_ (s : Bs) : aa_ := aa_.mk 3 0 s [] []
abbrev nx_ : Bs := [111, 112]
abbrev dS_ : Bs := [112, 97, 116, 104]
abbrev eU_ : Bs := [118, 97, 108, 117, 101]
def c1_ (o : TOp) : aa_ := cond (o.kind == 2) (aa_.mk 5 0 [] [mT_ (d1_ o.kind), mT_ (FWay o.way)] [nx_, dS_]) (aa_.mk 5 0 [] [mT_ (d1_ o.kind), mT_ (FWay o.way), o.value] [nx_, dS_, eU_])
def cr_ (o : TOp) : aa_ := cond (fZ_ o) (iE_ (c1_ o)) fd_
theorem lv_ : ∀ (d : Nat) (j : aa_), e8_ (d + 1) j → e8_ d j
  | 0, _, _ => trivial
  | d + 1, j, h => ⟨h.1, h.2.1, fun x hx => lv_ d x (h.2.2 x hx)⟩
theorem hJ_ {s : Bs} (h : s.length ≤ cv_) : ∀ d, e8_ d (mT_ s)
  | 0 => trivial
  | d + 1 => ⟨⟨h, Nat.zero_le _, fun x hx => (by cases hx)⟩, Nat.zero_le _, fun x hx => (by cases hx)⟩
theorem ed_ : ∀ d, e8_ d fd_
  | 0 => trivial
  | d + 1 => ⟨⟨Nat.zero_le _, Nat.zero_le _, fun x hx => (by cases hx)⟩, Nat.zero_le _, fun x hx => (by cases hx)⟩
structure OpIs (o : TOp) : Prop where
  kind : o.kind = 1 ∨ o.kind = 2 ∨ o.kind = 3 ∨ o.kind = 4
  way : o.way.length ≤ 6
  text : ∀ s ∈ o.way, s.length ≤ 60
  val : bw_ 6 o.value ≤ 400
theorem lr_ {o : TOp} (h : fZ_ o = true) : OpIs o := by
  unfold fZ_ at h
  simp only [Bool.and_eq_true] at h
  obtain ⟨h1, h2, h3, h4, _⟩ := h
  have hk := fL_ h1
  refine ⟨by omega, of_decide_eq_true h2, fun s hs => ?_, of_decide_eq_true h3⟩
  obtain ⟨i, hi, e⟩ := List.mem_iff_getElem.1 hs
  have := fT_.1 h4 i hi
  rw [List.getD_eq_getElem?_getD, List.getElem?_eq_getElem hi, Option.getD_some, e] at this
  exact fG_ this
theorem name_len (k : Int) : (d1_ k).length ≤ 60 := by
  unfold d1_
  cases (k == 1) <;> cases (k == 2) <;> cases (k == 3) <;> simp
theorem ha_ {o : TOp} (h : dU_ o) (ho : OpIs o) : e8_ 6 (c1_ o) := by
  have hw := j8_ ho.text
  have hwl := ho.way
  have hw2 : (FWay o.way).length ≤ cv_ := by simp only [cv_]; omega
  have hn : (d1_ o.kind).length ≤ cv_ := by have := name_len o.kind; simp only [cv_]; omega
  have hv := lv_ 5 _ h.2
  unfold c1_
  cases (o.kind == 2) with
  | true =>
    refine ⟨⟨Nat.zero_le _, by show 2 ≤ cv_; decide, fun x hx => ?_⟩, by show 2 ≤ cv_; decide, fun x hx => ?_⟩
    · simp at hx; rcases hx with e | e <;> (rw [e]; decide)
    · simp at hx; rcases hx with e | e
      · rw [e]; exact hJ_ hn 5
      · rw [e]; exact hJ_ hw2 5
  | false =>
    refine ⟨⟨Nat.zero_le _, by show 3 ≤ cv_; decide, fun x hx => ?_⟩, by show 3 ≤ cv_; decide, fun x hx => ?_⟩
    · simp at hx; rcases hx with e | e | e <;> (rw [e]; decide)
    · simp at hx; rcases hx with e | e | e
      · rw [e]; exact hJ_ hn 5
      · rw [e]; exact hJ_ hw2 5
      · rw [e]; exact hv
theorem ge_ {o : TOp} (h : dU_ o) : e8_ 6 (cr_ o) := by
  unfold cr_
  cases ho : fZ_ o with
  | false => exact ed_ 6
  | true =>
    unfold iE_
    cases cF_ (c1_ o) with
    | false => exact ed_ 6
    | true => exact ha_ h (lr_ ho)
theorem put_value (a b v : aa_) : Ev (fun n _ => bf_ n (aa_.mk 5 0 [] [a, b] [nx_, dS_]) eU_ v) (aa_.mk 5 0 [] [a, b, v] [nx_, dS_, eU_]) :=
  jA_ (o := aa_.mk 5 0 [] [a, b] [nx_, dS_]) (j := v) (x := eU_) (by show 2 ≤ 2000000; decide) rfl (fun _ => less_ne) (fun i h1 h2 => by
    have : jE_ [nx_, dS_] eU_ = 2 := by decide
    have h2 : i < 2 := h2
    have h1 : jE_ [nx_, dS_] eU_ ≤ i := h1
    omega)
theorem dN_ {o : TOp} (h : dU_ o) : Ev (fun n _ => b8_ n o) (cr_ o) := by
  refine aS_ ?_
  have hN : Ev (fun n _ => bJ_ n ()) [[], [97, 100, 100], [114, 101, 109, 111, 118, 101], [114, 101, 112, 108, 97, 99, 101], [116, 101, 115, 116]] := aS_ (by simp only [bJ_, an_])
  simp only [b8_, br_, f1_, ae_ (kp_ h), aM_, an_]
  unfold cr_
  cases ho : fZ_ o with
  | false => exact ⟨fun _ => rfl, fun h => (by cases h)⟩
  | true =>
    refine ⟨fun h => (by cases h), fun _ => ?_⟩
    have hi := lr_ ho
    have hV := c2_ (ha_ h hi)
    have hCp := ey_ 6 o.value hi.val
    simp only [ae_ hN, bT_, ae_ (hW_ hi.way hi.text)]
    unfold iE_ fd_ c1_ mT_ d1_
    unfold c1_ mT_ d1_ at hV
    rcases hi.kind with hk | hk | hk | hk
    all_goals (
      simp only [hk, Int.reduceBEq, cond_true, cond_false] at hV
      simp only [hk, Int.reduceBEq, cond_true, cond_false, bne, Bool.not_false, Bool.not_true, Int.reduceToNat, List.getD_cons_succ, List.getD_cons_zero, aM_, ae_ hCp, ae_ (put_value _ _ _), ae_ hV, an_]
      refine ⟨⟨by decide, by decide⟩, ?_⟩
      generalize cF_ _ = q
      cases q <;> simp)
theorem dP_ {o : TOp} (h : dU_ o) : Ev (fun n _ => cb_ n o) (cr_ o) := by
  refine aS_ ?_
  have hN : Ev (fun n _ => bK_ n ()) [[97, 100, 100], [114, 101, 109, 111, 118, 101], [114, 101, 112, 108, 97, 99, 101], [116, 101, 115, 116]] := aS_ (by simp only [bK_, an_])
  simp only [cb_, br_, f1_, ae_ (fu_ h), aM_, an_]
  unfold cr_
  cases ho : fZ_ o with
  | false => exact ⟨fun _ => rfl, fun h => (by cases h)⟩
  | true =>
    refine ⟨fun h => (by cases h), fun _ => ?_⟩
    have hi := lr_ ho
    have hV := orNull_ev (ha_ h hi)
    have hCp := dY_ 6 o.value hi.val
    simp only [ae_ hN, bT_, ae_ (fs_ hi.way hi.text)]
    simp only [cond_true]
    unfold c1_ mT_ d1_
    unfold c1_ mT_ d1_ at hV
    have w1 : W ((1 : Int) - 1) = 0 := by rw [W_id (by decide) (by decide)]; rfl
    have w2 : W ((2 : Int) - 1) = 1 := by rw [W_id (by decide) (by decide)]; rfl
    have w3 : W ((3 : Int) - 1) = 2 := by rw [W_id (by decide) (by decide)]; rfl
    have w4 : W ((4 : Int) - 1) = 3 := by rw [W_id (by decide) (by decide)]; rfl
    rcases hi.kind with hk | hk | hk | hk
    all_goals (
      simp only [hk, Int.reduceBEq, cond_true, cond_false] at hV
      simp only [hk, w1, w2, w3, w4, Int.reduceBEq, cond_true, cond_false, bne, Bool.not_false, Bool.not_true, Int.reduceToNat, List.getD_cons_succ, List.getD_cons_zero, List.cons_append, List.nil_append, aM_, cf_, ae_ hCp, ae_ hV, an_, true_implies, false_implies, reduceCtorEq, and_true, true_and]
      simp only [List.length_cons, List.length_nil]
      decide)
end Go.Pi
end
