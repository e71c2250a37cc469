/- The law FnExactServerNew returns true at every input, and leaves its argument as it was; no condition. Text 4 of 4. -/
import Derived.Test.YtpifpdljphobdaaSnC
import Derived.ChangeArms
import Derived.DataReads
import Derived.ChangeOld
import Derived.Below
import Derived.Test.YtpifpdljphobdaaRows
import Derived.ProofKit
import Derived.OpenShut
import Derived.IntWalk
section
set_option linter.unusedVariables false
namespace Go.Pi
/-! ### What a law is handed: data that anybody may read -/
inductive Kd where
  | i (k : IntKind)
  | b
  | s
  | sl (t : TC)
def kdsL (P : Program) (rec_ : TypeId → Option (List Kd)) : List Field → Nat → Option (List Kd)
  | [], _ => some []
  | f :: fs, off => cond (Nat.beq f.offset off) (match rec_ f.type with
    | some ks => cond (Nat.beq (P.cellsOf f.type) ks.length) (match kdsL P rec_ fs (off + ks.length) with
      | some r => some (ks ++ r)
      | none => none) none
    | none => none) none
def kds (P : Program) (code : TypeId → Option TC) : Nat → TypeId → Option (List Kd)
  | 0, _ => none
  | d + 1, T => match P.underlying T with
    | some (.int k) => some [.i k]
    | some .bool => some [.b]
    | some .string => some [.s]
    | some (.slice e) => match code e with
      | some t => some [.sl t]
      | none => none
    | some (.struct fs) => match kdsL P (kds P code d) fs.toList 0 with
      | some ks => cond (Nat.beq (P.cellsOf T) ks.length) (some ks) none
      | none => none
    | _ => none
/-- the lengths and ranges of what is read -/
inductive Good [Coding] : AV → Prop
  | i (k n) : (Lit.int k n).wf = true → Good (.i k n)
  | b (q) : Good (.b q)
  | s (l) : l.length ≤ maxLen → Good (.s l)
  | sl (t xs) : xs.length ≤ maxLen → (∀ x ∈ xs, ∀ c ∈ Coding.enc .v t x, Good c) → Good (.sl .v t xs)
def KindOk : Kd → AV → Prop
  | .i k, a => ∃ n, a = .i k n
  | .b, a => ∃ q, a = .b q
  | .s, a => ∃ l, a = .s l
  | .sl t, a => ∃ xs, a = .sl .v t xs
def Kinded : List Kd → List AV → Prop
  | [], [] => True
  | k :: ks, a :: l => KindOk k a ∧ Kinded ks l
  | _, _ => False
section
variable {H : Type} {enc : TypeId × Value → H} {P : Program} {w : World} {spare : Nat → Bool}
/-- a cell of a kind, whose rows are read with less -/
def CellOk (enc : TypeId × Value → H) (P : Program) (w : World) (spare : Nat → Bool) (eid : TC → TypeId) (F : Nat) : Kd → Value → Prop
  | .i k, v => ∃ n, v = .int k n ∧ (Lit.int k n).wf = true
  | .b, v => ∃ q, v = .bool q
  | .s, v => ∃ s : ByteArray, v = .string s ∧ s.size ≤ maxLen
  | .sl t, v => v = .slice none 0 0 ∨ ∃ (a : Addr) (len cap N : Nat), v = .slice (some a) len cap ∧ len ≤ cap ∧ cap ≤ maxLen ∧ N < F ∧
      ∀ i, i < len → ∃ cs x, w.cells? 0 (a.add (i * P.cellsOf (eid t))) (P.cellsOf (eid t)) = some cs ∧ DataW.trod enc P w 0 spare true N (eid t) cs = some x
def CellsOk (enc : TypeId × Value → H) (P : Program) (w : World) (spare : Nat → Bool) (eid : TC → TypeId) (F : Nat) : List Kd → List Value → Prop
  | [], [] => True
  | k :: ks, v :: vs => CellOk enc P w spare eid F k v ∧ CellsOk enc P w spare eid F ks vs
  | _, _ => False
theorem CellOk.mono {eid : TC → TypeId} {F F' : Nat} (hF : F ≤ F') {k : Kd} {v : Value} (h : CellOk enc P w spare eid F k v) : CellOk enc P w spare eid F' k v := by
  cases k with
  | sl t =>
    rcases h with h | ⟨a, len, cap, N, h1, h2, h3, h4, h5⟩
    · exact .inl h
    · exact .inr ⟨a, len, cap, N, h1, h2, h3, Nat.lt_of_lt_of_le h4 hF, h5⟩
  | _ => exact h
theorem CellsOk.mono {eid : TC → TypeId} {F F' : Nat} (hF : F ≤ F') : ∀ {ks : List Kd} {vs : List Value}, CellsOk enc P w spare eid F ks vs → CellsOk enc P w spare eid F' ks vs
  | [], [], _ => trivial
  | k :: ks, v :: vs, h => ⟨h.1.mono hF, CellsOk.mono hF h.2⟩
  | [], _ :: _, h => h.elim
  | _ :: _, [], h => h.elim
theorem CellsOk.append {eid : TC → TypeId} {F : Nat} : ∀ {ks : List Kd} {vs : List Value} {ks' : List Kd} {vs' : List Value}, CellsOk enc P w spare eid F ks vs → CellsOk enc P w spare eid F ks' vs' → CellsOk enc P w spare eid F (ks ++ ks') (vs ++ vs')
  | [], [], _, _, _, h => h
  | k :: ks, v :: vs, _, _, h, h' => ⟨h.1, CellsOk.append h.2 h'⟩
  | [], _ :: _, _, _, h, _ => h.elim
  | _ :: _, [], _, _, h, _ => h.elim
theorem fields_kds {code : TypeId → Option TC} {eid : TC → TypeId} {n : Nat} {rec_ : TypeId → Option (List Kd)} {cs : List Value} (hrec : ∀ T ks cs x, rec_ T = some ks → DataW.trod enc P w 0 spare true n T cs = some x → CellsOk enc P w spare eid n ks cs) :
    ∀ (fs : List Field) (off : Nat) (ks : List Kd), kdsL P rec_ fs off = some ks → (∀ f ∈ fs, ∃ x, DataW.trod enc P w 0 spare true n f.type ((cs.drop f.offset).take (P.cellsOf f.type)) = some x) → off + ks.length = cs.length → CellsOk enc P w spare eid n ks (cs.drop off)
  | [], off, ks, h, _, hl => by
    simp only [kdsL, Option.some.injEq] at h
    subst h
    rw [List.drop_eq_nil_of_le (by simp at hl; omega)]
    trivial
  | f :: fs, off, ks, h, hx, hl => by
    simp only [kdsL] at h
    obtain ⟨h1, h2⟩ := cond_some h
    have h1 := beq_iff.1 h1
    cases hr : rec_ f.type with
    | none => rw [hr] at h2; cases h2
    | some k1 =>
      rw [hr] at h2
      obtain ⟨h3, h4⟩ := cond_some h2
      have h3 := beq_iff.1 h3
      cases hk : kdsL P rec_ fs (off + k1.length) with
      | none => rw [hk] at h4; cases h4
      | some r =>
        rw [hk] at h4
        simp only [Option.some.injEq] at h4
        subst h4
        obtain ⟨x, hx1⟩ := hx f (List.mem_cons_self ..)
        have h5 := hrec _ _ _ _ hr hx1
        have h6 := fields_kds (code := code) hrec fs (off + k1.length) r hk (fun g hg => hx g (List.mem_cons_of_mem _ hg)) (by simp at hl; omega)
        rw [h1, h3] at h5
        have : cs.drop off = (cs.drop off).take k1.length ++ cs.drop (off + k1.length) := by rw [← List.drop_drop, List.take_append_drop]
        rw [this]
        exact h5.append h6
theorem trod_kds {code : TypeId → Option TC} {eid : TC → TypeId} (hcode : ∀ e t, code e = some t → eid t = e) : ∀ (d F : Nat) (T : TypeId) (ks : List Kd) (cs : List Value) (x : DataW H × List MemPlace), kds P code d T = some ks → DataW.trod enc P w 0 spare true F T cs = some x → CellsOk enc P w spare eid F ks cs
  | 0, F, T, ks, cs, x, hk, h => by cases hk
  | d + 1, F, T, ks, cs, x, hk, h => by
    simp only [kds] at hk
    cases hu : P.underlying T with
    | none => rw [hu] at hk; cases hk
    | some u =>
      rw [hu] at hk
      cases u <;> simp only at hk <;> (try (cases hk; done))
      case bool =>
        cases hk
        obtain ⟨q, rfl, _⟩ := DataW.trod_bool hu h
        exact ⟨⟨q, rfl⟩, trivial⟩
      case int k =>
        cases hk
        obtain ⟨n, rfl, _, hw⟩ := DataW.trod_int hu h
        exact ⟨⟨n, rfl, hw⟩, trivial⟩
      case string =>
        cases hk
        obtain ⟨s, rfl, _, hs⟩ := DataW.trod_string hu h
        exact ⟨⟨s, rfl, hs⟩, trivial⟩
      case slice e =>
        cases hc : code e with
        | none => rw [hc] at hk; cases hk
        | some t =>
          rw [hc] at hk
          cases hk
          have he := hcode e t hc
          rcases DataW.trod_slice hu h with ⟨rfl, _⟩ | ⟨a, len, cap, elems, rest, n, hF, rfl, _, _, hl, hm, hlen, hel, _, _⟩
          · exact ⟨.inl rfl, trivial⟩
          · refine ⟨.inr ⟨a, len, cap, n, rfl, hl, hm, by omega, fun i hi => ?_⟩, trivial⟩
            have h1 := hel i hi
            rw [List.getElem?_eq_getElem (by omega)] at h1
            rw [Option.bind_eq_some_iff] at h1
            obtain ⟨cs, k1, k2⟩ := h1
            exact ⟨cs, _, by rw [he]; exact k1, by rw [he]; exact k2⟩
      case struct fs =>
        obtain ⟨xs, n, hF, _, hcl, hxl, hx⟩ := DataW.trod_struct hu h
        cases hks : kdsL P (kds P code d) fs.toList 0 with
        | none => rw [hks] at hk; cases hk
        | some ks' =>
          rw [hks] at hk
          obtain ⟨h1, h2⟩ := cond_some hk
          have h1 := beq_iff.1 h1
          cases h2
          subst hF
          have := fields_kds (code := code) (eid := eid) (n := n) (cs := cs) (fun T ks cs x k1 k2 => trod_kds hcode d n T ks cs x k1 k2) fs.toList 0 ks hks (fun f hf => by
            obtain ⟨i, hi⟩ := List.getElem?_of_mem hf
            have hi' : fs[i]? = some f := by simpa using hi
            have h3 := hx i f hi'
            have hlt : i < xs.length := by rw [hxl]; exact (Array.getElem?_eq_some_iff.1 hi').1
            rw [List.getElem?_eq_getElem hlt] at h3
            exact ⟨_, h3⟩) (by omega)
          exact (this.mono (Nat.le_succ n))
end
end Go.Pi
end
section
set_option linter.unusedVariables false
namespace Go.Pi
variable [Coding]
open Coding
variable {H : Type} {enc' : TypeId × Value → H} {E : Env} {w : World} {spare : Nat → Bool}
abbrev NoF : Nat → Prop := fun _ => False
omit [Coding] in
theorem sims_kinded : ∀ {ks : List Kd} {l c : List AV}, Kinded ks l → sims .v l c → c = l
  | [], [], [], _, _ => rfl
  | k :: ks, a :: l, b :: c, h, hs => by
    have e := sims_kinded h.2 hs.2
    subst e
    have h1 := h.1
    have h2 := hs.1
    cases k <;> obtain ⟨x, rfl⟩ := h1 <;> simp only [AV.sim] at h2 <;> rw [h2]
  | [], [], _ :: _, _, h => h.elim
  | [], _ :: _, _, h, _ => h.elim
  | _ :: _, [], _, h, _ => h.elim
  | _ :: _, _ :: _, [], _, h => h.elim
/-- what is asked of the table of kinds -/
structure KindsOk (E : Env) (code : TypeId → Option TC) (kinds : TC → List Kd) (d : Nat) : Prop where
  codeOk : ∀ e t, code e = some t → E.eid t = e
  kdsOk : ∀ t, kds E.P code d (E.eid t) = some (kinds t)
  dec : ∀ t l, Kinded (kinds t) l → ∃ y, dec t l = some y
  cells : ∀ t, E.P.cellsOf (E.eid t) = t.width
theorem rows_open [CodingOk] {t : TC} {N : Nat} (hel : ∀ cs x, DataW.trod enc' E.P w 0 spare true N (E.eid t) cs = some x → ∃ y : El t, RL E w NoF (enc .v t y) cs (fun _ => 0) ∧ ∀ c ∈ enc .v t y, Good c) {b o : Nat} (hW : E.P.cellsOf (E.eid t) = t.width) :
    ∀ len, (∀ i, i < len → ∃ cs x, w.cells? 0 ((⟨b, o, none⟩ : Addr).add (i * E.P.cellsOf (E.eid t))) (E.P.cellsOf (E.eid t)) = some cs ∧ DataW.trod enc' E.P w 0 spare true N (E.eid t) cs = some x) →
    ∃ (xs : List (El t)) (vals : List Value), xs.length = len ∧ vals.length = len * t.width ∧ RL E w NoF (encRows .v t xs) vals (fun _ => 0) ∧ w.rangeAt b o vals ∧ ∀ x ∈ xs, ∀ c ∈ enc .v t x, Good c
  | 0, _ => ⟨[], [], rfl, by simp, RL.nil (fun _ => 0) fun _ => rfl, fun j v h => by simp at h, fun x hx => by cases hx⟩
  | len + 1, h => by
    obtain ⟨xs, vals, h1, h2, h3, h4, h5⟩ := rows_open hel hW len fun i hi => h i (by omega)
    obtain ⟨cs, x, k1, k2⟩ := h len (Nat.lt_succ_self _)
    obtain ⟨y, j1, j2⟩ := hel cs x k2
    obtain ⟨_, hl, hc⟩ := World.cells?_some k1
    rw [hW] at hl hc
    refine ⟨xs ++ [y], vals ++ cs, by simp [h1], by rw [List.length_append, h2, hl]; exact (Nat.succ_mul _ _).symm, ?_, fun j v hj => ?_, fun x hx => ?_⟩
    · rw [encRows_append]
      refine RL.append h3 (φ' := fun _ => 0) ?_ (fun b => rfl)
      simpa [encRows] using j1
    · by_cases hlt : j < vals.length
      · rw [List.getElem?_append_left hlt] at hj
        exact h4 j v hj
      · rw [List.getElem?_append_right (by omega)] at hj
        have hjl : j - vals.length < t.width := by rw [← hl]; exact (List.getElem?_eq_some_iff.1 hj).1
        have := hc (j - vals.length) hjl
        rw [Addr.add_mid, Addr.add_mid, hj] at this
        rw [← this]
        congr 2
        omega
    · rcases List.mem_append.1 hx with hx | hx
      · exact h5 x hx
      · rw [List.mem_singleton] at hx; subst hx; exact j2
theorem cell_open [CodingOk] {code : TypeId → Option TC} {kinds : TC → List Kd} {d : Nat} (hk : KindsOk E code kinds d) {F : Nat} (ih : ∀ N, N < F → ∀ t cs x, DataW.trod enc' E.P w 0 spare true N (E.eid t) cs = some x → ∃ y : El t, RL E w NoF (enc .v t y) cs (fun _ => 0) ∧ ∀ c ∈ enc .v t y, Good c) {k : Kd} {v : Value} (h : CellOk enc' E.P w spare E.eid F k v) :
    ∃ a, KindOk k a ∧ RL E w NoF [a] [v] (fun _ => 0) ∧ Good a := by
  cases k with
  | i k => obtain ⟨n, rfl, hw⟩ := h; exact ⟨.i k n, ⟨n, rfl⟩, .scal _ _ _ _ _ rfl (.nil _ fun _ => rfl), .i _ _ hw⟩
  | b => obtain ⟨q, rfl⟩ := h; exact ⟨.b q, ⟨q, rfl⟩, .scal _ _ _ _ _ rfl (.nil _ fun _ => rfl), .b _⟩
  | s =>
    obtain ⟨s, rfl, hs⟩ := h
    refine ⟨.s s.data.toList, ⟨_, rfl⟩, .scal _ _ _ _ _ ?_ (.nil _ fun _ => rfl), .s _ ?_⟩
    · show Value.string s = .string ⟨s.data.toList.toArray⟩
      simp
    · rw [Array.length_toList]; exact hs
  | sl t =>
    rcases h with rfl | ⟨a, len, cap, N, rfl, hl, hm, hN, hel⟩
    · exact ⟨.sl .v t [], ⟨_, rfl⟩, .view t [] none 0 0 [] (fun _ => 0) _ _ _ ⟨rfl, Nat.le_refl _⟩ (.nil _ fun _ => rfl) (fun _ => rfl) (fun hp => by omega) (.nil _ fun _ => rfl), .sl _ _ (Nat.zero_le _) (fun x hx => by cases hx)⟩
    · cases len with
      | zero => exact ⟨.sl .v t [], ⟨_, rfl⟩, .view t [] (some a) 0 cap [] (fun _ => 0) _ _ _ ⟨rfl, hl⟩ (.nil _ fun _ => rfl) (fun _ => rfl) (fun hp => by omega) (.nil _ fun _ => rfl), .sl _ _ (Nat.zero_le _) (fun x hx => by cases hx)⟩
      | succ len =>
        have hW := hk.cells t
        have hpos : 0 < t.width := CodingOk.pos t
        obtain ⟨cs0, x0, k1, _⟩ := hel 0 (Nat.succ_pos _)
        obtain ⟨_, hl0, hc0⟩ := World.cells?_some k1
        have hcell := hc0 0 (by rw [hW]; exact hpos)
        rw [List.getElem?_eq_getElem (by rw [hl0, hW]; exact hpos)] at hcell
        have ha : a.spot = none := by
          have h0 : (a.add (0 * E.P.cellsOf (E.eid t))).add 0 = a := by simp [Addr.add]
          rw [h0] at hcell
          unfold World.cell? at hcell
          split at hcell
          · cases hs : a.spot with
            | none => rfl
            | some q => simp [hs] at hcell
          · cases hcell
        obtain ⟨b, o, sp⟩ := a
        simp only at ha
        subst ha
        have hb : b < w.heap.size := World.cells?_block k1 (by rw [hW]; exact hpos) |> fun h => by simpa [Addr.add] using h
        obtain ⟨xs, vals, e1, e2, e3, e4, e5⟩ := rows_open (ih N hN t) hW (len + 1) hel
        refine ⟨.sl .v t xs, ⟨_, rfl⟩, ?_, .sl _ _ (by omega) e5⟩
        exact .view t xs (some ⟨b, o, none⟩) (len + 1) cap vals (fun _ => 0) _ _ _ ⟨e1.symm, hl⟩ e3 (fun _ => rfl) (fun _ => ⟨b, o, rfl, e4, hb, fun h => h⟩) (.nil _ fun _ => rfl)
theorem cells_open [CodingOk] {code : TypeId → Option TC} {kinds : TC → List Kd} {d : Nat} (hk : KindsOk E code kinds d) {F : Nat} (ih : ∀ N, N < F → ∀ t cs x, DataW.trod enc' E.P w 0 spare true N (E.eid t) cs = some x → ∃ y : El t, RL E w NoF (enc .v t y) cs (fun _ => 0) ∧ ∀ c ∈ enc .v t y, Good c) :
    ∀ {ks : List Kd} {vs : List Value}, CellsOk enc' E.P w spare E.eid F ks vs → ∃ l, Kinded ks l ∧ RL E w NoF l vs (fun _ => 0) ∧ ∀ c ∈ l, Good c
  | [], [], _ => ⟨[], trivial, .nil _ fun _ => rfl, fun c hc => by cases hc⟩
  | k :: ks, v :: vs, h => by
    obtain ⟨a, h1, h2, h3⟩ := cell_open hk ih h.1
    obtain ⟨l, k1, k2, k3⟩ := cells_open hk ih h.2
    refine ⟨a :: l, ⟨h1, k1⟩, RL.cons h2 k2 (fun b => rfl), fun c hc => ?_⟩
    rcases List.mem_cons.1 hc with rfl | hc
    · exact h3
    · exact k3 c hc
  | [], _ :: _, h => h.elim
  | _ :: _, [], h => h.elim
theorem el_open [CodingOk] {code : TypeId → Option TC} {kinds : TC → List Kd} {d : Nat} (hk : KindsOk E code kinds d) : ∀ (F : Nat) (t : TC) (cs : List Value) (x : DataW H × List MemPlace), DataW.trod enc' E.P w 0 spare true F (E.eid t) cs = some x →
    ∃ y : El t, RL E w NoF (enc .v t y) cs (fun _ => 0) ∧ ∀ c ∈ enc .v t y, Good c := by
  intro F
  induction F using Nat.strongRecOn with
  | _ F ih =>
    intro t cs x h
    have h1 := trod_kds hk.codeOk d F _ _ _ _ (hk.kdsOk t) h
    obtain ⟨l, h2, h3, h4⟩ := cells_open hk ih h1
    obtain ⟨y, hy⟩ := hk.dec t l h2
    have h5 := CodingOk.dec .v t l y hy
    have h6 := sims_kinded h2 h5
    exact ⟨y, by rw [h6]; exact h3, by rw [h6]; exact h4⟩
/-- an argument of any of the types -/
theorem arg_open [CodingOk] {code : TypeId → Option TC} {kinds : TC → List Kd} {d : Nat} (hk : KindsOk E code kinds d) {T : TypeId} {ks : List Kd} (hT : kds E.P code d T = some ks) {v : Value} {dd : DataW H} {ps : List MemPlace} (h : DataW.Trod enc' E.P w 0 spare true T v dd ps) :
    ∃ l, Kinded ks l ∧ RL E w NoF l v.cells.toList (fun _ => 0) ∧ ∀ c ∈ l, Good c := by
  obtain ⟨F, hF⟩ := h
  exact cells_open hk (fun N _ => el_open hk N) (trod_kds hk.codeOk d F T ks _ _ hT hF)
end Go.Pi
end
section
set_option linter.unusedVariables false
namespace Go.Pi
open Go.RowKit
variable [Coding]
open Coding
omit [Coding] in
theorem kinded_cons {k : Kd} {ks : List Kd} {l : List AV} (h : Kinded (k :: ks) l) : ∃ a l', l = a :: l' ∧ KindOk k a ∧ Kinded ks l' := by
  cases l with
  | nil => exact h.elim
  | cons a l => exact ⟨a, l, rfl, h.1, h.2⟩
omit [Coding] in
theorem kinded_nil {l : List AV} (h : Kinded [] l) : l = [] := by
  cases l with
  | nil => rfl
  | cons a l => exact h.elim
def codeL (eid : TC → TypeId) : List TC → TypeId → Option TC
  | [], _ => none
  | t :: ts, e => cond (Nat.beq (eid t) e) (some t) (codeL eid ts e)
omit [Coding] in
theorem codeL_ok {eid : TC → TypeId} {e : TypeId} {t : TC} : ∀ ts, codeL eid ts e = some t → eid t = e
  | [], h => by cases h
  | u :: ts, h => by
    simp only [codeL] at h
    cases hb : Nat.beq (eid u) e with
    | true => rw [hb] at h; cases h; exact beq_iff.1 hb
    | false => rw [hb] at h; exact codeL_ok ts h
/-- a law that answers true -/
theorem law_true [CodingOk] {E : Env} {f : FuncId} {avs : List AV} {outs : List AV} {ps : List PS} (h : CallOk E f avs (.b true) outs ps) {w : World} {Vs : List Value} (hr : RL E w NoF avs Vs (fun _ => 0)) :
    Calls E.P f Vs.toArray w fun e W' => e = .returned (.bool true) ∧ Below w.heap.size w W' := by
  refine (h w NoF Vs _ hr (fun _ => Nat.zero_le _) (fun b hb => hb.elim)).mono fun e W' ⟨V, φ', he, h1, _, _, e1, e2, e3, e4, e5⟩ => ⟨?_, e1, e2, e3, e4, fun k hk => e5 k hk rfl⟩
  cases h1 with
  | scal a v l vs φ hs _ => rw [he, show V = .bool true from hs]
theorem ag_open {E : Env} {w : World} {l : List AV} {cs : Array Value} (h : RL E w NoF l (Value.agg cs).cells.toList (fun _ => 0)) {l' : List AV} {vs : List Value} (h' : RL E w NoF l' vs (fun _ => 0)) :
    RL E w NoF (.ag l :: l') (.agg cs :: vs) (fun _ => 0) := by
  have := RL.ag (E := E) (w := w) (F := NoF) l cs.toList (fun _ => 0) l' vs (fun _ => 0) (fun _ => 0) h h' (fun b => rfl)
  simpa using this
end Go.Pi
end
section
set_option linter.unusedVariables false
set_option maxRecDepth 100000
namespace Go.Pi
open Go.Proofs Go.Proofs.Ytpifpdljphobdaa
open Go.ChangeShapes Go.WideShapes Go.ChangeAt Go.RowKit
def code : TypeId → Option TC := codeL eid [.int, .u8, .str, .iRow, .s_iRow, .iChange, .s_iChange, .iSeat, .iCond, .iKid, .lRow, .s_lRow, .lCond, .lKid]
def kinds : TC → List Kd
  | .int => [.i .i64]
  | .u8 => [.i .u8]
  | .str => [.s]
  | .iRow => [.i .i64, .sl .int]
  | .s_iRow => [.sl .iRow]
  | .iChange => [.i .i64, .b, .b, .i .i64, .sl .int, .i .i64, .sl .int]
  | .s_iChange => [.sl .iChange]
  | .iSeat => [.i .i64, .sl .iCond, .i .i64, .b, .i .i64, .sl .int, .b, .i .i64, .i .i64, .sl .iRow, .sl .iKid, .i .i64, .i .i64, .sl .iCond, .i .i64, .b, .i .i64, .sl .int, .b, .i .i64, .i .i64, .sl .iRow, .sl .iKid, .i .i64, .b, .s, .i .i64, .s, .s, .b]
  | .iCond => [.i .i64, .i .i64, .i .i64]
  | .iKid => [.i .i64, .i .i64]
  | .lRow => [.i .i64, .sl .int]
  | .s_lRow => [.sl .lRow]
  | .lCond => [.i .i64, .i .i64, .i .i64]
  | .lKid => [.i .i64, .i .i64]
theorem kindsOk : KindsOk E code kinds 12 where
  codeOk := fun e t h => codeL_ok _ h
  kdsOk := by intro t; cases t <;> kernel_rfl
  cells := by intro t; cases t <;> kernel_rfl
  dec := by
    intro t l h
    cases t with
    | int =>
      iterate 1 (replace h := kinded_cons h; obtain ⟨_, _, rfl, ⟨_, rfl⟩, h⟩ := h)
      replace h := kinded_nil h; subst h; exact ⟨_, rfl⟩
    | u8 =>
      iterate 1 (replace h := kinded_cons h; obtain ⟨_, _, rfl, ⟨_, rfl⟩, h⟩ := h)
      replace h := kinded_nil h; subst h; exact ⟨_, rfl⟩
    | str =>
      iterate 1 (replace h := kinded_cons h; obtain ⟨_, _, rfl, ⟨_, rfl⟩, h⟩ := h)
      replace h := kinded_nil h; subst h; exact ⟨_, rfl⟩
    | iRow =>
      iterate 2 (replace h := kinded_cons h; obtain ⟨_, _, rfl, ⟨_, rfl⟩, h⟩ := h)
      replace h := kinded_nil h; subst h; exact ⟨_, rfl⟩
    | s_iRow =>
      iterate 1 (replace h := kinded_cons h; obtain ⟨_, _, rfl, ⟨_, rfl⟩, h⟩ := h)
      replace h := kinded_nil h; subst h; exact ⟨_, rfl⟩
    | iChange =>
      iterate 7 (replace h := kinded_cons h; obtain ⟨_, _, rfl, ⟨_, rfl⟩, h⟩ := h)
      replace h := kinded_nil h; subst h; exact ⟨_, rfl⟩
    | s_iChange =>
      iterate 1 (replace h := kinded_cons h; obtain ⟨_, _, rfl, ⟨_, rfl⟩, h⟩ := h)
      replace h := kinded_nil h; subst h; exact ⟨_, rfl⟩
    | iSeat =>
      iterate 30 (replace h := kinded_cons h; obtain ⟨_, _, rfl, ⟨_, rfl⟩, h⟩ := h)
      replace h := kinded_nil h; subst h; exact ⟨_, rfl⟩
    | iCond =>
      iterate 3 (replace h := kinded_cons h; obtain ⟨_, _, rfl, ⟨_, rfl⟩, h⟩ := h)
      replace h := kinded_nil h; subst h; exact ⟨_, rfl⟩
    | iKid =>
      iterate 2 (replace h := kinded_cons h; obtain ⟨_, _, rfl, ⟨_, rfl⟩, h⟩ := h)
      replace h := kinded_nil h; subst h; exact ⟨_, rfl⟩
    | lRow =>
      iterate 2 (replace h := kinded_cons h; obtain ⟨_, _, rfl, ⟨_, rfl⟩, h⟩ := h)
      replace h := kinded_nil h; subst h; exact ⟨_, rfl⟩
    | s_lRow =>
      iterate 1 (replace h := kinded_cons h; obtain ⟨_, _, rfl, ⟨_, rfl⟩, h⟩ := h)
      replace h := kinded_nil h; subst h; exact ⟨_, rfl⟩
    | lCond =>
      iterate 3 (replace h := kinded_cons h; obtain ⟨_, _, rfl, ⟨_, rfl⟩, h⟩ := h)
      replace h := kinded_nil h; subst h; exact ⟨_, rfl⟩
    | lKid =>
      iterate 2 (replace h := kinded_cons h; obtain ⟨_, _, rfl, ⟨_, rfl⟩, h⟩ := h)
      replace h := kinded_nil h; subst h; exact ⟨_, rfl⟩
namespace laws_FnExactServerNew
theorem own : ownKnob Try.prog.godebug = none := by kernel_rfl
theorem laidOut : laidOutB Try.prog = true := by kernel_rfl
def Pure : Prop := ∀ (o : TSchema), (∀ c ∈ ([.sl .v .int o.cols] : List AV), Good c) → ∃ n, Go.Pi.laws_FnExactServerNew n o = some true
theorem lifted (hp : Pure) (os : Os) (started : os.Started) (H : Type) (enc : TypeId × Value → H) :
    ReturnsInHanded {} Try.checked os 4 .any (Rows.fnExactServerNewSpec.pre6 enc Try.prog Try.f4 Rows.fnExactServerNewRow.domain false) (Rows.fnExactServerNewSpec.post enc Try.prog Try.f4 false true false false) := by
  refine returnsInHanded_of_change (C := Try.checked) own started (by kernel_rfl) Try.func4
    (ChangeSpec.witness6 (enc := enc) (C := Try.checked) false ⟨#[], #[.agg #[.slice none 0 0]], []⟩ 8 (by kernel_rfl) (by kernel_rfl) (by kernel_rfl) (by kernel_rfl)) ?_
  intro W base args ds gs before hval0 hW hcnd _
  have hval : ∀ (j : Nat) t v, Try.f4.params[j]? = some t → args[j]? = some v → Value.okWide Try.prog W .any base t v := hval0
  have hW' := hW
  obtain ⟨p, q, hA0, hV, rfl, hfz, hnd⟩ := hW
  have hA : DataW.TrodAll enc Try.prog W 0 (fun _ => true) true Try.f4.params.toList args.toList ds p := hA0
  rw [Try.params4] at hA hval
  obtain ⟨v0, vs0, d0, ds0, p0, q0, hargs, rfl, rfl, h0, r0⟩ := trodAll_cons hA
  obtain ⟨rfl, rfl, rfl⟩ := trodAll_nil r0
  obtain rfl : args = #[v0] := by cases args; simp_all
  obtain ⟨rfl, rfl⟩ := trodVars_none hV
  obtain ⟨c0, rfl, -⟩ := okWide_struct Try.underlying24 (hval 0 24 v0 rfl rfl)
  have lt0 : ∀ x ∈ p0, x.block < W.heap.size := by obtain ⟨m, hm⟩ := h0; exact DataW.trod_lt m _ _ _ hm
  obtain ⟨l0, k0, e0, g0⟩ := arg_open kindsOk (T := 24) (ks := [.sl .int]) (by kernel_rfl) h0
  replace k0 := kinded_cons k0; obtain ⟨_, _, rfl, ⟨z0, rfl⟩, k0⟩ := k0
  replace k0 := kinded_nil k0; subst k0
  obtain ⟨n, hn⟩ := hp (TSchema.mk z0) g0
  refine (law_true ((allOk n).h78 ((z0, ()), ()) _ hn) (ag_open e0 (.nil _ fun _ => rfl))).mono fun e W' ⟨he, bel⟩ => ?_
  subst he
  exact ⟨_, rfl, _, _, _, [], _, [], hW', trodAll_mk1 (shut_bool Try.underlying4 _), (trodAll_cons_mk (Below.trod laidOut (by kernel_rfl) (of_decide_eq_true (by kernel_rfl)) h0 bel lt0) trodAll_mk0), rfl, bel.frame _, fun h => by cases h⟩
theorem over (hp : Pure) : Rows.fnExactServerNewRow.holds Try.pinned (OpenSpec.ofChange Rows.fnExactServerNewSpec) :=
  OpenClaim.holds_of_wide 4 Try.f4 rfl rfl rfl rfl rfl rfl rfl ⟨rfl, rfl, rfl, rfl, rfl⟩ rfl rfl rfl rfl rfl (by kernel_rfl) Try.func4 (by kernel_rfl)
    (of_decide_eq_true (by kernel_rfl)) (by unfold Func.isWrapper; first | (rw [if_pos (by decide +kernel)]; kernel_rfl) | (rw [if_neg (by decide +kernel)]; exact ⟨rfl, rfl⟩))
    (fun os started H enc _ => lifted hp os started H enc)
end laws_FnExactServerNew
end Go.Pi
end
section
set_option linter.unusedVariables false
/-! What the functions compute, for all sizes of fuel that are large enough. -/
namespace Go.Pi
section
variable {α β : Type}
def Ev (f : Nat → Nat → Option α) (v : α) : Prop := ∃ M, ∀ n N, M ≤ n → M ≤ N → f n N = some v
theorem ev_some {v w : α} : Ev (fun _ _ => some v) w ↔ v = w :=
  ⟨fun ⟨M, h⟩ => Option.some.inj (h M M (Nat.le_refl _) (Nat.le_refl _)), fun h => ⟨0, fun _ _ _ _ => by rw [h]⟩⟩
theorem ev_iff {f : Nat → Nat → Option α} {v w : α} (h : Ev f v) : Ev f w ↔ v = w := by
  constructor
  · rintro ⟨M', h'⟩
    obtain ⟨M, h⟩ := h
    have a := h (max M M') (max M M') (by omega) (by omega)
    have b := h' (max M M') (max M M') (by omega) (by omega)
    rw [a] at b
    exact Option.some.inj b
  · rintro rfl; exact h
theorem ev_bind {f : Nat → Nat → Option α} {a : α} (h : Ev f a) {g : Nat → Nat → α → Option β} {v : β} : Ev (fun n N => (f n N).bind (g n N)) v ↔ Ev (fun n N => g n N a) v := by
  obtain ⟨M, h⟩ := h
  constructor
  · rintro ⟨M', h'⟩
    refine ⟨max M M', fun n N h1 h2 => ?_⟩
    have := h' n N (by omega) (by omega)
    simp only [h n N (by omega) (by omega), Option.bind_some] at this
    exact this
  · rintro ⟨M', h'⟩
    refine ⟨max M M', fun n N h1 h2 => ?_⟩
    simp only [h n N (by omega) (by omega), Option.bind_some]
    exact h' n N (by omega) (by omega)
theorem ev_none {v : α} : Ev (fun _ _ => none) v ↔ False := by
  simp only [iff_false]
  rintro ⟨M, h⟩
  cases h M M (Nat.le_refl _) (Nat.le_refl _)
theorem ev_cond {c : Bool} {f g : Nat → Nat → Option α} {v : α} : Ev (fun n N => cond c (f n N) (g n N)) v ↔ (c = true → Ev f v) ∧ (c = false → Ev g v) := by
  cases c <;> simp
theorem ev_inB {i : Int} {len : Nat} {f : Nat → Nat → Option α} {v : α} : Ev (fun n N => inB i len (f n N)) v ↔ (0 ≤ i ∧ i < (len : Int)) ∧ Ev f v := by
  unfold inB
  rw [ev_cond, ev_cond]
  by_cases h1 : 0 ≤ i <;> by_cases h2 : i < (len : Int) <;> simp [h1, h2, ev_none]
theorem ev_succ {f : Nat → Nat → Option α} {v : α} (h : Ev (fun n N => f (n + 1) N) v) : Ev f v := by
  obtain ⟨M, h⟩ := h
  refine ⟨M + 1, fun n N h1 h2 => ?_⟩
  obtain ⟨m, rfl⟩ : ∃ m, n = m + 1 := ⟨n - 1, by omega⟩
  exact h m N (by omega) (by omega)
theorem ev_diag {f : Nat → Nat → Option α} {v : α} (h : Ev f v) : Ev (fun n _ => f n n) v := by
  obtain ⟨M, h⟩ := h
  exact ⟨M, fun n N h1 h2 => h n n h1 h1⟩
theorem ev_round {f : Nat → Nat → Option α} {v : α} (h : Ev (fun n N => f n (N + 1)) v) : Ev f v := by
  obtain ⟨M, h⟩ := h
  refine ⟨M + 1, fun n N h1 h2 => ?_⟩
  obtain ⟨m, rfl⟩ : ∃ m, N = m + 1 := ⟨N - 1, by omega⟩
  exact h n m (by omega) (by omega)
theorem ev_ex {f : Nat → Option α} {v : α} (h : Ev (fun n _ => f n) v) : ∃ n, f n = some v := by
  obtain ⟨M, h⟩ := h
  exact ⟨M, h M M (Nat.le_refl _) (Nat.le_refl _)⟩
/-- a loop that counts up to an end -/
theorem ev_up {σ : Type} (L : Nat → Nat → Nat → σ → Option α) (F : Nat → σ → α) (I : Nat → σ → Prop) (len : Nat)
    (h : ∀ i s, I i s → i ≤ len → (∀ s', I (i + 1) s' → i < len → Ev (fun n N => L n N (i + 1) s') (F (i + 1) s')) → Ev (fun n N => L n (N + 1) i s) (F i s)) :
    ∀ s, I 0 s → Ev (fun n _ => L n n 0 s) (F 0 s) := by
  have key : ∀ d i s, d + i = len → I i s → Ev (fun n N => L n N i s) (F i s) := by
    intro d
    induction d with
    | zero => exact fun i s hd hI => ev_round (h i s hI (by omega) fun s' _ hl => absurd hl (by omega))
    | succ d ih => exact fun i s hd hI => ev_round (h i s hI (by omega) fun s' hI' _ => ih (i + 1) s' (by omega) hI')
  exact fun s hI => ev_diag (f := fun n N => L n N 0 s) (key len 0 s (by omega) hI)
/-- a loop of which only the number moves -/
theorem ev_up1 (L : Nat → Nat → Nat → Option α) (F : Nat → α) (len : Nat)
    (h : ∀ i, i ≤ len → (i < len → Ev (fun n N => L n N (i + 1)) (F (i + 1))) → Ev (fun n N => L n (N + 1) i) (F i)) :
    Ev (fun n _ => L n n 0) (F 0) :=
  ev_up (σ := Unit) (fun n N i _ => L n N i) (fun i _ => F i) (fun _ _ => True) len (fun i s _ hi k => h i hi fun hl => k () trivial hl) () trivial
end
/-- the most that a list holds -/
abbrev topN : Nat := 9223372036854775807
theorem W_id {n : Int} (h : -9223372036854775808 ≤ n) (h' : n < 9223372036854775808) : W n = n := by
  show IntKind.i64.wrap n = n
  rw [IntKind.wrap_i64]; omega
theorem W_up {i : Nat} {len : Nat} (h : i < len) (hl : len ≤ topN) : W ((i : Int) + 1) = ((i + 1 : Nat) : Int) := by
  rw [W_id (by omega) (by simp only [topN] at hl; omega)]; omega
theorem drop_step {α : Type} (d : α) {a : List α} {i : Nat} (h : i < a.length) : a.drop i = a.getD i d :: a.drop (i + 1) := by
  rw [List.drop_eq_getElem_cons h, List.getD_eq_getElem?_getD, List.getElem?_eq_getElem h]; rfl
theorem getD_mem {α : Type} (d : α) {a : List α} {i : Nat} (h : i < a.length) : a.getD i d ∈ a := by
  rw [List.getD_eq_getElem?_getD, List.getElem?_eq_getElem h]; exact List.getElem_mem h
end Go.Pi
end
section
set_option linter.unusedVariables false
/-! Lists that are measured, copied, compared, marked and looked at again: each loop once. -/
namespace Go.Pi
abbrev cap : Nat := 1048576
def sumL {α : Type} (f : α → Nat) : List α → Nat
  | [] => 0
  | x :: xs => f x + sumL f xs
def sizeL {α : Type} (f : α → Nat) (l : List α) : Nat := l.length + sumL f l
def lenL {α : Type} (P : α → Prop) (l : List α) : Prop := l.length ≤ topN ∧ ∀ x ∈ l, P x
def szI (_ : Int) : Nat := 0
def szB (s : Bs) : Nat := s.length
def lenI (_ : Int) : Prop := True
def lenB (s : Bs) : Prop := s.length ≤ topN
theorem sumL_drop {α : Type} (f : α → Nat) (d : α) {a : List α} {i : Nat} (h : i < a.length) : sumL f (a.drop i) = f (a.getD i d) + sumL f (a.drop (i + 1)) := by
  rw [drop_step d h]; rfl
theorem sumL_set {α : Type} (f : α → Nat) (x : α) : ∀ (a : List α) (i : Nat), sumL f ((a.set i x).drop (i + 1)) = sumL f (a.drop (i + 1))
  | [], _ => rfl
  | _ :: _, 0 => rfl
  | _ :: a, i + 1 => by simpa using sumL_set f x a i
theorem sumL_le {α : Type} (f : α → Nat) {a : List α} {x : α} (h : x ∈ a) : f x ≤ sumL f a := by
  induction a with
  | nil => cases h
  | cons y a ih =>
    simp only [sumL]
    rcases List.mem_cons.1 h with rfl | h
    · omega
    · have := ih h; omega
theorem sizeL_le {α : Type} (f : α → Nat) {a : List α} {x : α} (h : x ∈ a) : 1 + f x ≤ sizeL f a := by
  unfold sizeL
  have := sumL_le f h
  have := List.length_pos_of_mem h
  omega
theorem sizeL_len {α : Type} (f : α → Nat) (a : List α) : a.length ≤ sizeL f a := by unfold sizeL; omega
theorem sumL_zero {α : Type} (f : α → Nat) (h : ∀ x, f x = 0) : ∀ a : List α, sumL f a = 0
  | [] => rfl
  | x :: a => by simp only [sumL, h, sumL_zero f h a]
theorem take_set {α : Type} (d : α) {a s : List α} {i : Nat} (h : i < a.length) (hs : s.length = a.length) (ht : s.take i = a.take i) : (s.set i (a.getD i d)).take (i + 1) = a.take (i + 1) := by
  rw [List.take_add_one, List.take_add_one, List.take_set_of_le (Nat.le_refl i), ht, List.getElem?_set_self (by omega), List.getD_eq_getElem?_getD, List.getElem?_eq_getElem h]
  rfl
theorem getD_put {α : Type} (d : α) {a : List α} {i : Nat} (h : i < a.length) (x : α) : (a.set i x).getD i d = x := by
  rw [List.getD_eq_getElem?_getD, List.getElem?_set_self h]; rfl
/-- what is left of a size -/
def subS (l : Int) (s : Nat) : Int := if (s : Int) ≤ l then l - s else -1
theorem subS_zero {l : Int} (h : 0 ≤ l) : subS l 0 = l := by unfold subS; rw [if_pos (by omega)]; omega
theorem subS_add {l : Int} {s t : Nat} (h0 : 0 ≤ l) : (subS l s < 0 → subS l (s + t) = -1) ∧ (¬ subS l s < 0 → (0 ≤ subS l s ∧ subS l s ≤ l) ∧ subS (subS l s) t = subS l (s + t)) := by
  unfold subS
  constructor <;> intro h
  · split at h
    · omega
    · rw [if_neg (by omega)]
  · split at h
    · rename_i h1
      rw [if_pos h1]
      refine ⟨by omega, ?_⟩
      by_cases h2 : (t : Int) ≤ l - s
      · rw [if_pos h2, if_pos (by omega)]; omega
      · rw [if_neg h2, if_neg (by omega)]
    · omega
theorem subS_ok {l : Int} {s : Nat} (h : ¬ subS l s < 0) : (s : Int) ≤ l := by
  unfold subS at h; split at h <;> omega
section
variable {α β : Type}
/-- a size behind another -/
theorem ev_sz {f : Nat → Nat → Option Int} {g : Nat → Nat → Int → Option Int} {l : Int} {s t : Nat} (h0 : 0 ≤ l) (h1 : l ≤ 1048576) (h : Ev f (subS l s)) (k : ∀ r, 0 ≤ r → r ≤ 1048576 → Ev (fun n N => g n N r) (subS r t)) :
    Ev (fun n N => (f n N).bind fun x => cond (decide (x < 0)) (some (-1)) (g n N x)) (subS l (s + t)) := by
  rw [ev_bind h, ev_cond]
  obtain ⟨a, b⟩ := subS_add (l := l) (s := s) (t := t) h0
  refine ⟨fun h => ?_, fun h => ?_⟩
  · rw [a (of_decide_eq_true h)]; exact ev_some.2 rfl
  · obtain ⟨⟨b1, b2⟩, b3⟩ := b (of_decide_eq_false h)
    rw [← b3]
    exact k _ b1 (by omega)
theorem ev_szE {l : Int} (h : 0 ≤ l) : Ev (fun _ _ => some l) (subS l 0) := by rw [subS_zero h]; exact ev_some.2 rfl
/-- the length comes off first -/
theorem ev_szL {l : Int} {m t : Nat} (h0 : 0 ≤ l) (h1 : l ≤ 1048576) (hm : m ≤ topN) {g : Nat → Nat → Int → Option Int} (k : ∀ r, 0 ≤ r → r ≤ 1048576 → Ev (fun n N => g n N r) (subS r t)) :
    Ev (fun n N => cond (decide (W (l - (m : Int)) < 0)) (some (-1)) (g n N (W (l - (m : Int))))) (subS l (m + t)) := by
  simp only [topN] at hm
  rw [W_id (by omega) (by omega)]
  have e : l - (m : Int) < 0 ∨ l - m = subS l m := by unfold subS; split <;> omega
  rw [ev_cond]
  refine ⟨fun h => ?_, fun h => ?_⟩
  · have h := of_decide_eq_true h
    rw [(subS_add h0).1 (by unfold subS; rw [if_neg (by omega)]; omega)]
    exact ev_some.2 rfl
  · have h := of_decide_eq_false h
    have e := e.resolve_left h
    have := (subS_add (l := l) (s := m) (t := t) h0).2 (by rw [← e]; exact h)
    rw [← this.2, ← e]
    exact k _ (by omega) (by omega)
theorem ev_szI {l : Int} {m : Nat} (h0 : 0 ≤ l) (h1 : l ≤ 1048576) (hm : m ≤ topN) :
    Ev (fun _ _ => cond (decide (W (l - (m : Int)) < 0)) (some (-1)) (some (W (l - (m : Int))))) (subS l m) :=
  ev_szL (t := 0) (g := fun _ _ x => some x) h0 h1 hm fun r a b => ev_szE a
theorem ev_copy (d : α) (a : List α) (L : Nat → Nat → Nat → List α → Option (List α))
    (h1 : ∀ i s, i < a.length → s.length = a.length → Ev (fun n N => L n N (i + 1) (s.set i (a.getD i d))) a → Ev (fun n N => L n (N + 1) i s) a)
    (h2 : Ev (fun n N => L n (N + 1) a.length a) a) (s : List α) (hs : s.length = a.length) : Ev (fun n _ => L n n 0 s) a := by
  refine ev_up L (fun _ _ => a) (fun i s => s.length = a.length ∧ s.take i = a.take i) a.length (fun i s hI hi k => ?_) s ⟨hs, by simp⟩
  by_cases h : i < a.length
  · exact h1 i s h hI.1 (k _ ⟨by simp [hI.1], take_set d h hI.1 hI.2⟩ h)
  · have e : i = a.length := by omega
    subst e
    have : s = a := by
      have := hI.2
      rwa [List.take_of_length_le (by omega), List.take_of_length_le (Nat.le_refl _)] at this
    subst this
    exact h2
theorem mark_list (d : α) (f : α → Nat) (LM : Nat → Nat → Int → Nat → List α → Option (Int × List α)) (LH : Nat → Nat → List α → Int → Nat → Option Int)
    (hm : ∀ i (a : List α) (k : Int), i < a.length → a.length ≤ topN → 0 ≤ k → k + 32 * (1 + f (a.getD i d) : Nat) ≤ topN →
      ∃ k' x', k ≤ k' ∧ k' ≤ k + 32 * (1 + f (a.getD i d) : Nat) ∧ (∀ F, Ev (fun n N => LM n N k' (i + 1) (a.set i x')) F → Ev (fun n N => LM n (N + 1) k i a) F) ∧
        ∀ (b : List α) F, i < b.length → b.length ≤ topN → b.getD i d = x' → Ev (fun n N => LH n N b k' (i + 1)) F → Ev (fun n N => LH n (N + 1) b k i) F)
    (em : ∀ (a : List α) k, Ev (fun n N => LM n (N + 1) k a.length a) (k, a)) (eh : ∀ (a : List α) k, Ev (fun n N => LH n (N + 1) a k a.length) k)
    (a : List α) (k : Int) (ha : a.length ≤ topN) (hk : 0 ≤ k) (hb : k + 32 * (sizeL f a : Nat) ≤ topN) :
    ∃ k' a', k ≤ k' ∧ k' ≤ k + 32 * (sizeL f a : Nat) ∧ a'.length = a.length ∧ Ev (fun n _ => LM n n k 0 a) (k', a') ∧ Ev (fun n _ => LH n n a' k 0) k' := by
  have key : ∀ j i (a : List α) (k : Int), j + i = a.length → a.length ≤ topN → 0 ≤ k → k + 32 * ((j + sumL f (a.drop i) : Nat) : Int) ≤ topN →
      ∃ k' a', k ≤ k' ∧ k' ≤ k + 32 * ((j + sumL f (a.drop i) : Nat) : Int) ∧ a'.length = a.length ∧ a'.take i = a.take i ∧ Ev (fun n N => LM n N k i a) (k', a') ∧ Ev (fun n N => LH n N a' k i) k' := by
    intro j
    induction j with
    | zero =>
      intro i a k hi _ hk _
      have : i = a.length := by omega
      subst this
      exact ⟨k, a, by omega, by omega, rfl, rfl, ev_round (em a k), ev_round (eh a k)⟩
    | succ j ih =>
      intro i a k hi ha hk hb
      rw [sumL_drop f d (by omega)] at hb ⊢
      obtain ⟨k1, x', p1, p2, p3, p4⟩ := hm i a k (by omega) ha hk (by omega)
      obtain ⟨k2, a', q1, q2, q3, q4, q5, q6⟩ := ih (i + 1) (a.set i x') k1 (by rw [List.length_set]; omega) (by rw [List.length_set]; exact ha) (by omega) (by rw [sumL_set]; omega)
      rw [sumL_set] at q2
      rw [List.length_set] at q3
      have hlt : i < a'.length := by omega
      have hx : a'.getD i d = x' := by
        have e := congrArg (fun l => l[i]?) q4
        simp only [List.getElem?_take, if_pos (Nat.lt_succ_self i), List.getElem?_set_self (show i < a.length by omega)] at e
        rw [List.getD_eq_getElem?_getD, e]; rfl
      refine ⟨k2, a', by omega, by omega, q3, ?_, ev_round (p3 _ q5), ev_round (p4 a' k2 hlt (by omega) hx q6)⟩
      have e := congrArg (List.take i) q4
      simp only [List.take_take, Nat.min_eq_left (Nat.le_succ i), List.take_set_of_le (Nat.le_refl i)] at e
      exact e
  obtain ⟨k', a', h1, h2, h3, _, h5, h6⟩ := key a.length 0 a k (by omega) ha hk (by rw [List.drop_zero]; unfold sizeL at hb; omega)
  refine ⟨k', a', h1, by rw [List.drop_zero] at h2; unfold sizeL; omega, h3, ev_diag (f := fun n N => LM n N k 0 a) h5, ev_diag (f := fun n N => LH n N a' k 0) h6⟩
end
theorem W_next {k : Int} (h : 0 ≤ k) (h' : k + 1 ≤ topN) : W (k + 1) = k + 1 := W_id (by omega) (by simp only [topN] at h'; omega)
end Go.Pi
end
section
set_option linter.unusedVariables false
namespace Go.Pi
def lenR (c : Nat) (r : List TRow) : Prop := r.length ≤ c ∧ ∀ x ∈ r, x.cells.length ≤ c
end Go.Pi
end
section
set_option linter.unusedVariables false
set_option maxRecDepth 100000
namespace Go.Pi
theorem laws_toIntS.turn4 {n N : Nat} {k : (List Int) → Option (List Int)} {x0 x1 x2} : laws_toIntS.loop4 n k (N + 1) x0 x1 x2 = laws_toIntS.step4 n k (laws_toIntS.loop4 n k N) x0 x1 x2 := rfl
abbrev spec_SchemaOk.K3 : Type := (List Int) → Option Bool
theorem spec_SchemaOk.turn3 {n N : Nat} {k : (List Int) → Option Bool} {x0 x1} : spec_SchemaOk.loop3 n k (N + 1) x0 x1 = spec_SchemaOk.step3 n k (spec_SchemaOk.loop3 n k N) x0 x1 := rfl
theorem spec_RowOk.turn6 {n N : Nat} {k : Option Bool} {x0 x1 x2} : spec_RowOk.loop6 n k (N + 1) x0 x1 x2 = spec_RowOk.step6 n k (spec_RowOk.loop6 n k N) x0 x1 x2 := rfl
abbrev spec_RowsOk.K3 : Type := Int → (List TRow) → (List Int) → Option Bool
theorem spec_RowsOk.turn3 {n N : Nat} {k : Int → (List TRow) → (List Int) → Option Bool} {x0 x1 x2 x3} : spec_RowsOk.loop3 n k (N + 1) x0 x1 x2 x3 = spec_RowsOk.step3 n k (spec_RowsOk.loop3 n k N) x0 x1 x2 x3 := rfl
theorem spec_StoreOk.turn6 {n N : Nat} {k : Option Bool} {x0 x1 x2 x3} : spec_StoreOk.loop6 n k (N + 1) x0 x1 x2 x3 = spec_StoreOk.step6 n k (spec_StoreOk.loop6 n k N) x0 x1 x2 x3 := rfl
theorem spec_l6Rows.turn4 {n N : Nat} {k : (List TRow) → Option (List TRow)} {x0 x1 x2} : spec_l6Rows.loop4 n k (N + 1) x0 x1 x2 = spec_l6Rows.step4 n k (spec_l6Rows.loop4 n k N) x0 x1 x2 := rfl
theorem spec_l7Copy.turn4 {n N : Nat} {k : Int → Int → (List Int) → (List (List TRow)) → Option TStore} {x0 x1 x2 x3 x4 x5 x6 x7} : spec_l7Copy.loop4 n k (N + 1) x0 x1 x2 x3 x4 x5 x6 x7 = spec_l7Copy.step4 n k (spec_l7Copy.loop4 n k N) x0 x1 x2 x3 x4 x5 x6 x7 := rfl
abbrev impl_SchemaOk.K3 : Type := (List Int) → Option Bool
theorem impl_SchemaOk.turn3 {n N : Nat} {k : (List Int) → Option Bool} {x0 x1 x2 x3} : impl_SchemaOk.loop3 n k (N + 1) x0 x1 x2 x3 = impl_SchemaOk.step3 n k (impl_SchemaOk.loop3 n k N) x0 x1 x2 x3 := rfl
abbrev impl_RowOk.K3 : Type := Int → (List Int) → Int → (List Int) → Option Bool
theorem impl_RowOk.turn3 {n N : Nat} {k : Int → (List Int) → Int → (List Int) → Option Bool} {x0 x1 x2 x3 x4 x5 x6} : impl_RowOk.loop3 n k (N + 1) x0 x1 x2 x3 x4 x5 x6 = impl_RowOk.step3 n k (impl_RowOk.loop3 n k N) x0 x1 x2 x3 x4 x5 x6 := rfl
abbrev impl_RowsOk.K3 : Type := Int → (List TRow) → (List Int) → Option Bool
theorem impl_RowsOk.turn3 {n N : Nat} {k : Int → (List TRow) → (List Int) → Option Bool} {x0 x1 x2 x3 x4 x5} : impl_RowsOk.loop3 n k (N + 1) x0 x1 x2 x3 x4 x5 = impl_RowsOk.step3 n k (impl_RowsOk.loop3 n k N) x0 x1 x2 x3 x4 x5 := rfl
theorem impl_StoreOk.turn6 {n N : Nat} {k : Option Bool} {x0 x1 x2 x3 x4 x5} : impl_StoreOk.loop6 n k (N + 1) x0 x1 x2 x3 x4 x5 = impl_StoreOk.step6 n k (impl_StoreOk.loop6 n k N) x0 x1 x2 x3 x4 x5 := rfl
theorem impl_copyRows.turn4 {n N : Nat} {k : (List TRow) → Option (List TRow)} {x0 x1 x2 x3} : impl_copyRows.loop4 n k (N + 1) x0 x1 x2 x3 = impl_copyRows.step4 n k (impl_copyRows.loop4 n k N) x0 x1 x2 x3 := rfl
theorem impl_copyStore.turn4 {n N : Nat} {k : Int → Int → (List Int) → (List (List TRow)) → Option TStore} {x0 x1 x2 x3 x4 x5 x6} : impl_copyStore.loop4 n k (N + 1) x0 x1 x2 x3 x4 x5 x6 = impl_copyStore.step4 n k (impl_copyStore.loop4 n k N) x0 x1 x2 x3 x4 x5 x6 := rfl
theorem laws_eqIntS.turn6 {n N : Nat} {k : Option Bool} {x0 x1 x2} : laws_eqIntS.loop6 n k (N + 1) x0 x1 x2 = laws_eqIntS.step6 n k (laws_eqIntS.loop6 n k N) x0 x1 x2 := rfl
theorem laws_eqRowS.turn6 {n N : Nat} {k : Option Bool} {x0 x1 x2} : laws_eqRowS.loop6 n k (N + 1) x0 x1 x2 = laws_eqRowS.step6 n k (laws_eqRowS.loop6 n k N) x0 x1 x2 := rfl
theorem laws_eqRowSS.turn6 {n N : Nat} {k : Option Bool} {x0 x1 x2} : laws_eqRowSS.loop6 n k (N + 1) x0 x1 x2 = laws_eqRowSS.step6 n k (laws_eqRowSS.loop6 n k N) x0 x1 x2 := rfl
theorem laws_eqChangeS.turn6 {n N : Nat} {k : Option Bool} {x0 x1 x2} : laws_eqChangeS.loop6 n k (N + 1) x0 x1 x2 = laws_eqChangeS.step6 n k (laws_eqChangeS.loop6 n k N) x0 x1 x2 := rfl
theorem laws_eqChangeSS.turn6 {n N : Nat} {k : Option Bool} {x0 x1 x2} : laws_eqChangeSS.loop6 n k (N + 1) x0 x1 x2 = laws_eqChangeSS.step6 n k (laws_eqChangeSS.loop6 n k N) x0 x1 x2 := rfl
theorem laws_eqCondS.turn6 {n N : Nat} {k : Option Bool} {x0 x1 x2} : laws_eqCondS.loop6 n k (N + 1) x0 x1 x2 = laws_eqCondS.step6 n k (laws_eqCondS.loop6 n k N) x0 x1 x2 := rfl
theorem laws_eqKidS.turn6 {n N : Nat} {k : Option Bool} {x0 x1 x2} : laws_eqKidS.loop6 n k (N + 1) x0 x1 x2 = laws_eqKidS.step6 n k (laws_eqKidS.loop6 n k N) x0 x1 x2 := rfl
theorem laws_eqSeatS.turn6 {n N : Nat} {k : Option Bool} {x0 x1 x2} : laws_eqSeatS.loop6 n k (N + 1) x0 x1 x2 = laws_eqSeatS.step6 n k (laws_eqSeatS.loop6 n k N) x0 x1 x2 := rfl
abbrev laws_markIntS.K3 : Type := Int → (List Int) → Option (Int × (List Int))
theorem laws_markIntS.turn3 {n N : Nat} {k : Int → (List Int) → Option (Int × (List Int))} {x0 x1 x2} : laws_markIntS.loop3 n k (N + 1) x0 x1 x2 = laws_markIntS.step3 n k (laws_markIntS.loop3 n k N) x0 x1 x2 := rfl
abbrev laws_markRowS.K3 : Type := Int → (List TRow) → Option (Int × (List TRow))
theorem laws_markRowS.turn3 {n N : Nat} {k : Int → (List TRow) → Option (Int × (List TRow))} {x0 x1 x2} : laws_markRowS.loop3 n k (N + 1) x0 x1 x2 = laws_markRowS.step3 n k (laws_markRowS.loop3 n k N) x0 x1 x2 := rfl
abbrev laws_markRowSS.K3 : Type := Int → (List (List TRow)) → Option (Int × (List (List TRow)))
theorem laws_markRowSS.turn3 {n N : Nat} {k : Int → (List (List TRow)) → Option (Int × (List (List TRow)))} {x0 x1 x2} : laws_markRowSS.loop3 n k (N + 1) x0 x1 x2 = laws_markRowSS.step3 n k (laws_markRowSS.loop3 n k N) x0 x1 x2 := rfl
abbrev laws_markChangeS.K3 : Type := Int → (List TChange) → Option (Int × (List TChange))
theorem laws_markChangeS.turn3 {n N : Nat} {k : Int → (List TChange) → Option (Int × (List TChange))} {x0 x1 x2} : laws_markChangeS.loop3 n k (N + 1) x0 x1 x2 = laws_markChangeS.step3 n k (laws_markChangeS.loop3 n k N) x0 x1 x2 := rfl
abbrev laws_markChangeSS.K3 : Type := Int → (List (List TChange)) → Option (Int × (List (List TChange)))
theorem laws_markChangeSS.turn3 {n N : Nat} {k : Int → (List (List TChange)) → Option (Int × (List (List TChange)))} {x0 x1 x2} : laws_markChangeSS.loop3 n k (N + 1) x0 x1 x2 = laws_markChangeSS.step3 n k (laws_markChangeSS.loop3 n k N) x0 x1 x2 := rfl
abbrev laws_markCondS.K3 : Type := Int → (List TCond) → Option (Int × (List TCond))
theorem laws_markCondS.turn3 {n N : Nat} {k : Int → (List TCond) → Option (Int × (List TCond))} {x0 x1 x2} : laws_markCondS.loop3 n k (N + 1) x0 x1 x2 = laws_markCondS.step3 n k (laws_markCondS.loop3 n k N) x0 x1 x2 := rfl
abbrev laws_markKidS.K3 : Type := Int → (List TKid) → Option (Int × (List TKid))
theorem laws_markKidS.turn3 {n N : Nat} {k : Int → (List TKid) → Option (Int × (List TKid))} {x0 x1 x2} : laws_markKidS.loop3 n k (N + 1) x0 x1 x2 = laws_markKidS.step3 n k (laws_markKidS.loop3 n k N) x0 x1 x2 := rfl
theorem laws_markText.turn6 {n N : Nat} {k : Bs → Option Bs} {x0 x1} : laws_markText.loop6 n k (N + 1) x0 x1 = laws_markText.step6 n k (laws_markText.loop6 n k N) x0 x1 := rfl
abbrev laws_markSeatS.K3 : Type := Int → (List TSeat) → Option (Int × (List TSeat))
theorem laws_markSeatS.turn3 {n N : Nat} {k : Int → (List TSeat) → Option (Int × (List TSeat))} {x0 x1 x2} : laws_markSeatS.loop3 n k (N + 1) x0 x1 x2 = laws_markSeatS.step3 n k (laws_markSeatS.loop3 n k N) x0 x1 x2 := rfl
abbrev laws_heldIntS.K3 : Type := Int → Option Int
theorem laws_heldIntS.turn3 {n N : Nat} {k : Int → Option Int} {x0 x1 x2} : laws_heldIntS.loop3 n k (N + 1) x0 x1 x2 = laws_heldIntS.step3 n k (laws_heldIntS.loop3 n k N) x0 x1 x2 := rfl
abbrev laws_heldRowS.K3 : Type := Int → Option Int
theorem laws_heldRowS.turn3 {n N : Nat} {k : Int → Option Int} {x0 x1 x2} : laws_heldRowS.loop3 n k (N + 1) x0 x1 x2 = laws_heldRowS.step3 n k (laws_heldRowS.loop3 n k N) x0 x1 x2 := rfl
abbrev laws_heldRowSS.K3 : Type := Int → Option Int
theorem laws_heldRowSS.turn3 {n N : Nat} {k : Int → Option Int} {x0 x1 x2} : laws_heldRowSS.loop3 n k (N + 1) x0 x1 x2 = laws_heldRowSS.step3 n k (laws_heldRowSS.loop3 n k N) x0 x1 x2 := rfl
abbrev laws_heldChangeS.K3 : Type := Int → Option Int
theorem laws_heldChangeS.turn3 {n N : Nat} {k : Int → Option Int} {x0 x1 x2} : laws_heldChangeS.loop3 n k (N + 1) x0 x1 x2 = laws_heldChangeS.step3 n k (laws_heldChangeS.loop3 n k N) x0 x1 x2 := rfl
abbrev laws_heldChangeSS.K3 : Type := Int → Option Int
theorem laws_heldChangeSS.turn3 {n N : Nat} {k : Int → Option Int} {x0 x1 x2} : laws_heldChangeSS.loop3 n k (N + 1) x0 x1 x2 = laws_heldChangeSS.step3 n k (laws_heldChangeSS.loop3 n k N) x0 x1 x2 := rfl
abbrev laws_heldCondS.K3 : Type := Int → Option Int
theorem laws_heldCondS.turn3 {n N : Nat} {k : Int → Option Int} {x0 x1 x2} : laws_heldCondS.loop3 n k (N + 1) x0 x1 x2 = laws_heldCondS.step3 n k (laws_heldCondS.loop3 n k N) x0 x1 x2 := rfl
abbrev laws_heldKidS.K3 : Type := Int → Option Int
theorem laws_heldKidS.turn3 {n N : Nat} {k : Int → Option Int} {x0 x1 x2} : laws_heldKidS.loop3 n k (N + 1) x0 x1 x2 = laws_heldKidS.step3 n k (laws_heldKidS.loop3 n k N) x0 x1 x2 := rfl
abbrev laws_heldSeatS.K3 : Type := Int → Option Int
theorem laws_heldSeatS.turn3 {n N : Nat} {k : Int → Option Int} {x0 x1 x2} : laws_heldSeatS.loop3 n k (N + 1) x0 x1 x2 = laws_heldSeatS.step3 n k (laws_heldSeatS.loop3 n k N) x0 x1 x2 := rfl
end Go.Pi
end
section
set_option linter.unusedVariables false
set_option maxRecDepth 100000
set_option linter.unusedSimpArgs false
namespace Go.Pi
def allFrom (p : Nat → Bool) : Nat → Nat → Bool
  | 0, _ => true
  | d + 1, i => p i && allFrom p d (i + 1)
def allN (p : Nat → Bool) (len : Nat) : Bool := allFrom p len 0
theorem ev_all (L : Nat → Nat → Nat → Option Bool) (p : Nat → Bool) {len : Nat} {v : Bool}
    (h : ∀ i w, i < len → Ev (fun n N => L n N (i + 1)) w → Ev (fun n N => L n (N + 1) i) (p i && w)) (h2 : Ev (fun n N => L n (N + 1) len) v) :
    Ev (fun n _ => L n n 0) (allN p len && v) := by
  have key : ∀ d i, d + i = len → Ev (fun n N => L n N i) (allFrom p d i && v) := by
    intro d
    induction d with
    | zero => intro i hd; obtain rfl : i = len := by omega
              simpa [allFrom] using ev_round (f := fun n N => L n N i) h2
    | succ d ih => intro i hd
                   have := h i _ (by omega) (ih (i + 1) (by omega))
                   rw [← Bool.and_assoc] at this
                   exact ev_round (f := fun n N => L n N i) this
  exact ev_diag (f := fun n N => L n N 0) (key len 0 (by omega))
theorem ev_congr {α : Type} {f : Nat → Nat → Option α} {v w : α} (h : Ev f v) (e : v = w) : Ev f w := e ▸ h
def inn (x lo hi : Int) : Bool := decide (lo ≤ x) && decide (x ≤ hi)
theorem l1In_ev {x lo hi : Int} : Ev (fun n _ => spec_l1In n x lo hi) (inn x lo hi) := by
  refine ev_succ ?_
  simp only [spec_l1In, ev_cond, ev_some, inn]
  grind
theorem within_ev {x lo hi : Int} : Ev (fun n _ => impl_within n x lo hi) (inn x lo hi) := by
  refine ev_succ ?_
  simp only [impl_within, ev_cond, ev_some, inn]
  grind
section
variable {β : Type} {x lo hi : Int} {g : Nat → Nat → Bool → Option β} {v : β}
theorem l1In_b : Ev (fun n N => (spec_l1In n x lo hi).bind (g n N)) v ↔ Ev (fun n N => g n N (inn x lo hi)) v := ev_bind l1In_ev
theorem within_b : Ev (fun n N => (impl_within n x lo hi).bind (g n N)) v ↔ Ev (fun n N => g n N (inn x lo hi)) v := ev_bind within_ev
theorem hasTable_b {s : TSchema} : Ev (fun n N => (impl_hasTable n s x).bind (g n N)) v ↔ Ev (fun n N => g n N (inn x 0 (W ((s.cols.length : Int) - 1)))) v :=
  ev_bind (ev_succ (by simp only [impl_hasTable, within_b, ev_some]))
theorem isNum_b : Ev (fun n N => (impl_isNum n x).bind (g n N)) v ↔ Ev (fun n N => g n N (inn x (-1000000000) 1000000000)) v :=
  ev_bind (ev_succ (by simp only [impl_isNum, within_b, ev_some]))
theorem isVersion_b : Ev (fun n N => (impl_isVersion n x).bind (g n N)) v ↔ Ev (fun n N => g n N (inn x 0 100000)) v :=
  ev_bind (ev_succ (by simp only [impl_isVersion, within_b, ev_some]))
end
theorem lt_up {i len : Nat} (h : i < len) : decide ((i : Int) < (len : Int)) = true := by simp; omega
theorem lt_end {len : Nat} : decide ((len : Int) < (len : Int)) = false := by simp
theorem in_up {i len : Nat} (h : i < len) : ((0 : Int) ≤ (i : Int) ∧ (i : Int) < (len : Int)) ↔ True := by simp; omega
def FSchema (s : TSchema) : Bool := allN (fun i => inn (s.cols.getD i 0) 1 4) s.cols.length && inn s.cols.length 1 3
theorem spec_SchemaOk_ev {s : TSchema} (hs : s.cols.length ≤ topN) : Ev (fun n _ => spec_SchemaOk n s) (FSchema s) := by
  refine ev_succ ?_
  simp only [spec_SchemaOk]
  refine ev_all (fun n N i => spec_SchemaOk.loop3 n _ N (i : Int) s.cols) _ (fun i w hi ih => ?_) ?_
  · simp only [spec_SchemaOk.turn3, spec_SchemaOk.step3, Int.toNat_natCast, ev_cond, ev_inB, l1In_b, ev_some, W_up hi hs, ev_iff ih, lt_up hi, in_up hi]
    grind
  · simp only [spec_SchemaOk.turn3, spec_SchemaOk.step3, lt_end, cond_false, l1In_b, ev_some]
theorem impl_SchemaOk_ev {s : TSchema} (hs : s.cols.length ≤ topN) : Ev (fun n _ => impl_SchemaOk n s) (FSchema s) := by
  refine ev_succ ?_
  simp only [impl_SchemaOk]
  refine ev_all (fun n N i => impl_SchemaOk.loop3 n _ N s.cols (s.cols.length : Int) (i : Int) s.cols) _ (fun i w hi ih => ?_) ?_
  · simp only [impl_SchemaOk.turn3, impl_SchemaOk.step3, Int.toNat_natCast, ev_cond, ev_inB, within_b, ev_some, W_up hi hs, ev_iff ih, lt_up hi, in_up hi]
    grind
  · simp only [impl_SchemaOk.turn3, impl_SchemaOk.step3, lt_end, cond_false, within_b, ev_some]
end Go.Pi
end
section
set_option linter.unusedVariables false
set_option maxRecDepth 100000
set_option linter.unusedSimpArgs false
namespace Go.Pi
theorem W_dn {i : Nat} (h : i ≤ topN) : W ((i : Int) - 1) = (i : Int) - 1 := by
  rw [W_id (by omega) (by simp only [topN] at h; omega)]
theorem toNat_dn {i : Nat} : ((i : Int) - 1).toNat = i - 1 := by omega
section
variable {w : Int} {cols sh : List Int} {wh : List TCond} {t o f kt kc : Int} {d ks v : Bool}
end
theorem spec_SchemaOk_b {β : Type} {s : TSchema} (hs : s.cols.length ≤ topN) {g : Nat → Nat → Bool → Option β} {v : β} : Ev (fun n N => (spec_SchemaOk n s).bind (g n N)) v ↔ Ev (fun n N => g n N (FSchema s)) v := ev_bind (spec_SchemaOk_ev hs)
theorem impl_SchemaOk_b {β : Type} {s : TSchema} (hs : s.cols.length ≤ topN) {g : Nat → Nat → Bool → Option β} {v : β} : Ev (fun n N => (impl_SchemaOk n s).bind (g n N)) v ↔ Ev (fun n N => g n N (FSchema s)) v := ev_bind (impl_SchemaOk_ev hs)
end Go.Pi
end
section
set_option linter.unusedVariables false
set_option maxRecDepth 100000
set_option linter.unusedSimpArgs false
namespace Go.Pi
def FCells (c : List Int) : Bool := allN (fun i => inn (c.getD i 0) (-1000000000) 1000000000) c.length
def FRow (s : TSchema) (t : Int) (r : TRow) : Bool := FSchema s && (inn t 0 (W ((s.cols.length : Int) - 1)) && (inn r.id_ 1 999 && (decide ((r.cells.length : Int) = s.cols.getD t.toNat 0) && FCells r.cells)))
theorem spec_RowOk_ev {s : TSchema} {t : Int} {r : TRow} (hs : s.cols.length ≤ topN) (hr : r.cells.length ≤ topN) : Ev (fun n _ => spec_RowOk n s t r) (FRow s t r) := by
  refine ev_succ ?_
  have e := @W_dn s.cols.length hs
  have hl : Ev (fun n _ => spec_RowOk.loop6 n (some true) n 0 r.id_ r.cells) (FCells r.cells && true) := by
    refine ev_all (fun n N i => spec_RowOk.loop6 n (some true) N (i : Int) r.id_ r.cells) _ (fun i u hi ih => ?_) ?_
    · simp only [spec_RowOk.turn6, spec_RowOk.step6, Int.toNat_natCast, W_up hi hr, ev_cond, ev_inB, l1In_b, ev_some, ev_iff ih, lt_up hi, in_up hi]
      clear ih
      grind
    · simp only [spec_RowOk.turn6, spec_RowOk.step6, lt_end, cond_false, ev_some]
  simp only [spec_RowOk, spec_SchemaOk_b hs, l1In_b, ev_cond, ev_inB, ev_some, ev_iff hl]
  clear hl
  repeat' (first | apply And.intro | intro _)
  all_goals (try rw [Bool.eq_iff_iff])
  all_goals (try simp only [FRow, inn, bne_iff_ne, bne_eq_false_iff_eq, Bool.not_eq_true', Bool.not_eq_false', decide_eq_true_eq, decide_eq_false_iff_not, beq_iff_eq, beq_eq_false_iff_ne, Bool.and_eq_true, Bool.or_eq_true, Bool.and_eq_false_iff, Bool.or_eq_false_iff] at *)
  all_goals grind
theorem impl_RowOk_ev {s : TSchema} {t : Int} {r : TRow} (hs : s.cols.length ≤ topN) (hr : r.cells.length ≤ topN) : Ev (fun n _ => impl_RowOk n s t r) (FRow s t r) := by
  refine ev_succ ?_
  have e := @W_dn s.cols.length hs
  simp only [impl_RowOk]
  have hl : ∀ {k : Nat → impl_RowOk.K3} {v : Bool}, Ev (fun n N => k n t s.cols r.id_ r.cells) v → Ev (fun n _ => impl_RowOk.loop3 n (k n) n t r.cells (r.cells.length : Int) 0 s.cols r.id_ r.cells) (FCells r.cells && v) := by
    intro k v hk
    refine ev_all (fun n N i => impl_RowOk.loop3 n (k n) N t r.cells (r.cells.length : Int) (i : Int) s.cols r.id_ r.cells) _ (fun i u hi ih => ?_) ?_
    · simp only [impl_RowOk.turn3, impl_RowOk.step3, Int.toNat_natCast, W_up hi hr, ev_cond, ev_inB, isNum_b, ev_some, ev_iff ih, lt_up hi, in_up hi]
      clear ih hk
      grind
    · simp only [impl_RowOk.turn3, impl_RowOk.step3, lt_end, cond_false]
      exact hk
  refine ev_congr (hl (k := fun n => _) (v := FSchema s && (inn t 0 (W ((s.cols.length : Int) - 1)) && (decide ((r.cells.length : Int) = s.cols.getD t.toNat 0) && inn r.id_ 1 999))) ?_) ?_
  · have hS : ∀ {g : Nat → Nat → Bool → Option Bool} {v : Bool}, Ev (fun n N => (impl_SchemaOk n (TSchema.mk s.cols)).bind (g n N)) v ↔ Ev (fun n N => g n N (FSchema s)) v := impl_SchemaOk_b hs
    simp only [hS, hasTable_b, within_b, ev_cond, ev_inB, ev_some]
    clear hl hS
    repeat' (first | apply And.intro | intro _)
    all_goals (try rw [Bool.eq_iff_iff])
    all_goals (try simp only [inn, bne_iff_ne, bne_eq_false_iff_eq, Bool.not_eq_true', Bool.not_eq_false', decide_eq_true_eq, decide_eq_false_iff_not, beq_iff_eq, beq_eq_false_iff_ne, Bool.and_eq_true, Bool.or_eq_true, Bool.and_eq_false_iff, Bool.or_eq_false_iff] at *)
    all_goals grind
  · clear hl; rw [Bool.eq_iff_iff]; simp only [FRow, Bool.and_eq_true]; grind
section
variable {cols sh : List Int} {wh : List TCond} {t o f kt kc : Int} {d ks v : Bool} {rows : List TRow} {kids : List TKid}
theorem getD_cells (hr : lenR topN rows) (i : Nat) : (rows.getD i TRow.dflt).cells.length ≤ topN := by
  by_cases h : i < rows.length
  · exact hr.2 _ (getD_mem _ h)
  · rw [List.getD_eq_getElem?_getD, List.getElem?_eq_none (by omega)]; exact Nat.zero_le _
end
end Go.Pi
end
section
set_option linter.unusedVariables false
set_option maxRecDepth 100000
set_option linter.unusedSimpArgs false
namespace Go.Pi
def lenRR (c : Nat) (t : List (List TRow)) : Prop := t.length ≤ c ∧ ∀ x ∈ t, lenR c x
def lenSt (c : Nat) (s : TStore) : Prop := s.schema.cols.length ≤ c ∧ lenRR c s.tables
theorem getD_rows {c : Nat} {t : List (List TRow)} (h : ∀ x ∈ t, lenR c x) (i : Nat) : lenR c (t.getD i []) := by
  by_cases hi : i < t.length
  · exact h _ (getD_mem [] hi)
  · rw [List.getD_eq_getElem?_getD, List.getElem?_eq_none (by omega)]
    exact ⟨Nat.zero_le _, fun x hx => by cases hx⟩
theorem schema_eta (s : TSchema) : TSchema.mk s.cols = s := rfl
def FRowsOk (s : TSchema) (t : Int) (rows : List TRow) : Bool :=
  allN (fun i => FRow s t (rows.getD i TRow.dflt) && (decide (i = 0) || decide ((rows.getD (i - 1) TRow.dflt).id_ < (rows.getD i TRow.dflt).id_))) rows.length && (FSchema s && (inn t 0 (W ((s.cols.length : Int) - 1)) && decide ((rows.length : Int) ≤ 24)))
theorem spec_RowsOk_ev {s : TSchema} {t : Int} {rows : List TRow} (hs : s.cols.length ≤ topN) (hr : lenR topN rows) : Ev (fun n _ => spec_RowsOk n s t rows) (FRowsOk s t rows) := by
  refine ev_succ ?_
  simp only [spec_RowsOk]
  refine ev_all (fun n N i => spec_RowsOk.loop3 n _ N t rows (i : Int) s.cols) _ (fun i u hi ih => ?_) ?_
  · simp only [schema_eta, spec_RowsOk.turn3, spec_RowsOk.step3, Int.toNat_natCast, W_up hi hr.1, W_dn (i := i) (by have := hr.1; omega), toNat_dn, ev_cond, ev_inB, ev_bind (spec_RowOk_ev (s := s) (t := t) (r := rows.getD i TRow.dflt) hs (getD_cells hr i)), ev_some, ev_iff ih, lt_up hi, in_up hi]
    clear ih
    repeat' (first | apply And.intro | intro _)
    all_goals (try rw [Bool.eq_iff_iff])
    all_goals (try simp only [Bool.not_eq_true', Bool.not_eq_false', decide_eq_true_eq, decide_eq_false_iff_not, beq_iff_eq, beq_eq_false_iff_ne, Bool.and_eq_true, Bool.or_eq_true, Bool.and_eq_false_iff, Bool.or_eq_false_iff] at *)
    all_goals grind
  · simp only [schema_eta, spec_RowsOk.turn3, spec_RowsOk.step3, lt_end, cond_false, spec_SchemaOk_b (s := s) hs, l1In_b, ev_cond, ev_some]
    repeat' (first | apply And.intro | intro _)
    all_goals (try simp_all)
theorem impl_RowsOk_ev {s : TSchema} {t : Int} {rows : List TRow} (hs : s.cols.length ≤ topN) (hr : lenR topN rows) : Ev (fun n _ => impl_RowsOk n s t rows) (FRowsOk s t rows) := by
  refine ev_succ ?_
  simp only [impl_RowsOk]
  refine ev_all (fun n N i => impl_RowsOk.loop3 n _ N t rows rows (rows.length : Int) (i : Int) s.cols) _ (fun i u hi ih => ?_) ?_
  · simp only [schema_eta, impl_RowsOk.turn3, impl_RowsOk.step3, Int.toNat_natCast, W_up hi hr.1, W_dn (i := i) (by have := hr.1; omega), toNat_dn, ev_cond, ev_inB, ev_bind (impl_RowOk_ev (s := s) (t := t) (r := rows.getD i TRow.dflt) hs (getD_cells hr i)), ev_some, ev_iff ih, lt_up hi, in_up hi]
    clear ih
    repeat' (first | apply And.intro | intro _)
    all_goals (try rw [Bool.eq_iff_iff])
    all_goals (try simp only [Bool.not_eq_true', Bool.not_eq_false', decide_eq_true_eq, decide_eq_false_iff_not, beq_iff_eq, beq_eq_false_iff_ne, Bool.and_eq_true, Bool.or_eq_true, Bool.and_eq_false_iff, Bool.or_eq_false_iff] at *)
    all_goals grind
  · simp only [schema_eta, impl_RowsOk.turn3, impl_RowsOk.step3, lt_end, cond_false, impl_SchemaOk_b (s := s) hs, hasTable_b, ev_cond, ev_some]
    repeat' (first | apply And.intro | intro _)
    all_goals (try simp_all)
def FTables (s : TSchema) (t : List (List TRow)) : Bool := allN (fun i => FRowsOk s (i : Int) (t.getD i [])) t.length
def FStore (s : TStore) : Bool := FSchema s.schema && (inn s.version 0 100000 && (decide (s.tables.length = s.schema.cols.length) && FTables s.schema s.tables))
theorem spec_StoreOk_ev {s : TStore} (h : lenSt topN s) : Ev (fun n _ => spec_StoreOk n s) (FStore s) := by
  refine ev_succ ?_
  have hl : Ev (fun n _ => spec_StoreOk.loop6 n (some true) n 0 s.schema.cols s.version s.tables) (FTables s.schema s.tables && true) := by
    refine ev_all (fun n N i => spec_StoreOk.loop6 n (some true) N (i : Int) s.schema.cols s.version s.tables) _ (fun i u hi ih => ?_) ?_
    · simp only [schema_eta, spec_StoreOk.turn6, spec_StoreOk.step6, Int.toNat_natCast, W_up hi h.2.1, ev_cond, ev_inB, ev_bind (spec_RowsOk_ev (s := s.schema) (t := (i : Int)) h.1 (getD_rows h.2.2 i)), ev_some, ev_iff ih, lt_up hi, in_up hi]
      clear ih
      repeat' (first | apply And.intro | intro _)
      all_goals (try simp_all)
    · simp only [schema_eta, spec_StoreOk.turn6, spec_StoreOk.step6, lt_end, cond_false, ev_some]
  simp only [spec_StoreOk, spec_SchemaOk_b h.1, l1In_b, ev_cond, ev_some, ev_iff hl, FStore]
  clear hl
  repeat' (first | apply And.intro | intro _)
  all_goals (try simp_all)
  all_goals (intros; omega)
theorem impl_StoreOk_ev {s : TStore} (h : lenSt topN s) : Ev (fun n _ => impl_StoreOk n s) (FStore s) := by
  refine ev_succ ?_
  have hl : Ev (fun n _ => impl_StoreOk.loop6 n (some true) n s.tables (s.tables.length : Int) 0 s.schema.cols s.version s.tables) (FTables s.schema s.tables && true) := by
    refine ev_all (fun n N i => impl_StoreOk.loop6 n (some true) N s.tables (s.tables.length : Int) (i : Int) s.schema.cols s.version s.tables) _ (fun i u hi ih => ?_) ?_
    · simp only [schema_eta, impl_StoreOk.turn6, impl_StoreOk.step6, Int.toNat_natCast, W_up hi h.2.1, ev_cond, ev_inB, ev_bind (impl_RowsOk_ev (s := s.schema) (t := (i : Int)) h.1 (getD_rows h.2.2 i)), ev_some, ev_iff ih, lt_up hi, in_up hi]
      clear ih
      repeat' (first | apply And.intro | intro _)
      all_goals (try simp_all)
    · simp only [schema_eta, impl_StoreOk.turn6, impl_StoreOk.step6, lt_end, cond_false, ev_some]
  simp only [impl_StoreOk, impl_SchemaOk_b h.1, isVersion_b, ev_cond, ev_some, ev_iff hl, FStore]
  clear hl
  repeat' (first | apply And.intro | intro _)
  all_goals (try simp_all)
  all_goals (intros; omega)
/-! copies -/
theorem ev_roomB {α : Type} {n b : Nat} {f : Nat → Nat → Option α} {v : α} : Ev (fun m N => roomB n b (f m N)) v ↔ n * b ≤ 140737488355328 ∧ Ev f v := by
  unfold roomB
  rw [ev_cond]
  by_cases h : n * b ≤ 140737488355328 <;> simp [h, ev_none]
theorem ev_map {α β γ : Type} (d : α) (a : List α) (f : α → β) (L : Nat → Nat → Nat → List β → Option γ) (v : γ)
    (h1 : ∀ i s, i < a.length → s.length = i → ∀ F, Ev (fun n N => L n N (i + 1) (s ++ [f (a.getD i d)])) F → Ev (fun n N => L n (N + 1) i s) F)
    (h2 : Ev (fun n N => L n (N + 1) a.length (a.map f)) v) : Ev (fun n _ => L n n 0 []) v := by
  have key : ∀ j i, j + i = a.length → Ev (fun n N => L n N i ((a.take i).map f)) v := by
    intro j
    induction j with
    | zero =>
      intro i hi
      have : i = a.length := by omega
      subst this
      rw [List.take_of_length_le (Nat.le_refl _)]
      exact ev_round h2
    | succ j ih =>
      intro i hi
      refine ev_round (h1 i _ (by omega) (by simp; omega) _ ?_)
      have := ih (i + 1) (by omega)
      rw [List.take_add_one, List.map_append] at this
      have e : a[i]?.toList = [a.getD i d] := by
        rw [List.getD_eq_getElem?_getD, List.getElem?_eq_getElem (by omega)]; rfl
      rw [e] at this
      exact this
  have := key a.length 0 (by omega)
  exact ev_diag (f := fun n N => L n N 0 []) this
abbrev capR : Nat := 1073741824
section
variable {β : Type} {g : Nat → Nat → List Int → Option β} {gr : Nat → Nat → TRow → Option β} {v : β}
theorem copyInts_b {l : List Int} (h : l.length ≤ capR) : Ev (fun n N => (impl_copyInts n l).bind (g n N)) v ↔ Ev (fun n N => g n N l) v :=
  ev_bind (ev_succ (by simp only [impl_copyInts, ev_roomB, ev_some, List.nil_append, and_true]; simp only [capR] at h; simp; omega))
theorem copyRow_b {r : TRow} (h : r.cells.length ≤ capR) : Ev (fun n N => (impl_copyRow n r).bind (gr n N)) v ↔ Ev (fun n N => gr n N r) v :=
  ev_bind (ev_succ (by simp only [impl_copyRow, copyInts_b h, ev_some]))
theorem l6Copy_b {r : TRow} (h : r.cells.length ≤ capR) : Ev (fun n N => (spec_l6Copy n r).bind (gr n N)) v ↔ Ev (fun n N => gr n N r) v :=
  ev_bind (ev_succ (by simp only [spec_l6Copy, ev_roomB, ev_some, List.nil_append, and_true]; simp only [capR] at h; simp; omega))
end
theorem getD_cellsC {c : Nat} {rows : List TRow} (hr : lenR c rows) (i : Nat) : (rows.getD i TRow.dflt).cells.length ≤ c := by
  by_cases hi : i < rows.length
  · exact hr.2 _ (getD_mem TRow.dflt hi)
  · rw [List.getD_eq_getElem?_getD, List.getElem?_eq_none (by omega)]
    exact Nat.zero_le _
theorem copyRows_ev {rows : List TRow} (h : lenR capR rows) : Ev (fun n _ => impl_copyRows n rows) rows := by
  refine ev_succ ?_
  have hl := h.1
  simp only [capR] at hl
  simp only [impl_copyRows]
  refine ev_map TRow.dflt rows id (fun n N i s => impl_copyRows.loop4 n _ N rows (rows.length : Int) (i : Int) s) rows (fun i s hi hs F hF => ?_) ?_
  · simp only [impl_copyRows.turn4, impl_copyRows.step4, Int.toNat_natCast, W_up hi (show rows.length ≤ topN by simp only [topN]; omega), ev_cond, ev_inB, copyRow_b (getD_cellsC h i), ev_roomB, lt_up hi, in_up hi]
    exact ⟨fun _ => ⟨trivial, by simp; omega, hF⟩, fun h => by cases h⟩
  · simp only [impl_copyRows.turn4, impl_copyRows.step4, lt_end, cond_false, ev_some, List.map_id]
theorem l6Rows_ev {rows : List TRow} (h : lenR capR rows) : Ev (fun n _ => spec_l6Rows n rows) rows := by
  refine ev_succ ?_
  have hl := h.1
  simp only [capR] at hl
  simp only [spec_l6Rows]
  refine ev_map TRow.dflt rows id (fun n N i s => spec_l6Rows.loop4 n _ N rows (i : Int) s) rows (fun i s hi hs F hF => ?_) ?_
  · simp only [spec_l6Rows.turn4, spec_l6Rows.step4, Int.toNat_natCast, W_up hi (show rows.length ≤ topN by simp only [topN]; omega), ev_cond, ev_inB, l6Copy_b (getD_cellsC h i), ev_roomB, lt_up hi, in_up hi]
    exact ⟨fun _ => ⟨trivial, by simp; omega, hF⟩, fun h => by cases h⟩
  · simp only [spec_l6Rows.turn4, spec_l6Rows.step4, lt_end, cond_false, ev_some, List.map_id]
theorem l7Schema_b {β : Type} {s : TSchema} {g : Nat → Nat → TSchema → Option β} {v : β} (h : s.cols.length ≤ capR) : Ev (fun n N => (spec_l7Schema n s).bind (g n N)) v ↔ Ev (fun n N => g n N s) v :=
  ev_bind (ev_succ (by simp only [spec_l7Schema, ev_roomB, ev_some, List.nil_append, and_true]; simp only [capR] at h; simp; omega))
theorem copyStore_ev {s : TStore} (h : lenSt capR s) : Ev (fun n _ => impl_copyStore n s) s := by
  refine ev_succ ?_
  have hl := h.2.1
  simp only [capR] at hl
  simp only [impl_copyStore, copyInts_b h.1]
  refine ev_map [] s.tables id (fun n N i q => impl_copyStore.loop4 n _ N s.tables (s.tables.length : Int) (i : Int) 0 s.version s.schema.cols q) s (fun i q hi hs F hF => ?_) ?_
  · simp only [impl_copyStore.turn4, impl_copyStore.step4, Int.toNat_natCast, W_up hi (show s.tables.length ≤ topN by simp only [topN]; omega), ev_cond, ev_inB, ev_bind (copyRows_ev (getD_rows h.2.2 i)), ev_roomB, lt_up hi, in_up hi]
    exact ⟨fun _ => ⟨trivial, by simp; omega, hF⟩, fun h => by cases h⟩
  · simp only [impl_copyStore.turn4, impl_copyStore.step4, lt_end, cond_false, ev_some, List.map_id]
theorem l7Copy_ev {s : TStore} (h : lenSt capR s) : Ev (fun n _ => spec_l7Copy n s) s := by
  refine ev_succ ?_
  have hl := h.2.1
  simp only [capR] at hl
  simp only [spec_l7Copy, l7Schema_b h.1]
  refine ev_map [] s.tables id (fun n N i q => spec_l7Copy.loop4 n _ N (i : Int) s.schema.cols s.version s.tables 0 s.version s.schema.cols q) s (fun i q hi hs F hF => ?_) ?_
  · simp only [spec_l7Copy.turn4, spec_l7Copy.step4, Int.toNat_natCast, W_up hi (show s.tables.length ≤ topN by simp only [topN]; omega), ev_cond, ev_inB, ev_bind (l6Rows_ev (getD_rows h.2.2 i)), ev_roomB, lt_up hi, in_up hi]
    exact ⟨fun _ => ⟨trivial, by simp; omega, hF⟩, fun h => by cases h⟩
  · simp only [spec_l7Copy.turn4, spec_l7Copy.step4, lt_end, cond_false, ev_some, List.map_id]
end Go.Pi
end
section
set_option linter.unusedVariables false
set_option maxRecDepth 100000
set_option linter.unusedSimpArgs false
namespace Go.Pi
def TSchema.size (s : TSchema) : Nat := (sizeL szI) s.cols
def TSchema.len (s : TSchema) : Prop := (lenL lenI) s.cols
def TCond.size (s : TCond) : Nat := 0
def TCond.len (s : TCond) : Prop := True
def TQuery.size (s : TQuery) : Nat := (sizeL TCond.size) s.where_ + (sizeL szI) s.show_
def TQuery.len (s : TQuery) : Prop := (lenL TCond.len) s.where_ ∧ (lenL lenI) s.show_
def TRow.size (s : TRow) : Nat := (sizeL szI) s.cells
def TRow.len (s : TRow) : Prop := (lenL lenI) s.cells
def TKid.size (s : TKid) : Nat := 0
def TKid.len (s : TKid) : Prop := True
def TView.size (s : TView) : Nat := TQuery.size s.q + (sizeL TRow.size) s.rows + (sizeL TKid.size) s.kids
def TView.len (s : TView) : Prop := TQuery.len s.q ∧ (lenL TRow.len) s.rows ∧ (lenL TKid.len) s.kids
def TSess.size (s : TSess) : Nat := TView.size s.view + TView.size s.last
def TSess.len (s : TSess) : Prop := TView.len s.view ∧ TView.len s.last
def TStore.size (s : TStore) : Nat := TSchema.size s.schema + (sizeL (sizeL TRow.size)) s.tables
def TStore.len (s : TStore) : Prop := TSchema.len s.schema ∧ (lenL (lenL TRow.len)) s.tables
def TChange.size (s : TChange) : Nat := TRow.size s.old + TRow.size s.new
def TChange.len (s : TChange) : Prop := TRow.len s.old ∧ TRow.len s.new
def TRecord.size (s : TRecord) : Nat := TStore.size s.first + (sizeL (sizeL TChange.size)) s.steps
def TRecord.len (s : TRecord) : Prop := TStore.len s.first ∧ (lenL (lenL TChange.len)) s.steps
def TLine.size (s : TLine) : Nat := szB s.wait
def TLine.len (s : TLine) : Prop := lenB s.wait
def TSeat.size (s : TSeat) : Nat := TSess.size s.sess + TLine.size s.line + szB s.sent + szB s.came
def TSeat.len (s : TSeat) : Prop := TSess.len s.sess ∧ TLine.len s.line ∧ lenB s.sent ∧ lenB s.came
def TServer.size (s : TServer) : Nat := TRecord.size s.record + (sizeL TSeat.size) s.seats
def TServer.len (s : TServer) : Prop := TRecord.len s.record ∧ (lenL TSeat.len) s.seats
theorem szIntS_ev {a : List Int} {l : Int} (ha : (lenL lenI) a) (h0 : 0 ≤ l) (h1 : l ≤ 1048576) : Ev (fun n _ => laws_szIntS n a l) (subS l ((sizeL szI) a)) := by
  refine ev_succ ?_
  rw [show (sizeL szI) a = a.length from by unfold sizeL; rw [sumL_zero szI (fun _ => rfl)]; rfl]
  exact ev_szI h0 h1 ha.1
theorem szSchema_ev {a : TSchema} {l : Int} (ha : TSchema.len a) (h0 : 0 ≤ l) (h1 : l ≤ 1048576) : Ev (fun n _ => laws_szSchema n a l) (subS l (TSchema.size a)) := by
  refine ev_succ ?_
  have e : TSchema.size a = (sizeL szI) a.cols + (0) := by simp only [TSchema.size]; omega
  rw [e]; clear e
  have h0_0 := h0; have h0_1 := h1
  exact ev_sz h0_0 h0_1 (szIntS_ev (ha) h0_0 h0_1) fun r1 h1_0 h1_1 => ev_szE h1_0
theorem toIntS_ev {a : List Int} (ha : (sizeL szI) a ≤ cap) : Ev (fun n _ => laws_toIntS n a) a := by
  refine ev_succ ?_
  have hl := sizeL_len szI a
  simp only [cap] at ha
  simp only [laws_toIntS, ev_cond, ev_none, decide_eq_true_eq, decide_eq_false_iff_not, not_true_eq_false]
  refine ⟨fun _ => ⟨fun _ => ⟨fun _ => ?_, fun h => absurd h (by omega)⟩, fun h => absurd h (by omega)⟩, fun h => h⟩
  refine ev_copy 0 a (fun n N i s => laws_toIntS.loop4 n (fun xy2 => (some xy2)) N a (i : Int) s) (fun i s hi hs k => ?_) ?_ _ (by simp)
  · show Ev (fun n N => laws_toIntS.step4 n (fun xy2 => (some xy2)) (laws_toIntS.loop4 n (fun xy2 => (some xy2)) N) a (i : Int) s) a
    simp only [laws_toIntS.step4, Int.toNat_natCast, ev_cond, ev_inB, W_up hi (show a.length ≤ topN by simp only [topN]; omega)]
    exact ⟨fun _ => ⟨⟨by omega, by omega⟩, ⟨by omega, by omega⟩, k⟩, fun h => absurd hi (by simpa using h)⟩
  · show Ev (fun n N => laws_toIntS.step4 n (fun xy2 => (some xy2)) (laws_toIntS.loop4 n (fun xy2 => (some xy2)) N) a (a.length : Int) a) a
    simp only [laws_toIntS.step4, ev_cond, ev_some]
    exact ⟨fun h => absurd (of_decide_eq_true h) (by omega), fun _ => trivial⟩
theorem toSchema_ev {a : TSchema} (ha : TSchema.size a ≤ cap) : Ev (fun n _ => laws_toSchema n a) a := by
  refine ev_succ ?_
  simp only [TSchema.size] at ha
  have h0 := toIntS_ev (a := a.cols) (by omega)
  simp only [laws_toSchema, ev_bind h0, ev_some]
theorem eqIntS_ev {a : List Int} (ha : (sizeL szI) a ≤ topN) : Ev (fun n _ => laws_eqIntS n a a) true := by
  refine ev_succ ?_
  have hl := sizeL_len szI a
  simp only [laws_eqIntS, ev_cond, bne_self_eq_false]
  refine ⟨fun h => (by cases h), fun _ => ?_⟩
  refine ev_up1 (fun n N i => laws_eqIntS.loop6 n (some true) N a a (i : Int)) (fun _ => true) a.length fun i hi k => ?_
  show Ev (fun n N => laws_eqIntS.step6 n (some true) (laws_eqIntS.loop6 n (some true) N) a a (i : Int)) true
  by_cases h : i < a.length
  · simp only [laws_eqIntS.step6, Int.toNat_natCast, ev_cond, ev_inB, bne_self_eq_false, beq_self_eq_true, Bool.not_true, W_up h (show a.length ≤ topN by omega)]
    exact ⟨fun _ => ⟨⟨by omega, by omega⟩, ⟨by omega, by omega⟩, fun h => (by cases h), fun _ => k h⟩, fun h' => absurd h (by simpa using h')⟩
  · simp only [laws_eqIntS.step6, ev_cond, ev_some]
    exact ⟨fun h' => absurd (of_decide_eq_true h') (by omega), fun _ => trivial⟩
theorem eqSchema_ev {a : TSchema} (ha : TSchema.size a ≤ topN) : Ev (fun n _ => laws_eqSchema n a a) true := by
  refine ev_succ ?_
  simp only [TSchema.size] at ha
  have h0 := eqIntS_ev (a := a.cols) (by omega)
  simp only [laws_eqSchema, ev_bind h0, bne_self_eq_false, beq_self_eq_true, Bool.not_true, cond_false, ev_some]
theorem eqCond_ev {a : TCond} (ha : TCond.size a ≤ topN) : Ev (fun n _ => laws_eqCond n a a) true := by
  refine ev_succ ?_
  simp only [laws_eqCond, bne_self_eq_false, beq_self_eq_true, Bool.not_true, cond_false, ev_some]
theorem eqCondS_ev {a : List TCond} (ha : (sizeL TCond.size) a ≤ topN) : Ev (fun n _ => laws_eqCondS n a a) true := by
  refine ev_succ ?_
  have hl := sizeL_len TCond.size a
  simp only [laws_eqCondS, ev_cond, bne_self_eq_false]
  refine ⟨fun h => (by cases h), fun _ => ?_⟩
  refine ev_up1 (fun n N i => laws_eqCondS.loop6 n (some true) N a a (i : Int)) (fun _ => true) a.length fun i hi k => ?_
  show Ev (fun n N => laws_eqCondS.step6 n (some true) (laws_eqCondS.loop6 n (some true) N) a a (i : Int)) true
  by_cases h : i < a.length
  · simp only [laws_eqCondS.step6, Int.toNat_natCast, ev_cond, ev_inB, ev_bind (eqCond_ev (a := a.getD i TCond.dflt) (by have := sizeL_le TCond.size (getD_mem TCond.dflt h); omega)), bne_self_eq_false, beq_self_eq_true, Bool.not_true, W_up h (show a.length ≤ topN by omega)]
    exact ⟨fun _ => ⟨⟨by omega, by omega⟩, ⟨by omega, by omega⟩, fun h => (by cases h), fun _ => k h⟩, fun h' => absurd h (by simpa using h')⟩
  · simp only [laws_eqCondS.step6, ev_cond, ev_some]
    exact ⟨fun h' => absurd (of_decide_eq_true h') (by omega), fun _ => trivial⟩
theorem eqQuery_ev {a : TQuery} (ha : TQuery.size a ≤ topN) : Ev (fun n _ => laws_eqQuery n a a) true := by
  refine ev_succ ?_
  simp only [TQuery.size] at ha
  have h0 := eqCondS_ev (a := a.where_) (by omega)
  have h1 := eqIntS_ev (a := a.show_) (by omega)
  simp only [laws_eqQuery, ev_bind h0, ev_bind h1, bne_self_eq_false, beq_self_eq_true, Bool.not_true, cond_false, ev_some]
theorem eqRow_ev {a : TRow} (ha : TRow.size a ≤ topN) : Ev (fun n _ => laws_eqRow n a a) true := by
  refine ev_succ ?_
  simp only [TRow.size] at ha
  have h0 := eqIntS_ev (a := a.cells) (by omega)
  simp only [laws_eqRow, ev_bind h0, bne_self_eq_false, beq_self_eq_true, Bool.not_true, cond_false, ev_some]
theorem eqRowS_ev {a : List TRow} (ha : (sizeL TRow.size) a ≤ topN) : Ev (fun n _ => laws_eqRowS n a a) true := by
  refine ev_succ ?_
  have hl := sizeL_len TRow.size a
  simp only [laws_eqRowS, ev_cond, bne_self_eq_false]
  refine ⟨fun h => (by cases h), fun _ => ?_⟩
  refine ev_up1 (fun n N i => laws_eqRowS.loop6 n (some true) N a a (i : Int)) (fun _ => true) a.length fun i hi k => ?_
  show Ev (fun n N => laws_eqRowS.step6 n (some true) (laws_eqRowS.loop6 n (some true) N) a a (i : Int)) true
  by_cases h : i < a.length
  · simp only [laws_eqRowS.step6, Int.toNat_natCast, ev_cond, ev_inB, ev_bind (eqRow_ev (a := a.getD i TRow.dflt) (by have := sizeL_le TRow.size (getD_mem TRow.dflt h); omega)), bne_self_eq_false, beq_self_eq_true, Bool.not_true, W_up h (show a.length ≤ topN by omega)]
    exact ⟨fun _ => ⟨⟨by omega, by omega⟩, ⟨by omega, by omega⟩, fun h => (by cases h), fun _ => k h⟩, fun h' => absurd h (by simpa using h')⟩
  · simp only [laws_eqRowS.step6, ev_cond, ev_some]
    exact ⟨fun h' => absurd (of_decide_eq_true h') (by omega), fun _ => trivial⟩
theorem eqKid_ev {a : TKid} (ha : TKid.size a ≤ topN) : Ev (fun n _ => laws_eqKid n a a) true := by
  refine ev_succ ?_
  simp only [laws_eqKid, bne_self_eq_false, beq_self_eq_true, Bool.not_true, cond_false, ev_some]
theorem eqKidS_ev {a : List TKid} (ha : (sizeL TKid.size) a ≤ topN) : Ev (fun n _ => laws_eqKidS n a a) true := by
  refine ev_succ ?_
  have hl := sizeL_len TKid.size a
  simp only [laws_eqKidS, ev_cond, bne_self_eq_false]
  refine ⟨fun h => (by cases h), fun _ => ?_⟩
  refine ev_up1 (fun n N i => laws_eqKidS.loop6 n (some true) N a a (i : Int)) (fun _ => true) a.length fun i hi k => ?_
  show Ev (fun n N => laws_eqKidS.step6 n (some true) (laws_eqKidS.loop6 n (some true) N) a a (i : Int)) true
  by_cases h : i < a.length
  · simp only [laws_eqKidS.step6, Int.toNat_natCast, ev_cond, ev_inB, ev_bind (eqKid_ev (a := a.getD i TKid.dflt) (by have := sizeL_le TKid.size (getD_mem TKid.dflt h); omega)), bne_self_eq_false, beq_self_eq_true, Bool.not_true, W_up h (show a.length ≤ topN by omega)]
    exact ⟨fun _ => ⟨⟨by omega, by omega⟩, ⟨by omega, by omega⟩, fun h => (by cases h), fun _ => k h⟩, fun h' => absurd h (by simpa using h')⟩
  · simp only [laws_eqKidS.step6, ev_cond, ev_some]
    exact ⟨fun h' => absurd (of_decide_eq_true h') (by omega), fun _ => trivial⟩
theorem eqView_ev {a : TView} (ha : TView.size a ≤ topN) : Ev (fun n _ => laws_eqView n a a) true := by
  refine ev_succ ?_
  simp only [TView.size] at ha
  have h0 := eqQuery_ev (a := a.q) (by omega)
  have h1 := eqRowS_ev (a := a.rows) (by omega)
  have h2 := eqKidS_ev (a := a.kids) (by omega)
  simp only [laws_eqView, ev_bind h0, ev_bind h1, ev_bind h2, bne_self_eq_false, beq_self_eq_true, Bool.not_true, cond_false, ev_some]
theorem eqSess_ev {a : TSess} (ha : TSess.size a ≤ topN) : Ev (fun n _ => laws_eqSess n a a) true := by
  refine ev_succ ?_
  simp only [TSess.size] at ha
  have h0 := eqView_ev (a := a.view) (by omega)
  have h1 := eqView_ev (a := a.last) (by omega)
  simp only [laws_eqSess, ev_bind h0, ev_bind h1, bne_self_eq_false, beq_self_eq_true, Bool.not_true, cond_false, ev_some]
theorem eqRowSS_ev {a : List (List TRow)} (ha : (sizeL (sizeL TRow.size)) a ≤ topN) : Ev (fun n _ => laws_eqRowSS n a a) true := by
  refine ev_succ ?_
  have hl := sizeL_len (sizeL TRow.size) a
  simp only [laws_eqRowSS, ev_cond, bne_self_eq_false]
  refine ⟨fun h => (by cases h), fun _ => ?_⟩
  refine ev_up1 (fun n N i => laws_eqRowSS.loop6 n (some true) N a a (i : Int)) (fun _ => true) a.length fun i hi k => ?_
  show Ev (fun n N => laws_eqRowSS.step6 n (some true) (laws_eqRowSS.loop6 n (some true) N) a a (i : Int)) true
  by_cases h : i < a.length
  · simp only [laws_eqRowSS.step6, Int.toNat_natCast, ev_cond, ev_inB, ev_bind (eqRowS_ev (a := a.getD i []) (by have := sizeL_le (sizeL TRow.size) (getD_mem [] h); omega)), bne_self_eq_false, beq_self_eq_true, Bool.not_true, W_up h (show a.length ≤ topN by omega)]
    exact ⟨fun _ => ⟨⟨by omega, by omega⟩, ⟨by omega, by omega⟩, fun h => (by cases h), fun _ => k h⟩, fun h' => absurd h (by simpa using h')⟩
  · simp only [laws_eqRowSS.step6, ev_cond, ev_some]
    exact ⟨fun h' => absurd (of_decide_eq_true h') (by omega), fun _ => trivial⟩
theorem eqStore_ev {a : TStore} (ha : TStore.size a ≤ topN) : Ev (fun n _ => laws_eqStore n a a) true := by
  refine ev_succ ?_
  simp only [TStore.size] at ha
  have h0 := eqSchema_ev (a := a.schema) (by omega)
  have h1 := eqRowSS_ev (a := a.tables) (by omega)
  simp only [laws_eqStore, ev_bind h0, ev_bind h1, bne_self_eq_false, beq_self_eq_true, Bool.not_true, cond_false, ev_some]
theorem eqChange_ev {a : TChange} (ha : TChange.size a ≤ topN) : Ev (fun n _ => laws_eqChange n a a) true := by
  refine ev_succ ?_
  simp only [TChange.size] at ha
  have h0 := eqRow_ev (a := a.old) (by omega)
  have h1 := eqRow_ev (a := a.new) (by omega)
  simp only [laws_eqChange, ev_bind h0, ev_bind h1, bne_self_eq_false, beq_self_eq_true, Bool.not_true, cond_false, ev_some]
theorem eqChangeS_ev {a : List TChange} (ha : (sizeL TChange.size) a ≤ topN) : Ev (fun n _ => laws_eqChangeS n a a) true := by
  refine ev_succ ?_
  have hl := sizeL_len TChange.size a
  simp only [laws_eqChangeS, ev_cond, bne_self_eq_false]
  refine ⟨fun h => (by cases h), fun _ => ?_⟩
  refine ev_up1 (fun n N i => laws_eqChangeS.loop6 n (some true) N a a (i : Int)) (fun _ => true) a.length fun i hi k => ?_
  show Ev (fun n N => laws_eqChangeS.step6 n (some true) (laws_eqChangeS.loop6 n (some true) N) a a (i : Int)) true
  by_cases h : i < a.length
  · simp only [laws_eqChangeS.step6, Int.toNat_natCast, ev_cond, ev_inB, ev_bind (eqChange_ev (a := a.getD i TChange.dflt) (by have := sizeL_le TChange.size (getD_mem TChange.dflt h); omega)), bne_self_eq_false, beq_self_eq_true, Bool.not_true, W_up h (show a.length ≤ topN by omega)]
    exact ⟨fun _ => ⟨⟨by omega, by omega⟩, ⟨by omega, by omega⟩, fun h => (by cases h), fun _ => k h⟩, fun h' => absurd h (by simpa using h')⟩
  · simp only [laws_eqChangeS.step6, ev_cond, ev_some]
    exact ⟨fun h' => absurd (of_decide_eq_true h') (by omega), fun _ => trivial⟩
theorem eqChangeSS_ev {a : List (List TChange)} (ha : (sizeL (sizeL TChange.size)) a ≤ topN) : Ev (fun n _ => laws_eqChangeSS n a a) true := by
  refine ev_succ ?_
  have hl := sizeL_len (sizeL TChange.size) a
  simp only [laws_eqChangeSS, ev_cond, bne_self_eq_false]
  refine ⟨fun h => (by cases h), fun _ => ?_⟩
  refine ev_up1 (fun n N i => laws_eqChangeSS.loop6 n (some true) N a a (i : Int)) (fun _ => true) a.length fun i hi k => ?_
  show Ev (fun n N => laws_eqChangeSS.step6 n (some true) (laws_eqChangeSS.loop6 n (some true) N) a a (i : Int)) true
  by_cases h : i < a.length
  · simp only [laws_eqChangeSS.step6, Int.toNat_natCast, ev_cond, ev_inB, ev_bind (eqChangeS_ev (a := a.getD i []) (by have := sizeL_le (sizeL TChange.size) (getD_mem [] h); omega)), bne_self_eq_false, beq_self_eq_true, Bool.not_true, W_up h (show a.length ≤ topN by omega)]
    exact ⟨fun _ => ⟨⟨by omega, by omega⟩, ⟨by omega, by omega⟩, fun h => (by cases h), fun _ => k h⟩, fun h' => absurd h (by simpa using h')⟩
  · simp only [laws_eqChangeSS.step6, ev_cond, ev_some]
    exact ⟨fun h' => absurd (of_decide_eq_true h') (by omega), fun _ => trivial⟩
theorem eqRecord_ev {a : TRecord} (ha : TRecord.size a ≤ topN) : Ev (fun n _ => laws_eqRecord n a a) true := by
  refine ev_succ ?_
  simp only [TRecord.size] at ha
  have h0 := eqStore_ev (a := a.first) (by omega)
  have h1 := eqChangeSS_ev (a := a.steps) (by omega)
  simp only [laws_eqRecord, ev_bind h0, ev_bind h1, bne_self_eq_false, beq_self_eq_true, Bool.not_true, cond_false, ev_some]
theorem eqLine_ev {a : TLine} (ha : TLine.size a ≤ topN) : Ev (fun n _ => laws_eqLine n a a) true := by
  refine ev_succ ?_
  simp only [laws_eqLine, bne_self_eq_false, beq_self_eq_true, Bool.not_true, cond_false, ev_some]
theorem eqSeat_ev {a : TSeat} (ha : TSeat.size a ≤ topN) : Ev (fun n _ => laws_eqSeat n a a) true := by
  refine ev_succ ?_
  simp only [TSeat.size] at ha
  have h0 := eqSess_ev (a := a.sess) (by omega)
  have h1 := eqLine_ev (a := a.line) (by omega)
  simp only [laws_eqSeat, ev_bind h0, ev_bind h1, bne_self_eq_false, beq_self_eq_true, Bool.not_true, cond_false, ev_some]
theorem eqSeatS_ev {a : List TSeat} (ha : (sizeL TSeat.size) a ≤ topN) : Ev (fun n _ => laws_eqSeatS n a a) true := by
  refine ev_succ ?_
  have hl := sizeL_len TSeat.size a
  simp only [laws_eqSeatS, ev_cond, bne_self_eq_false]
  refine ⟨fun h => (by cases h), fun _ => ?_⟩
  refine ev_up1 (fun n N i => laws_eqSeatS.loop6 n (some true) N a a (i : Int)) (fun _ => true) a.length fun i hi k => ?_
  show Ev (fun n N => laws_eqSeatS.step6 n (some true) (laws_eqSeatS.loop6 n (some true) N) a a (i : Int)) true
  by_cases h : i < a.length
  · simp only [laws_eqSeatS.step6, Int.toNat_natCast, ev_cond, ev_inB, ev_bind (eqSeat_ev (a := a.getD i TSeat.dflt) (by have := sizeL_le TSeat.size (getD_mem TSeat.dflt h); omega)), bne_self_eq_false, beq_self_eq_true, Bool.not_true, W_up h (show a.length ≤ topN by omega)]
    exact ⟨fun _ => ⟨⟨by omega, by omega⟩, ⟨by omega, by omega⟩, fun h => (by cases h), fun _ => k h⟩, fun h' => absurd h (by simpa using h')⟩
  · simp only [laws_eqSeatS.step6, ev_cond, ev_some]
    exact ⟨fun h' => absurd (of_decide_eq_true h') (by omega), fun _ => trivial⟩
theorem eqServer_ev {a : TServer} (ha : TServer.size a ≤ topN) : Ev (fun n _ => laws_eqServer n a a) true := by
  refine ev_succ ?_
  simp only [TServer.size] at ha
  have h0 := eqRecord_ev (a := a.record) (by omega)
  have h1 := eqSeatS_ev (a := a.seats) (by omega)
  simp only [laws_eqServer, ev_bind h0, ev_bind h1, bne_self_eq_false, beq_self_eq_true, Bool.not_true, cond_false, ev_some]
theorem markIntS_ev {a : List Int} {k : Int} (ha : a.length ≤ topN) (hk : 0 ≤ k) (hb : k + 32 * ((sizeL szI) a : Nat) ≤ topN) :
    ∃ k' a', k ≤ k' ∧ k' ≤ k + 32 * ((sizeL szI) a : Nat) ∧ a'.length = a.length ∧ Ev (fun n _ => laws_markIntS n a k) (k', a') ∧ Ev (fun n _ => laws_heldIntS n a' k) k' := by
  refine (mark_list 0 szI (fun n N k i a => laws_markIntS.loop3 n (fun xy2 xy3 => (some (xy2, xy3))) N k (i : Int) a) (fun n N a k i => laws_heldIntS.loop3 n (fun xy1 => (some xy1)) N a k (i : Int)) (fun i a k hi ha hk hb => ?_) (fun a k => ?_) (fun a k => ?_) a k ha hk hb).elim fun k' ⟨a', h1, h2, h3, h4, h5⟩ => ⟨k', a', h1, h2, h3, ev_succ h4, ev_succ h5⟩
  · generalize hx : a.getD i 0 = x at *
    simp only [szI] at hb ⊢
    
    refine ⟨k + 1, k, by omega, by omega, fun F hF => ?_, fun b F hi' hb' hxb hF => ?_⟩
    · show Ev (fun n N => laws_markIntS.step3 n (fun xy2 xy3 => (some (xy2, xy3))) (laws_markIntS.loop3 n (fun xy2 xy3 => (some (xy2, xy3))) N) k (i : Int) a) F
      simp only [laws_markIntS.step3, Int.toNat_natCast, ev_cond, ev_inB, List.length_set, List.set_set, getD_put 0 hi, hx, W_next (k := k) (by omega) (by omega), W_up hi ha, decide_eq_true_eq, decide_eq_false_iff_not, Nat.beq_refl]
      refine ⟨fun _ => ?_, fun h => absurd hi (by simpa using h)⟩
      repeat' (first | exact hF | apply And.intro | intro _ | omega)
      all_goals (first | exact hF | (simp_all; done) | omega)
    · show Ev (fun n N => laws_heldIntS.step3 n (fun xy1 => (some xy1)) (laws_heldIntS.loop3 n (fun xy1 => (some xy1)) N) b k (i : Int)) F
      simp only [laws_heldIntS.step3, Int.toNat_natCast, ev_cond, ev_inB, hxb, bne_self_eq_false, beq_self_eq_true, Bool.not_true, cond_false, W_next (k := k) (by omega) (by omega), W_up hi' hb', decide_eq_true_eq, decide_eq_false_iff_not]
      refine ⟨fun _ => ?_, fun h => absurd hi' (by simpa using h)⟩
      repeat' (first | exact hF | apply And.intro | intro _ | omega)
      all_goals (first | exact hF | (simp_all; done) | omega)
  · show Ev (fun n N => laws_markIntS.step3 n (fun xy2 xy3 => (some (xy2, xy3))) (laws_markIntS.loop3 n (fun xy2 xy3 => (some (xy2, xy3))) N) k (a.length : Int) a) _
    simp only [laws_markIntS.step3, ev_cond, ev_some]
    exact ⟨fun h => absurd (of_decide_eq_true h) (by omega), fun _ => trivial⟩
  · show Ev (fun n N => laws_heldIntS.step3 n (fun xy1 => (some xy1)) (laws_heldIntS.loop3 n (fun xy1 => (some xy1)) N) a k (a.length : Int)) _
    simp only [laws_heldIntS.step3, ev_cond, ev_some]
    exact ⟨fun h => absurd (of_decide_eq_true h) (by omega), fun _ => trivial⟩
theorem markSchema_ev {a : TSchema} {k : Int} (hk : 0 ≤ k) (hb : k + 32 * (TSchema.size a : Nat) ≤ topN) :
    ∃ k' y0, k ≤ k' ∧ k' ≤ k + 32 * (TSchema.size a : Nat) ∧ y0.length = a.cols.length ∧ Ev (fun n _ => laws_markSchema n a k) (k', y0) ∧ Ev (fun n _ => laws_heldSchema n (TSchema.mk y0) k) k' := by
  simp only [TSchema.size] at hb ⊢
  obtain ⟨k0, y0, u0, v0, ly0, e0, g0⟩ := markIntS_ev (a := a.cols) (k := k) (by have := sizeL_len szI (a.cols); omega) (by omega) (by omega)
  refine ⟨k0, y0, by omega, by omega, ly0, ev_succ ?_, ev_succ ?_⟩
  · simp only [laws_markSchema, ev_bind e0, ly0, Nat.beq_refl, List.length_nil, cond_true, ev_some]
  · simp only [laws_heldSchema, ev_bind g0, ev_cond, ev_some, decide_eq_true_eq, decide_eq_false_iff_not]
    repeat' (first | apply And.intro | intro _)
    all_goals (first | trivial | rfl | (exfalso; omega) | omega)
theorem markRowS_ev {a : List TRow} {k : Int} (ha : a.length ≤ topN) (hk : 0 ≤ k) (hb : k + 32 * ((sizeL TRow.size) a : Nat) ≤ topN) :
    ∃ k' a', k ≤ k' ∧ k' ≤ k + 32 * ((sizeL TRow.size) a : Nat) ∧ a'.length = a.length ∧ Ev (fun n _ => laws_markRowS n a k) (k', a') ∧ Ev (fun n _ => laws_heldRowS n a' k) k' := by
  refine (mark_list TRow.dflt TRow.size (fun n N k i a => laws_markRowS.loop3 n (fun xy4 xy5 => (some (xy4, xy5))) N k (i : Int) a) (fun n N a k i => laws_heldRowS.loop3 n (fun xy2 => (some xy2)) N a k (i : Int)) (fun i a k hi ha hk hb => ?_) (fun a k => ?_) (fun a k => ?_) a k ha hk hb).elim fun k' ⟨a', h1, h2, h3, h4, h5⟩ => ⟨k', a', h1, h2, h3, ev_succ h4, ev_succ h5⟩
  · generalize hx : a.getD i TRow.dflt = x at *
    simp only [TRow.size] at hb ⊢
    obtain ⟨k1, y1, u1, v1, l1, e1, g1⟩ := markIntS_ev (a := x.cells) (k := k + 1) (by have := sizeL_len szI (x.cells); omega) (by omega) (by omega)
    refine ⟨k1, (TRow.mk k y1), by omega, by omega, fun F hF => ?_, fun b F hi' hb' hxb hF => ?_⟩
    · show Ev (fun n N => laws_markRowS.step3 n (fun xy4 xy5 => (some (xy4, xy5))) (laws_markRowS.loop3 n (fun xy4 xy5 => (some (xy4, xy5))) N) k (i : Int) a) F
      simp only [laws_markRowS.step3, Int.toNat_natCast, ev_cond, ev_inB, List.length_set, List.set_set, getD_put TRow.dflt hi, hx, ev_bind e1, W_next (k := k) (by omega) (by omega), l1, W_up hi ha, decide_eq_true_eq, decide_eq_false_iff_not, Nat.beq_refl]
      refine ⟨fun _ => ?_, fun h => absurd hi (by simpa using h)⟩
      repeat' (first | exact hF | apply And.intro | intro _ | omega)
      all_goals (first | exact hF | (simp_all; done) | omega)
    · show Ev (fun n N => laws_heldRowS.step3 n (fun xy2 => (some xy2)) (laws_heldRowS.loop3 n (fun xy2 => (some xy2)) N) b k (i : Int)) F
      simp only [laws_heldRowS.step3, Int.toNat_natCast, ev_cond, ev_inB, hxb, bne_self_eq_false, beq_self_eq_true, Bool.not_true, cond_false, ev_bind g1, W_next (k := k) (by omega) (by omega), l1, W_up hi' hb', decide_eq_true_eq, decide_eq_false_iff_not]
      refine ⟨fun _ => ?_, fun h => absurd hi' (by simpa using h)⟩
      repeat' (first | exact hF | apply And.intro | intro _ | omega)
      all_goals (first | exact hF | (simp_all; done) | omega)
  · show Ev (fun n N => laws_markRowS.step3 n (fun xy4 xy5 => (some (xy4, xy5))) (laws_markRowS.loop3 n (fun xy4 xy5 => (some (xy4, xy5))) N) k (a.length : Int) a) _
    simp only [laws_markRowS.step3, ev_cond, ev_some]
    exact ⟨fun h => absurd (of_decide_eq_true h) (by omega), fun _ => trivial⟩
  · show Ev (fun n N => laws_heldRowS.step3 n (fun xy2 => (some xy2)) (laws_heldRowS.loop3 n (fun xy2 => (some xy2)) N) a k (a.length : Int)) _
    simp only [laws_heldRowS.step3, ev_cond, ev_some]
    exact ⟨fun h => absurd (of_decide_eq_true h) (by omega), fun _ => trivial⟩
theorem markRowSS_ev {a : List (List TRow)} {k : Int} (ha : a.length ≤ topN) (hk : 0 ≤ k) (hb : k + 32 * ((sizeL (sizeL TRow.size)) a : Nat) ≤ topN) :
    ∃ k' a', k ≤ k' ∧ k' ≤ k + 32 * ((sizeL (sizeL TRow.size)) a : Nat) ∧ a'.length = a.length ∧ Ev (fun n _ => laws_markRowSS n a k) (k', a') ∧ Ev (fun n _ => laws_heldRowSS n a' k) k' := by
  refine (mark_list [] (sizeL TRow.size) (fun n N k i a => laws_markRowSS.loop3 n (fun xy3 xy4 => (some (xy3, xy4))) N k (i : Int) a) (fun n N a k i => laws_heldRowSS.loop3 n (fun xy2 => (some xy2)) N a k (i : Int)) (fun i a k hi ha hk hb => ?_) (fun a k => ?_) (fun a k => ?_) a k ha hk hb).elim fun k' ⟨a', h1, h2, h3, h4, h5⟩ => ⟨k', a', h1, h2, h3, ev_succ h4, ev_succ h5⟩
  · generalize hx : a.getD i [] = x at *
    obtain ⟨k0, y0, u0, v0, l0, e0, g0⟩ := markRowS_ev (a := x) (k := k) (by have := sizeL_len TRow.size (x); omega) (by omega) (by omega)
    refine ⟨k0, y0, by omega, by omega, fun F hF => ?_, fun b F hi' hb' hxb hF => ?_⟩
    · show Ev (fun n N => laws_markRowSS.step3 n (fun xy3 xy4 => (some (xy3, xy4))) (laws_markRowSS.loop3 n (fun xy3 xy4 => (some (xy3, xy4))) N) k (i : Int) a) F
      simp only [laws_markRowSS.step3, Int.toNat_natCast, ev_cond, ev_inB, List.length_set, List.set_set, getD_put [] hi, hx, ev_bind e0, l0, W_up hi ha, decide_eq_true_eq, decide_eq_false_iff_not, Nat.beq_refl]
      refine ⟨fun _ => ?_, fun h => absurd hi (by simpa using h)⟩
      repeat' (first | exact hF | apply And.intro | intro _ | omega)
      all_goals (first | exact hF | (simp_all; done) | omega)
    · show Ev (fun n N => laws_heldRowSS.step3 n (fun xy2 => (some xy2)) (laws_heldRowSS.loop3 n (fun xy2 => (some xy2)) N) b k (i : Int)) F
      simp only [laws_heldRowSS.step3, Int.toNat_natCast, ev_cond, ev_inB, hxb, bne_self_eq_false, beq_self_eq_true, Bool.not_true, cond_false, ev_bind g0, l0, W_up hi' hb', decide_eq_true_eq, decide_eq_false_iff_not]
      refine ⟨fun _ => ?_, fun h => absurd hi' (by simpa using h)⟩
      repeat' (first | exact hF | apply And.intro | intro _ | omega)
      all_goals (first | exact hF | (simp_all; done) | omega)
  · show Ev (fun n N => laws_markRowSS.step3 n (fun xy3 xy4 => (some (xy3, xy4))) (laws_markRowSS.loop3 n (fun xy3 xy4 => (some (xy3, xy4))) N) k (a.length : Int) a) _
    simp only [laws_markRowSS.step3, ev_cond, ev_some]
    exact ⟨fun h => absurd (of_decide_eq_true h) (by omega), fun _ => trivial⟩
  · show Ev (fun n N => laws_heldRowSS.step3 n (fun xy2 => (some xy2)) (laws_heldRowSS.loop3 n (fun xy2 => (some xy2)) N) a k (a.length : Int)) _
    simp only [laws_heldRowSS.step3, ev_cond, ev_some]
    exact ⟨fun h => absurd (of_decide_eq_true h) (by omega), fun _ => trivial⟩
theorem markStore_ev {a : TStore} {k : Int} (hk : 0 ≤ k) (hb : k + 32 * (TStore.size a : Nat) ≤ topN) :
    ∃ k' y0 y1, k ≤ k' ∧ k' ≤ k + 32 * (TStore.size a : Nat) ∧ y0.length = a.schema.cols.length ∧ y1.length = a.tables.length ∧ Ev (fun n _ => laws_markStore n a k) (k', y0, y1) ∧ Ev (fun n _ => laws_heldStore n (TStore.mk (TSchema.mk y0) a.version y1) k) k' := by
  simp only [TStore.size] at hb ⊢
  obtain ⟨k0, y0, u0, v0, ly0, e0, g0⟩ := markSchema_ev (a := a.schema) (k := k) (by omega) (by omega)
  obtain ⟨k2, y1, u2, v2, ly1, e2, g2⟩ := markRowSS_ev (a := a.tables) (k := k0) (by have := sizeL_len (sizeL TRow.size) (a.tables); omega) (by omega) (by omega)
  refine ⟨k2, y0, y1, by omega, by omega, ly0, ly1, ev_succ ?_, ev_succ ?_⟩
  · simp only [laws_markStore, ev_bind e0, ev_bind e2, ly0, ly1, Nat.beq_refl, List.length_nil, cond_true, ev_some]
  · simp only [laws_heldStore, ev_bind g0, ev_bind g2, ev_cond, ev_some, decide_eq_true_eq, decide_eq_false_iff_not]
    repeat' (first | apply And.intro | intro _)
    all_goals (first | trivial | rfl | (exfalso; omega) | omega)
theorem markChangeS_ev {a : List TChange} {k : Int} (ha : a.length ≤ topN) (hk : 0 ≤ k) (hb : k + 32 * ((sizeL TChange.size) a : Nat) ≤ topN) :
    ∃ k' a', k ≤ k' ∧ k' ≤ k + 32 * ((sizeL TChange.size) a : Nat) ∧ a'.length = a.length ∧ Ev (fun n _ => laws_markChangeS n a k) (k', a') ∧ Ev (fun n _ => laws_heldChangeS n a' k) k' := by
  refine (mark_list TChange.dflt TChange.size (fun n N k i a => laws_markChangeS.loop3 n (fun xy10 xy11 => (some (xy10, xy11))) N k (i : Int) a) (fun n N a k i => laws_heldChangeS.loop3 n (fun xy6 => (some xy6)) N a k (i : Int)) (fun i a k hi ha hk hb => ?_) (fun a k => ?_) (fun a k => ?_) a k ha hk hb).elim fun k' ⟨a', h1, h2, h3, h4, h5⟩ => ⟨k', a', h1, h2, h3, ev_succ h4, ev_succ h5⟩
  · generalize hx : a.getD i TChange.dflt = x at *
    simp only [TChange.size, TRow.size] at hb ⊢
    obtain ⟨k4, y4, u4, v4, l4, e4, g4⟩ := markIntS_ev (a := x.old.cells) (k := (((k + 1) + 1) + 1) + 1) (by have := sizeL_len szI (x.old.cells); omega) (by omega) (by omega)
    obtain ⟨k6, y6, u6, v6, l6, e6, g6⟩ := markIntS_ev (a := x.new.cells) (k := k4 + 1) (by have := sizeL_len szI (x.new.cells); omega) (by omega) (by omega)
    refine ⟨k6, (TChange.mk k (Int.tmod (k + 1) 3 == 0) (Int.tmod ((k + 1) + 1) 3 == 0) (TRow.mk (((k + 1) + 1) + 1) y4) (TRow.mk k4 y6)), by omega, by omega, fun F hF => ?_, fun b F hi' hb' hxb hF => ?_⟩
    · show Ev (fun n N => laws_markChangeS.step3 n (fun xy10 xy11 => (some (xy10, xy11))) (laws_markChangeS.loop3 n (fun xy10 xy11 => (some (xy10, xy11))) N) k (i : Int) a) F
      simp only [laws_markChangeS.step3, Int.toNat_natCast, ev_cond, ev_inB, List.length_set, List.set_set, getD_put TChange.dflt hi, hx, ev_bind e4, ev_bind e6, W_next (k := k) (by omega) (by omega), W_next (k := k + 1) (by omega) (by omega), W_next (k := (k + 1) + 1) (by omega) (by omega), W_next (k := ((k + 1) + 1) + 1) (by omega) (by omega), l4, W_next (k := k4) (by omega) (by omega), l6, W_up hi ha, decide_eq_true_eq, decide_eq_false_iff_not, Nat.beq_refl]
      refine ⟨fun _ => ?_, fun h => absurd hi (by simpa using h)⟩
      repeat' (first | exact hF | apply And.intro | intro _ | omega)
      all_goals (first | exact hF | (simp_all; done) | omega)
    · show Ev (fun n N => laws_heldChangeS.step3 n (fun xy6 => (some xy6)) (laws_heldChangeS.loop3 n (fun xy6 => (some xy6)) N) b k (i : Int)) F
      simp only [laws_heldChangeS.step3, Int.toNat_natCast, ev_cond, ev_inB, hxb, bne_self_eq_false, beq_self_eq_true, Bool.not_true, cond_false, ev_bind g4, ev_bind g6, W_next (k := k) (by omega) (by omega), W_next (k := k + 1) (by omega) (by omega), W_next (k := (k + 1) + 1) (by omega) (by omega), W_next (k := ((k + 1) + 1) + 1) (by omega) (by omega), l4, W_next (k := k4) (by omega) (by omega), l6, W_up hi' hb', decide_eq_true_eq, decide_eq_false_iff_not]
      refine ⟨fun _ => ?_, fun h => absurd hi' (by simpa using h)⟩
      repeat' (first | exact hF | apply And.intro | intro _ | omega)
      all_goals (first | exact hF | (simp_all; done) | omega)
  · show Ev (fun n N => laws_markChangeS.step3 n (fun xy10 xy11 => (some (xy10, xy11))) (laws_markChangeS.loop3 n (fun xy10 xy11 => (some (xy10, xy11))) N) k (a.length : Int) a) _
    simp only [laws_markChangeS.step3, ev_cond, ev_some]
    exact ⟨fun h => absurd (of_decide_eq_true h) (by omega), fun _ => trivial⟩
  · show Ev (fun n N => laws_heldChangeS.step3 n (fun xy6 => (some xy6)) (laws_heldChangeS.loop3 n (fun xy6 => (some xy6)) N) a k (a.length : Int)) _
    simp only [laws_heldChangeS.step3, ev_cond, ev_some]
    exact ⟨fun h => absurd (of_decide_eq_true h) (by omega), fun _ => trivial⟩
theorem markChangeSS_ev {a : List (List TChange)} {k : Int} (ha : a.length ≤ topN) (hk : 0 ≤ k) (hb : k + 32 * ((sizeL (sizeL TChange.size)) a : Nat) ≤ topN) :
    ∃ k' a', k ≤ k' ∧ k' ≤ k + 32 * ((sizeL (sizeL TChange.size)) a : Nat) ∧ a'.length = a.length ∧ Ev (fun n _ => laws_markChangeSS n a k) (k', a') ∧ Ev (fun n _ => laws_heldChangeSS n a' k) k' := by
  refine (mark_list [] (sizeL TChange.size) (fun n N k i a => laws_markChangeSS.loop3 n (fun xy3 xy4 => (some (xy3, xy4))) N k (i : Int) a) (fun n N a k i => laws_heldChangeSS.loop3 n (fun xy2 => (some xy2)) N a k (i : Int)) (fun i a k hi ha hk hb => ?_) (fun a k => ?_) (fun a k => ?_) a k ha hk hb).elim fun k' ⟨a', h1, h2, h3, h4, h5⟩ => ⟨k', a', h1, h2, h3, ev_succ h4, ev_succ h5⟩
  · generalize hx : a.getD i [] = x at *
    obtain ⟨k0, y0, u0, v0, l0, e0, g0⟩ := markChangeS_ev (a := x) (k := k) (by have := sizeL_len TChange.size (x); omega) (by omega) (by omega)
    refine ⟨k0, y0, by omega, by omega, fun F hF => ?_, fun b F hi' hb' hxb hF => ?_⟩
    · show Ev (fun n N => laws_markChangeSS.step3 n (fun xy3 xy4 => (some (xy3, xy4))) (laws_markChangeSS.loop3 n (fun xy3 xy4 => (some (xy3, xy4))) N) k (i : Int) a) F
      simp only [laws_markChangeSS.step3, Int.toNat_natCast, ev_cond, ev_inB, List.length_set, List.set_set, getD_put [] hi, hx, ev_bind e0, l0, W_up hi ha, decide_eq_true_eq, decide_eq_false_iff_not, Nat.beq_refl]
      refine ⟨fun _ => ?_, fun h => absurd hi (by simpa using h)⟩
      repeat' (first | exact hF | apply And.intro | intro _ | omega)
      all_goals (first | exact hF | (simp_all; done) | omega)
    · show Ev (fun n N => laws_heldChangeSS.step3 n (fun xy2 => (some xy2)) (laws_heldChangeSS.loop3 n (fun xy2 => (some xy2)) N) b k (i : Int)) F
      simp only [laws_heldChangeSS.step3, Int.toNat_natCast, ev_cond, ev_inB, hxb, bne_self_eq_false, beq_self_eq_true, Bool.not_true, cond_false, ev_bind g0, l0, W_up hi' hb', decide_eq_true_eq, decide_eq_false_iff_not]
      refine ⟨fun _ => ?_, fun h => absurd hi' (by simpa using h)⟩
      repeat' (first | exact hF | apply And.intro | intro _ | omega)
      all_goals (first | exact hF | (simp_all; done) | omega)
  · show Ev (fun n N => laws_markChangeSS.step3 n (fun xy3 xy4 => (some (xy3, xy4))) (laws_markChangeSS.loop3 n (fun xy3 xy4 => (some (xy3, xy4))) N) k (a.length : Int) a) _
    simp only [laws_markChangeSS.step3, ev_cond, ev_some]
    exact ⟨fun h => absurd (of_decide_eq_true h) (by omega), fun _ => trivial⟩
  · show Ev (fun n N => laws_heldChangeSS.step3 n (fun xy2 => (some xy2)) (laws_heldChangeSS.loop3 n (fun xy2 => (some xy2)) N) a k (a.length : Int)) _
    simp only [laws_heldChangeSS.step3, ev_cond, ev_some]
    exact ⟨fun h => absurd (of_decide_eq_true h) (by omega), fun _ => trivial⟩
theorem markRecord_ev {a : TRecord} {k : Int} (hk : 0 ≤ k) (hb : k + 32 * (TRecord.size a : Nat) ≤ topN) :
    ∃ k' y0 y1 y2, k ≤ k' ∧ k' ≤ k + 32 * (TRecord.size a : Nat) ∧ y0.length = a.first.schema.cols.length ∧ y1.length = a.first.tables.length ∧ y2.length = a.steps.length ∧ Ev (fun n _ => laws_markRecord n a k) (k', y0, y1, y2) ∧ Ev (fun n _ => laws_heldRecord n (TRecord.mk (TStore.mk (TSchema.mk y0) a.first.version y1) y2) k) k' := by
  simp only [TRecord.size] at hb ⊢
  obtain ⟨k0, y0, y1, u0, v0, ly0, ly1, e0, g0⟩ := markStore_ev (a := a.first) (k := k) (by omega) (by omega)
  obtain ⟨k1, y2, u1, v1, ly2, e1, g1⟩ := markChangeSS_ev (a := a.steps) (k := k0) (by have := sizeL_len (sizeL TChange.size) (a.steps); omega) (by omega) (by omega)
  refine ⟨k1, y0, y1, y2, by omega, by omega, ly0, ly1, ly2, ev_succ ?_, ev_succ ?_⟩
  · simp only [laws_markRecord, ev_bind e0, ev_bind e1, ly0, ly1, ly2, Nat.beq_refl, List.length_nil, cond_true, ev_some]
  · simp only [laws_heldRecord, ev_bind g0, ev_bind g1, ev_cond, ev_some, decide_eq_true_eq, decide_eq_false_iff_not]
    repeat' (first | apply And.intro | intro _)
    all_goals (first | trivial | rfl | (exfalso; omega) | omega)
theorem markSeatS_nil (k : Int) : Ev (fun n _ => laws_markSeatS n [] k) (k, []) := by
  refine ev_succ (ev_diag (f := fun n N => laws_markSeatS.loop3 n (fun xy44 xy45 => (some (xy44, xy45))) N k 0 []) (ev_round ?_))
  exact ⟨0, fun _ _ _ _ => rfl⟩
theorem heldSeatS_nil (k : Int) : Ev (fun n _ => laws_heldSeatS n [] k) k := by
  refine ev_succ (ev_diag (f := fun n N => laws_heldSeatS.loop3 n (fun xy27 => (some xy27)) N [] k 0) (ev_round ?_))
  exact ⟨0, fun _ _ _ _ => rfl⟩
theorem markServer_ev {a : TServer} {k : Int} (hz1 : a.seats = []) (hk : 0 ≤ k) (hb : k + 32 * (TServer.size a : Nat) ≤ topN) :
    ∃ k' y0 y1 y2, k ≤ k' ∧ k' ≤ k + 32 * (TServer.size a : Nat) ∧ y0.length = a.record.first.schema.cols.length ∧ y1.length = a.record.first.tables.length ∧ y2.length = a.record.steps.length ∧ Ev (fun n _ => laws_markServer n a k) (k', y0, y1, y2, []) ∧ Ev (fun n _ => laws_heldServer n (TServer.mk (TRecord.mk (TStore.mk (TSchema.mk y0) a.record.first.version y1) y2) []) k) k' := by
  simp only [TServer.size] at hb ⊢
  obtain ⟨k0, y0, y1, y2, u0, v0, ly0, ly1, ly2, e0, g0⟩ := markRecord_ev (a := a.record) (k := k) (by omega) (by omega)
  refine ⟨k0, y0, y1, y2, by omega, by omega, ly0, ly1, ly2, ev_succ ?_, ev_succ ?_⟩
  · simp only [laws_markServer, ev_bind e0, hz1, ev_bind (markSeatS_nil (k0)), ly0, ly1, ly2, Nat.beq_refl, List.length_nil, cond_true, ev_some]
  · simp only [laws_heldServer, ev_bind g0, ev_bind (heldSeatS_nil (k0)), ev_cond, ev_some, decide_eq_true_eq, decide_eq_false_iff_not]
    repeat' (first | apply And.intro | intro _)
    all_goals (first | trivial | rfl | (exfalso; omega) | omega)
end Go.Pi
end
section
set_option linter.unusedVariables false
set_option maxRecDepth 100000
set_option linter.unusedSimpArgs false
namespace Go.Pi
def newStore (s : TSchema) : TStore := ⟨s, 0, List.replicate s.cols.length []⟩
theorem allN_true {p : Nat → Bool} {len : Nat} (h : ∀ i, i < len → p i = true) : allN p len = true := by
  have key : ∀ d i, d + i = len → allFrom p d i = true := by
    intro d
    induction d with
    | zero => intro i _; rfl
    | succ d ih => intro i hd; simp only [allFrom, h i (by omega), ih (i + 1) (by omega), Bool.and_self]
  exact key len 0 (by omega)
theorem FStore_new {s : TSchema} (hs : s.cols.length ≤ topN) : FStore (newStore s) = FSchema s := by
  cases h : FSchema s with
  | false => simp [FStore, newStore, h]
  | true =>
    have h1 : FTables s (List.replicate s.cols.length []) = true := by
      refine allN_true fun i hi => ?_
      rw [List.length_replicate] at hi
      have e : (List.replicate s.cols.length ([] : List TRow)).getD i [] = [] := by
        rw [List.getD_eq_getElem?_getD, List.getElem?_replicate]; split <;> rfl
      rw [e]
      simp only [FRowsOk, List.length_nil, h, Bool.true_and, W_dn hs, inn, allN, allFrom]
      simp; omega
    simp only [FStore, newStore, h, h1, List.length_replicate, Bool.true_and, decide_true, Bool.and_true]
    decide
theorem lenSt_new {c : Nat} {s : TSchema} (hs : s.cols.length ≤ c) : lenSt c (newStore s) := by
  refine ⟨hs, ?_, fun x hx => ?_⟩
  · simp only [newStore, List.length_replicate]; exact hs
  · simp only [newStore] at hx
    rw [List.eq_of_mem_replicate hx]
    exact ⟨Nat.zero_le _, fun x hx => by cases hx⟩
def zStore : TStore := ⟨⟨[]⟩, 0, []⟩
def FNew (s : TSchema) : TStore × Bool := cond (FSchema s) (newStore s, true) (zStore, false)
theorem spec_StoreNew_ev {s : TSchema} (hs : s.cols.length ≤ cap) : Ev (fun n _ => spec_StoreNew n s) (FNew s) := by
  refine ev_succ ?_
  simp only [cap] at hs
  simp only [spec_StoreNew, spec_SchemaOk_b (show s.cols.length ≤ topN by simp only [topN]; omega), l7Schema_b (show s.cols.length ≤ capR by simp only [capR]; omega), ev_cond, ev_some, ev_none, FNew, newStore, zStore, Int.toNat_natCast]
  repeat' (first | apply And.intro | intro _)
  all_goals (try simp_all)
  all_goals (try omega)
theorem impl_StoreNew_ev {s : TSchema} (hs : s.cols.length ≤ cap) : Ev (fun n _ => impl_StoreNew n s) (FNew s) := by
  refine ev_succ ?_
  simp only [cap] at hs
  have hs1 : s.cols.length ≤ topN := by simp only [topN]; omega
  have e := impl_StoreOk_ev (s := newStore s) (lenSt_new hs1)
  rw [FStore_new hs1] at e
  have e' : Ev (fun n _ => impl_StoreOk n (TStore.mk (TSchema.mk s.cols) 0 (List.replicate s.cols.length []))) (FSchema s) := e
  simp only [impl_StoreNew, copyInts_b (show s.cols.length ≤ capR by simp only [capR]; omega), Int.toNat_natCast, ev_bind e', ev_cond, ev_some, ev_none, FNew, newStore, zStore]
  repeat' (first | apply And.intro | intro _)
  all_goals (try simp_all)
  all_goals (try omega)
theorem spec_RecordNew_ev {s : TSchema} (hs : s.cols.length ≤ cap) (h : FSchema s = true) : Ev (fun n _ => spec_RecordNew n (newStore s)) (TRecord.mk (newStore s) []) := by
  refine ev_succ ?_
  simp only [cap] at hs
  have hs1 : s.cols.length ≤ topN := by simp only [topN]; omega
  have e := spec_StoreOk_ev (s := newStore s) (lenSt_new hs1)
  rw [FStore_new hs1, h] at e
  simp only [spec_RecordNew, ev_bind e, ev_bind (l7Copy_ev (s := newStore s) (lenSt_new (show s.cols.length ≤ capR by simp only [capR]; omega))), Bool.not_true, cond_false, ev_some]
theorem impl_RecordNew_ev {s : TSchema} (hs : s.cols.length ≤ cap) (h : FSchema s = true) : Ev (fun n _ => impl_RecordNew n (newStore s)) (TRecord.mk (newStore s) []) := by
  refine ev_succ ?_
  simp only [cap] at hs
  have hs1 : s.cols.length ≤ topN := by simp only [topN]; omega
  have e := impl_StoreOk_ev (s := newStore s) (lenSt_new hs1)
  rw [FStore_new hs1, h] at e
  have e2 : Ev (fun n _ => impl_asWas n (newStore s)) (newStore s) := by
    refine ev_succ ?_
    simp only [impl_asWas, ev_bind e, ev_bind (copyStore_ev (s := newStore s) (lenSt_new (show s.cols.length ≤ capR by simp only [capR]; omega))), Bool.not_true, cond_false, ev_some]
  simp only [impl_RecordNew, ev_bind e2, ev_some]
def FServerNew (s : TSchema) : TServer × Bool := (⟨⟨(FNew s).1, []⟩, []⟩, (FNew s).2)
theorem spec_ServerNew_ev {s : TSchema} (hs : s.cols.length ≤ cap) : Ev (fun n _ => spec_ServerNew n s) (FServerNew s) := by
  refine ev_succ ?_
  simp only [spec_ServerNew, ev_bind (spec_StoreNew_ev hs), ev_cond, FServerNew]
  cases h : FSchema s with
  | false => simp only [FNew, h, cond_false, zStore, ev_some]; simp
  | true => simp only [FNew, h, cond_true, ev_bind (spec_RecordNew_ev hs h), ev_some]; simp
theorem impl_ServerNew_ev {s : TSchema} (hs : s.cols.length ≤ cap) : Ev (fun n _ => impl_ServerNew n s) (FServerNew s) := by
  refine ev_succ ?_
  simp only [impl_ServerNew, ev_bind (impl_StoreNew_ev hs), ev_cond, FServerNew]
  cases h : FSchema s with
  | false => simp only [FNew, h, cond_false, zStore, ev_some]; simp
  | true => simp only [FNew, h, cond_true, ev_bind (impl_RecordNew_ev hs h), ev_some]; simp
theorem FServerNew_seats (s : TSchema) : (FServerNew s).1.seats = [] := rfl
theorem sumL_replicate {α : Type} (f : α → Nat) (x : α) : ∀ n, sumL f (List.replicate n x) = n * f x
  | 0 => by simp [sumL]
  | n + 1 => by rw [List.replicate_succ]; simp only [sumL, sumL_replicate f x n, Nat.add_mul]; omega
theorem FServerNew_size {s : TSchema} (hs : s.cols.length ≤ cap) : (FServerNew s).1.size ≤ 3000000 := by
  simp only [cap] at hs
  simp only [FServerNew, FNew]
  cases FSchema s <;> simp only [cond_true, cond_false, zStore, newStore, TServer.size, TRecord.size, TStore.size, TSchema.size, sizeL, sumL, sumL_replicate, List.length_replicate, List.length_nil, sumL_zero szI (fun _ => rfl)] <;> omega
theorem ServerNew_law {s : TSchema} (hs : s.cols.length ≤ topN) : ∃ n, laws_FnExactServerNew n s = some true := by
  refine ev_ex (ev_succ ?_)
  simp only [laws_FnExactServerNew, ev_bind (szSchema_ev (a := s) (l := 1048576) ⟨hs, fun _ _ => trivial⟩ (by omega) (by omega)), ev_cond, ev_some]
  refine ⟨fun _ => trivial, fun h => ?_⟩
  have hz := subS_ok (of_decide_eq_false h)
  have h0 : s.size ≤ cap := by simp only [cap]; omega
  have h1 : s.cols.length ≤ cap := by have := sizeL_len szI s.cols; simp only [TSchema.size] at h0; omega
  have hg := FServerNew_size h1
  obtain ⟨k1, y, a1, a2, a3, a4, a5⟩ := markSchema_ev (a := s) (k := 1) (by omega) (by simp only [cap] at h0; simp only [topN]; omega)
  obtain ⟨k2, y0, y1, y2, b1, b2, b3, b4, b5, b6, b7⟩ := markServer_ev (a := (FServerNew s).1) (k := 1) rfl (by omega) (by simp only [topN]; omega)
  have h2 : s.size ≤ topN := by simp only [cap] at h0; simp only [topN]; omega
  have h3 : (FServerNew s).1.size ≤ topN := by simp only [topN]; omega
  simp only [ev_bind (toSchema_ev h0), ev_bind (spec_ServerNew_ev h1), ev_bind (impl_ServerNew_ev h1), ev_bind (eqServer_ev h3), ev_bind (eqSchema_ev h2), ev_bind a4, ev_bind b6, ev_bind b7, a3, b3, b4, b5, FServerNew_seats, List.length_nil, Nat.beq_refl, beq_self_eq_true, bne_self_eq_false, Bool.not_true, cond_true, cond_false, ev_cond, ev_some, decide_eq_true_eq, decide_eq_false_iff_not]
  repeat' (first | apply And.intro | intro _)
  all_goals (first | trivial | rfl | (exfalso; omega) | omega)
end Go.Pi
end
section
set_option linter.unusedVariables false
namespace Go.Pi
/-! the lengths, out of what an argument was read to be -/
theorem good_sl {t : TC} {xs : List (El t)} (h : Good (.sl .v t xs)) : xs.length ≤ topN ∧ ∀ x ∈ xs, ∀ c ∈ Coding.enc .v t x, Good c := by
  cases h with
  | sl t xs h1 h2 => exact ⟨h1, h2⟩
end Go.Pi
end
section
set_option linter.unusedVariables false
namespace Go.Pi
open Go.Proofs Go.Proofs.Ytpifpdljphobdaa
namespace laws_FnExactServerNew
theorem pure_law : Pure := fun o h0 => ServerNew_law (good_sl (t := .int) (h0 _ (.head _))).1
theorem proved : Rows.FnExactServerNewSaid := over pure_law
end laws_FnExactServerNew
end Go.Pi
end
namespace Go.Proofs.Ytpifpdljphobdaa
theorem fnExactServerNew_holds : Rows.FnExactServerNewSaid := Go.Pi.laws_FnExactServerNew.proved
#print axioms fnExactServerNew_holds
end Go.Proofs.Ytpifpdljphobdaa
