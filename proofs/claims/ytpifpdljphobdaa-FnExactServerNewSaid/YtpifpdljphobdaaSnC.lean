/- The law FnExactServerNew returns true at every input, and leaves its argument as it was; no condition. Text 3 of 4. -/
import Derived.Test.YtpifpdljphobdaaSnB
import Derived.Test.YtpifpdljphobdaaChecked
section
set_option linter.unusedVariables false
namespace Go.Pi
/-! ### Taking data apart, one thing at a time -/
variable {ω : Type} {r : ω}
def uc {α : Type} : List α → (α → List α → Option ω) → Option ω
  | a :: l, κ => κ a l
  | [], _ => none
def un {α : Type} : List α → Option ω → Option ω
  | [], κ => κ
  | _ :: _, _ => none
theorem uc_ok {α : Type} {v : List α} {κ : α → List α → Option ω} (h : uc v κ = some r) : ∃ a l, v = a :: l ∧ κ a l = some r := by
  cases v with
  | nil => cases h
  | cons a l => exact ⟨a, l, rfl, h⟩
theorem un_ok {α : Type} {v : List α} {κ : Option ω} (h : un v κ = some r) : v = [] ∧ κ = some r := by
  cases v with
  | nil => exact ⟨rfl, h⟩
  | cons => cases h
def getI (k : IntKind) (a : AV) (κ : Int → Option ω) : Option ω := match a with
  | .i k' n => cond (decide (k' = k)) (κ n) none
  | _ => none
theorem getI_ok {k : IntKind} {a : AV} {κ : Int → Option ω} (h : getI k a κ = some r) : ∃ n, a = .i k n ∧ κ n = some r := by
  cases a <;> (try (cases h; done))
  obtain ⟨h1, h2⟩ := cond_some h
  have := of_decide_eq_true h1
  subst this
  exact ⟨_, rfl, h2⟩
def getB (a : AV) (κ : Bool → Option ω) : Option ω := match a with
  | .b q => κ q
  | _ => none
theorem getB_ok {a : AV} {κ : Bool → Option ω} (h : getB a κ = some r) : ∃ n, a = .b n ∧ κ n = some r := by
  cases a <;> (try (cases h; done))
  exact ⟨_, rfl, h⟩
def getS (a : AV) (κ : Bs → Option ω) : Option ω := match a with
  | .s q => κ q
  | _ => none
theorem getS_ok {a : AV} {κ : Bs → Option ω} (h : getS a κ = some r) : ∃ n, a = .s n ∧ κ n = some r := by
  cases a <;> (try (cases h; done))
  exact ⟨_, rfl, h⟩
def M.same : M → M → Bool
  | .v, .v | .s, .s | .d, .d => true
  | _, _ => false
theorem M.same_eq {m m' : M} (h : M.same m m' = true) : m = m' := by cases m <;> cases m' <;> first | rfl | cases h
def getSl (m : M) (t : TC) (a : AV) (κ : List (El t) → Option ω) : Option ω := match a with
  | .sl m' t' xs => cond (M.same m' m) (if h : t' = t then κ (h ▸ xs) else none) none
  | _ => none
theorem getSl_ok {m : M} {t : TC} {a : AV} {κ : List (El t) → Option ω} (h : getSl m t a κ = some r) : ∃ xs, a = .sl m t xs ∧ κ xs = some r := by
  cases a <;> (try (cases h; done))
  rename_i m' t' xs
  obtain ⟨h1, h2⟩ := cond_some h
  have := M.same_eq h1
  subst this
  by_cases e : t' = t
  · subst e
    simp only [dite_true] at h2
    exact ⟨xs, rfl, h2⟩
  · simp [e] at h2
def isRt (q : Nat) (a : AV) (κ : Option ω) : Option ω := match a with
  | .rt p => cond (Nat.beq p q) κ none
  | _ => none
theorem isRt_ok {q : Nat} {a : AV} {κ : Option ω} (h : isRt q a κ = some r) : a = .rt q ∧ κ = some r := by
  cases a <;> (try (cases h; done))
  obtain ⟨h1, h2⟩ := cond_some h
  have := beq_iff.1 h1
  subst this
  exact ⟨rfl, h2⟩
def isPb (q off : Nat) (a : AV) (κ : Option ω) : Option ω := match a with
  | .pb p o => cond (Nat.beq p q && Nat.beq o off) κ none
  | _ => none
theorem isPb_ok {q off : Nat} {a : AV} {κ : Option ω} (h : isPb q off a κ = some r) : a = .pb q off ∧ κ = some r := by
  cases a <;> (try (cases h; done))
  obtain ⟨h1, h2⟩ := cond_some h
  simp only [Bool.and_eq_true] at h1
  have e1 := beq_iff.1 h1.1
  have e2 := beq_iff.1 h1.2
  subst e1 e2
  exact ⟨rfl, h2⟩
def getAg (a : AV) (κ : List AV → Option ω) : Option ω := match a with
  | .ag cs => κ cs
  | _ => none
theorem getAg_ok {a : AV} {κ : List AV → Option ω} (h : getAg a κ = some r) : ∃ cs, a = .ag cs ∧ κ cs = some r := by
  cases a <;> (try (cases h; done))
  exact ⟨_, rfl, h⟩
def getTu (a : AV) (κ : List AV → Option ω) : Option ω := match a with
  | .tu cs => κ cs
  | _ => none
theorem getTu_ok {a : AV} {κ : List AV → Option ω} (h : getTu a κ = some r) : ∃ cs, a = .tu cs ∧ κ cs = some r := by
  cases a <;> (try (cases h; done))
  exact ⟨_, rfl, h⟩
def getBx (a : AV) (κ : List AV → Option ω) : Option ω := match a with
  | .bx cs => κ cs
  | _ => none
theorem getBx_ok {a : AV} {κ : List AV → Option ω} (h : getBx a κ = some r) : ∃ cs, a = .bx cs ∧ κ cs = some r := by
  cases a <;> (try (cases h; done))
  exact ⟨_, rfl, h⟩
def getPc (off : Nat) (a : AV) (κ : List AV → Option ω) : Option ω := match a with
  | .pc cs o => cond (Nat.beq o off) (κ cs) none
  | _ => none
theorem getPc_ok {off : Nat} {a : AV} {κ : List AV → Option ω} (h : getPc off a κ = some r) : ∃ cs, a = .pc cs off ∧ κ cs = some r := by
  cases a <;> (try (cases h; done))
  obtain ⟨h1, h2⟩ := cond_some h
  have := beq_iff.1 h1
  subst this
  exact ⟨_, rfl, h2⟩
def getClo (f : Nat) (a : AV) (κ : List AV → Option ω) : Option ω := match a with
  | .clo g cs => cond (Nat.beq g f) (κ cs) none
  | _ => none
theorem getClo_ok {f : Nat} {a : AV} {κ : List AV → Option ω} (h : getClo f a κ = some r) : ∃ cs, a = .clo f cs ∧ κ cs = some r := by
  cases a <;> (try (cases h; done))
  obtain ⟨h1, h2⟩ := cond_some h
  have := beq_iff.1 h1
  subst this
  exact ⟨_, rfl, h2⟩
def isNils (a : AV) (κ : Option ω) : Option ω := match a with
  | .nils => κ
  | _ => none
theorem isNils_ok {a : AV} {κ : Option ω} (h : isNils a κ = some r) : a = .nils ∧ κ = some r := by
  cases a <;> (try (cases h; done))
  exact ⟨rfl, h⟩
def isNili (a : AV) (κ : Option ω) : Option ω := match a with
  | .nili => κ
  | _ => none
theorem isNili_ok {a : AV} {κ : Option ω} (h : isNili a κ = some r) : a = .nili ∧ κ = some r := by
  cases a <;> (try (cases h; done))
  exact ⟨rfl, h⟩
def isU (a : AV) (κ : Option ω) : Option ω := match a with
  | .u => κ
  | _ => none
theorem isU_ok {a : AV} {κ : Option ω} (h : isU a κ = some r) : a = .u ∧ κ = some r := by
  cases a <;> (try (cases h; done))
  exact ⟨rfl, h⟩
def noBlk (a : Option Blk) (κ : Option ω) : Option ω := match a with
  | none => κ
  | some _ => none
theorem noBlk_ok {a : Option Blk} {κ : Option ω} (h : noBlk a κ = some r) : a = none ∧ κ = some r := by
  cases a with
  | none => exact ⟨rfl, h⟩
  | some => cases h
def isExt (a : Option Blk) (κ : Option ω) : Option ω := match a with
  | some .ext => κ
  | _ => none
theorem isExt_ok {a : Option Blk} {κ : Option ω} (h : isExt a κ = some r) : a = some .ext ∧ κ = some r := by
  cases a with
  | none => cases h
  | some b => cases b <;> first | exact ⟨rfl, h⟩ | cases h
def getBox (a : Option Blk) (κ : List AV → Option ω) : Option ω := match a with
  | some (.box cs) => κ cs
  | _ => none
theorem getBox_ok {a : Option Blk} {κ : List AV → Option ω} (h : getBox a κ = some r) : ∃ cs, a = some (.box cs) ∧ κ cs = some r := by
  cases a with
  | none => cases h
  | some b => cases b <;> first | exact ⟨_, rfl, h⟩ | cases h
def getArr (m : M) (t : TC) (st : Nat) (a : Option Blk) (κ : List (El t) → Option ω) : Option ω := match a with
  | some (.arr m' t' st' xs) => cond (M.same m' m && Nat.beq st' st) (if h : t' = t then κ (h ▸ xs) else none) none
  | _ => none
theorem getArr_ok {m : M} {t : TC} {st : Nat} {a : Option Blk} {κ : List (El t) → Option ω} (h : getArr m t st a κ = some r) : ∃ xs, a = some (.arr m t st xs) ∧ κ xs = some r := by
  cases a with
  | none => cases h
  | some b =>
    cases b <;> (try (cases h; done))
    rename_i m' t' st' xs
    obtain ⟨h1, h2⟩ := cond_some h
    simp only [Bool.and_eq_true] at h1
    have e1 := M.same_eq h1.1
    have e2 := beq_iff.1 h1.2
    subst e1 e2
    by_cases e : t' = t
    · subst e
      simp only [dite_true] at h2
      exact ⟨xs, rfl, h2⟩
    · simp [e] at h2
/-! ### Slices without memory, az a callee takes them -/
inductive Sk where
  | k
  | sl (m : M) (t : TC)
  | ag (l : List Sk)
def fix1 : Sk → AV → AV
  | .sl m t, .nils => .sl m t []
  | _, a => a
def fixL : List Sk → List AV → List AV
  | s :: ss, a :: az => fix1 s a :: fixL ss az
  | _, az => az
def fix : Sk → AV → AV
  | .ag l, .ag cs => .ag (fixL l cs)
  | s, a => fix1 s a
def fixes : List Sk → List AV → List AV
  | s :: ss, a :: az => fix s a :: fixes ss az
  | _, az => az
variable [Coding]
variable {E : Env} {w : World} {F : Nat → Prop}
theorem fix1_ok {s : Sk} {a : AV} {v : Value} {φ : Nat → Nat} (h : RL E w F [a] [v] φ) : RL E w F [fix1 s a] [v] φ := by
  cases s <;> (try exact h)
  rename_i m t
  cases a <;> (try exact h)
  cases h with
  | scal _ _ _ _ _ hs hn =>
    simp only [scl] at hs
    subst hs
    have h0 := (RL.nil_inv hn).2
    cases m with
    | v => exact .view t [] none 0 0 [] (fun _ => 0) _ _ _ ⟨rfl, Nat.le_refl _⟩ (.nil _ fun _ => rfl) (fun _ => rfl) (fun hp => by omega) (.nil _ h0)
    | s => exact .own .s t [] _ [] (fun _ => 0) _ _ (fun _ => 0) _ (by decide) (World.ownsRow_nil _ _ _ _) (.nil _ fun _ => rfl) (fun b hb => by simp [own1] at hb) (.nil _ fun _ => rfl) (fun b => by rw [h0 b]; simp [own1])
    | d => exact .own .d t [] _ [] (fun _ => 0) _ _ (fun _ => 0) _ (by decide) (World.ownsRow_nil _ _ _ _) (.nil _ fun _ => rfl) (fun b hb => by simp [own1] at hb) (.nil _ fun _ => rfl) (fun b => by rw [h0 b]; simp [own1])
theorem fixL_ok : ∀ {ss : List Sk} {az : List AV} {vs : List Value} {φ : Nat → Nat}, RL E w F az vs φ → RL E w F (fixL ss az) vs φ
  | [], az, vs, φ, h => by cases az <;> exact h
  | s :: ss, [], vs, φ, h => h
  | s :: ss, a :: az, vs, φ, h => by
    obtain ⟨v, vs', φ₁, φ₂, rfl, h1, h2, e⟩ := RL.uncons h
    exact (fix1_ok h1).cons (fixL_ok h2) e
theorem fix_ok {s : Sk} {a : AV} {v : Value} {φ : Nat → Nat} (h : RL E w F [a] [v] φ) : RL E w F [fix s a] [v] φ := by
  by_cases hc : ∃ l cs, s = .ag l ∧ a = .ag cs
  · obtain ⟨l, cs, rfl, rfl⟩ := hc
    cases h with
    | scal _ _ _ _ _ hs _ => exact hs.elim
    | ag _ us φ₁ _ _ φ₂ _ h1 h2 he => exact .ag _ us φ₁ _ _ φ₂ _ (fixL_ok h1) h2 he
  · have : fix s a = fix1 s a := by
      cases s <;> (try rfl)
      cases a <;> (try rfl)
      exact absurd ⟨_, _, rfl, rfl⟩ hc
    rw [this]; exact fix1_ok h
theorem fixes_ok : ∀ {ss : List Sk} {az : List AV} {vs : List Value} {φ : Nat → Nat}, RL E w F az vs φ → RL E w F (fixes ss az) vs φ
  | [], az, vs, φ, h => by cases az <;> exact h
  | s :: ss, [], vs, φ, h => h
  | s :: ss, a :: az, vs, φ, h => by
    obtain ⟨v, vs', φ₁, φ₂, rfl, h1, h2, e⟩ := RL.uncons h
    exact (fix_ok h1).cons (fixes_ok h2) e
theorem CallOk.fix {f : FuncId} {avs : List AV} {rv : AV} {outs : List AV} {ps : List PS} {ss : List Sk} (h : CallOk E f (fixes ss avs) rv outs ps) : CallOk E f avs rv outs ps :=
  fun w F Vs φ hrl => h w F Vs φ (fixes_ok hrl)
end Go.Pi
end
section
set_option linter.unusedVariables false
namespace Go.Pi
/-! ### The tables, looked over by program -/
def sclB : AV → Value → Bool
  | .i k n, .int k' n' => decide (k = k') && decide (n = n')
  | .b p, .bool q => p == q
  | .s [], .string s => Nat.beq s.size 0
  | .nils, .slice none 0 0 => true
  | .nilp, .pointer none => true
  | .nili, .nilIface => true
  | _, _ => false
def sclsB : List AV → List Value → Bool
  | [], [] => true
  | a :: l, v :: r => sclB a v && sclsB l r
  | _, _ => false
theorem sclB_ok {a : AV} {v : Value} (h : sclB a v = true) : scl a v := by
  unfold sclB at h
  split at h <;> simp only [scl] <;> (try rfl)
  · simp only [Bool.and_eq_true, decide_eq_true_eq] at h
    rw [h.1, h.2]
  · have := eq_of_beq h
    rw [this]
  · rename_i s
    have h0 := Nat.eq_of_beq_eq_true h
    obtain ⟨⟨l⟩⟩ := s
    have : l = [] := by
      cases l with
      | nil => rfl
      | cons a l => simp [ByteArray.size] at h0
    subst this; rfl
  · cases h
theorem sclsB_ok : ∀ {l : List AV} {r : List Value}, sclsB l r = true → AllF scl l r
  | [], [], _ => trivial
  | a :: l, v :: r, h => by
    simp only [sclsB, Bool.and_eq_true] at h
    exact ⟨sclB_ok h.1, sclsB_ok h.2⟩
  | [], _ :: _, h => by simp [sclsB] at h
  | _ :: _, [], h => by simp [sclsB] at h
def descB (d : TypeDesc) (td : TD) (eid : TC → TypeId) : Bool :=
  (match td.elem with
    | none => true
    | some t => match d with | .slice e => Nat.beq e (eid t) | _ => false) &&
  (match td.kind with
    | none => true
    | some k => match d with | .int k' => decide (k' = k) | _ => false) &&
  (cond td.isStr (match d with | .string => true | _ => false) true) &&
  (cond td.isBool (match d with | .bool => true | _ => false) true)
def fieldsB (P : Program) : List Field → List (Nat × Nat) → Bool
  | [], [] => true
  | f :: fs, p :: ps => Nat.beq f.offset p.1 && (match P.info? f.type with | some i => Nat.beq i.size p.2 | none => false) && Nat.blt 0 p.2 && fieldsB P fs ps
  | _, _ => false
def cmpB (P : Program) : Nat → List Field → List CK → Bool
  | _, [], [] => true
  | k, f :: fs, q :: qs => !(f.name == "_") && Nat.beq f.offset k && P.plainKey f.type && (match P.underlying f.type, q with
      | some (.int _), .i => true
      | some .bool, .b => true
      | some .string, .s => true
      | _, _ => false) && cmpB P (k + 1) fs qs
  | _, _, _ => false
def tdB (P : Program) (eid : TC → TypeId) (T : TypeId) (td : TD) : Bool :=
  match P.info? T, P.underlying T with
  | some i, some d =>
    Nat.beq i.size td.size && Nat.blt 0 td.size && (cond td.agg d.isRow (Nat.beq td.size 1 && !d.isRow)) &&
    (match i.zero with
      | some z => Nat.beq td.zero.length td.size && td.zero.all AV.one && sclsB td.zero z.cells.toList
      | none => false) &&
    (match td.fields with
      | [] => !td.agg
      | fs => match d with
        | .struct gs => fieldsB P gs.toList fs
        | _ => false) &&
    descB d td eid &&
    (match td.cmp with
      | [] => true
      | qs => match d with
        | .struct gs => cmpB P 0 gs.toList qs && !(P.stoodInHeld T) && !(P.eqGuardType P.depth T)
        | _ => false)
  | _, _ => false
theorem fieldsB_ok {P : Program} : ∀ {fs : List Field} {ps : List (Nat × Nat)}, fieldsB P fs ps = true → fs.length = ps.length ∧ ∀ (f off n : Nat), ps[f]? = some (off, n) → ∃ fd : Field, fs[f]? = some fd ∧ fd.offset = off ∧ (P.info? fd.type).map (·.size) = some n ∧ 0 < n
  | [], [], _ => ⟨rfl, fun f off n h => by simp at h⟩
  | g :: fs, p :: ps, h => by
    simp only [fieldsB, Bool.and_eq_true] at h
    obtain ⟨⟨⟨h1, h2⟩, h3⟩, h4⟩ := h
    obtain ⟨k1, k2⟩ := fieldsB_ok h4
    refine ⟨by simp [k1], fun f off n hf => ?_⟩
    cases f with
    | zero =>
      simp only [List.getElem?_cons_zero, Option.some.injEq] at hf
      subst hf
      refine ⟨g, rfl, Nat.eq_of_beq_eq_true h1, ?_, blt_iff.1 h3⟩
      cases hi : P.info? g.type with
      | none => rw [hi] at h2; cases h2
      | some i => rw [hi] at h2; simp [Nat.eq_of_beq_eq_true h2]
    | succ f => exact k2 f off n (by simpa using hf)
  | [], _ :: _, h => by simp [fieldsB] at h
  | _ :: _, [], h => by simp [fieldsB] at h
theorem cmpB_ok {P : Program} : ∀ {k0 : Nat} {fs : List Field} {qs : List CK}, cmpB P k0 fs qs = true → fs.length = qs.length ∧ ∀ (k : Nat) (f : Field) (q : CK), fs[k]? = some f → qs[k]? = some q → (f.name == "_") = false ∧ f.offset = k0 + k ∧ P.plainKey f.type = true ∧
      match q with
      | .i => ∃ kk, P.underlying f.type = some (.int kk)
      | .b => P.underlying f.type = some .bool
      | .s => P.underlying f.type = some .string
  | k0, [], [], _ => ⟨rfl, fun k f q h => by simp at h⟩
  | k0, g :: fs, p :: qs, h => by
    simp only [cmpB, Bool.and_eq_true, Bool.not_eq_true'] at h
    obtain ⟨⟨⟨⟨h1, h2⟩, h3⟩, h4⟩, h5⟩ := h
    obtain ⟨k1, k2⟩ := cmpB_ok h5
    refine ⟨by simp [k1], fun k f q hf hq => ?_⟩
    cases k with
    | zero =>
      simp only [List.getElem?_cons_zero, Option.some.injEq] at hf hq
      subst hf hq
      refine ⟨h1, Nat.eq_of_beq_eq_true h2, h3, ?_⟩
      split at h4 <;> (try (cases h4; done))
      · rename_i kk e1; exact ⟨kk, e1⟩
      · rename_i e1; exact e1
      · rename_i e1; exact e1
    | succ k =>
      obtain ⟨j1, j2, j3⟩ := k2 k f q (by simpa using hf) (by simpa using hq)
      exact ⟨j1, by omega, j3⟩
  | _, [], _ :: _, h => by simp [cmpB] at h
  | _, _ :: _, [], h => by simp [cmpB] at h
variable [Coding]
omit [Coding] in
theorem tdB_ok {E : Env} {T : TypeId} {td : TD} (h : tdB E.P E.eid T td = true) : TDok E T td := by
  unfold tdB at h
  cases hi : E.P.info? T with
  | none => rw [hi] at h; cases h
  | some i =>
    cases hu : E.P.underlying T with
    | none => rw [hi, hu] at h; cases h
    | some d =>
      rw [hi, hu] at h
      simp only [Bool.and_eq_true] at h
      obtain ⟨⟨⟨⟨⟨⟨h1, h2⟩, h3⟩, h4⟩, h5⟩, h6⟩, h7⟩ := h
      simp only [descB, Bool.and_eq_true] at h6
      obtain ⟨⟨⟨g1, g2⟩, g3⟩, g4⟩ := h6
      refine ⟨by rw [hi]; simp [Nat.eq_of_beq_eq_true h1], blt_iff.1 h2, fun e => ⟨d, hu, by rw [e] at h3; exact h3⟩, fun e => ?_, ?_, fun e => ?_, fun e => ?_, fun t e => ?_, fun k e => ?_, fun e => ?_, fun e => ?_, fun e => ?_⟩
      · rw [e] at h3
        simp only [cond_false, Bool.and_eq_true, Bool.not_eq_true'] at h3
        exact ⟨Nat.eq_of_beq_eq_true h3.1, d, hu, h3.2⟩
      · cases hz : i.zero with
        | none => rw [hz] at h4; cases h4
        | some z =>
          rw [hz] at h4
          simp only [Bool.and_eq_true] at h4
          exact ⟨Nat.eq_of_beq_eq_true h4.1.1, h4.1.2, i, z, z.cells.toList, hi, hz, by simp, sclsB_ok h4.2⟩
      · cases hf : td.fields with
        | nil => exact absurd hf e
        | cons p ps =>
          rw [hf] at h5
          cases d <;> simp only at h5 <;> (try (cases h5; done))
          rename_i gs
          obtain ⟨k1, k2⟩ := fieldsB_ok h5
          exact ⟨gs, hu, by simpa using k1, fun f off n hq => by
            obtain ⟨fd, j1, j2⟩ := k2 f off n hq
            exact ⟨fd, by simpa using j1, j2⟩⟩
      · intro e'
        rw [e'] at h5
        simp only [e] at h5
        cases h5
      · rw [e] at g1
        cases d <;> simp only at g1 <;> (try (cases g1; done))
        rw [hu, Nat.eq_of_beq_eq_true g1]
      · rw [e] at g2
        cases d <;> simp only at g2 <;> (try (cases g2; done))
        rw [hu, of_decide_eq_true g2]
      · rw [e] at g3
        cases d <;> simp only [cond_true] at g3 <;> first | exact hu | cases g3
      · rw [e] at g4
        cases d <;> simp only [cond_true] at g4 <;> first | exact hu | cases g4
      · cases hq : td.cmp with
        | nil => exact absurd hq e
        | cons p ps =>
          rw [hq] at h7
          cases d <;> simp only at h7 <;> (try (cases h7; done))
          rename_i gs
          simp only [Bool.and_eq_true, Bool.not_eq_true'] at h7
          obtain ⟨k1, k2⟩ := cmpB_ok h7.1.1
          refine ⟨gs, hu, h7.1.2, h7.2, by simpa using k1, fun k f q hf hq' => ?_⟩
          obtain ⟨j1, j2, j3⟩ := k2 k f q (by simpa using hf) hq'
          exact ⟨j1, by omega, j3⟩
def look2 {α : Type _} : List (Nat × α) → Nat → Option α
  | [], _ => none
  | (k, a) :: l, n => cond (Nat.beq n k) (some a) (look2 l n)
def allB {α : Type _} (p : Nat → α → Bool) : List (Nat × α) → Bool
  | [] => true
  | (k, a) :: l => p k a && allB p l
omit [Coding] in
theorem look2_ok {α : Type _} {p : Nat → α → Bool} : ∀ {l : List (Nat × α)} {n : Nat} {a : α}, allB p l = true → look2 l n = some a → p n a = true
  | [], n, a, _, h => by cases h
  | (k, b) :: l, n, a, h, h' => by
    simp only [allB, Bool.and_eq_true] at h
    simp only [look2] at h'
    cases hb : Nat.beq n k with
    | true =>
      rw [hb] at h'
      simp only [cond_true, Option.some.injEq] at h'
      have := Nat.eq_of_beq_eq_true hb
      subst this h'
      exact h.1
    | false => rw [hb] at h'; exact look2_ok h.2 h'
omit [Coding] in
theorem tt_ok {E : Env} {l : List (Nat × TD)} (h : allB (tdB E.P E.eid) l = true) (T : TypeId) : TTok E T (look2 l T) :=
  ⟨fun td ht => tdB_ok (look2_ok h ht)⟩
open Coding
def tcB (P : Program) (eid : TC → TypeId) (t : TC) (zc : List AV) : Bool :=
  match P.info? (eid t) with
  | some i => Nat.beq i.size t.width && Nat.beq i.bytes t.bytes && Nat.blt 0 t.bytes && zc.all AV.one && match i.zero with
    | some z => sclsB zc z.cells.toList
    | none => false
  | none => false
theorem tcB_ok {E : Env} {t : TC} {zc : List AV} (h : tcB E.P E.eid t zc = true) (hz : ∀ m, sims m zc (enc m t (El.dflt t))) : TCok E t := by
  unfold tcB at h
  cases hi : E.P.info? (E.eid t) with
  | none => rw [hi] at h; cases h
  | some i =>
    rw [hi] at h
    simp only [Bool.and_eq_true] at h
    obtain ⟨⟨⟨⟨h1, h2⟩, h3⟩, h4⟩, h5⟩ := h
    cases hq : i.zero with
    | none => rw [hq] at h5; cases h5
    | some z =>
      rw [hq] at h5
      exact ⟨⟨i, z, z.cells.toList, zc, hi, hq, Nat.eq_of_beq_eq_true h1, Nat.eq_of_beq_eq_true h2, by simp, sclsB_ok h5, h4, hz⟩, blt_iff.1 h3⟩
omit [Coding] in
theorem cond_t {α : Type _} {c : Bool} {a b x : α} (hc : c = true) (h : cond c a b = x) : a = x := by subst hc; exact h
omit [Coding] in
theorem cond_f {α : Type _} {c : Bool} {a b x : α} (hc : c = false) (h : cond c a b = x) : b = x := by subst hc; exact h
omit [Coding] in
theorem cond_is {α : Type _} {c : Bool} (hc : c = true) (a b : α) : cond c a b = a := by subst hc; rfl
omit [Coding] in
theorem cond_no {α : Type _} {c : Bool} (hc : c = false) (a b : α) : cond c a b = b := by subst hc; rfl
def selClo (k : Nat) (avs : List AV) : Nat := match avs[k]? with
  | some (.clo g _) => g
  | _ => 0
/-- a callee, az the table bears it -/
structure Hd : Type 1 where
  K : (ω : Type) → List AV → (AV → List AV → Option ω) → Option ω
def AllP {α : Type _} (p : Nat → α → Prop) : List (Nat × α) → Prop
  | [] => True
  | (k, a) :: l => p k a ∧ AllP p l
omit [Coding] in
theorem look2_all {α : Type _} {p : Nat → α → Prop} : ∀ {l : List (Nat × α)} {n : Nat} {a : α}, AllP p l → look2 l n = some a → p n a
  | [], n, a, _, h => by cases h
  | (k, b) :: l, n, a, h, h' => by
    simp only [look2] at h'
    cases hb : Nat.beq n k with
    | true =>
      rw [hb] at h'
      simp only [cond_true, Option.some.injEq] at h'
      have := Nat.eq_of_beq_eq_true hb
      subst this h'
      exact h.1
    | false => rw [hb] at h'; exact look2_all h.2 h'
def KH (l : List (Nat × Hd)) (ω : Type) (f : Nat) (avs : List AV) (κ : AV → List AV → Option ω) : Option ω := match look2 l f with
  | some h => h.K ω avs κ
  | none => none
omit [Coding] in
theorem KH_par {l : List (Nat × Hd)} {nt : Nat} {tt : Nat → Option TD} {sig : Nat → Option (List PS)} (h : AllP (fun _ (h : Hd) => ∀ (ω : Type) (avs : List AV) (κ : AV → List AV → Option ω) (q : ω), h.K ω avs κ = some q → ∃ rv outs, κ rv outs = some q ∧ ∀ (ω' : Type) (κ' : AV → List AV → Option ω'), h.K ω' avs κ' = κ' rv outs) l) :
    KPar ⟨nt, tt, sig, KH l⟩ := by
  intro ω f avs κ q hK
  have hK : KH l ω f avs κ = some q := hK
  show ∃ rv outs, κ rv outs = some q ∧ ∀ (ω' : Type) (κ' : AV → List AV → Option ω'), KH l ω' f avs κ' = κ' rv outs
  unfold KH at hK ⊢
  cases hl : look2 l f with
  | none => rw [hl] at hK; cases hK
  | some g => rw [hl] at hK; exact look2_all h hl ω avs κ q hK
theorem KH_ok {E : Env} {l : List (Nat × Hd)} {nt : Nat} {tt : Nat → Option TD} {sig : Nat → Option (List PS)} (h : AllP (fun f (h : Hd) => ∀ (ω : Type) (avs : List AV) (κ : AV → List AV → Option ω) (q : ω), h.K ω avs κ = some q → FnOk E f ∧ ∃ ps rv outs, sig f = some ps ∧ κ rv outs = some q ∧ CallOk E f avs rv outs ps) l) :
    KOk E ⟨nt, tt, sig, KH l⟩ := by
  intro ω f avs κ q hK
  have hK : KH l ω f avs κ = some q := hK
  unfold KH at hK
  cases hl : look2 l f with
  | none => rw [hl] at hK; cases hK
  | some g => rw [hl] at hK; exact look2_all h hl ω avs κ q hK
/-- a slice's rows, whatever it is -/
def getAny (t : TC) (a : AV) {ω : Type} (κ : List (El t) → Option ω) : Option ω := match decSl t a with
  | some xs => κ xs
  | none => none
omit [Coding] in
theorem getAny_ok {t : TC} {a : AV} {ω : Type} {r : ω} {κ : List (El t) → Option ω} (h : getAny t a κ = some r) : ∃ xs, κ xs = some r ∧ ∀ m, AV.sim m a (.sl m t xs) := by
  unfold getAny at h
  cases hd : decSl t a with
  | none => rw [hd] at h; cases h
  | some xs =>
    rw [hd] at h
    refine ⟨xs, h, fun m => ?_⟩
    cases a <;> simp only [decSl] at hd <;> (try (cases hd; done))
    case nils => simp only [Option.some.injEq] at hd; subst hd; exact ⟨t, rfl⟩
    case sl m' t' ys =>
      by_cases e : t' = t
      · subst e
        simp only [dite_true, Option.some.injEq] at hd
        subst hd; rfl
      · simp [e] at hd
/-- is a cell such az an element bears? -/
def codedB (m : M) : AV → Bool
  | .i _ _ | .b _ | .s _ => true
  | .sl m' _ _ => M.same m' m
  | _ => false
omit [Coding] in
theorem coded_of {m : M} {l : List AV} (h : l.all (codedB m) = true) (a : AV) (ha : a ∈ l) : (∃ k n, a = .i k n) ∨ (∃ q, a = .b q) ∨ (∃ l, a = .s l) ∨ ∃ t' xs, a = .sl m t' xs := by
  have := List.all_eq_true.1 h a ha
  cases a <;> simp only [codedB] at this <;> (try (cases this; done))
  · exact .inl ⟨_, _, rfl⟩
  · exact .inr (.inl ⟨_, rfl⟩)
  · exact .inr (.inr (.inl ⟨_, rfl⟩))
  · rw [M.same_eq this]; exact .inr (.inr (.inr ⟨_, _, rfl⟩))
end Go.Pi
end
section
set_option linter.unusedVariables false
set_option maxRecDepth 100000
namespace Go.Pi
open Go.Proofs
instance coding : Coding where
  enc := fun m t => match t with
    | .int => fun (x : Int) => [AV.i .i64 x]
    | .u8 => fun (x : Int) => [AV.i .u8 x]
    | .str => fun (x : Bs) => [AV.s x]
    | .iRow => fun (x : TRow) => [AV.i .i64 x.id_, AV.sl m .int x.cells]
    | .s_iRow => fun (x : List TRow) => [AV.sl m .iRow x]
    | .iChange => fun (x : TChange) => [AV.i .i64 x.table, AV.b x.had, AV.b x.has, AV.i .i64 x.old.id_, AV.sl m .int x.old.cells, AV.i .i64 x.new.id_, AV.sl m .int x.new.cells]
    | .s_iChange => fun (x : List TChange) => [AV.sl m .iChange x]
    | .iSeat => fun (x : TSeat) => [AV.i .i64 x.sess.view.q.table, AV.sl m .iCond x.sess.view.q.where_, AV.i .i64 x.sess.view.q.order, AV.b x.sess.view.q.down, AV.i .i64 x.sess.view.q.first, AV.sl m .int x.sess.view.q.show_, AV.b x.sess.view.q.kids, AV.i .i64 x.sess.view.q.kidTable, AV.i .i64 x.sess.view.q.kidCol, AV.sl m .iRow x.sess.view.rows, AV.sl m .iKid x.sess.view.kids, AV.i .i64 x.sess.version, AV.i .i64 x.sess.last.q.table, AV.sl m .iCond x.sess.last.q.where_, AV.i .i64 x.sess.last.q.order, AV.b x.sess.last.q.down, AV.i .i64 x.sess.last.q.first, AV.sl m .int x.sess.last.q.show_, AV.b x.sess.last.q.kids, AV.i .i64 x.sess.last.q.kidTable, AV.i .i64 x.sess.last.q.kidCol, AV.sl m .iRow x.sess.last.rows, AV.sl m .iKid x.sess.last.kids, AV.i .i64 x.sess.lastVersion, AV.b x.sess.began, AV.s x.line.wait, AV.i .i64 x.line.gone, AV.s x.sent, AV.s x.came, AV.b x.gone]
    | .iCond => fun (x : TCond) => [AV.i .i64 x.col, AV.i .i64 x.op, AV.i .i64 x.v]
    | .iKid => fun (x : TKid) => [AV.i .i64 x.id_, AV.i .i64 x.n_]
    | .lRow => fun (x : TRow) => [AV.i .i64 x.id_, AV.sl m .int x.cells]
    | .s_lRow => fun (x : List TRow) => [AV.sl m .lRow x]
    | .lCond => fun (x : TCond) => [AV.i .i64 x.col, AV.i .i64 x.op, AV.i .i64 x.v]
    | .lKid => fun (x : TKid) => [AV.i .i64 x.id_, AV.i .i64 x.n_]
  dec := fun t => match t with
    | .int => fun l => uc l fun a1 l2 => getI .i64 a1 fun x3 => un l2 (some (x3 : Int))
    | .u8 => fun l => uc l fun a1 l2 => getI .u8 a1 fun x3 => un l2 (some (x3 : Int))
    | .str => fun l => uc l fun a1 l2 => getS a1 fun x3 => un l2 (some (x3 : Bs))
    | .iRow => fun l => uc l fun a1 l2 => getI .i64 a1 fun x3 => uc l2 fun a4 l5 => getAny .int a4 fun x6 => un l5 (some ((TRow.mk x3 x6) : TRow))
    | .s_iRow => fun l => uc l fun a1 l2 => getAny .iRow a1 fun x3 => un l2 (some (x3 : List TRow))
    | .iChange => fun l => uc l fun a1 l2 => getI .i64 a1 fun x3 => uc l2 fun a4 l5 => getB a4 fun x6 => uc l5 fun a7 l8 => getB a7 fun x9 => uc l8 fun a10 l11 => getI .i64 a10 fun x12 => uc l11 fun a13 l14 => getAny .int a13 fun x15 => uc l14 fun a17 l18 => getI .i64 a17 fun x19 => uc l18 fun a20 l21 => getAny .int a20 fun x22 => un l21 (some ((TChange.mk x3 x6 x9 (TRow.mk x12 x15) (TRow.mk x19 x22)) : TChange))
    | .s_iChange => fun l => uc l fun a1 l2 => getAny .iChange a1 fun x3 => un l2 (some (x3 : List TChange))
    | .iSeat => fun l => uc l fun a1 l2 => getI .i64 a1 fun x3 => uc l2 fun a4 l5 => getAny .iCond a4 fun x6 => uc l5 fun a8 l9 => getI .i64 a8 fun x10 => uc l9 fun a11 l12 => getB a11 fun x13 => uc l12 fun a14 l15 => getI .i64 a14 fun x16 => uc l15 fun a17 l18 => getAny .int a17 fun x19 => uc l18 fun a21 l22 => getB a21 fun x23 => uc l22 fun a24 l25 => getI .i64 a24 fun x26 => uc l25 fun a27 l28 => getI .i64 a27 fun x29 => uc l28 fun a30 l31 => getAny .iRow a30 fun x32 => uc l31 fun a34 l35 => getAny .iKid a34 fun x36 => uc l35 fun a38 l39 => getI .i64 a38 fun x40 => uc l39 fun a41 l42 => getI .i64 a41 fun x43 => uc l42 fun a44 l45 => getAny .iCond a44 fun x46 => uc l45 fun a48 l49 => getI .i64 a48 fun x50 => uc l49 fun a51 l52 => getB a51 fun x53 => uc l52 fun a54 l55 => getI .i64 a54 fun x56 => uc l55 fun a57 l58 => getAny .int a57 fun x59 => uc l58 fun a61 l62 => getB a61 fun x63 => uc l62 fun a64 l65 => getI .i64 a64 fun x66 => uc l65 fun a67 l68 => getI .i64 a67 fun x69 => uc l68 fun a70 l71 => getAny .iRow a70 fun x72 => uc l71 fun a74 l75 => getAny .iKid a74 fun x76 => uc l75 fun a78 l79 => getI .i64 a78 fun x80 => uc l79 fun a81 l82 => getB a81 fun x83 => uc l82 fun a84 l85 => getS a84 fun x86 => uc l85 fun a87 l88 => getI .i64 a87 fun x89 => uc l88 fun a90 l91 => getS a90 fun x92 => uc l91 fun a93 l94 => getS a93 fun x95 => uc l94 fun a96 l97 => getB a96 fun x98 => un l97 (some ((TSeat.mk (TSess.mk (TView.mk (TQuery.mk x3 x6 x10 x13 x16 x19 x23 x26 x29) x32 x36) x40 (TView.mk (TQuery.mk x43 x46 x50 x53 x56 x59 x63 x66 x69) x72 x76) x80 x83) (TLine.mk x86 x89) x92 x95 x98) : TSeat))
    | .iCond => fun l => uc l fun a1 l2 => getI .i64 a1 fun x3 => uc l2 fun a4 l5 => getI .i64 a4 fun x6 => uc l5 fun a7 l8 => getI .i64 a7 fun x9 => un l8 (some ((TCond.mk x3 x6 x9) : TCond))
    | .iKid => fun l => uc l fun a1 l2 => getI .i64 a1 fun x3 => uc l2 fun a4 l5 => getI .i64 a4 fun x6 => un l5 (some ((TKid.mk x3 x6) : TKid))
    | .lRow => fun l => uc l fun a1 l2 => getI .i64 a1 fun x3 => uc l2 fun a4 l5 => getAny .int a4 fun x6 => un l5 (some ((TRow.mk x3 x6) : TRow))
    | .s_lRow => fun l => uc l fun a1 l2 => getAny .lRow a1 fun x3 => un l2 (some (x3 : List TRow))
    | .lCond => fun l => uc l fun a1 l2 => getI .i64 a1 fun x3 => uc l2 fun a4 l5 => getI .i64 a4 fun x6 => uc l5 fun a7 l8 => getI .i64 a7 fun x9 => un l8 (some ((TCond.mk x3 x6 x9) : TCond))
    | .lKid => fun l => uc l fun a1 l2 => getI .i64 a1 fun x3 => uc l2 fun a4 l5 => getI .i64 a4 fun x6 => un l5 (some ((TKid.mk x3 x6) : TKid))
instance codingOk : CodingOk where
  len := by intro m t x; cases t <;> rfl
  pos := by intro t; cases t <;> decide
  view := by intro m t x; cases t <;> rfl
  flat := by intro m m' t x h; cases t <;> first | rfl | cases h
  cell := by
    intro m t x a ha
    refine coded_of ?_ a ha
    cases t <;> cases m <;> rfl
  u8 := by intro m n; rfl
  dec := by
    intro m t l y h
    cases t with
    | int =>
      replace h : (uc l fun a1 l2 => getI .i64 a1 fun x3 => un l2 (some (x3 : Int))) = some y := h
      replace h := uc_ok h; obtain ⟨a1, l2, rfl, h⟩ := h
      replace h := getI_ok h; obtain ⟨x3, rfl, h⟩ := h
      replace h := un_ok h; obtain ⟨rfl, h⟩ := h
      cases h
      exact ⟨rfl, trivial⟩
    | u8 =>
      replace h : (uc l fun a1 l2 => getI .u8 a1 fun x3 => un l2 (some (x3 : Int))) = some y := h
      replace h := uc_ok h; obtain ⟨a1, l2, rfl, h⟩ := h
      replace h := getI_ok h; obtain ⟨x3, rfl, h⟩ := h
      replace h := un_ok h; obtain ⟨rfl, h⟩ := h
      cases h
      exact ⟨rfl, trivial⟩
    | str =>
      replace h : (uc l fun a1 l2 => getS a1 fun x3 => un l2 (some (x3 : Bs))) = some y := h
      replace h := uc_ok h; obtain ⟨a1, l2, rfl, h⟩ := h
      replace h := getS_ok h; obtain ⟨x3, rfl, h⟩ := h
      replace h := un_ok h; obtain ⟨rfl, h⟩ := h
      cases h
      exact ⟨rfl, trivial⟩
    | iRow =>
      replace h : (uc l fun a1 l2 => getI .i64 a1 fun x3 => uc l2 fun a4 l5 => getAny .int a4 fun x6 => un l5 (some ((TRow.mk x3 x6) : TRow))) = some y := h
      replace h := uc_ok h; obtain ⟨a1, l2, rfl, h⟩ := h
      replace h := getI_ok h; obtain ⟨x3, rfl, h⟩ := h
      replace h := uc_ok h; obtain ⟨a4, l5, rfl, h⟩ := h
      replace h := getAny_ok h; obtain ⟨x6, h, z7⟩ := h
      replace h := un_ok h; obtain ⟨rfl, h⟩ := h
      cases h
      exact ⟨rfl, z7 m, trivial⟩
    | s_iRow =>
      replace h : (uc l fun a1 l2 => getAny .iRow a1 fun x3 => un l2 (some (x3 : List TRow))) = some y := h
      replace h := uc_ok h; obtain ⟨a1, l2, rfl, h⟩ := h
      replace h := getAny_ok h; obtain ⟨x3, h, z4⟩ := h
      replace h := un_ok h; obtain ⟨rfl, h⟩ := h
      cases h
      exact ⟨z4 m, trivial⟩
    | iChange =>
      replace h : (uc l fun a1 l2 => getI .i64 a1 fun x3 => uc l2 fun a4 l5 => getB a4 fun x6 => uc l5 fun a7 l8 => getB a7 fun x9 => uc l8 fun a10 l11 => getI .i64 a10 fun x12 => uc l11 fun a13 l14 => getAny .int a13 fun x15 => uc l14 fun a17 l18 => getI .i64 a17 fun x19 => uc l18 fun a20 l21 => getAny .int a20 fun x22 => un l21 (some ((TChange.mk x3 x6 x9 (TRow.mk x12 x15) (TRow.mk x19 x22)) : TChange))) = some y := h
      replace h := uc_ok h; obtain ⟨a1, l2, rfl, h⟩ := h
      replace h := getI_ok h; obtain ⟨x3, rfl, h⟩ := h
      replace h := uc_ok h; obtain ⟨a4, l5, rfl, h⟩ := h
      replace h := getB_ok h; obtain ⟨x6, rfl, h⟩ := h
      replace h := uc_ok h; obtain ⟨a7, l8, rfl, h⟩ := h
      replace h := getB_ok h; obtain ⟨x9, rfl, h⟩ := h
      replace h := uc_ok h; obtain ⟨a10, l11, rfl, h⟩ := h
      replace h := getI_ok h; obtain ⟨x12, rfl, h⟩ := h
      replace h := uc_ok h; obtain ⟨a13, l14, rfl, h⟩ := h
      replace h := getAny_ok h; obtain ⟨x15, h, z16⟩ := h
      replace h := uc_ok h; obtain ⟨a17, l18, rfl, h⟩ := h
      replace h := getI_ok h; obtain ⟨x19, rfl, h⟩ := h
      replace h := uc_ok h; obtain ⟨a20, l21, rfl, h⟩ := h
      replace h := getAny_ok h; obtain ⟨x22, h, z23⟩ := h
      replace h := un_ok h; obtain ⟨rfl, h⟩ := h
      cases h
      exact ⟨rfl, rfl, rfl, rfl, z16 m, rfl, z23 m, trivial⟩
    | s_iChange =>
      replace h : (uc l fun a1 l2 => getAny .iChange a1 fun x3 => un l2 (some (x3 : List TChange))) = some y := h
      replace h := uc_ok h; obtain ⟨a1, l2, rfl, h⟩ := h
      replace h := getAny_ok h; obtain ⟨x3, h, z4⟩ := h
      replace h := un_ok h; obtain ⟨rfl, h⟩ := h
      cases h
      exact ⟨z4 m, trivial⟩
    | iSeat =>
      replace h : (uc l fun a1 l2 => getI .i64 a1 fun x3 => uc l2 fun a4 l5 => getAny .iCond a4 fun x6 => uc l5 fun a8 l9 => getI .i64 a8 fun x10 => uc l9 fun a11 l12 => getB a11 fun x13 => uc l12 fun a14 l15 => getI .i64 a14 fun x16 => uc l15 fun a17 l18 => getAny .int a17 fun x19 => uc l18 fun a21 l22 => getB a21 fun x23 => uc l22 fun a24 l25 => getI .i64 a24 fun x26 => uc l25 fun a27 l28 => getI .i64 a27 fun x29 => uc l28 fun a30 l31 => getAny .iRow a30 fun x32 => uc l31 fun a34 l35 => getAny .iKid a34 fun x36 => uc l35 fun a38 l39 => getI .i64 a38 fun x40 => uc l39 fun a41 l42 => getI .i64 a41 fun x43 => uc l42 fun a44 l45 => getAny .iCond a44 fun x46 => uc l45 fun a48 l49 => getI .i64 a48 fun x50 => uc l49 fun a51 l52 => getB a51 fun x53 => uc l52 fun a54 l55 => getI .i64 a54 fun x56 => uc l55 fun a57 l58 => getAny .int a57 fun x59 => uc l58 fun a61 l62 => getB a61 fun x63 => uc l62 fun a64 l65 => getI .i64 a64 fun x66 => uc l65 fun a67 l68 => getI .i64 a67 fun x69 => uc l68 fun a70 l71 => getAny .iRow a70 fun x72 => uc l71 fun a74 l75 => getAny .iKid a74 fun x76 => uc l75 fun a78 l79 => getI .i64 a78 fun x80 => uc l79 fun a81 l82 => getB a81 fun x83 => uc l82 fun a84 l85 => getS a84 fun x86 => uc l85 fun a87 l88 => getI .i64 a87 fun x89 => uc l88 fun a90 l91 => getS a90 fun x92 => uc l91 fun a93 l94 => getS a93 fun x95 => uc l94 fun a96 l97 => getB a96 fun x98 => un l97 (some ((TSeat.mk (TSess.mk (TView.mk (TQuery.mk x3 x6 x10 x13 x16 x19 x23 x26 x29) x32 x36) x40 (TView.mk (TQuery.mk x43 x46 x50 x53 x56 x59 x63 x66 x69) x72 x76) x80 x83) (TLine.mk x86 x89) x92 x95 x98) : TSeat))) = some y := h
      replace h := uc_ok h; obtain ⟨a1, l2, rfl, h⟩ := h
      replace h := getI_ok h; obtain ⟨x3, rfl, h⟩ := h
      replace h := uc_ok h; obtain ⟨a4, l5, rfl, h⟩ := h
      replace h := getAny_ok h; obtain ⟨x6, h, z7⟩ := h
      replace h := uc_ok h; obtain ⟨a8, l9, rfl, h⟩ := h
      replace h := getI_ok h; obtain ⟨x10, rfl, h⟩ := h
      replace h := uc_ok h; obtain ⟨a11, l12, rfl, h⟩ := h
      replace h := getB_ok h; obtain ⟨x13, rfl, h⟩ := h
      replace h := uc_ok h; obtain ⟨a14, l15, rfl, h⟩ := h
      replace h := getI_ok h; obtain ⟨x16, rfl, h⟩ := h
      replace h := uc_ok h; obtain ⟨a17, l18, rfl, h⟩ := h
      replace h := getAny_ok h; obtain ⟨x19, h, z20⟩ := h
      replace h := uc_ok h; obtain ⟨a21, l22, rfl, h⟩ := h
      replace h := getB_ok h; obtain ⟨x23, rfl, h⟩ := h
      replace h := uc_ok h; obtain ⟨a24, l25, rfl, h⟩ := h
      replace h := getI_ok h; obtain ⟨x26, rfl, h⟩ := h
      replace h := uc_ok h; obtain ⟨a27, l28, rfl, h⟩ := h
      replace h := getI_ok h; obtain ⟨x29, rfl, h⟩ := h
      replace h := uc_ok h; obtain ⟨a30, l31, rfl, h⟩ := h
      replace h := getAny_ok h; obtain ⟨x32, h, z33⟩ := h
      replace h := uc_ok h; obtain ⟨a34, l35, rfl, h⟩ := h
      replace h := getAny_ok h; obtain ⟨x36, h, z37⟩ := h
      replace h := uc_ok h; obtain ⟨a38, l39, rfl, h⟩ := h
      replace h := getI_ok h; obtain ⟨x40, rfl, h⟩ := h
      replace h := uc_ok h; obtain ⟨a41, l42, rfl, h⟩ := h
      replace h := getI_ok h; obtain ⟨x43, rfl, h⟩ := h
      replace h := uc_ok h; obtain ⟨a44, l45, rfl, h⟩ := h
      replace h := getAny_ok h; obtain ⟨x46, h, z47⟩ := h
      replace h := uc_ok h; obtain ⟨a48, l49, rfl, h⟩ := h
      replace h := getI_ok h; obtain ⟨x50, rfl, h⟩ := h
      replace h := uc_ok h; obtain ⟨a51, l52, rfl, h⟩ := h
      replace h := getB_ok h; obtain ⟨x53, rfl, h⟩ := h
      replace h := uc_ok h; obtain ⟨a54, l55, rfl, h⟩ := h
      replace h := getI_ok h; obtain ⟨x56, rfl, h⟩ := h
      replace h := uc_ok h; obtain ⟨a57, l58, rfl, h⟩ := h
      replace h := getAny_ok h; obtain ⟨x59, h, z60⟩ := h
      replace h := uc_ok h; obtain ⟨a61, l62, rfl, h⟩ := h
      replace h := getB_ok h; obtain ⟨x63, rfl, h⟩ := h
      replace h := uc_ok h; obtain ⟨a64, l65, rfl, h⟩ := h
      replace h := getI_ok h; obtain ⟨x66, rfl, h⟩ := h
      replace h := uc_ok h; obtain ⟨a67, l68, rfl, h⟩ := h
      replace h := getI_ok h; obtain ⟨x69, rfl, h⟩ := h
      replace h := uc_ok h; obtain ⟨a70, l71, rfl, h⟩ := h
      replace h := getAny_ok h; obtain ⟨x72, h, z73⟩ := h
      replace h := uc_ok h; obtain ⟨a74, l75, rfl, h⟩ := h
      replace h := getAny_ok h; obtain ⟨x76, h, z77⟩ := h
      replace h := uc_ok h; obtain ⟨a78, l79, rfl, h⟩ := h
      replace h := getI_ok h; obtain ⟨x80, rfl, h⟩ := h
      replace h := uc_ok h; obtain ⟨a81, l82, rfl, h⟩ := h
      replace h := getB_ok h; obtain ⟨x83, rfl, h⟩ := h
      replace h := uc_ok h; obtain ⟨a84, l85, rfl, h⟩ := h
      replace h := getS_ok h; obtain ⟨x86, rfl, h⟩ := h
      replace h := uc_ok h; obtain ⟨a87, l88, rfl, h⟩ := h
      replace h := getI_ok h; obtain ⟨x89, rfl, h⟩ := h
      replace h := uc_ok h; obtain ⟨a90, l91, rfl, h⟩ := h
      replace h := getS_ok h; obtain ⟨x92, rfl, h⟩ := h
      replace h := uc_ok h; obtain ⟨a93, l94, rfl, h⟩ := h
      replace h := getS_ok h; obtain ⟨x95, rfl, h⟩ := h
      replace h := uc_ok h; obtain ⟨a96, l97, rfl, h⟩ := h
      replace h := getB_ok h; obtain ⟨x98, rfl, h⟩ := h
      replace h := un_ok h; obtain ⟨rfl, h⟩ := h
      cases h
      exact ⟨rfl, z7 m, rfl, rfl, rfl, z20 m, rfl, rfl, rfl, z33 m, z37 m, rfl, rfl, z47 m, rfl, rfl, rfl, z60 m, rfl, rfl, rfl, z73 m, z77 m, rfl, rfl, rfl, rfl, rfl, rfl, rfl, trivial⟩
    | iCond =>
      replace h : (uc l fun a1 l2 => getI .i64 a1 fun x3 => uc l2 fun a4 l5 => getI .i64 a4 fun x6 => uc l5 fun a7 l8 => getI .i64 a7 fun x9 => un l8 (some ((TCond.mk x3 x6 x9) : TCond))) = some y := h
      replace h := uc_ok h; obtain ⟨a1, l2, rfl, h⟩ := h
      replace h := getI_ok h; obtain ⟨x3, rfl, h⟩ := h
      replace h := uc_ok h; obtain ⟨a4, l5, rfl, h⟩ := h
      replace h := getI_ok h; obtain ⟨x6, rfl, h⟩ := h
      replace h := uc_ok h; obtain ⟨a7, l8, rfl, h⟩ := h
      replace h := getI_ok h; obtain ⟨x9, rfl, h⟩ := h
      replace h := un_ok h; obtain ⟨rfl, h⟩ := h
      cases h
      exact ⟨rfl, rfl, rfl, trivial⟩
    | iKid =>
      replace h : (uc l fun a1 l2 => getI .i64 a1 fun x3 => uc l2 fun a4 l5 => getI .i64 a4 fun x6 => un l5 (some ((TKid.mk x3 x6) : TKid))) = some y := h
      replace h := uc_ok h; obtain ⟨a1, l2, rfl, h⟩ := h
      replace h := getI_ok h; obtain ⟨x3, rfl, h⟩ := h
      replace h := uc_ok h; obtain ⟨a4, l5, rfl, h⟩ := h
      replace h := getI_ok h; obtain ⟨x6, rfl, h⟩ := h
      replace h := un_ok h; obtain ⟨rfl, h⟩ := h
      cases h
      exact ⟨rfl, rfl, trivial⟩
    | lRow =>
      replace h : (uc l fun a1 l2 => getI .i64 a1 fun x3 => uc l2 fun a4 l5 => getAny .int a4 fun x6 => un l5 (some ((TRow.mk x3 x6) : TRow))) = some y := h
      replace h := uc_ok h; obtain ⟨a1, l2, rfl, h⟩ := h
      replace h := getI_ok h; obtain ⟨x3, rfl, h⟩ := h
      replace h := uc_ok h; obtain ⟨a4, l5, rfl, h⟩ := h
      replace h := getAny_ok h; obtain ⟨x6, h, z7⟩ := h
      replace h := un_ok h; obtain ⟨rfl, h⟩ := h
      cases h
      exact ⟨rfl, z7 m, trivial⟩
    | s_lRow =>
      replace h : (uc l fun a1 l2 => getAny .lRow a1 fun x3 => un l2 (some (x3 : List TRow))) = some y := h
      replace h := uc_ok h; obtain ⟨a1, l2, rfl, h⟩ := h
      replace h := getAny_ok h; obtain ⟨x3, h, z4⟩ := h
      replace h := un_ok h; obtain ⟨rfl, h⟩ := h
      cases h
      exact ⟨z4 m, trivial⟩
    | lCond =>
      replace h : (uc l fun a1 l2 => getI .i64 a1 fun x3 => uc l2 fun a4 l5 => getI .i64 a4 fun x6 => uc l5 fun a7 l8 => getI .i64 a7 fun x9 => un l8 (some ((TCond.mk x3 x6 x9) : TCond))) = some y := h
      replace h := uc_ok h; obtain ⟨a1, l2, rfl, h⟩ := h
      replace h := getI_ok h; obtain ⟨x3, rfl, h⟩ := h
      replace h := uc_ok h; obtain ⟨a4, l5, rfl, h⟩ := h
      replace h := getI_ok h; obtain ⟨x6, rfl, h⟩ := h
      replace h := uc_ok h; obtain ⟨a7, l8, rfl, h⟩ := h
      replace h := getI_ok h; obtain ⟨x9, rfl, h⟩ := h
      replace h := un_ok h; obtain ⟨rfl, h⟩ := h
      cases h
      exact ⟨rfl, rfl, rfl, trivial⟩
    | lKid =>
      replace h : (uc l fun a1 l2 => getI .i64 a1 fun x3 => uc l2 fun a4 l5 => getI .i64 a4 fun x6 => un l5 (some ((TKid.mk x3 x6) : TKid))) = some y := h
      replace h := uc_ok h; obtain ⟨a1, l2, rfl, h⟩ := h
      replace h := getI_ok h; obtain ⟨x3, rfl, h⟩ := h
      replace h := uc_ok h; obtain ⟨a4, l5, rfl, h⟩ := h
      replace h := getI_ok h; obtain ⟨x6, rfl, h⟩ := h
      replace h := un_ok h; obtain ⟨rfl, h⟩ := h
      cases h
      exact ⟨rfl, rfl, trivial⟩
def eid : TC → TypeId
  | .int => 3
  | .u8 => 5
  | .str => 9
  | .iRow => 113
  | .s_iRow => 42
  | .iChange => 115
  | .s_iChange => 70
  | .iSeat => 155
  | .iCond => 144
  | .iKid => 137
  | .lRow => 108
  | .s_lRow => 28
  | .lCond => 167
  | .lKid => 172
noncomputable def E : Env := ⟨Try.prog, eid⟩
def ttL : List (Nat × TD) := [
  (3, ⟨1, false, [.i .i64 0], [], none, some .i64, false, false, []⟩),
  (4, ⟨1, false, [.b false], [], none, none, false, true, []⟩),
  (5, ⟨1, false, [.i .u8 0], [], none, some .u8, false, false, []⟩),
  (9, ⟨1, false, [.s []], [], none, none, true, false, []⟩),
  (22, ⟨1, false, [.nils], [], some .int, none, false, false, []⟩),
  (24, ⟨1, true, [.nils], [(0, 1)], none, none, false, false, []⟩),
  (37, ⟨1, true, [.nils], [(0, 1)], none, none, false, false, []⟩),
  (39, ⟨1, false, [.nils], [], some .iCond, none, false, false, []⟩),
  (41, ⟨9, true, [.i .i64 0, .nils, .i .i64 0, .b false, .i .i64 0, .nils, .b false, .i .i64 0, .i .i64 0], [(0, 1), (1, 1), (2, 1), (3, 1), (4, 1), (5, 1), (6, 1), (7, 1), (8, 1)], none, none, false, false, []⟩),
  (42, ⟨1, false, [.nils], [], some .iRow, none, false, false, []⟩),
  (43, ⟨1, false, [.nils], [], some .iKid, none, false, false, []⟩),
  (45, ⟨11, true, [.i .i64 0, .nils, .i .i64 0, .b false, .i .i64 0, .nils, .b false, .i .i64 0, .i .i64 0, .nils, .nils], [(0, 9), (9, 1), (10, 1)], none, none, false, false, []⟩),
  (47, ⟨25, true, [.i .i64 0, .nils, .i .i64 0, .b false, .i .i64 0, .nils, .b false, .i .i64 0, .i .i64 0, .nils, .nils, .i .i64 0, .i .i64 0, .nils, .i .i64 0, .b false, .i .i64 0, .nils, .b false, .i .i64 0, .i .i64 0, .nils, .nils, .i .i64 0, .b false], [(0, 11), (11, 1), (12, 11), (23, 1), (24, 1)], none, none, false, false, []⟩),
  (52, ⟨1, false, [.nils], [], some .s_iRow, none, false, false, []⟩),
  (54, ⟨3, true, [.nils, .i .i64 0, .nils], [(0, 1), (1, 1), (2, 1)], none, none, false, false, []⟩),
  (55, ⟨1, false, [.nils], [], some .s_iChange, none, false, false, []⟩),
  (57, ⟨4, true, [.nils, .i .i64 0, .nils, .nils], [(0, 3), (3, 1)], none, none, false, false, []⟩),
  (58, ⟨1, false, [.nils], [], some .iSeat, none, false, false, []⟩),
  (60, ⟨5, true, [.nils, .i .i64 0, .nils, .nils, .nils], [(0, 4), (4, 1)], none, none, false, false, []⟩),
  (70, ⟨1, false, [.nils], [], some .iChange, none, false, false, []⟩),
  (113, ⟨2, true, [.i .i64 0, .nils], [(0, 1), (1, 1)], none, none, false, false, []⟩),
  (115, ⟨7, true, [.i .i64 0, .b false, .b false, .i .i64 0, .nils, .i .i64 0, .nils], [(0, 1), (1, 1), (2, 1), (3, 2), (5, 2)], none, none, false, false, []⟩),
  (137, ⟨2, true, [.i .i64 0, .i .i64 0], [(0, 1), (1, 1)], none, none, false, false, [.i, .i]⟩),
  (144, ⟨3, true, [.i .i64 0, .i .i64 0, .i .i64 0], [(0, 1), (1, 1), (2, 1)], none, none, false, false, [.i, .i, .i]⟩),
  (153, ⟨2, true, [.s [], .i .i64 0], [(0, 1), (1, 1)], none, none, false, false, [.s, .i]⟩),
  (155, ⟨30, true, [.i .i64 0, .nils, .i .i64 0, .b false, .i .i64 0, .nils, .b false, .i .i64 0, .i .i64 0, .nils, .nils, .i .i64 0, .i .i64 0, .nils, .i .i64 0, .b false, .i .i64 0, .nils, .b false, .i .i64 0, .i .i64 0, .nils, .nils, .i .i64 0, .b false, .s [], .i .i64 0, .s [], .s [], .b false], [(0, 25), (25, 2), (27, 1), (28, 1), (29, 1)], none, none, false, false, []⟩),
  (180, ⟨1, false, [.nils], [], some .u8, none, false, false, []⟩)]
def tt (T : Nat) : Option TD := look2 ttL T
theorem ttOk (T : TypeId) : TTok E T (tt T) := tt_ok (E := E) (by kernel_rfl) T
theorem tcOk (t : TC) : TCok E t := by
  cases t with
  | int => exact tcB_ok (zc := [.i .i64 0]) (by kernel_rfl) (fun m => ⟨rfl, trivial⟩)
  | u8 => exact tcB_ok (zc := [.i .u8 0]) (by kernel_rfl) (fun m => ⟨rfl, trivial⟩)
  | str => exact tcB_ok (zc := [.s []]) (by kernel_rfl) (fun m => ⟨rfl, trivial⟩)
  | iRow => exact tcB_ok (zc := [.i .i64 0, .nils]) (by kernel_rfl) (fun m => ⟨rfl, ⟨_, rfl⟩, trivial⟩)
  | s_iRow => exact tcB_ok (zc := [.nils]) (by kernel_rfl) (fun m => ⟨⟨_, rfl⟩, trivial⟩)
  | iChange => exact tcB_ok (zc := [.i .i64 0, .b false, .b false, .i .i64 0, .nils, .i .i64 0, .nils]) (by kernel_rfl) (fun m => ⟨rfl, rfl, rfl, rfl, ⟨_, rfl⟩, rfl, ⟨_, rfl⟩, trivial⟩)
  | s_iChange => exact tcB_ok (zc := [.nils]) (by kernel_rfl) (fun m => ⟨⟨_, rfl⟩, trivial⟩)
  | iSeat => exact tcB_ok (zc := [.i .i64 0, .nils, .i .i64 0, .b false, .i .i64 0, .nils, .b false, .i .i64 0, .i .i64 0, .nils, .nils, .i .i64 0, .i .i64 0, .nils, .i .i64 0, .b false, .i .i64 0, .nils, .b false, .i .i64 0, .i .i64 0, .nils, .nils, .i .i64 0, .b false, .s [], .i .i64 0, .s [], .s [], .b false]) (by kernel_rfl) (fun m => ⟨rfl, ⟨_, rfl⟩, rfl, rfl, rfl, ⟨_, rfl⟩, rfl, rfl, rfl, ⟨_, rfl⟩, ⟨_, rfl⟩, rfl, rfl, ⟨_, rfl⟩, rfl, rfl, rfl, ⟨_, rfl⟩, rfl, rfl, rfl, ⟨_, rfl⟩, ⟨_, rfl⟩, rfl, rfl, rfl, rfl, rfl, rfl, rfl, trivial⟩)
  | iCond => exact tcB_ok (zc := [.i .i64 0, .i .i64 0, .i .i64 0]) (by kernel_rfl) (fun m => ⟨rfl, rfl, rfl, trivial⟩)
  | iKid => exact tcB_ok (zc := [.i .i64 0, .i .i64 0]) (by kernel_rfl) (fun m => ⟨rfl, rfl, trivial⟩)
  | lRow => exact tcB_ok (zc := [.i .i64 0, .nils]) (by kernel_rfl) (fun m => ⟨rfl, ⟨_, rfl⟩, trivial⟩)
  | s_lRow => exact tcB_ok (zc := [.nils]) (by kernel_rfl) (fun m => ⟨⟨_, rfl⟩, trivial⟩)
  | lCond => exact tcB_ok (zc := [.i .i64 0, .i .i64 0, .i .i64 0]) (by kernel_rfl) (fun m => ⟨rfl, rfl, rfl, trivial⟩)
  | lKid => exact tcB_ok (zc := [.i .i64 0, .i .i64 0]) (by kernel_rfl) (fun m => ⟨rfl, rfl, trivial⟩)
theorem u8Ok : E.P.underlying (E.eid .u8) = some (.int .u8) := by kernel_rfl
theorem mixedOk : E.P.follows .mixedOrders = true := by kernel_rfl
end Go.Pi
end
section
set_option linter.unusedVariables false
/-! Patterns of abstract values: what they hold, how it is read and laid. -/
namespace Go.Pi
def both {α β : Type} (a : Option α) (b : Option β) : Option (α × β) := match a with
  | some x => match b with
    | some y => some (x, y)
    | none => none
  | none => none
theorem both_ok {α β : Type} {a : Option α} {b : Option β} {z : α × β} (h : both a b = some z) : a = some z.1 ∧ b = some z.2 := by
  cases a with
  | none => cases h
  | some x => cases b with
    | none => cases h
    | some y => cases h; exact ⟨rfl, rfl⟩
inductive Pat : Type where
  | i (k : IntKind) | b | s
  | sl (m : M) (t : TC)
  | ag (ps : List Pat) | tu (ps : List Pat) | bx (ps : List Pat)
  | pc (ps : List Pat) (off : Nat)
  | clo (f : FuncId) (ps : List Pat)
  | rt (r : Nat) | pb (r off : Nat)
  | nils | nili | u
mutual
def Pat.T : Pat → Type
  | .i _ => Int
  | .b => Bool
  | .s => Bs
  | .sl _ t => List (El t)
  | .ag ps => Pat.Ts ps
  | .tu ps => Pat.Ts ps
  | .bx ps => Pat.Ts ps
  | .pc ps _ => Pat.Ts ps
  | .clo _ ps => Pat.Ts ps
  | .rt _ => Unit
  | .pb _ _ => Unit
  | .nils => Unit
  | .nili => Unit
  | .u => Unit
def Pat.Ts : List Pat → Type
  | [] => Unit
  | p :: ps => Pat.T p × Pat.Ts ps
end
mutual
def Pat.enc : (p : Pat) → Pat.T p → AV
  | .i k, n => .i k n
  | .b, q => .b q
  | .s, l => .s l
  | .sl m t, xs => .sl m t xs
  | .ag ps, x => .ag (Pat.encs ps x)
  | .tu ps, x => .tu (Pat.encs ps x)
  | .bx ps, x => .bx (Pat.encs ps x)
  | .pc ps off, x => .pc (Pat.encs ps x) off
  | .clo f ps, x => .clo f (Pat.encs ps x)
  | .rt r, _ => .rt r
  | .pb r off, _ => .pb r off
  | .nils, _ => .nils
  | .nili, _ => .nili
  | .u, _ => .u
def Pat.encs : (ps : List Pat) → Pat.Ts ps → List AV
  | [], _ => []
  | p :: ps, x => Pat.enc p x.1 :: Pat.encs ps x.2
end
mutual
def Pat.dec : (p : Pat) → AV → Option (Pat.T p)
  | .i k, a => getI k a fun n => some n
  | .b, a => getB a fun q => some q
  | .s, a => getS a fun l => some l
  | .sl m t, a => getSl m t a fun xs => some xs
  | .ag ps, a => getAg a fun l => Pat.decs ps l
  | .tu ps, a => getTu a fun l => Pat.decs ps l
  | .bx ps, a => getBx a fun l => Pat.decs ps l
  | .pc ps off, a => getPc off a fun l => Pat.decs ps l
  | .clo f ps, a => getClo f a fun l => Pat.decs ps l
  | .rt r, a => isRt r a (some ())
  | .pb r off, a => isPb r off a (some ())
  | .nils, a => isNils a (some ())
  | .nili, a => isNili a (some ())
  | .u, a => isU a (some ())
def Pat.decs : (ps : List Pat) → List AV → Option (Pat.Ts ps)
  | [], l => un l (some ())
  | p :: ps, l => uc l fun a l => both (Pat.dec p a) (Pat.decs ps l)
end
mutual
theorem Pat.dec_ok : ∀ (p : Pat) (a : AV) (x : Pat.T p), Pat.dec p a = some x → a = Pat.enc p x
  | .i k, a, x, h => by simp only [Pat.dec] at h; replace h := getI_ok h; obtain ⟨n, rfl, h⟩ := h; cases h; simp only [Pat.enc]
  | .b, a, x, h => by simp only [Pat.dec] at h; replace h := getB_ok h; obtain ⟨n, rfl, h⟩ := h; cases h; simp only [Pat.enc]
  | .s, a, x, h => by simp only [Pat.dec] at h; replace h := getS_ok h; obtain ⟨n, rfl, h⟩ := h; cases h; simp only [Pat.enc]
  | .sl m t, a, x, h => by simp only [Pat.dec] at h; replace h := getSl_ok h; obtain ⟨n, rfl, h⟩ := h; cases h; simp only [Pat.enc]
  | .ag ps, a, x, h => by simp only [Pat.dec] at h; replace h := getAg_ok h; obtain ⟨l, rfl, h⟩ := h; rw [Pat.decs_ok ps l x h]; simp only [Pat.enc]
  | .tu ps, a, x, h => by simp only [Pat.dec] at h; replace h := getTu_ok h; obtain ⟨l, rfl, h⟩ := h; rw [Pat.decs_ok ps l x h]; simp only [Pat.enc]
  | .bx ps, a, x, h => by simp only [Pat.dec] at h; replace h := getBx_ok h; obtain ⟨l, rfl, h⟩ := h; rw [Pat.decs_ok ps l x h]; simp only [Pat.enc]
  | .pc ps off, a, x, h => by simp only [Pat.dec] at h; replace h := getPc_ok h; obtain ⟨l, rfl, h⟩ := h; rw [Pat.decs_ok ps l x h]; simp only [Pat.enc]
  | .clo f ps, a, x, h => by simp only [Pat.dec] at h; replace h := getClo_ok h; obtain ⟨l, rfl, h⟩ := h; rw [Pat.decs_ok ps l x h]; simp only [Pat.enc]
  | .rt r, a, x, h => by simp only [Pat.dec] at h; replace h := isRt_ok h; obtain ⟨rfl, h⟩ := h; simp only [Pat.enc]
  | .pb r off, a, x, h => by simp only [Pat.dec] at h; replace h := isPb_ok h; obtain ⟨rfl, h⟩ := h; simp only [Pat.enc]
  | .nils, a, x, h => by simp only [Pat.dec] at h; replace h := isNils_ok h; obtain ⟨rfl, h⟩ := h; simp only [Pat.enc]
  | .nili, a, x, h => by simp only [Pat.dec] at h; replace h := isNili_ok h; obtain ⟨rfl, h⟩ := h; simp only [Pat.enc]
  | .u, a, x, h => by simp only [Pat.dec] at h; replace h := isU_ok h; obtain ⟨rfl, h⟩ := h; simp only [Pat.enc]
theorem Pat.decs_ok : ∀ (ps : List Pat) (l : List AV) (x : Pat.Ts ps), Pat.decs ps l = some x → l = Pat.encs ps x
  | [], l, x, h => by simp only [Pat.decs] at h; replace h := un_ok h; obtain ⟨rfl, h⟩ := h; simp only [Pat.encs]
  | p :: ps, l, x, h => by
    simp only [Pat.decs] at h
    replace h := uc_ok h; obtain ⟨a, l, rfl, h⟩ := h
    obtain ⟨h1, h2⟩ := both_ok h
    rw [Pat.dec_ok p a x.1 h1, Pat.decs_ok ps l x.2 h2]
    simp only [Pat.encs]
end
/-! the blocks of roots -/
inductive BPat : Type where
  | ext | non
  | box (ps : List Pat)
  | arr (m : M) (t : TC) (st : Nat)
def BPat.T : BPat → Type
  | .ext => Unit
  | .non => Unit
  | .box ps => Pat.Ts ps
  | .arr _ t _ => List (El t)
def BPat.Ts : List BPat → Type
  | [] => Unit
  | p :: ps => BPat.T p × BPat.Ts ps
def BPat.enc : (p : BPat) → BPat.T p → Option Blk
  | .ext, _ => some .ext
  | .non, _ => none
  | .box ps, x => some (.box (Pat.encs ps x))
  | .arr m t st, xs => some (.arr m t st xs)
def BPat.encs : (ps : List BPat) → BPat.Ts ps → List (Option Blk)
  | [], _ => []
  | p :: ps, x => BPat.enc p x.1 :: BPat.encs ps x.2
def BPat.dec : (p : BPat) → Option Blk → Option (BPat.T p)
  | .ext, a => isExt a (some ())
  | .non, a => noBlk a (some ())
  | .box ps, a => getBox a fun l => Pat.decs ps l
  | .arr m t st, a => getArr m t st a fun xs => some xs
def BPat.decs : (ps : List BPat) → List (Option Blk) → Option (BPat.Ts ps)
  | [], l => un l (some ())
  | p :: ps, l => uc l fun a l => both (BPat.dec p a) (BPat.decs ps l)
theorem BPat.dec_ok (p : BPat) (a : Option Blk) (x : BPat.T p) (h : BPat.dec p a = some x) : a = BPat.enc p x := by
  cases p with
  | ext => obtain ⟨rfl, _⟩ := isExt_ok h; rfl
  | non => obtain ⟨rfl, _⟩ := noBlk_ok h; rfl
  | box ps => replace h := getBox_ok h; obtain ⟨l, rfl, h⟩ := h; rw [Pat.decs_ok ps l x h]; rfl
  | arr m t st => replace h := getArr_ok h; obtain ⟨l, rfl, h⟩ := h; cases h; rfl
theorem BPat.decs_ok : ∀ (ps : List BPat) (l : List (Option Blk)) (x : BPat.Ts ps), BPat.decs ps l = some x → l = BPat.encs ps x
  | [], l, x, h => by simp only [BPat.decs] at h; replace h := un_ok h; obtain ⟨rfl, h⟩ := h; rfl
  | p :: ps, l, x, h => by
    simp only [BPat.decs] at h
    replace h := uc_ok h; obtain ⟨a, l, rfl, h⟩ := h
    obtain ⟨h1, h2⟩ := both_ok h
    rw [BPat.dec_ok p a x.1 h1, BPat.decs_ok ps l x.2 h2]
    rfl
/-- what a piece makes of its data -/
def piece {R : Type} (vp : List Pat) (bp : List BPat) (v : List AV) (b : List (Option Blk)) (g : Pat.Ts vp → BPat.Ts bp → Option R) : Option R :=
  match Pat.decs vp v with
  | some x => (match BPat.decs bp b with
    | some y => g x y
    | none => none)
  | none => none
theorem piece_ok {R : Type} {vp : List Pat} {bp : List BPat} {v : List AV} {b : List (Option Blk)} {g : Pat.Ts vp → BPat.Ts bp → Option R} {r : R} (h : piece vp bp v b g = some r) :
    ∃ x y, v = Pat.encs vp x ∧ b = BPat.encs bp y ∧ g x y = some r := by
  unfold piece at h
  cases h1 : Pat.decs vp v with
  | none => rw [h1] at h; cases h
  | some x =>
    rw [h1] at h
    cases h2 : BPat.decs bp b with
    | none => rw [h2] at h; cases h
    | some y => rw [h2] at h; exact ⟨x, y, Pat.decs_ok _ _ _ h1, BPat.decs_ok _ _ _ h2, h⟩
/-- what is left at the end, az the answer -/
def finP {R : Type} (ps : List Pat) (k : Pat.Ts ps → R) (o : List AV) : Option R := match Pat.decs ps o with
  | some x => some (k x)
  | none => none
theorem finP_ok {R : Type} {ps : List Pat} {k : Pat.Ts ps → R} {inj : R → List AV} (hk : ∀ x, Pat.encs ps x = inj (k x)) {o : List AV} {r : R} (h : finP ps k o = some r) : o = inj r := by
  unfold finP at h
  cases h1 : Pat.decs ps o with
  | none => rw [h1] at h; cases h
  | some x =>
    rw [h1] at h
    cases h
    rw [Pat.decs_ok _ _ _ h1, hk]
end Go.Pi
end
section
set_option linter.unusedVariables false
namespace Go.Pi
/-- a callee, out of what its arguments are and what it answers -/
def mkK {R : Type} (ss : List Sk) (ps : List Pat) (f : Pat.Ts ps → Option R) (rv : R → AV) (outs : R → List AV) {ω : Type} (avs : List AV) (κ : AV → List AV → Option ω) : Option ω :=
  match Pat.decs ps (fixes ss avs) with
  | some x => (f x).bind fun r => κ (rv r) (outs r)
  | none => none
theorem mkK_par {R : Type} {ss : List Sk} {ps : List Pat} {f : Pat.Ts ps → Option R} {rv : R → AV} {outs : R → List AV} {ω : Type} {avs : List AV} {κ : AV → List AV → Option ω} {q : ω} (h : mkK ss ps f rv outs avs κ = some q) :
    ∃ r o, κ r o = some q ∧ ∀ (ω' : Type) (κ' : AV → List AV → Option ω'), mkK ss ps f rv outs avs κ' = κ' r o := by
  unfold mkK at h
  cases hd : Pat.decs ps (fixes ss avs) with
  | none => rw [hd] at h; cases h
  | some x =>
    rw [hd] at h
    simp only at h
    cases hf : f x with
    | none => rw [hf] at h; cases h
    | some r =>
      rw [hf] at h
      exact ⟨_, _, h, fun ω' κ' => by unfold mkK; rw [hd]; simp only [hf]; rfl⟩
variable [Coding]
theorem mkK_ok [CodingOk] {E : Env} {fid : FuncId} {sg : Option (List PS)} {R : Type} {ss : List Sk} {ps : List Pat} {f : Pat.Ts ps → Option R} {rv : R → AV} {outs : R → List AV} {pss : List PS} (hfn : FnOk E fid) (hsig : sg = some pss)
    (ho : ∀ x r, f x = some r → CallOk E fid (Pat.encs ps x) (rv r) (outs r) pss) {ω : Type} {avs : List AV} {κ : AV → List AV → Option ω} {q : ω} (h : mkK ss ps f rv outs avs κ = some q) :
    FnOk E fid ∧ ∃ ps' r o, sg = some ps' ∧ κ r o = some q ∧ CallOk E fid avs r o ps' := by
  unfold mkK at h
  cases hd : Pat.decs ps (fixes ss avs) with
  | none => rw [hd] at h; cases h
  | some x =>
    rw [hd] at h
    simp only at h
    cases hf : f x with
    | none => rw [hf] at h; cases h
    | some r =>
      rw [hf] at h
      exact ⟨hfn, pss, _, _, hsig, h, CallOk.fix (ss := ss) (by rw [Pat.decs_ok _ _ _ hd]; exact ho x r hf)⟩
end Go.Pi
end
section
set_option linter.unusedVariables false
set_option linter.unusedSectionVars false
/-! What a function's print says of it, az data; what it owes, out of a few closed facts. -/
namespace Go.Pi
mutual
def Pat.C : Pat → Type → Type
  | .i _, α => Int → α
  | .b, α => Bool → α
  | .s, α => Bs → α
  | .sl _ t, α => List (El t) → α
  | .ag ps, α => Pat.Cs ps α
  | .tu ps, α => Pat.Cs ps α
  | .bx ps, α => Pat.Cs ps α
  | .pc ps _, α => Pat.Cs ps α
  | .clo _ ps, α => Pat.Cs ps α
  | .rt _, α => α
  | .pb _ _, α => α
  | .nils, α => α
  | .nili, α => α
  | .u, α => α
def Pat.Cs : List Pat → Type → Type
  | [], α => α
  | p :: ps, α => Pat.C p (Pat.Cs ps α)
end
mutual
def Pat.ap : (p : Pat) → (α : Type) → Pat.C p α → Pat.T p → α
  | .i _, _, f, x => f x
  | .b, _, f, x => f x
  | .s, _, f, x => f x
  | .sl _ _, _, f, x => f x
  | .ag ps, α, f, x => Pat.aps ps α f x
  | .tu ps, α, f, x => Pat.aps ps α f x
  | .bx ps, α, f, x => Pat.aps ps α f x
  | .pc ps _, α, f, x => Pat.aps ps α f x
  | .clo _ ps, α, f, x => Pat.aps ps α f x
  | .rt _, _, f, _ => f
  | .pb _ _, _, f, _ => f
  | .nils, _, f, _ => f
  | .nili, _, f, _ => f
  | .u, _, f, _ => f
def Pat.aps : (ps : List Pat) → (α : Type) → Pat.Cs ps α → Pat.Ts ps → α
  | [], _, f, _ => f
  | p :: ps, α, f, x => Pat.aps ps α (Pat.ap p (Pat.Cs ps α) f x.1) x.2
end
mutual
def Pat.lm : (p : Pat) → (α : Type) → (Pat.T p → α) → Pat.C p α
  | .i _, _, f => f
  | .b, _, f => f
  | .s, _, f => f
  | .sl _ _, _, f => f
  | .ag ps, α, f => Pat.lms ps α f
  | .tu ps, α, f => Pat.lms ps α f
  | .bx ps, α, f => Pat.lms ps α f
  | .pc ps _, α, f => Pat.lms ps α f
  | .clo _ ps, α, f => Pat.lms ps α f
  | .rt _, _, f => f ()
  | .pb _ _, _, f => f ()
  | .nils, _, f => f ()
  | .nili, _, f => f ()
  | .u, _, f => f ()
def Pat.lms : (ps : List Pat) → (α : Type) → (Pat.Ts ps → α) → Pat.Cs ps α
  | [], _, f => f ()
  | p :: ps, α, f => Pat.lm p (Pat.Cs ps α) fun a => Pat.lms ps α fun r => f (a, r)
end
mutual
theorem Pat.ap_lm : ∀ (p : Pat) (α : Type) (f : Pat.T p → α) (x : Pat.T p), Pat.ap p α (Pat.lm p α f) x = f x
  | .i _, _, f, x => rfl
  | .b, _, f, x => rfl
  | .s, _, f, x => rfl
  | .sl _ _, _, f, x => rfl
  | .ag ps, α, f, x => Pat.aps_lms ps α f x
  | .tu ps, α, f, x => Pat.aps_lms ps α f x
  | .bx ps, α, f, x => Pat.aps_lms ps α f x
  | .pc ps _, α, f, x => Pat.aps_lms ps α f x
  | .clo _ ps, α, f, x => Pat.aps_lms ps α f x
  | .rt _, _, f, x => rfl
  | .pb _ _, _, f, x => rfl
  | .nils, _, f, x => rfl
  | .nili, _, f, x => rfl
  | .u, _, f, x => rfl
theorem Pat.aps_lms : ∀ (ps : List Pat) (α : Type) (f : Pat.Ts ps → α) (x : Pat.Ts ps), Pat.aps ps α (Pat.lms ps α f) x = f x
  | [], _, f, x => rfl
  | p :: ps, α, f, x => by
    show Pat.aps ps α (Pat.ap p (Pat.Cs ps α) (Pat.lm p (Pat.Cs ps α) fun a => Pat.lms ps α fun r => f (a, r)) x.1) x.2 = f x
    rw [Pat.ap_lm p _ _ x.1, Pat.aps_lms ps α _ x.2]
    rfl
end
mutual
theorem Pat.lm_ap : ∀ (p : Pat) (α : Type) (f : Pat.C p α), Pat.lm p α (Pat.ap p α f) = f
  | .i _, _, f => rfl
  | .b, _, f => rfl
  | .s, _, f => rfl
  | .sl _ _, _, f => rfl
  | .ag ps, α, f => Pat.lms_aps ps α f
  | .tu ps, α, f => Pat.lms_aps ps α f
  | .bx ps, α, f => Pat.lms_aps ps α f
  | .pc ps _, α, f => Pat.lms_aps ps α f
  | .clo _ ps, α, f => Pat.lms_aps ps α f
  | .rt _, _, f => rfl
  | .pb _ _, _, f => rfl
  | .nils, _, f => rfl
  | .nili, _, f => rfl
  | .u, _, f => rfl
theorem Pat.lms_aps : ∀ (ps : List Pat) (α : Type) (f : Pat.Cs ps α), Pat.lms ps α (Pat.aps ps α f) = f
  | [], _, f => rfl
  | p :: ps, α, f => by
    show Pat.lm p (Pat.Cs ps α) (fun a => Pat.lms ps α (Pat.aps ps α (Pat.ap p (Pat.Cs ps α) f a))) = f
    rw [show (fun a => Pat.lms ps α (Pat.aps ps α (Pat.ap p (Pat.Cs ps α) f a))) = Pat.ap p (Pat.Cs ps α) f from funext fun a => Pat.lms_aps ps α _]
    exact Pat.lm_ap p _ f
end
def BPat.C : BPat → Type → Type
  | .ext, α => α
  | .non, α => α
  | .box ps, α => Pat.Cs ps α
  | .arr _ t _, α => List (El t) → α
def BPat.Cs : List BPat → Type → Type
  | [], α => α
  | p :: ps, α => BPat.C p (BPat.Cs ps α)
def BPat.ap : (p : BPat) → (α : Type) → BPat.C p α → BPat.T p → α
  | .ext, _, f, _ => f
  | .non, _, f, _ => f
  | .box ps, α, f, x => Pat.aps ps α f x
  | .arr _ _ _, _, f, x => f x
def BPat.aps : (ps : List BPat) → (α : Type) → BPat.Cs ps α → BPat.Ts ps → α
  | [], _, f, _ => f
  | p :: ps, α, f, x => BPat.aps ps α (BPat.ap p (BPat.Cs ps α) f x.1) x.2
def BPat.lm : (p : BPat) → (α : Type) → (BPat.T p → α) → BPat.C p α
  | .ext, _, f => f ()
  | .non, _, f => f ()
  | .box ps, α, f => Pat.lms ps α f
  | .arr _ _ _, _, f => f
def BPat.lms : (ps : List BPat) → (α : Type) → (BPat.Ts ps → α) → BPat.Cs ps α
  | [], _, f => f ()
  | p :: ps, α, f => BPat.lm p (BPat.Cs ps α) fun a => BPat.lms ps α fun r => f (a, r)
theorem BPat.ap_lm (p : BPat) (α : Type) (f : BPat.T p → α) (x : BPat.T p) : BPat.ap p α (BPat.lm p α f) x = f x := by
  cases p with
  | ext => rfl
  | non => rfl
  | box ps => exact Pat.aps_lms ps α f x
  | arr m t st => rfl
theorem BPat.lm_ap (p : BPat) (α : Type) (f : BPat.C p α) : BPat.lm p α (BPat.ap p α f) = f := by
  cases p with
  | ext => rfl
  | non => rfl
  | box ps => exact Pat.lms_aps ps α f
  | arr m t st => rfl
theorem BPat.aps_lms : ∀ (ps : List BPat) (α : Type) (f : BPat.Ts ps → α) (x : BPat.Ts ps), BPat.aps ps α (BPat.lms ps α f) x = f x
  | [], _, f, x => rfl
  | p :: ps, α, f, x => by
    show BPat.aps ps α (BPat.ap p (BPat.Cs ps α) (BPat.lm p (BPat.Cs ps α) fun a => BPat.lms ps α fun r => f (a, r)) x.1) x.2 = f x
    rw [BPat.ap_lm p _ _ x.1, BPat.aps_lms ps α _ x.2]
    rfl
theorem BPat.lms_aps : ∀ (ps : List BPat) (α : Type) (f : BPat.Cs ps α), BPat.lms ps α (BPat.aps ps α f) = f
  | [], _, f => rfl
  | p :: ps, α, f => by
    show BPat.lm p (BPat.Cs ps α) (fun a => BPat.lms ps α (BPat.aps ps α (BPat.ap p (BPat.Cs ps α) f a))) = f
    rw [show (fun a => BPat.lms ps α (BPat.aps ps α (BPat.ap p (BPat.Cs ps α) f a))) = BPat.ap p (BPat.Cs ps α) f from funext fun a => BPat.lms_aps ps α _]
    exact BPat.lm_ap p _ f
/-- what lives at a place, and of what form it is -/
structure OD where
  live : Live
  vp : List Pat
  bp : List BPat
abbrev OD.Cu (o : OD) (α : Type) : Type := Pat.Cs o.vp (BPat.Cs o.bp α)
def OD.ap (o : OD) {α : Type} (f : o.Cu α) (x : Pat.Ts o.vp) (y : BPat.Ts o.bp) : α := BPat.aps o.bp α (Pat.aps o.vp _ f x) y
def OD.lm (o : OD) {α : Type} (g : Pat.Ts o.vp → BPat.Ts o.bp → α) : o.Cu α := Pat.lms o.vp _ fun x => BPat.lms o.bp α fun y => g x y
theorem OD.ap_lm (o : OD) {α : Type} (g : Pat.Ts o.vp → BPat.Ts o.bp → α) (x : Pat.Ts o.vp) (y : BPat.Ts o.bp) : o.ap (o.lm g) x y = g x y := by
  unfold OD.ap OD.lm; rw [Pat.aps_lms, BPat.aps_lms]
theorem OD.lm_ap (o : OD) {α : Type} (f : o.Cu α) : o.lm (fun x y => o.ap f x y) = f := by
  unfold OD.ap OD.lm
  rw [show (fun x => BPat.lms o.bp α fun y => BPat.aps o.bp α (Pat.aps o.vp _ f x) y) = Pat.aps o.vp _ f from funext fun x => BPat.lms_aps _ _ _]
  exact Pat.lms_aps _ _ _
/-- what goes on behind a place -/
def OD.k {R : Type} (o : OD) (κ : D R) : o.Cu (Option R) := o.lm fun x y => κ (Pat.encs o.vp x) (BPat.encs o.bp y)
/-- what the pieces make of their data -/
def PFs (R : Type) : List (Nat × OD) → Type
  | [] => Unit
  | (_, o) :: l => (D R → (Nat → D R) → o.Cu (Option R)) × PFs R l
structure FD (R : Type) where
  fid : Nat
  nt : Nat
  e : Nat
  ps : List Pat
  rp : List Pat
  toR : Pat.Ts rp → R
  ofR : R → Pat.Ts rp
  sig : List PS
  rps : List PS
  rsh : List Sh
  rs : List ResultVar
  outs : List AV
  cut : List (Nat × OD)
  nxt : List (Nat × OD)
  out : List (Nat × OD)
variable {R : Type}
abbrev FD.nres (d : FD R) : Nat := d.rs.length
abbrev FD.Fs (d : FD R) : Type := PFs R d.cut
def liveOf (l : List (Nat × OD)) (k : Nat) : Live := match look2 l k with
  | some o => o.live
  | none => []
def FD.ann (d : FD R) : Ann := ⟨fun k => match look2 d.cut k with
  | some o => some o.live
  | none => none, liveOf d.nxt, liveOf d.out⟩
def FD.inj (d : FD R) (r : R) : List AV := Pat.encs d.rp (d.ofR r)
def FD.fin (d : FD R) (o : List AV) : Option R := match Pat.decs d.rp o with
  | some x => some (d.toR x)
  | none => none
def lfL : (l : List (Nat × OD)) → PFs R l → LF R
  | [], _, _, _, _, _, _ => none
  | (k, o) :: l, fs, key, κd, κe, v, b => cond (Nat.beq key k) (piece o.vp o.bp v b fun x y => o.ap (fs.1 κd κe) x y) (lfL l fs.2 key κd κe v b)
/-- of all pieces -/
def AllQ (q : Nat → (o : OD) → (D R → (Nat → D R) → o.Cu (Option R)) → Prop) : (l : List (Nat × OD)) → PFs R l → Prop
  | [], _ => True
  | (k, o) :: l, fs => q k o fs.1 ∧ AllQ q l fs.2
theorem AllQ.nil {q : Nat → (o : OD) → (D R → (Nat → D R) → o.Cu (Option R)) → Prop} {u : PFs R []} : AllQ q [] u := trivial
theorem AllQ.cons {q : Nat → (o : OD) → (D R → (Nat → D R) → o.Cu (Option R)) → Prop} {k : Nat} {o : OD} {l : List (Nat × OD)} {fs : PFs R ((k, o) :: l)} (h : q k o fs.1) (hl : AllQ q l fs.2) : AllQ q ((k, o) :: l) fs := ⟨h, hl⟩
def codeAt : Option Piece → Code
  | some (.loop a _) => a
  | some (.tail a _) => a
  | none => .skip
def keyAt : Option Piece → Nat
  | some (.loop _ k) => k
  | some (.tail _ k) => k
  | none => 0
def isLoopB : Option Piece → Bool
  | some (.loop _ _) => true
  | _ => false
def isTailB : Option Piece → Bool
  | some (.tail _ _) => true
  | _ => false
theorem isLoop_eq {p : Option Piece} (h : isLoopB p = true) : p = some (.loop (codeAt p) (keyAt p)) := by
  match p, h with
  | some (.loop a k), _ => rfl
theorem isTail_eq {p : Option Piece} (h : isTailB p = true) : p = some (.tail (codeAt p) (keyAt p)) := by
  match p, h with
  | some (.tail a k), _ => rfl
def bodyOf (fn : Func) : Code := match fn.body with
  | some c => c
  | none => .skip
mutual
def Pat.sk : Pat → Sk
  | .sl m t => .sl m t
  | .ag ps => .ag (Pat.sks ps)
  | _ => .k
def Pat.sks : List Pat → List Sk
  | [] => []
  | p :: ps => Pat.sk p :: Pat.sks ps
end
theorem Pat.encs_length : ∀ (ps : List Pat) (x : Pat.Ts ps), (Pat.encs ps x).length = ps.length
  | [], _ => rfl
  | p :: ps, x => by simp only [Pat.encs, List.length_cons, Pat.encs_length ps x.2]
section
variable [Coding]
def FD.kr (d : FD R) (c : Cx) : St → Option R := retK c d.rsh d.rps d.rs d.outs d.fin
def FD.at (d : FD R) (B : Code) (key : Nat) : Option Piece := pieceAt d.ann B 0 key
/-- one round of a loop -/
def FD.Round (d : FD R) (fs : d.Fs) (c : Cx) (B : Code) (key : Nat) (o : OD) (step : (Nat → D R) → o.Cu (Option R) → o.Cu (Option R)) : Prop :=
  ∀ (κ : D R) (κe : Nat → D R) (x : Pat.Ts o.vp) (y : BPat.Ts o.bp), run c d.e d.ann (lfL d.cut fs) (d.kr c) (codeAt (d.at B key)) (keyAt (d.at B key)) (fun s => cutK d.e o.live s κ) (fun j s => cutK d.e (d.ann.out j) s (κe j)) (St.ofC o.live (Pat.encs o.vp x) (BPat.encs o.bp y)) =
    o.ap (step κe (o.k κ)) x y
def FD.Tail (d : FD R) (fs : d.Fs) (c : Cx) (B : Code) (key : Nat) (o : OD) (f : D R → (Nat → D R) → o.Cu (Option R)) : Prop :=
  ∀ (κd : D R) (κe : Nat → D R) (x : Pat.Ts o.vp) (y : BPat.Ts o.bp), run c d.e d.ann (lfL d.cut fs) (d.kr c) (codeAt (d.at B key)) (keyAt (d.at B key)) (fun s => cutK d.e (d.ann.nxt key) s κd) (fun j s => cutK d.e (d.ann.out j) s (κe j)) (St.ofC o.live (Pat.encs o.vp x) (BPat.encs o.bp y)) =
    o.ap (f κd κe) x y
def FD.PieceOk (d : FD R) (fs : d.Fs) (c : Cx) (B : Code) (key : Nat) (o : OD) (f : D R → (Nat → D R) → o.Cu (Option R)) : Prop :=
  ∀ (κd : D R) (κe : Nat → D R) (x : Pat.Ts o.vp) (y : BPat.Ts o.bp) (r : R), o.ap (f κd κe) x y = some r →
    ∃ q, pieceAt d.ann B 0 key = some q ∧ pieceIs c d.e d.ann (lfL d.cut fs) (d.kr c) key o.live κd κe (Pat.encs o.vp x) (BPat.encs o.bp y) r q
theorem FD.rounds_eq {d : FD R} {fs : d.Fs} {c : Cx} {B : Code} {key : Nat} {o : OD} {step : (Nat → D R) → o.Cu (Option R) → o.Cu (Option R)} (h : d.Round fs c B key o step) (κe : Nat → D R) :
    ∀ (N : Nat) (x : Pat.Ts o.vp) (y : BPat.Ts o.bp), rounds c d.e d.ann (lfL d.cut fs) (d.kr c) (codeAt (d.at B key)) (keyAt (d.at B key)) o.live κe N (Pat.encs o.vp x) (BPat.encs o.bp y) = o.ap (iterN (o.lm fun _ _ => none) (step κe) N) x y
  | 0, x, y => (o.ap_lm (fun _ _ => (none : Option R)) x y).symm
  | N + 1, x, y => by
    show run c d.e d.ann (lfL d.cut fs) (d.kr c) (codeAt (d.at B key)) (keyAt (d.at B key)) (fun s => cutK d.e o.live s (rounds c d.e d.ann (lfL d.cut fs) (d.kr c) (codeAt (d.at B key)) (keyAt (d.at B key)) o.live κe N)) (fun j s => cutK d.e (d.ann.out j) s (κe j)) (St.ofC o.live (Pat.encs o.vp x) (BPat.encs o.bp y)) = o.ap (step κe (iterN (o.lm fun _ _ => none) (step κe) N)) x y
    rw [h]
    congr 2
    unfold OD.k
    rw [← o.lm_ap (iterN (o.lm fun _ _ => none) (step κe) N)]
    congr 1
    funext x y
    exact FD.rounds_eq h κe N x y
theorem FD.lp {d : FD R} {fs : d.Fs} {c : Cx} {B : Code} {key : Nat} {o : OD} {f : D R → (Nat → D R) → o.Cu (Option R)} {step : (Nat → D R) → o.Cu (Option R) → o.Cu (Option R)} (N : Nat) (hr : d.Round fs c B key o step) (h1 : isLoopB (d.at B key) = true)
    (hf : ∀ κd κe, f κd κe = iterN (o.lm fun _ _ => none) (step κe) N) : d.PieceOk fs c B key o f := by
  intro κd κe x y r h
  refine ⟨_, isLoop_eq h1, N, (FD.rounds_eq hr κe N x y).trans ?_⟩
  rw [← hf κd κe]
  exact h
theorem FD.tl {d : FD R} {fs : d.Fs} {c : Cx} {B : Code} {key : Nat} {o : OD} {f : D R → (Nat → D R) → o.Cu (Option R)} (hr : d.Tail fs c B key o f) (h1 : isTailB (d.at B key) = true) : d.PieceOk fs c B key o f := by
  intro κd κe x y r h
  exact ⟨_, isTail_eq h1, (hr κd κe x y).trans h⟩
theorem lfL_some : ∀ {l : List (Nat × OD)} {fs : PFs R l} {q : Nat → (o : OD) → (D R → (Nat → D R) → o.Cu (Option R)) → Prop} {key : Nat} {κd : D R} {κe : Nat → D R} {v : List AV} {b : List (Option Blk)} {r : R}, AllQ q l fs → lfL l fs key κd κe v b = some r →
    ∃ o f x y, look2 l key = some o ∧ q key o f ∧ v = Pat.encs o.vp x ∧ b = BPat.encs o.bp y ∧ o.ap (f κd κe) x y = some r
  | [], _, _, _, _, _, _, _, _, _, h => by cases h
  | (k, o) :: l, fs, q, key, κd, κe, v, b, r, ha, h => by
    simp only [lfL] at h
    cases hk : Nat.beq key k with
    | true =>
      rw [hk] at h
      simp only [cond_true] at h
      obtain ⟨x, y, h1, h2, h3⟩ := piece_ok h
      have := beq_iff.1 hk
      subst this
      exact ⟨o, _, x, y, by simp only [look2, hk, cond_true], ha.1, h1, h2, h3⟩
    | false =>
      rw [hk] at h
      simp only [cond_false] at h
      obtain ⟨o', f, x, y, h0, h1⟩ := lfL_some ha.2 h
      exact ⟨o', f, x, y, by simp only [look2, hk, cond_false]; exact h0, h1⟩
theorem FD.cuts {d : FD R} {fs : d.Fs} {c : Cx} {B : Code} (h : AllQ (fun key o f => d.PieceOk fs c B key o f) d.cut fs) : Cuts c d.e d.ann (lfL d.cut fs) (d.kr c) B := by
  intro key κd κe v b r hl
  obtain ⟨o, f, x, y, h0, hp, rfl, rfl, h3⟩ := lfL_some h hl
  obtain ⟨q, h4, h5⟩ := hp κd κe x y r h3
  exact ⟨o.live, q, by simp only [FD.ann, h0], h4, h5⟩
theorem FD.fin_ok {d : FD R} (hi : ∀ x, d.ofR (d.toR x) = x) (o : List AV) (r : R) (h : d.fin o = some r) : o = d.inj r := by
  unfold FD.fin at h
  cases h1 : Pat.decs d.rp o with
  | none => rw [h1] at h; cases h
  | some x =>
    rw [h1] at h
    simp only [Option.some.injEq] at h
    subst h
    rw [Pat.decs_ok _ _ _ h1, FD.inj, hi]
/-- the whole of a function, az it is run -/
def FD.whole (d : FD R) (fs : d.Fs) (c : Cx) (B : Code) (x : Pat.Ts d.ps) : Option R :=
  entryK d.e (Pat.encs d.ps x) fun v b => match outOfAll d.sig v with
    | some o => cond (AV.allRoots o d.outs) (run c d.e d.ann (lfL d.cut fs) (d.kr c) B 0 (d.kr c) (fun _ _ => none) (St.ofC (live0 d.ps.length) v b)) none
    | none => none
/-- what a function owes -/
def FD.Ok (d : FD R) (E : Env) (F : Pat.Ts d.ps → Option R) : Prop :=
  ∀ x r, F x = some r → CallOk E d.fid (Pat.encs d.ps x) (rvOf d.nres (d.inj r)) ((d.inj r).drop d.nres) d.sig
def FD.K (d : FD R) (F : Pat.Ts d.ps → Option R) {ω : Type} (avs : List AV) (κ : AV → List AV → Option ω) : Option ω :=
  mkK (Pat.sks d.ps) d.ps F (fun r => rvOf d.nres (d.inj r)) (fun r => (d.inj r).drop d.nres) avs κ
theorem FD.kpar {d : FD R} {F : Pat.Ts d.ps → Option R} {ω : Type} {avs : List AV} {κ : AV → List AV → Option ω} {q : ω} (h : d.K F avs κ = some q) :
    ∃ r o, κ r o = some q ∧ ∀ (ω' : Type) (κ' : AV → List AV → Option ω'), d.K F avs κ' = κ' r o := mkK_par h
theorem FD.kok [CodingOk] {E : Env} {d : FD R} {F : Pat.Ts d.ps → Option R} {sg : Option (List PS)} (hfn : FnOk E d.fid) (hsig : sg = some d.sig) (ho : d.Ok E F) {ω : Type} {avs : List AV} {κ : AV → List AV → Option ω} {q : ω} (h : d.K F avs κ = some q) :
    FnOk E d.fid ∧ ∃ ps' r o, sg = some ps' ∧ κ r o = some q ∧ CallOk E d.fid avs r o ps' := mkK_ok hfn hsig ho h
def notNG (fn : Func) : Bool := !(decide (fn.name = "runtime.NumGoroutine"))
theorem FD.kf [CodingOk] {E : Env} {d : FD R} {F : Pat.Ts d.ps → Option R} {sg : Option (List PS)} {fn : Func} (hfn : E.P.funcs[d.fid]? = some fn) (h1 : notNG fn = true) (h2 : fn.body = some (bodyOf fn)) (hsig : sg = some d.sig) (ho : d.Ok E F) (ω : Type) (avs : List AV) (κ : AV → List AV → Option ω) (q : ω) (h : d.K F avs κ = some q) :
    FnOk E d.fid ∧ ∃ ps' r o, sg = some ps' ∧ κ r o = some q ∧ CallOk E d.fid avs r o ps' :=
  FD.kok ⟨fn, _, hfn, fun e => by simp [notNG, e] at h1, h2⟩ hsig ho h
theorem FD.kp {d : FD R} {F : Pat.Ts d.ps → Option R} (ω : Type) (avs : List AV) (κ : AV → List AV → Option ω) (q : ω) (h : d.K F avs κ = some q) :
    ∃ r o, κ r o = some q ∧ ∀ (ω' : Type) (κ' : AV → List AV → Option ω'), d.K F avs κ' = κ' r o := FD.kpar h
theorem FD.ok [CodingOk] {E : Env} {d : FD R} {fs : d.Fs} {c : Cx} {fn : Func} {F : Pat.Ts d.ps → Option R} (hm : E.P.follows .mixedOrders = true) (hfn : E.P.funcs[d.fid]? = some fn) (hbody : fn.body = some (bodyOf fn)) (hres : fn.results = List.toArray d.rs)
    (hnt : fn.ntmps = c.nt) (he : Nat.blt 0 d.e = true) (hi : ∀ x, d.ofR (d.toR x) = x) (hn : Nat.ble d.ps.length c.nt = true) (top : ∀ x, d.whole fs c (bodyOf fn) x = F x)
    (cuts : AllQ (fun key o f => d.PieceOk fs c (bodyOf fn) key o f) d.cut fs) (hc : CxOk E c) (hK : KPar c) : d.Ok E F := by
  intro x r h
  refine fn_sound (avs := Pat.encs d.ps x) hc hK hm hfn hbody hres hnt (blt_iff.1 he) (FD.fin_ok hi) (by rw [Pat.encs_length]; exact hn) ?_ (FD.cuts cuts)
  rw [Pat.encs_length]
  exact (top x).trans h
end
end Go.Pi
end
section
set_option linter.unusedVariables false
set_option maxRecDepth 100000
namespace Go.Pi
def laws_szIntS : Nat → (List Int) → Int → Option Int
  | 0, _, _ => none
  | n + 1, a, left =>
    (cond (decide ((W (left - (a.length : Int))) < 0)) (some (-1)) (some (W (left - (a.length : Int)))))
def laws_szSchema : Nat → TSchema → Int → Option Int
  | 0, _, _ => none
  | n + 1, a, left =>
    ((laws_szIntS n a.cols left).bind fun xr1 => (cond (decide (xr1 < 0)) (some (-1)) (some xr1)))
def laws_toIntS.step4 (n : Nat) (k0 : (List Int) → Option (List Int)) (back : (List Int) → Int → (List Int) → Option (List Int)) (a : List Int) (i : Int) (out_1 : List Int) : Option (List Int) :=
  (cond (decide (i < (a.length : Int))) (inB i a.length (inB i out_1.length (let xa1 : List Int := out_1.set i.toNat (a.getD i.toNat 0); (back a (W (i + 1)) xa1)))) (k0 out_1))
def laws_toIntS.loop4 (n : Nat) (k0 : (List Int) → Option (List Int)) (N : Nat) : (List Int) → Int → (List Int) → Option (List Int) :=
  iterN (fun _ _ _ => none) (fun back => laws_toIntS.step4 n k0 back) N
def laws_toIntS : Nat → (List Int) → Option (List Int)
  | 0, _ => none
  | n + 1, a =>
    (cond (decide ((a.length : Int) = (a.length : Int))) (cond (decide (0 ≤ (a.length : Int))) (cond (decide ((a.length : Int) * 8 ≤ 140737488355328)) (laws_toIntS.loop4 n (fun xy2 => (some xy2)) n a 0 (List.replicate (a.length : Int).toNat 0)) none) none) none)
def laws_toSchema : Nat → TSchema → Option TSchema
  | 0, _ => none
  | n + 1, a =>
    ((laws_toIntS n a.cols).bind fun xr1 => (some (TSchema.mk xr1)))
def spec_l1In : Nat → Int → Int → Int → Option Bool
  | 0, _, _, _ => none
  | n + 1, x, lo, hi =>
    (cond (decide (x ≥ lo)) (some (decide (x ≤ hi))) (some false))
def spec_SchemaOk.step3 (n : Nat) (k0 : (List Int) → Option Bool) (back : Int → (List Int) → Option Bool) (i : Int) (s0 : List Int) : Option Bool :=
  (cond (decide (i < (s0.length : Int))) (inB i s0.length ((spec_l1In n (s0.getD i.toNat 0) 1 4).bind fun xr1 => (cond (!xr1) (some false) (back (W (i + 1)) s0)))) (k0 s0))
def spec_SchemaOk.loop3 (n : Nat) (k0 : (List Int) → Option Bool) (N : Nat) : Int → (List Int) → Option Bool :=
  iterN (fun _ _ => none) (fun back => spec_SchemaOk.step3 n k0 back) N
def spec_SchemaOk : Nat → TSchema → Option Bool
  | 0, _ => none
  | n + 1, s =>
    (spec_SchemaOk.loop3 n (fun xy2 => ((spec_l1In n (xy2.length : Int) 1 3).bind fun xr3 => (some xr3))) n 0 s.cols)
def spec_l7Schema : Nat → TSchema → Option TSchema
  | 0, _ => none
  | n + 1, s =>
    (roomB (([] : List Int).length + s.cols.length) 8 (some (TSchema.mk (([] : List Int) ++ s.cols))))
def spec_StoreNew : Nat → TSchema → Option (TStore × Bool)
  | 0, _ => none
  | n + 1, s =>
    ((spec_SchemaOk n s).bind fun xr1 => (cond (!xr1) (some ((TStore.mk (TSchema.mk ([] : List Int)) 0 ([] : List (List TRow))), false)) ((spec_l7Schema n s).bind fun xr2 => (cond (decide ((s.cols.length : Int) = (s.cols.length : Int))) (cond (decide (0 ≤ (s.cols.length : Int))) (cond (decide ((s.cols.length : Int) * 24 ≤ 140737488355328)) (some ((TStore.mk xr2 0 (List.replicate (s.cols.length : Int).toNat [])), true)) none) none) none))))
def spec_RowOk.step6 (n : Nat) (k0 : Option Bool) (back : Int → Int → (List Int) → Option Bool) (i : Int) (r0 : Int) (r1 : List Int) : Option Bool :=
  (cond (decide (i < (r1.length : Int))) (inB i r1.length ((spec_l1In n (r1.getD i.toNat 0) (-1000000000) 1000000000).bind fun xr4 => (cond (!xr4) (some false) (back (W (i + 1)) r0 r1)))) k0)
def spec_RowOk.loop6 (n : Nat) (k0 : Option Bool) (N : Nat) : Int → Int → (List Int) → Option Bool :=
  iterN (fun _ _ _ => none) (fun back => spec_RowOk.step6 n k0 back) N
def spec_RowOk : Nat → TSchema → Int → TRow → Option Bool
  | 0, _, _, _ => none
  | n + 1, s, table, r =>
    ((spec_SchemaOk n s).bind fun xr1 => (cond (!xr1) (some false) ((spec_l1In n table 0 (W ((s.cols.length : Int) - 1))).bind fun xr2 => (cond (!xr2) (some false) ((spec_l1In n r.id_ 1 999).bind fun xr3 => (cond (!xr3) (some false) (inB table s.cols.length (cond ((r.cells.length : Int) != (s.cols.getD table.toNat 0)) (some false) (spec_RowOk.loop6 n (some true) n 0 r.id_ r.cells)))))))))
def spec_RowsOk.step3 (n : Nat) (k0 : Int → (List TRow) → (List Int) → Option Bool) (back : Int → (List TRow) → Int → (List Int) → Option Bool) (table : Int) (rows : List TRow) (i : Int) (s0 : List Int) : Option Bool :=
  (cond (decide (i < (rows.length : Int))) (inB i rows.length ((spec_RowOk n (TSchema.mk s0) table (rows.getD i.toNat TRow.dflt)).bind fun xr1 => (cond (!xr1) (some false) (cond (decide (i > 0)) (inB (W (i - 1)) rows.length (inB i rows.length (let xv2 : Bool := (decide (((rows.getD (W (i - 1)).toNat TRow.dflt).id_) ≥ ((rows.getD i.toNat TRow.dflt).id_))); (cond xv2 (some false) (back table rows (W (i + 1)) s0))))) (back table rows (W (i + 1)) s0))))) (k0 table rows s0))
def spec_RowsOk.loop3 (n : Nat) (k0 : Int → (List TRow) → (List Int) → Option Bool) (N : Nat) : Int → (List TRow) → Int → (List Int) → Option Bool :=
  iterN (fun _ _ _ _ => none) (fun back => spec_RowsOk.step3 n k0 back) N
def spec_RowsOk : Nat → TSchema → Int → (List TRow) → Option Bool
  | 0, _, _, _ => none
  | n + 1, s, table, rows =>
    (spec_RowsOk.loop3 n (fun xy3 xy4 xy5 => ((spec_SchemaOk n (TSchema.mk xy5)).bind fun xr6 => (cond xr6 ((spec_l1In n xy3 0 (W ((xy5.length : Int) - 1))).bind fun xr7 => (cond xr7 (some (decide ((xy4.length : Int) ≤ 24))) (some false))) (some false)))) n table rows 0 s.cols)
def spec_StoreOk.step6 (n : Nat) (k0 : Option Bool) (back : Int → (List Int) → Int → (List (List TRow)) → Option Bool) (t : Int) (s0 : List Int) (s1 : Int) (s2 : List (List TRow)) : Option Bool :=
  (cond (decide (t < (s2.length : Int))) (inB t s2.length ((spec_RowsOk n (TSchema.mk s0) t (s2.getD t.toNat [])).bind fun xr3 => (cond (!xr3) (some false) (back (W (t + 1)) s0 s1 s2)))) k0)
def spec_StoreOk.loop6 (n : Nat) (k0 : Option Bool) (N : Nat) : Int → (List Int) → Int → (List (List TRow)) → Option Bool :=
  iterN (fun _ _ _ _ => none) (fun back => spec_StoreOk.step6 n k0 back) N
def spec_StoreOk : Nat → TStore → Option Bool
  | 0, _ => none
  | n + 1, s =>
    ((spec_SchemaOk n s.schema).bind fun xr1 => (cond (!xr1) (some false) ((spec_l1In n s.version 0 100000).bind fun xr2 => (cond (!xr2) (some false) (cond ((s.tables.length : Int) != (s.schema.cols.length : Int)) (some false) (spec_StoreOk.loop6 n (some true) n 0 s.schema.cols s.version s.tables))))))
def spec_l6Copy : Nat → TRow → Option TRow
  | 0, _ => none
  | n + 1, r =>
    (roomB (([] : List Int).length + r.cells.length) 8 (some (TRow.mk r.id_ (([] : List Int) ++ r.cells))))
def spec_l6Rows.step4 (n : Nat) (k0 : (List TRow) → Option (List TRow)) (back : (List TRow) → Int → (List TRow) → Option (List TRow)) (rows : List TRow) (i : Int) (out_1 : List TRow) : Option (List TRow) :=
  (cond (decide (i < (rows.length : Int))) (inB i rows.length ((spec_l6Copy n (rows.getD i.toNat TRow.dflt)).bind fun xr1 => (roomB (out_1.length + ([xr1] : List TRow).length) 32 (back rows (W (i + 1)) (out_1 ++ ([xr1] : List TRow)))))) (k0 out_1))
def spec_l6Rows.loop4 (n : Nat) (k0 : (List TRow) → Option (List TRow)) (N : Nat) : (List TRow) → Int → (List TRow) → Option (List TRow) :=
  iterN (fun _ _ _ => none) (fun back => spec_l6Rows.step4 n k0 back) N
def spec_l6Rows : Nat → (List TRow) → Option (List TRow)
  | 0, _ => none
  | n + 1, rows =>
    (spec_l6Rows.loop4 n (fun xy2 => (some xy2)) n rows 0 ([] : List TRow))
def spec_l7Copy.step4 (n : Nat) (k0 : Int → Int → (List Int) → (List (List TRow)) → Option TStore) (back : Int → (List Int) → Int → (List (List TRow)) → Int → Int → (List Int) → (List (List TRow)) → Option TStore) (t : Int) (s0 : List Int) (s1 : Int) (s2 : List (List TRow)) (t21 : Int) (out1 : Int) (out0 : List Int) (out2 : List (List TRow)) : Option TStore :=
  (cond (decide (t < (s2.length : Int))) (inB t s2.length ((spec_l6Rows n (s2.getD t.toNat [])).bind fun xr2 => (roomB (out2.length + ([xr2] : List (List TRow)).length) 24 (back (W (t + 1)) s0 s1 s2 t21 out1 out0 (out2 ++ ([xr2] : List (List TRow))))))) (k0 t21 out1 out0 out2))
def spec_l7Copy.loop4 (n : Nat) (k0 : Int → Int → (List Int) → (List (List TRow)) → Option TStore) (N : Nat) : Int → (List Int) → Int → (List (List TRow)) → Int → Int → (List Int) → (List (List TRow)) → Option TStore :=
  iterN (fun _ _ _ _ _ _ _ _ => none) (fun back => spec_l7Copy.step4 n k0 back) N
def spec_l7Copy : Nat → TStore → Option TStore
  | 0, _ => none
  | n + 1, s =>
    ((spec_l7Schema n s.schema).bind fun xr1 => (spec_l7Copy.loop4 n (fun xy3 xy4 xy5 xy6 => (some (TStore.mk (TSchema.mk xy5) xy4 xy6))) n 0 s.schema.cols s.version s.tables 0 s.version xr1.cols ([] : List (List TRow))))
def spec_RecordNew : Nat → TStore → Option TRecord
  | 0, _ => none
  | n + 1, s =>
    ((spec_StoreOk n s).bind fun xr1 => (cond (!xr1) (some (TRecord.mk (TStore.mk (TSchema.mk ([] : List Int)) 0 ([] : List (List TRow))) ([] : List (List TChange)))) ((spec_l7Copy n s).bind fun xr2 => (some (TRecord.mk xr2 ([] : List (List TChange)))))))
def spec_ServerNew : Nat → TSchema → Option (TServer × Bool)
  | 0, _ => none
  | n + 1, s =>
    ((spec_StoreNew n s).bind fun xr1 => (cond (!xr1.2) (some ((TServer.mk (TRecord.mk (TStore.mk (TSchema.mk ([] : List Int)) 0 ([] : List (List TRow))) ([] : List (List TChange))) ([] : List TSeat)), false)) ((spec_RecordNew n xr1.1).bind fun xr2 => (some ((TServer.mk xr2 ([] : List TSeat)), true)))))
def impl_copyInts : Nat → (List Int) → Option (List Int)
  | 0, _ => none
  | n + 1, l =>
    (roomB (([] : List Int).length + l.length) 8 (some (([] : List Int) ++ l)))
def impl_within : Nat → Int → Int → Int → Option Bool
  | 0, _, _, _ => none
  | n + 1, n1, low, high =>
    (cond (decide (n1 ≥ low)) (some (decide (n1 ≤ high))) (some false))
def impl_SchemaOk.step3 (n : Nat) (k0 : (List Int) → Option Bool) (back : (List Int) → Int → Int → (List Int) → Option Bool) (t6 : List Int) (t7 : Int) (t8 : Int) (s0 : List Int) : Option Bool :=
  (cond (decide (t8 < t7)) (inB t8 t6.length ((impl_within n (t6.getD t8.toNat 0) 1 4).bind fun xr1 => (cond (!xr1) (some false) (back t6 t7 (W (t8 + 1)) s0)))) (k0 s0))
def impl_SchemaOk.loop3 (n : Nat) (k0 : (List Int) → Option Bool) (N : Nat) : (List Int) → Int → Int → (List Int) → Option Bool :=
  iterN (fun _ _ _ _ => none) (fun back => impl_SchemaOk.step3 n k0 back) N
def impl_SchemaOk : Nat → TSchema → Option Bool
  | 0, _ => none
  | n + 1, s =>
    (impl_SchemaOk.loop3 n (fun xy2 => ((impl_within n (xy2.length : Int) 1 3).bind fun xr3 => (some xr3))) n s.cols (s.cols.length : Int) 0 s.cols)
def impl_isVersion : Nat → Int → Option Bool
  | 0, _ => none
  | n + 1, n1 =>
    ((impl_within n n1 0 100000).bind fun xr1 => (some xr1))
def impl_isNum : Nat → Int → Option Bool
  | 0, _ => none
  | n + 1, n1 =>
    ((impl_within n n1 (-1000000000) 1000000000).bind fun xr1 => (some xr1))
def impl_hasTable : Nat → TSchema → Int → Option Bool
  | 0, _, _ => none
  | n + 1, s, table =>
    ((impl_within n table 0 (W ((s.cols.length : Int) - 1))).bind fun xr1 => (some xr1))
def impl_RowOk.step3 (n : Nat) (k0 : Int → (List Int) → Int → (List Int) → Option Bool) (back : Int → (List Int) → Int → Int → (List Int) → Int → (List Int) → Option Bool) (table : Int) (t10 : List Int) (t11 : Int) (t12 : Int) (s0 : List Int) (r0 : Int) (r1 : List Int) : Option Bool :=
  (cond (decide (t12 < t11)) (inB t12 t10.length ((impl_isNum n (t10.getD t12.toNat 0)).bind fun xr1 => (cond (!xr1) (some false) (back table t10 t11 (W (t12 + 1)) s0 r0 r1)))) (k0 table s0 r0 r1))
def impl_RowOk.loop3 (n : Nat) (k0 : Int → (List Int) → Int → (List Int) → Option Bool) (N : Nat) : Int → (List Int) → Int → Int → (List Int) → Int → (List Int) → Option Bool :=
  iterN (fun _ _ _ _ _ _ _ => none) (fun back => impl_RowOk.step3 n k0 back) N
def impl_RowOk : Nat → TSchema → Int → TRow → Option Bool
  | 0, _, _, _ => none
  | n + 1, s, table, r =>
    (impl_RowOk.loop3 n (fun xy2 xy3 xy4 xy5 => ((impl_SchemaOk n (TSchema.mk xy3)).bind fun xr6 => (cond xr6 ((impl_hasTable n (TSchema.mk xy3) xy2).bind fun xr7 => (cond xr7 (inB xy2 xy3.length (cond ((xy5.length : Int) == (xy3.getD xy2.toNat 0)) ((impl_within n xy4 1 999).bind fun xr8 => (some xr8)) (some false))) (some false))) (some false)))) n table r.cells (r.cells.length : Int) 0 s.cols r.id_ r.cells)
def impl_RowsOk.step3 (n : Nat) (k0 : Int → (List TRow) → (List Int) → Option Bool) (back : Int → (List TRow) → (List TRow) → Int → Int → (List Int) → Option Bool) (table : Int) (rows : List TRow) (t9 : List TRow) (t10 : Int) (t11 : Int) (s0 : List Int) : Option Bool :=
  (cond (decide (t11 < t10)) (inB t11 t9.length ((impl_RowOk n (TSchema.mk s0) table (t9.getD t11.toNat TRow.dflt)).bind fun xr1 => (cond (!xr1) (some false) (cond (decide (t11 > 0)) (inB (W (t11 - 1)) rows.length (let xv2 : Bool := (decide (((rows.getD (W (t11 - 1)).toNat TRow.dflt).id_) ≥ ((t9.getD t11.toNat TRow.dflt).id_))); (cond xv2 (some false) (back table rows t9 t10 (W (t11 + 1)) s0)))) (back table rows t9 t10 (W (t11 + 1)) s0))))) (k0 table rows s0))
def impl_RowsOk.loop3 (n : Nat) (k0 : Int → (List TRow) → (List Int) → Option Bool) (N : Nat) : Int → (List TRow) → (List TRow) → Int → Int → (List Int) → Option Bool :=
  iterN (fun _ _ _ _ _ _ => none) (fun back => impl_RowsOk.step3 n k0 back) N
def impl_RowsOk : Nat → TSchema → Int → (List TRow) → Option Bool
  | 0, _, _, _ => none
  | n + 1, s, table, rows =>
    (impl_RowsOk.loop3 n (fun xy3 xy4 xy5 => ((impl_SchemaOk n (TSchema.mk xy5)).bind fun xr6 => (cond xr6 ((impl_hasTable n (TSchema.mk xy5) xy3).bind fun xr7 => (cond xr7 (some (decide ((xy4.length : Int) ≤ 24))) (some false))) (some false)))) n table rows rows (rows.length : Int) 0 s.cols)
def impl_StoreOk.step6 (n : Nat) (k0 : Option Bool) (back : (List (List TRow)) → Int → Int → (List Int) → Int → (List (List TRow)) → Option Bool) (t26 : List (List TRow)) (t27 : Int) (t28 : Int) (s0 : List Int) (s1 : Int) (s2 : List (List TRow)) : Option Bool :=
  (cond (decide (t28 < t27)) (inB t28 t26.length ((impl_RowsOk n (TSchema.mk s0) t28 (t26.getD t28.toNat [])).bind fun xr3 => (cond (!xr3) (some false) (back t26 t27 (W (t28 + 1)) s0 s1 s2)))) k0)
def impl_StoreOk.loop6 (n : Nat) (k0 : Option Bool) (N : Nat) : (List (List TRow)) → Int → Int → (List Int) → Int → (List (List TRow)) → Option Bool :=
  iterN (fun _ _ _ _ _ _ => none) (fun back => impl_StoreOk.step6 n k0 back) N
def impl_StoreOk : Nat → TStore → Option Bool
  | 0, _ => none
  | n + 1, s =>
    ((impl_SchemaOk n s.schema).bind fun xr1 => (cond (!xr1) (some false) ((impl_isVersion n s.version).bind fun xr2 => (cond (!xr2) (some false) (cond ((s.tables.length : Int) != (s.schema.cols.length : Int)) (some false) (impl_StoreOk.loop6 n (some true) n s.tables (s.tables.length : Int) 0 s.schema.cols s.version s.tables))))))
def impl_StoreNew : Nat → TSchema → Option (TStore × Bool)
  | 0, _ => none
  | n + 1, s =>
    ((impl_copyInts n s.cols).bind fun xr1 => (cond (decide ((s.cols.length : Int) = (s.cols.length : Int))) (cond (decide (0 ≤ (s.cols.length : Int))) (cond (decide ((s.cols.length : Int) * 24 ≤ 140737488355328)) ((impl_StoreOk n (TStore.mk (TSchema.mk xr1) 0 (List.replicate (s.cols.length : Int).toNat []))).bind fun xr2 => (cond (!xr2) (some ((TStore.mk (TSchema.mk ([] : List Int)) 0 ([] : List (List TRow))), false)) (some ((TStore.mk (TSchema.mk xr1) 0 (List.replicate (s.cols.length : Int).toNat [])), true)))) none) none) none))
def impl_copyRow : Nat → TRow → Option TRow
  | 0, _ => none
  | n + 1, r =>
    ((impl_copyInts n r.cells).bind fun xr1 => (some (TRow.mk r.id_ xr1)))
def impl_copyRows.step4 (n : Nat) (k0 : (List TRow) → Option (List TRow)) (back : (List TRow) → Int → Int → (List TRow) → Option (List TRow)) (t7 : List TRow) (t8 : Int) (t9 : Int) (out_1 : List TRow) : Option (List TRow) :=
  (cond (decide (t9 < t8)) (inB t9 t7.length ((impl_copyRow n (t7.getD t9.toNat TRow.dflt)).bind fun xr1 => (roomB (out_1.length + ([xr1] : List TRow).length) 32 (back t7 t8 (W (t9 + 1)) (out_1 ++ ([xr1] : List TRow)))))) (k0 out_1))
def impl_copyRows.loop4 (n : Nat) (k0 : (List TRow) → Option (List TRow)) (N : Nat) : (List TRow) → Int → Int → (List TRow) → Option (List TRow) :=
  iterN (fun _ _ _ _ => none) (fun back => impl_copyRows.step4 n k0 back) N
def impl_copyRows : Nat → (List TRow) → Option (List TRow)
  | 0, _ => none
  | n + 1, rows =>
    (impl_copyRows.loop4 n (fun xy2 => (some xy2)) n rows (rows.length : Int) 0 ([] : List TRow))
def impl_copyStore.step4 (n : Nat) (k0 : Int → Int → (List Int) → (List (List TRow)) → Option TStore) (back : (List (List TRow)) → Int → Int → Int → Int → (List Int) → (List (List TRow)) → Option TStore) (t15 : List (List TRow)) (t16 : Int) (t17 : Int) (t21 : Int) (out1 : Int) (out0 : List Int) (out2 : List (List TRow)) : Option TStore :=
  (cond (decide (t17 < t16)) (inB t17 t15.length ((impl_copyRows n (t15.getD t17.toNat [])).bind fun xr2 => (roomB (out2.length + ([xr2] : List (List TRow)).length) 24 (back t15 t16 (W (t17 + 1)) t21 out1 out0 (out2 ++ ([xr2] : List (List TRow))))))) (k0 t21 out1 out0 out2))
def impl_copyStore.loop4 (n : Nat) (k0 : Int → Int → (List Int) → (List (List TRow)) → Option TStore) (N : Nat) : (List (List TRow)) → Int → Int → Int → Int → (List Int) → (List (List TRow)) → Option TStore :=
  iterN (fun _ _ _ _ _ _ _ => none) (fun back => impl_copyStore.step4 n k0 back) N
def impl_copyStore : Nat → TStore → Option TStore
  | 0, _ => none
  | n + 1, s =>
    ((impl_copyInts n s.schema.cols).bind fun xr1 => (impl_copyStore.loop4 n (fun xy3 xy4 xy5 xy6 => (some (TStore.mk (TSchema.mk xy5) xy4 xy6))) n s.tables (s.tables.length : Int) 0 0 s.version xr1 ([] : List (List TRow))))
def impl_asWas : Nat → TStore → Option TStore
  | 0, _ => none
  | n + 1, s =>
    ((impl_StoreOk n s).bind fun xr1 => (cond (!xr1) (some (TStore.mk (TSchema.mk ([] : List Int)) 0 ([] : List (List TRow)))) ((impl_copyStore n s).bind fun xr2 => (some xr2))))
def impl_RecordNew : Nat → TStore → Option TRecord
  | 0, _ => none
  | n + 1, s =>
    ((impl_asWas n s).bind fun xr1 => (some (TRecord.mk xr1 ([] : List (List TChange)))))
def impl_ServerNew : Nat → TSchema → Option (TServer × Bool)
  | 0, _ => none
  | n + 1, s =>
    ((impl_StoreNew n s).bind fun xr1 => (cond (!xr1.2) (some ((TServer.mk (TRecord.mk (TStore.mk (TSchema.mk ([] : List Int)) 0 ([] : List (List TRow))) ([] : List (List TChange))) ([] : List TSeat)), false)) ((impl_RecordNew n xr1.1).bind fun xr2 => (some ((TServer.mk xr2 ([] : List TSeat)), true)))))
def laws_eqIntS.step6 (n : Nat) (k0 : Option Bool) (back : (List Int) → (List Int) → Int → Option Bool) (a : List Int) (b : List Int) (i : Int) : Option Bool :=
  (cond (decide (i < (a.length : Int))) (inB i a.length (inB i b.length (cond ((a.getD i.toNat 0) != (b.getD i.toNat 0)) (some false) (back a b (W (i + 1)))))) k0)
def laws_eqIntS.loop6 (n : Nat) (k0 : Option Bool) (N : Nat) : (List Int) → (List Int) → Int → Option Bool :=
  iterN (fun _ _ _ => none) (fun back => laws_eqIntS.step6 n k0 back) N
def laws_eqIntS : Nat → (List Int) → (List Int) → Option Bool
  | 0, _, _ => none
  | n + 1, a, b =>
    (cond ((a.length : Int) != (b.length : Int)) (some false) (laws_eqIntS.loop6 n (some true) n a b 0))
def laws_eqSchema : Nat → TSchema → TSchema → Option Bool
  | 0, _, _ => none
  | n + 1, a, b =>
    ((laws_eqIntS n a.cols b.cols).bind fun xr1 => (cond (!xr1) (some false) (some true)))
def laws_eqRow : Nat → TRow → TRow → Option Bool
  | 0, _, _ => none
  | n + 1, a, b =>
    (cond (a.id_ != b.id_) (some false) ((laws_eqIntS n a.cells b.cells).bind fun xr1 => (cond (!xr1) (some false) (some true))))
def laws_eqRowS.step6 (n : Nat) (k0 : Option Bool) (back : (List TRow) → (List TRow) → Int → Option Bool) (a : List TRow) (b : List TRow) (i : Int) : Option Bool :=
  (cond (decide (i < (a.length : Int))) (inB i a.length (inB i b.length ((laws_eqRow n (a.getD i.toNat TRow.dflt) (b.getD i.toNat TRow.dflt)).bind fun xr1 => (cond (!xr1) (some false) (back a b (W (i + 1))))))) k0)
def laws_eqRowS.loop6 (n : Nat) (k0 : Option Bool) (N : Nat) : (List TRow) → (List TRow) → Int → Option Bool :=
  iterN (fun _ _ _ => none) (fun back => laws_eqRowS.step6 n k0 back) N
def laws_eqRowS : Nat → (List TRow) → (List TRow) → Option Bool
  | 0, _, _ => none
  | n + 1, a, b =>
    (cond ((a.length : Int) != (b.length : Int)) (some false) (laws_eqRowS.loop6 n (some true) n a b 0))
def laws_eqRowSS.step6 (n : Nat) (k0 : Option Bool) (back : (List (List TRow)) → (List (List TRow)) → Int → Option Bool) (a : List (List TRow)) (b : List (List TRow)) (i : Int) : Option Bool :=
  (cond (decide (i < (a.length : Int))) (inB i a.length (inB i b.length ((laws_eqRowS n (a.getD i.toNat []) (b.getD i.toNat [])).bind fun xr1 => (cond (!xr1) (some false) (back a b (W (i + 1))))))) k0)
def laws_eqRowSS.loop6 (n : Nat) (k0 : Option Bool) (N : Nat) : (List (List TRow)) → (List (List TRow)) → Int → Option Bool :=
  iterN (fun _ _ _ => none) (fun back => laws_eqRowSS.step6 n k0 back) N
def laws_eqRowSS : Nat → (List (List TRow)) → (List (List TRow)) → Option Bool
  | 0, _, _ => none
  | n + 1, a, b =>
    (cond ((a.length : Int) != (b.length : Int)) (some false) (laws_eqRowSS.loop6 n (some true) n a b 0))
def laws_eqStore : Nat → TStore → TStore → Option Bool
  | 0, _, _ => none
  | n + 1, a, b =>
    ((laws_eqSchema n a.schema b.schema).bind fun xr1 => (cond (!xr1) (some false) (cond (a.version != b.version) (some false) ((laws_eqRowSS n a.tables b.tables).bind fun xr2 => (cond (!xr2) (some false) (some true))))))
def laws_eqChange : Nat → TChange → TChange → Option Bool
  | 0, _, _ => none
  | n + 1, a, b =>
    (cond (a.table != b.table) (some false) (cond (!(a.had == b.had)) (some false) (cond (!(a.has == b.has)) (some false) ((laws_eqRow n a.old b.old).bind fun xr1 => (cond (!xr1) (some false) ((laws_eqRow n a.new b.new).bind fun xr2 => (cond (!xr2) (some false) (some true))))))))
def laws_eqChangeS.step6 (n : Nat) (k0 : Option Bool) (back : (List TChange) → (List TChange) → Int → Option Bool) (a : List TChange) (b : List TChange) (i : Int) : Option Bool :=
  (cond (decide (i < (a.length : Int))) (inB i a.length (inB i b.length ((laws_eqChange n { (a.getD i.toNat TChange.dflt) with old := ((a.getD i.toNat TChange.dflt).old), new := ((a.getD i.toNat TChange.dflt).new) } { (b.getD i.toNat TChange.dflt) with old := ((b.getD i.toNat TChange.dflt).old), new := ((b.getD i.toNat TChange.dflt).new) }).bind fun xr1 => (cond (!xr1) (some false) (back a b (W (i + 1))))))) k0)
def laws_eqChangeS.loop6 (n : Nat) (k0 : Option Bool) (N : Nat) : (List TChange) → (List TChange) → Int → Option Bool :=
  iterN (fun _ _ _ => none) (fun back => laws_eqChangeS.step6 n k0 back) N
def laws_eqChangeS : Nat → (List TChange) → (List TChange) → Option Bool
  | 0, _, _ => none
  | n + 1, a, b =>
    (cond ((a.length : Int) != (b.length : Int)) (some false) (laws_eqChangeS.loop6 n (some true) n a b 0))
def laws_eqChangeSS.step6 (n : Nat) (k0 : Option Bool) (back : (List (List TChange)) → (List (List TChange)) → Int → Option Bool) (a : List (List TChange)) (b : List (List TChange)) (i : Int) : Option Bool :=
  (cond (decide (i < (a.length : Int))) (inB i a.length (inB i b.length ((laws_eqChangeS n (a.getD i.toNat []) (b.getD i.toNat [])).bind fun xr1 => (cond (!xr1) (some false) (back a b (W (i + 1))))))) k0)
def laws_eqChangeSS.loop6 (n : Nat) (k0 : Option Bool) (N : Nat) : (List (List TChange)) → (List (List TChange)) → Int → Option Bool :=
  iterN (fun _ _ _ => none) (fun back => laws_eqChangeSS.step6 n k0 back) N
def laws_eqChangeSS : Nat → (List (List TChange)) → (List (List TChange)) → Option Bool
  | 0, _, _ => none
  | n + 1, a, b =>
    (cond ((a.length : Int) != (b.length : Int)) (some false) (laws_eqChangeSS.loop6 n (some true) n a b 0))
def laws_eqRecord : Nat → TRecord → TRecord → Option Bool
  | 0, _, _ => none
  | n + 1, a, b =>
    ((laws_eqStore n a.first b.first).bind fun xr1 => (cond (!xr1) (some false) ((laws_eqChangeSS n a.steps b.steps).bind fun xr2 => (cond (!xr2) (some false) (some true)))))
def laws_eqCond : Nat → TCond → TCond → Option Bool
  | 0, _, _ => none
  | n + 1, a, b =>
    (cond (a.col != b.col) (some false) (cond (a.op != b.op) (some false) (cond (a.v != b.v) (some false) (some true))))
def laws_eqCondS.step6 (n : Nat) (k0 : Option Bool) (back : (List TCond) → (List TCond) → Int → Option Bool) (a : List TCond) (b : List TCond) (i : Int) : Option Bool :=
  (cond (decide (i < (a.length : Int))) (inB i a.length (inB i b.length ((laws_eqCond n (a.getD i.toNat TCond.dflt) (b.getD i.toNat TCond.dflt)).bind fun xr1 => (cond (!xr1) (some false) (back a b (W (i + 1))))))) k0)
def laws_eqCondS.loop6 (n : Nat) (k0 : Option Bool) (N : Nat) : (List TCond) → (List TCond) → Int → Option Bool :=
  iterN (fun _ _ _ => none) (fun back => laws_eqCondS.step6 n k0 back) N
def laws_eqCondS : Nat → (List TCond) → (List TCond) → Option Bool
  | 0, _, _ => none
  | n + 1, a, b =>
    (cond ((a.length : Int) != (b.length : Int)) (some false) (laws_eqCondS.loop6 n (some true) n a b 0))
def laws_eqQuery : Nat → TQuery → TQuery → Option Bool
  | 0, _, _ => none
  | n + 1, a, b =>
    (cond (a.table != b.table) (some false) ((laws_eqCondS n a.where_ b.where_).bind fun xr1 => (cond (!xr1) (some false) (cond (a.order != b.order) (some false) (cond (!(a.down == b.down)) (some false) (cond (a.first != b.first) (some false) ((laws_eqIntS n a.show_ b.show_).bind fun xr2 => (cond (!xr2) (some false) (cond (!(a.kids == b.kids)) (some false) (cond (a.kidTable != b.kidTable) (some false) (cond (a.kidCol != b.kidCol) (some false) (some true))))))))))))
def laws_eqKid : Nat → TKid → TKid → Option Bool
  | 0, _, _ => none
  | n + 1, a, b =>
    (cond (a.id_ != b.id_) (some false) (cond (a.n_ != b.n_) (some false) (some true)))
def laws_eqKidS.step6 (n : Nat) (k0 : Option Bool) (back : (List TKid) → (List TKid) → Int → Option Bool) (a : List TKid) (b : List TKid) (i : Int) : Option Bool :=
  (cond (decide (i < (a.length : Int))) (inB i a.length (inB i b.length ((laws_eqKid n (a.getD i.toNat TKid.dflt) (b.getD i.toNat TKid.dflt)).bind fun xr1 => (cond (!xr1) (some false) (back a b (W (i + 1))))))) k0)
def laws_eqKidS.loop6 (n : Nat) (k0 : Option Bool) (N : Nat) : (List TKid) → (List TKid) → Int → Option Bool :=
  iterN (fun _ _ _ => none) (fun back => laws_eqKidS.step6 n k0 back) N
def laws_eqKidS : Nat → (List TKid) → (List TKid) → Option Bool
  | 0, _, _ => none
  | n + 1, a, b =>
    (cond ((a.length : Int) != (b.length : Int)) (some false) (laws_eqKidS.loop6 n (some true) n a b 0))
def laws_eqView : Nat → TView → TView → Option Bool
  | 0, _, _ => none
  | n + 1, a, b =>
    ((laws_eqQuery n a.q b.q).bind fun xr1 => (cond (!xr1) (some false) ((laws_eqRowS n a.rows b.rows).bind fun xr2 => (cond (!xr2) (some false) ((laws_eqKidS n a.kids b.kids).bind fun xr3 => (cond (!xr3) (some false) (some true)))))))
def laws_eqSess : Nat → TSess → TSess → Option Bool
  | 0, _, _ => none
  | n + 1, a, b =>
    ((laws_eqView n a.view b.view).bind fun xr1 => (cond (!xr1) (some false) (cond (a.version != b.version) (some false) ((laws_eqView n a.last b.last).bind fun xr2 => (cond (!xr2) (some false) (cond (a.lastVersion != b.lastVersion) (some false) (cond (!(a.began == b.began)) (some false) (some true))))))))
def laws_eqLine : Nat → TLine → TLine → Option Bool
  | 0, _, _ => none
  | n + 1, a, b =>
    (cond (!(a.wait == b.wait)) (some false) (cond (a.gone != b.gone) (some false) (some true)))
def laws_eqSeat : Nat → TSeat → TSeat → Option Bool
  | 0, _, _ => none
  | n + 1, a, b =>
    ((laws_eqSess n a.sess b.sess).bind fun xr1 => (cond (!xr1) (some false) ((laws_eqLine n a.line b.line).bind fun xr2 => (cond (!xr2) (some false) (cond (!(a.sent == b.sent)) (some false) (cond (!(a.came == b.came)) (some false) (cond (!(a.gone == b.gone)) (some false) (some true))))))))
def laws_eqSeatS.step6 (n : Nat) (k0 : Option Bool) (back : (List TSeat) → (List TSeat) → Int → Option Bool) (a : List TSeat) (b : List TSeat) (i : Int) : Option Bool :=
  (cond (decide (i < (a.length : Int))) (inB i a.length (inB i b.length ((laws_eqSeat n { (a.getD i.toNat TSeat.dflt) with sess := { ((a.getD i.toNat TSeat.dflt).sess) with view := { (((a.getD i.toNat TSeat.dflt).sess).view) with q := ((((a.getD i.toNat TSeat.dflt).sess).view).q) }, last := { (((a.getD i.toNat TSeat.dflt).sess).last) with q := ((((a.getD i.toNat TSeat.dflt).sess).last).q) } }, line := ((a.getD i.toNat TSeat.dflt).line) } { (b.getD i.toNat TSeat.dflt) with sess := { ((b.getD i.toNat TSeat.dflt).sess) with view := { (((b.getD i.toNat TSeat.dflt).sess).view) with q := ((((b.getD i.toNat TSeat.dflt).sess).view).q) }, last := { (((b.getD i.toNat TSeat.dflt).sess).last) with q := ((((b.getD i.toNat TSeat.dflt).sess).last).q) } }, line := ((b.getD i.toNat TSeat.dflt).line) }).bind fun xr1 => (cond (!xr1) (some false) (back a b (W (i + 1))))))) k0)
def laws_eqSeatS.loop6 (n : Nat) (k0 : Option Bool) (N : Nat) : (List TSeat) → (List TSeat) → Int → Option Bool :=
  iterN (fun _ _ _ => none) (fun back => laws_eqSeatS.step6 n k0 back) N
def laws_eqSeatS : Nat → (List TSeat) → (List TSeat) → Option Bool
  | 0, _, _ => none
  | n + 1, a, b =>
    (cond ((a.length : Int) != (b.length : Int)) (some false) (laws_eqSeatS.loop6 n (some true) n a b 0))
def laws_eqServer : Nat → TServer → TServer → Option Bool
  | 0, _, _ => none
  | n + 1, a, b =>
    ((laws_eqRecord n a.record b.record).bind fun xr1 => (cond (!xr1) (some false) ((laws_eqSeatS n a.seats b.seats).bind fun xr2 => (cond (!xr2) (some false) (some true)))))
def laws_markIntS.step3 (n : Nat) (k0 : Int → (List Int) → Option (Int × (List Int))) (back : Int → Int → (List Int) → Option (Int × (List Int))) (k : Int) (i : Int) (a : List Int) : Option (Int × (List Int)) :=
  (cond (decide (i < (a.length : Int))) (inB i a.length (let xa1 : List Int := a.set i.toNat k; (back (W (k + 1)) (W (i + 1)) xa1))) (k0 k a))
def laws_markIntS.loop3 (n : Nat) (k0 : Int → (List Int) → Option (Int × (List Int))) (N : Nat) : Int → Int → (List Int) → Option (Int × (List Int)) :=
  iterN (fun _ _ _ => none) (fun back => laws_markIntS.step3 n k0 back) N
def laws_markIntS : Nat → (List Int) → Int → Option (Int × (List Int))
  | 0, _, _ => none
  | n + 1, a, k =>
    (laws_markIntS.loop3 n (fun xy2 xy3 => (some (xy2, xy3))) n k 0 a)
def laws_markSchema : Nat → TSchema → Int → Option (Int × (List Int))
  | 0, _, _ => none
  | n + 1, a, k =>
    ((laws_markIntS n a.cols k).bind fun xr1 => (cond (Nat.beq xr1.2.length a.cols.length) (some (xr1.1, xr1.2)) none))
def laws_markRowS.step3 (n : Nat) (k0 : Int → (List TRow) → Option (Int × (List TRow))) (back : Int → Int → (List TRow) → Option (Int × (List TRow))) (k : Int) (i : Int) (a : List TRow) : Option (Int × (List TRow)) :=
  (cond (decide (i < (a.length : Int))) (inB i a.length (let xa1 : List TRow := a.set i.toNat (TRow.mk k ((a.getD i.toNat TRow.dflt).cells)); (inB i xa1.length ((laws_markIntS n ((xa1.getD i.toNat TRow.dflt).cells) (W (k + 1))).bind fun xr2 => (cond (Nat.beq xr2.2.length ((xa1.getD i.toNat TRow.dflt).cells).length) (let xa3 : List TRow := xa1.set i.toNat (TRow.mk ((xa1.getD i.toNat TRow.dflt).id_) xr2.2); (back xr2.1 (W (i + 1)) xa3)) none))))) (k0 k a))
def laws_markRowS.loop3 (n : Nat) (k0 : Int → (List TRow) → Option (Int × (List TRow))) (N : Nat) : Int → Int → (List TRow) → Option (Int × (List TRow)) :=
  iterN (fun _ _ _ => none) (fun back => laws_markRowS.step3 n k0 back) N
def laws_markRowS : Nat → (List TRow) → Int → Option (Int × (List TRow))
  | 0, _, _ => none
  | n + 1, a, k =>
    (laws_markRowS.loop3 n (fun xy4 xy5 => (some (xy4, xy5))) n k 0 a)
def laws_markRowSS.step3 (n : Nat) (k0 : Int → (List (List TRow)) → Option (Int × (List (List TRow)))) (back : Int → Int → (List (List TRow)) → Option (Int × (List (List TRow)))) (k : Int) (i : Int) (a : List (List TRow)) : Option (Int × (List (List TRow))) :=
  (cond (decide (i < (a.length : Int))) (inB i a.length ((laws_markRowS n (a.getD i.toNat []) k).bind fun xr1 => (cond (Nat.beq xr1.2.length (a.getD i.toNat []).length) (let xa2 : List (List TRow) := a.set i.toNat xr1.2; (back xr1.1 (W (i + 1)) xa2)) none))) (k0 k a))
def laws_markRowSS.loop3 (n : Nat) (k0 : Int → (List (List TRow)) → Option (Int × (List (List TRow)))) (N : Nat) : Int → Int → (List (List TRow)) → Option (Int × (List (List TRow))) :=
  iterN (fun _ _ _ => none) (fun back => laws_markRowSS.step3 n k0 back) N
def laws_markRowSS : Nat → (List (List TRow)) → Int → Option (Int × (List (List TRow)))
  | 0, _, _ => none
  | n + 1, a, k =>
    (laws_markRowSS.loop3 n (fun xy3 xy4 => (some (xy3, xy4))) n k 0 a)
def laws_markStore : Nat → TStore → Int → Option (Int × (List Int) × (List (List TRow)))
  | 0, _, _ => none
  | n + 1, a, k =>
    ((laws_markSchema n a.schema k).bind fun xr1 => (cond (Nat.beq xr1.2.length a.schema.cols.length) ((laws_markRowSS n a.tables xr1.1).bind fun xr2 => (cond (Nat.beq xr2.2.length a.tables.length) (some (xr2.1, xr1.2, xr2.2)) none)) none))
def laws_markChangeS.step3 (n : Nat) (k0 : Int → (List TChange) → Option (Int × (List TChange))) (back : Int → Int → (List TChange) → Option (Int × (List TChange))) (append : Int) (t5 : Int) (o : List TChange) : Option (Int × (List TChange)) :=
  (cond (decide (t5 < (o.length : Int))) (inB t5 o.length (let xa1 : List TChange := o.set t5.toNat { (o.getD t5.toNat TChange.dflt) with table := append, old := ((o.getD t5.toNat TChange.dflt).old), new := ((o.getD t5.toNat TChange.dflt).new) }; (inB t5 xa1.length (let xa2 : List TChange := xa1.set t5.toNat { (xa1.getD t5.toNat TChange.dflt) with had := ((Int.tmod (W (append + 1)) 3) == 0), old := ((xa1.getD t5.toNat TChange.dflt).old), new := ((xa1.getD t5.toNat TChange.dflt).new) }; (inB t5 xa2.length (let xa3 : List TChange := xa2.set t5.toNat { (xa2.getD t5.toNat TChange.dflt) with has := ((Int.tmod (W ((W (append + 1)) + 1)) 3) == 0), old := ((xa2.getD t5.toNat TChange.dflt).old), new := ((xa2.getD t5.toNat TChange.dflt).new) }; (inB t5 xa3.length (let xa4 : List TChange := xa3.set t5.toNat { (xa3.getD t5.toNat TChange.dflt) with old := (TRow.mk (W ((W ((W (append + 1)) + 1)) + 1)) (((xa3.getD t5.toNat TChange.dflt).old).cells)), new := ((xa3.getD t5.toNat TChange.dflt).new) }; (inB t5 xa4.length ((laws_markIntS n (((xa4.getD t5.toNat TChange.dflt).old).cells) (W ((W ((W ((W (append + 1)) + 1)) + 1)) + 1))).bind fun xr5 => (cond (Nat.beq xr5.2.length (((xa4.getD t5.toNat TChange.dflt).old).cells).length) (let xa6 : List TChange := xa4.set t5.toNat { (xa4.getD t5.toNat TChange.dflt) with old := (TRow.mk (((xa4.getD t5.toNat TChange.dflt).old).id_) xr5.2), new := ((xa4.getD t5.toNat TChange.dflt).new) }; (inB t5 xa6.length (let xa7 : List TChange := xa6.set t5.toNat { (xa6.getD t5.toNat TChange.dflt) with old := ((xa6.getD t5.toNat TChange.dflt).old), new := (TRow.mk xr5.1 (((xa6.getD t5.toNat TChange.dflt).new).cells)) }; (inB t5 xa7.length ((laws_markIntS n (((xa7.getD t5.toNat TChange.dflt).new).cells) (W (xr5.1 + 1))).bind fun xr8 => (cond (Nat.beq xr8.2.length (((xa7.getD t5.toNat TChange.dflt).new).cells).length) (let xa9 : List TChange := xa7.set t5.toNat { (xa7.getD t5.toNat TChange.dflt) with old := ((xa7.getD t5.toNat TChange.dflt).old), new := (TRow.mk (((xa7.getD t5.toNat TChange.dflt).new).id_) xr8.2) }; (back xr8.1 (W (t5 + 1)) xa9)) none)))))) none))))))))))) (k0 append o))
def laws_markChangeS.loop3 (n : Nat) (k0 : Int → (List TChange) → Option (Int × (List TChange))) (N : Nat) : Int → Int → (List TChange) → Option (Int × (List TChange)) :=
  iterN (fun _ _ _ => none) (fun back => laws_markChangeS.step3 n k0 back) N
def laws_markChangeS : Nat → (List TChange) → Int → Option (Int × (List TChange))
  | 0, _, _ => none
  | n + 1, o, append =>
    (laws_markChangeS.loop3 n (fun xy10 xy11 => (some (xy10, xy11))) n append 0 o)
def laws_markChangeSS.step3 (n : Nat) (k0 : Int → (List (List TChange)) → Option (Int × (List (List TChange)))) (back : Int → Int → (List (List TChange)) → Option (Int × (List (List TChange)))) (k : Int) (i : Int) (a : List (List TChange)) : Option (Int × (List (List TChange))) :=
  (cond (decide (i < (a.length : Int))) (inB i a.length ((laws_markChangeS n (a.getD i.toNat []) k).bind fun xr1 => (cond (Nat.beq xr1.2.length (a.getD i.toNat []).length) (let xa2 : List (List TChange) := a.set i.toNat xr1.2; (back xr1.1 (W (i + 1)) xa2)) none))) (k0 k a))
def laws_markChangeSS.loop3 (n : Nat) (k0 : Int → (List (List TChange)) → Option (Int × (List (List TChange)))) (N : Nat) : Int → Int → (List (List TChange)) → Option (Int × (List (List TChange))) :=
  iterN (fun _ _ _ => none) (fun back => laws_markChangeSS.step3 n k0 back) N
def laws_markChangeSS : Nat → (List (List TChange)) → Int → Option (Int × (List (List TChange)))
  | 0, _, _ => none
  | n + 1, a, k =>
    (laws_markChangeSS.loop3 n (fun xy3 xy4 => (some (xy3, xy4))) n k 0 a)
def laws_markRecord : Nat → TRecord → Int → Option (Int × (List Int) × (List (List TRow)) × (List (List TChange)))
  | 0, _, _ => none
  | n + 1, a, k =>
    ((laws_markStore n a.first k).bind fun xr1 => (cond (Nat.beq xr1.2.1.length a.first.schema.cols.length) (cond (Nat.beq xr1.2.2.length a.first.tables.length) ((laws_markChangeSS n a.steps xr1.1).bind fun xr2 => (cond (Nat.beq xr2.2.length a.steps.length) (some (xr2.1, xr1.2.1, xr1.2.2, xr2.2)) none)) none) none))
def laws_markCondS.step3 (n : Nat) (k0 : Int → (List TCond) → Option (Int × (List TCond))) (back : Int → Int → (List TCond) → Option (Int × (List TCond))) (k : Int) (i : Int) (a : List TCond) : Option (Int × (List TCond)) :=
  (cond (decide (i < (a.length : Int))) (inB i a.length (let xa1 : List TCond := a.set i.toNat { (a.getD i.toNat TCond.dflt) with col := k }; (inB i xa1.length (let xa2 : List TCond := xa1.set i.toNat { (xa1.getD i.toNat TCond.dflt) with op := (W (k + 1)) }; (inB i xa2.length (let xa3 : List TCond := xa2.set i.toNat { (xa2.getD i.toNat TCond.dflt) with v := (W ((W (k + 1)) + 1)) }; (back (W ((W ((W (k + 1)) + 1)) + 1)) (W (i + 1)) xa3))))))) (k0 k a))
def laws_markCondS.loop3 (n : Nat) (k0 : Int → (List TCond) → Option (Int × (List TCond))) (N : Nat) : Int → Int → (List TCond) → Option (Int × (List TCond)) :=
  iterN (fun _ _ _ => none) (fun back => laws_markCondS.step3 n k0 back) N
def laws_markCondS : Nat → (List TCond) → Int → Option (Int × (List TCond))
  | 0, _, _ => none
  | n + 1, a, k =>
    (laws_markCondS.loop3 n (fun xy4 xy5 => (some (xy4, xy5))) n k 0 a)
def laws_markKidS.step3 (n : Nat) (k0 : Int → (List TKid) → Option (Int × (List TKid))) (back : Int → Int → (List TKid) → Option (Int × (List TKid))) (k : Int) (i : Int) (a : List TKid) : Option (Int × (List TKid)) :=
  (cond (decide (i < (a.length : Int))) (inB i a.length (let xa1 : List TKid := a.set i.toNat (TKid.mk k ((a.getD i.toNat TKid.dflt).n_)); (inB i xa1.length (let xa2 : List TKid := xa1.set i.toNat (TKid.mk ((xa1.getD i.toNat TKid.dflt).id_) (W (k + 1))); (back (W ((W (k + 1)) + 1)) (W (i + 1)) xa2))))) (k0 k a))
def laws_markKidS.loop3 (n : Nat) (k0 : Int → (List TKid) → Option (Int × (List TKid))) (N : Nat) : Int → Int → (List TKid) → Option (Int × (List TKid)) :=
  iterN (fun _ _ _ => none) (fun back => laws_markKidS.step3 n k0 back) N
def laws_markKidS : Nat → (List TKid) → Int → Option (Int × (List TKid))
  | 0, _, _ => none
  | n + 1, a, k =>
    (laws_markKidS.loop3 n (fun xy3 xy4 => (some (xy3, xy4))) n k 0 a)
def laws_markText.step6 (n : Nat) (k0 : Bs → Option Bs) (back : Int → Bs → Option Bs) (k : Int) (out_1 : Bs) : Option Bs :=
  (cond (decide (k > 0)) (cond (decide ((toBs ([(IntKind.u8.wrap ((W (48 + (Int.tmod k 10)))))] : List Int)).length + out_1.length ≤ 9223372036854775807)) (let xv1 : Bs := ((toBs ([(IntKind.u8.wrap ((W (48 + (Int.tmod k 10)))))] : List Int)) ++ out_1); (back (W (Int.tdiv k 10)) xv1)) none) (k0 out_1))
def laws_markText.loop6 (n : Nat) (k0 : Bs → Option Bs) (N : Nat) : Int → Bs → Option Bs :=
  iterN (fun _ _ => none) (fun back => laws_markText.step6 n k0 back) N
def laws_markText : Nat → Int → Option Bs
  | 0, _ => none
  | n + 1, k =>
    (cond (decide (k ≤ 0)) (some [109, 48]) (laws_markText.loop6 n (fun xy2 => (cond (decide ([109].length + xy2.length ≤ 9223372036854775807)) (some (([109] : Bs) ++ xy2)) none)) n k []))
def laws_markSeatS.step3 (n : Nat) (k0 : Int → (List TSeat) → Option (Int × (List TSeat))) (back : Int → Int → (List TSeat) → Option (Int × (List TSeat))) (append : Int) (t5 : Int) (o : List TSeat) : Option (Int × (List TSeat)) :=
  (cond (decide (t5 < (o.length : Int))) (inB t5 o.length (let xa1 : List TSeat := o.set t5.toNat { (o.getD t5.toNat TSeat.dflt) with sess := { ((o.getD t5.toNat TSeat.dflt).sess) with view := { (((o.getD t5.toNat TSeat.dflt).sess).view) with q := { ((((o.getD t5.toNat TSeat.dflt).sess).view).q) with table := append } }, last := { (((o.getD t5.toNat TSeat.dflt).sess).last) with q := ((((o.getD t5.toNat TSeat.dflt).sess).last).q) } }, line := ((o.getD t5.toNat TSeat.dflt).line) }; (inB t5 xa1.length ((laws_markCondS n (((((xa1.getD t5.toNat TSeat.dflt).sess).view).q).where_) (W (append + 1))).bind fun xr2 => (cond (Nat.beq xr2.2.length (((((xa1.getD t5.toNat TSeat.dflt).sess).view).q).where_).length) (let xa3 : List TSeat := xa1.set t5.toNat { (xa1.getD t5.toNat TSeat.dflt) with sess := { ((xa1.getD t5.toNat TSeat.dflt).sess) with view := { (((xa1.getD t5.toNat TSeat.dflt).sess).view) with q := { ((((xa1.getD t5.toNat TSeat.dflt).sess).view).q) with where_ := xr2.2 } }, last := { (((xa1.getD t5.toNat TSeat.dflt).sess).last) with q := ((((xa1.getD t5.toNat TSeat.dflt).sess).last).q) } }, line := ((xa1.getD t5.toNat TSeat.dflt).line) }; (inB t5 xa3.length (let xa4 : List TSeat := xa3.set t5.toNat { (xa3.getD t5.toNat TSeat.dflt) with sess := { ((xa3.getD t5.toNat TSeat.dflt).sess) with view := { (((xa3.getD t5.toNat TSeat.dflt).sess).view) with q := { ((((xa3.getD t5.toNat TSeat.dflt).sess).view).q) with order := xr2.1 } }, last := { (((xa3.getD t5.toNat TSeat.dflt).sess).last) with q := ((((xa3.getD t5.toNat TSeat.dflt).sess).last).q) } }, line := ((xa3.getD t5.toNat TSeat.dflt).line) }; (inB t5 xa4.length (let xa5 : List TSeat := xa4.set t5.toNat { (xa4.getD t5.toNat TSeat.dflt) with sess := { ((xa4.getD t5.toNat TSeat.dflt).sess) with view := { (((xa4.getD t5.toNat TSeat.dflt).sess).view) with q := { ((((xa4.getD t5.toNat TSeat.dflt).sess).view).q) with down := ((Int.tmod (W (xr2.1 + 1)) 3) == 0) } }, last := { (((xa4.getD t5.toNat TSeat.dflt).sess).last) with q := ((((xa4.getD t5.toNat TSeat.dflt).sess).last).q) } }, line := ((xa4.getD t5.toNat TSeat.dflt).line) }; (inB t5 xa5.length (let xa6 : List TSeat := xa5.set t5.toNat { (xa5.getD t5.toNat TSeat.dflt) with sess := { ((xa5.getD t5.toNat TSeat.dflt).sess) with view := { (((xa5.getD t5.toNat TSeat.dflt).sess).view) with q := { ((((xa5.getD t5.toNat TSeat.dflt).sess).view).q) with first := (W ((W (xr2.1 + 1)) + 1)) } }, last := { (((xa5.getD t5.toNat TSeat.dflt).sess).last) with q := ((((xa5.getD t5.toNat TSeat.dflt).sess).last).q) } }, line := ((xa5.getD t5.toNat TSeat.dflt).line) }; (inB t5 xa6.length ((laws_markIntS n (((((xa6.getD t5.toNat TSeat.dflt).sess).view).q).show_) (W ((W ((W (xr2.1 + 1)) + 1)) + 1))).bind fun xr7 => (cond (Nat.beq xr7.2.length (((((xa6.getD t5.toNat TSeat.dflt).sess).view).q).show_).length) (let xa8 : List TSeat := xa6.set t5.toNat { (xa6.getD t5.toNat TSeat.dflt) with sess := { ((xa6.getD t5.toNat TSeat.dflt).sess) with view := { (((xa6.getD t5.toNat TSeat.dflt).sess).view) with q := { ((((xa6.getD t5.toNat TSeat.dflt).sess).view).q) with show_ := xr7.2 } }, last := { (((xa6.getD t5.toNat TSeat.dflt).sess).last) with q := ((((xa6.getD t5.toNat TSeat.dflt).sess).last).q) } }, line := ((xa6.getD t5.toNat TSeat.dflt).line) }; (inB t5 xa8.length (let xa9 : List TSeat := xa8.set t5.toNat { (xa8.getD t5.toNat TSeat.dflt) with sess := { ((xa8.getD t5.toNat TSeat.dflt).sess) with view := { (((xa8.getD t5.toNat TSeat.dflt).sess).view) with q := { ((((xa8.getD t5.toNat TSeat.dflt).sess).view).q) with kids := ((Int.tmod xr7.1 3) == 0) } }, last := { (((xa8.getD t5.toNat TSeat.dflt).sess).last) with q := ((((xa8.getD t5.toNat TSeat.dflt).sess).last).q) } }, line := ((xa8.getD t5.toNat TSeat.dflt).line) }; (inB t5 xa9.length (let xa10 : List TSeat := xa9.set t5.toNat { (xa9.getD t5.toNat TSeat.dflt) with sess := { ((xa9.getD t5.toNat TSeat.dflt).sess) with view := { (((xa9.getD t5.toNat TSeat.dflt).sess).view) with q := { ((((xa9.getD t5.toNat TSeat.dflt).sess).view).q) with kidTable := (W (xr7.1 + 1)) } }, last := { (((xa9.getD t5.toNat TSeat.dflt).sess).last) with q := ((((xa9.getD t5.toNat TSeat.dflt).sess).last).q) } }, line := ((xa9.getD t5.toNat TSeat.dflt).line) }; (inB t5 xa10.length (let xa11 : List TSeat := xa10.set t5.toNat { (xa10.getD t5.toNat TSeat.dflt) with sess := { ((xa10.getD t5.toNat TSeat.dflt).sess) with view := { (((xa10.getD t5.toNat TSeat.dflt).sess).view) with q := { ((((xa10.getD t5.toNat TSeat.dflt).sess).view).q) with kidCol := (W ((W (xr7.1 + 1)) + 1)) } }, last := { (((xa10.getD t5.toNat TSeat.dflt).sess).last) with q := ((((xa10.getD t5.toNat TSeat.dflt).sess).last).q) } }, line := ((xa10.getD t5.toNat TSeat.dflt).line) }; (inB t5 xa11.length ((laws_markRowS n ((((xa11.getD t5.toNat TSeat.dflt).sess).view).rows) (W ((W ((W (xr7.1 + 1)) + 1)) + 1))).bind fun xr12 => (cond (Nat.beq xr12.2.length ((((xa11.getD t5.toNat TSeat.dflt).sess).view).rows).length) (let xa13 : List TSeat := xa11.set t5.toNat { (xa11.getD t5.toNat TSeat.dflt) with sess := { ((xa11.getD t5.toNat TSeat.dflt).sess) with view := (TView.mk ((((xa11.getD t5.toNat TSeat.dflt).sess).view).q) xr12.2 ((((xa11.getD t5.toNat TSeat.dflt).sess).view).kids)), last := { (((xa11.getD t5.toNat TSeat.dflt).sess).last) with q := ((((xa11.getD t5.toNat TSeat.dflt).sess).last).q) } }, line := ((xa11.getD t5.toNat TSeat.dflt).line) }; (inB t5 xa13.length ((laws_markKidS n ((((xa13.getD t5.toNat TSeat.dflt).sess).view).kids) xr12.1).bind fun xr14 => (cond (Nat.beq xr14.2.length ((((xa13.getD t5.toNat TSeat.dflt).sess).view).kids).length) (let xa15 : List TSeat := xa13.set t5.toNat { (xa13.getD t5.toNat TSeat.dflt) with sess := { ((xa13.getD t5.toNat TSeat.dflt).sess) with view := (TView.mk ((((xa13.getD t5.toNat TSeat.dflt).sess).view).q) ((((xa13.getD t5.toNat TSeat.dflt).sess).view).rows) xr14.2), last := { (((xa13.getD t5.toNat TSeat.dflt).sess).last) with q := ((((xa13.getD t5.toNat TSeat.dflt).sess).last).q) } }, line := ((xa13.getD t5.toNat TSeat.dflt).line) }; (inB t5 xa15.length (let xa16 : List TSeat := xa15.set t5.toNat { (xa15.getD t5.toNat TSeat.dflt) with sess := { ((xa15.getD t5.toNat TSeat.dflt).sess) with view := { (((xa15.getD t5.toNat TSeat.dflt).sess).view) with q := ((((xa15.getD t5.toNat TSeat.dflt).sess).view).q) }, version := xr14.1, last := { (((xa15.getD t5.toNat TSeat.dflt).sess).last) with q := ((((xa15.getD t5.toNat TSeat.dflt).sess).last).q) } }, line := ((xa15.getD t5.toNat TSeat.dflt).line) }; (inB t5 xa16.length (let xa17 : List TSeat := xa16.set t5.toNat { (xa16.getD t5.toNat TSeat.dflt) with sess := { ((xa16.getD t5.toNat TSeat.dflt).sess) with view := { (((xa16.getD t5.toNat TSeat.dflt).sess).view) with q := ((((xa16.getD t5.toNat TSeat.dflt).sess).view).q) }, last := { (((xa16.getD t5.toNat TSeat.dflt).sess).last) with q := { ((((xa16.getD t5.toNat TSeat.dflt).sess).last).q) with table := (W (xr14.1 + 1)) } } }, line := ((xa16.getD t5.toNat TSeat.dflt).line) }; (inB t5 xa17.length ((laws_markCondS n (((((xa17.getD t5.toNat TSeat.dflt).sess).last).q).where_) (W ((W (xr14.1 + 1)) + 1))).bind fun xr18 => (cond (Nat.beq xr18.2.length (((((xa17.getD t5.toNat TSeat.dflt).sess).last).q).where_).length) (let xa19 : List TSeat := xa17.set t5.toNat { (xa17.getD t5.toNat TSeat.dflt) with sess := { ((xa17.getD t5.toNat TSeat.dflt).sess) with view := { (((xa17.getD t5.toNat TSeat.dflt).sess).view) with q := ((((xa17.getD t5.toNat TSeat.dflt).sess).view).q) }, last := { (((xa17.getD t5.toNat TSeat.dflt).sess).last) with q := { ((((xa17.getD t5.toNat TSeat.dflt).sess).last).q) with where_ := xr18.2 } } }, line := ((xa17.getD t5.toNat TSeat.dflt).line) }; (inB t5 xa19.length (let xa20 : List TSeat := xa19.set t5.toNat { (xa19.getD t5.toNat TSeat.dflt) with sess := { ((xa19.getD t5.toNat TSeat.dflt).sess) with view := { (((xa19.getD t5.toNat TSeat.dflt).sess).view) with q := ((((xa19.getD t5.toNat TSeat.dflt).sess).view).q) }, last := { (((xa19.getD t5.toNat TSeat.dflt).sess).last) with q := { ((((xa19.getD t5.toNat TSeat.dflt).sess).last).q) with order := xr18.1 } } }, line := ((xa19.getD t5.toNat TSeat.dflt).line) }; (inB t5 xa20.length (let xa21 : List TSeat := xa20.set t5.toNat { (xa20.getD t5.toNat TSeat.dflt) with sess := { ((xa20.getD t5.toNat TSeat.dflt).sess) with view := { (((xa20.getD t5.toNat TSeat.dflt).sess).view) with q := ((((xa20.getD t5.toNat TSeat.dflt).sess).view).q) }, last := { (((xa20.getD t5.toNat TSeat.dflt).sess).last) with q := { ((((xa20.getD t5.toNat TSeat.dflt).sess).last).q) with down := ((Int.tmod (W (xr18.1 + 1)) 3) == 0) } } }, line := ((xa20.getD t5.toNat TSeat.dflt).line) }; (inB t5 xa21.length (let xa22 : List TSeat := xa21.set t5.toNat { (xa21.getD t5.toNat TSeat.dflt) with sess := { ((xa21.getD t5.toNat TSeat.dflt).sess) with view := { (((xa21.getD t5.toNat TSeat.dflt).sess).view) with q := ((((xa21.getD t5.toNat TSeat.dflt).sess).view).q) }, last := { (((xa21.getD t5.toNat TSeat.dflt).sess).last) with q := { ((((xa21.getD t5.toNat TSeat.dflt).sess).last).q) with first := (W ((W (xr18.1 + 1)) + 1)) } } }, line := ((xa21.getD t5.toNat TSeat.dflt).line) }; (inB t5 xa22.length ((laws_markIntS n (((((xa22.getD t5.toNat TSeat.dflt).sess).last).q).show_) (W ((W ((W (xr18.1 + 1)) + 1)) + 1))).bind fun xr23 => (cond (Nat.beq xr23.2.length (((((xa22.getD t5.toNat TSeat.dflt).sess).last).q).show_).length) (let xa24 : List TSeat := xa22.set t5.toNat { (xa22.getD t5.toNat TSeat.dflt) with sess := { ((xa22.getD t5.toNat TSeat.dflt).sess) with view := { (((xa22.getD t5.toNat TSeat.dflt).sess).view) with q := ((((xa22.getD t5.toNat TSeat.dflt).sess).view).q) }, last := { (((xa22.getD t5.toNat TSeat.dflt).sess).last) with q := { ((((xa22.getD t5.toNat TSeat.dflt).sess).last).q) with show_ := xr23.2 } } }, line := ((xa22.getD t5.toNat TSeat.dflt).line) }; (inB t5 xa24.length (let xa25 : List TSeat := xa24.set t5.toNat { (xa24.getD t5.toNat TSeat.dflt) with sess := { ((xa24.getD t5.toNat TSeat.dflt).sess) with view := { (((xa24.getD t5.toNat TSeat.dflt).sess).view) with q := ((((xa24.getD t5.toNat TSeat.dflt).sess).view).q) }, last := { (((xa24.getD t5.toNat TSeat.dflt).sess).last) with q := { ((((xa24.getD t5.toNat TSeat.dflt).sess).last).q) with kids := ((Int.tmod xr23.1 3) == 0) } } }, line := ((xa24.getD t5.toNat TSeat.dflt).line) }; (inB t5 xa25.length (let xa26 : List TSeat := xa25.set t5.toNat { (xa25.getD t5.toNat TSeat.dflt) with sess := { ((xa25.getD t5.toNat TSeat.dflt).sess) with view := { (((xa25.getD t5.toNat TSeat.dflt).sess).view) with q := ((((xa25.getD t5.toNat TSeat.dflt).sess).view).q) }, last := { (((xa25.getD t5.toNat TSeat.dflt).sess).last) with q := { ((((xa25.getD t5.toNat TSeat.dflt).sess).last).q) with kidTable := (W (xr23.1 + 1)) } } }, line := ((xa25.getD t5.toNat TSeat.dflt).line) }; (inB t5 xa26.length (let xa27 : List TSeat := xa26.set t5.toNat { (xa26.getD t5.toNat TSeat.dflt) with sess := { ((xa26.getD t5.toNat TSeat.dflt).sess) with view := { (((xa26.getD t5.toNat TSeat.dflt).sess).view) with q := ((((xa26.getD t5.toNat TSeat.dflt).sess).view).q) }, last := { (((xa26.getD t5.toNat TSeat.dflt).sess).last) with q := { ((((xa26.getD t5.toNat TSeat.dflt).sess).last).q) with kidCol := (W ((W (xr23.1 + 1)) + 1)) } } }, line := ((xa26.getD t5.toNat TSeat.dflt).line) }; (inB t5 xa27.length ((laws_markRowS n ((((xa27.getD t5.toNat TSeat.dflt).sess).last).rows) (W ((W ((W (xr23.1 + 1)) + 1)) + 1))).bind fun xr28 => (cond (Nat.beq xr28.2.length ((((xa27.getD t5.toNat TSeat.dflt).sess).last).rows).length) (let xa29 : List TSeat := xa27.set t5.toNat { (xa27.getD t5.toNat TSeat.dflt) with sess := { ((xa27.getD t5.toNat TSeat.dflt).sess) with view := { (((xa27.getD t5.toNat TSeat.dflt).sess).view) with q := ((((xa27.getD t5.toNat TSeat.dflt).sess).view).q) }, last := (TView.mk ((((xa27.getD t5.toNat TSeat.dflt).sess).last).q) xr28.2 ((((xa27.getD t5.toNat TSeat.dflt).sess).last).kids)) }, line := ((xa27.getD t5.toNat TSeat.dflt).line) }; (inB t5 xa29.length ((laws_markKidS n ((((xa29.getD t5.toNat TSeat.dflt).sess).last).kids) xr28.1).bind fun xr30 => (cond (Nat.beq xr30.2.length ((((xa29.getD t5.toNat TSeat.dflt).sess).last).kids).length) (let xa31 : List TSeat := xa29.set t5.toNat { (xa29.getD t5.toNat TSeat.dflt) with sess := { ((xa29.getD t5.toNat TSeat.dflt).sess) with view := { (((xa29.getD t5.toNat TSeat.dflt).sess).view) with q := ((((xa29.getD t5.toNat TSeat.dflt).sess).view).q) }, last := (TView.mk ((((xa29.getD t5.toNat TSeat.dflt).sess).last).q) ((((xa29.getD t5.toNat TSeat.dflt).sess).last).rows) xr30.2) }, line := ((xa29.getD t5.toNat TSeat.dflt).line) }; (inB t5 xa31.length (let xa32 : List TSeat := xa31.set t5.toNat { (xa31.getD t5.toNat TSeat.dflt) with sess := { ((xa31.getD t5.toNat TSeat.dflt).sess) with view := { (((xa31.getD t5.toNat TSeat.dflt).sess).view) with q := ((((xa31.getD t5.toNat TSeat.dflt).sess).view).q) }, last := { (((xa31.getD t5.toNat TSeat.dflt).sess).last) with q := ((((xa31.getD t5.toNat TSeat.dflt).sess).last).q) }, lastVersion := xr30.1 }, line := ((xa31.getD t5.toNat TSeat.dflt).line) }; (inB t5 xa32.length (let xa33 : List TSeat := xa32.set t5.toNat { (xa32.getD t5.toNat TSeat.dflt) with sess := { ((xa32.getD t5.toNat TSeat.dflt).sess) with view := { (((xa32.getD t5.toNat TSeat.dflt).sess).view) with q := ((((xa32.getD t5.toNat TSeat.dflt).sess).view).q) }, last := { (((xa32.getD t5.toNat TSeat.dflt).sess).last) with q := ((((xa32.getD t5.toNat TSeat.dflt).sess).last).q) }, began := ((Int.tmod (W (xr30.1 + 1)) 3) == 0) }, line := ((xa32.getD t5.toNat TSeat.dflt).line) }; ((laws_markText n (W ((W (xr30.1 + 1)) + 1))).bind fun xr34 => (inB t5 xa33.length (let xa35 : List TSeat := xa33.set t5.toNat { (xa33.getD t5.toNat TSeat.dflt) with sess := { ((xa33.getD t5.toNat TSeat.dflt).sess) with view := { (((xa33.getD t5.toNat TSeat.dflt).sess).view) with q := ((((xa33.getD t5.toNat TSeat.dflt).sess).view).q) }, last := { (((xa33.getD t5.toNat TSeat.dflt).sess).last) with q := ((((xa33.getD t5.toNat TSeat.dflt).sess).last).q) } }, line := (TLine.mk xr34 (((xa33.getD t5.toNat TSeat.dflt).line).gone)) }; (inB t5 xa35.length (let xa36 : List TSeat := xa35.set t5.toNat { (xa35.getD t5.toNat TSeat.dflt) with sess := { ((xa35.getD t5.toNat TSeat.dflt).sess) with view := { (((xa35.getD t5.toNat TSeat.dflt).sess).view) with q := ((((xa35.getD t5.toNat TSeat.dflt).sess).view).q) }, last := { (((xa35.getD t5.toNat TSeat.dflt).sess).last) with q := ((((xa35.getD t5.toNat TSeat.dflt).sess).last).q) } }, line := (TLine.mk (((xa35.getD t5.toNat TSeat.dflt).line).wait) (W ((W ((W (xr30.1 + 1)) + 1)) + 1))) }; ((laws_markText n (W ((W ((W ((W (xr30.1 + 1)) + 1)) + 1)) + 1))).bind fun xr37 => (inB t5 xa36.length (let xa38 : List TSeat := xa36.set t5.toNat { (xa36.getD t5.toNat TSeat.dflt) with sess := { ((xa36.getD t5.toNat TSeat.dflt).sess) with view := { (((xa36.getD t5.toNat TSeat.dflt).sess).view) with q := ((((xa36.getD t5.toNat TSeat.dflt).sess).view).q) }, last := { (((xa36.getD t5.toNat TSeat.dflt).sess).last) with q := ((((xa36.getD t5.toNat TSeat.dflt).sess).last).q) } }, line := ((xa36.getD t5.toNat TSeat.dflt).line), sent := xr37 }; ((laws_markText n (W ((W ((W ((W ((W (xr30.1 + 1)) + 1)) + 1)) + 1)) + 1))).bind fun xr39 => (inB t5 xa38.length (let xa40 : List TSeat := xa38.set t5.toNat { (xa38.getD t5.toNat TSeat.dflt) with sess := { ((xa38.getD t5.toNat TSeat.dflt).sess) with view := { (((xa38.getD t5.toNat TSeat.dflt).sess).view) with q := ((((xa38.getD t5.toNat TSeat.dflt).sess).view).q) }, last := { (((xa38.getD t5.toNat TSeat.dflt).sess).last) with q := ((((xa38.getD t5.toNat TSeat.dflt).sess).last).q) } }, line := ((xa38.getD t5.toNat TSeat.dflt).line), came := xr39 }; (let xv41 : Int := (Int.tmod (W ((W ((W ((W ((W ((W (xr30.1 + 1)) + 1)) + 1)) + 1)) + 1)) + 1)) 3); (inB t5 xa40.length (let xa42 : List TSeat := xa40.set t5.toNat { (xa40.getD t5.toNat TSeat.dflt) with sess := { ((xa40.getD t5.toNat TSeat.dflt).sess) with view := { (((xa40.getD t5.toNat TSeat.dflt).sess).view) with q := ((((xa40.getD t5.toNat TSeat.dflt).sess).view).q) }, last := { (((xa40.getD t5.toNat TSeat.dflt).sess).last) with q := ((((xa40.getD t5.toNat TSeat.dflt).sess).last).q) } }, line := ((xa40.getD t5.toNat TSeat.dflt).line), gone := (xv41 == 0) }; (let xv43 : Int := (W ((W ((W ((W ((W ((W ((W (xr30.1 + 1)) + 1)) + 1)) + 1)) + 1)) + 1)) + 1)); (back xv43 (W (t5 + 1)) xa42))))))))))))))))))))) none)))) none)))))))))) none)))))))))) none)))))))) none)))) none)))))))))) none)))))))))) none))))) (k0 append o))
def laws_markSeatS.loop3 (n : Nat) (k0 : Int → (List TSeat) → Option (Int × (List TSeat))) (N : Nat) : Int → Int → (List TSeat) → Option (Int × (List TSeat)) :=
  iterN (fun _ _ _ => none) (fun back => laws_markSeatS.step3 n k0 back) N
def laws_markSeatS : Nat → (List TSeat) → Int → Option (Int × (List TSeat))
  | 0, _, _ => none
  | n + 1, o, append =>
    (laws_markSeatS.loop3 n (fun xy44 xy45 => (some (xy44, xy45))) n append 0 o)
def laws_markServer : Nat → TServer → Int → Option (Int × (List Int) × (List (List TRow)) × (List (List TChange)) × (List TSeat))
  | 0, _, _ => none
  | n + 1, a, k =>
    ((laws_markRecord n a.record k).bind fun xr1 => (cond (Nat.beq xr1.2.1.length a.record.first.schema.cols.length) (cond (Nat.beq xr1.2.2.1.length a.record.first.tables.length) (cond (Nat.beq xr1.2.2.2.length a.record.steps.length) ((laws_markSeatS n a.seats xr1.1).bind fun xr2 => (cond (Nat.beq xr2.2.length a.seats.length) (some (xr2.1, xr1.2.1, xr1.2.2.1, xr1.2.2.2, xr2.2)) none)) none) none) none))
def laws_heldIntS.step3 (n : Nat) (k0 : Int → Option Int) (back : (List Int) → Int → Int → Option Int) (a : List Int) (k : Int) (i : Int) : Option Int :=
  (cond (decide (i < (a.length : Int))) (inB i a.length (cond ((a.getD i.toNat 0) != k) (some (-1)) (back a (W (k + 1)) (W (i + 1))))) (k0 k))
def laws_heldIntS.loop3 (n : Nat) (k0 : Int → Option Int) (N : Nat) : (List Int) → Int → Int → Option Int :=
  iterN (fun _ _ _ => none) (fun back => laws_heldIntS.step3 n k0 back) N
def laws_heldIntS : Nat → (List Int) → Int → Option Int
  | 0, _, _ => none
  | n + 1, a, k =>
    (laws_heldIntS.loop3 n (fun xy1 => (some xy1)) n a k 0)
def laws_heldSchema : Nat → TSchema → Int → Option Int
  | 0, _, _ => none
  | n + 1, a, k =>
    ((laws_heldIntS n a.cols k).bind fun xr1 => (cond (decide (xr1 < 0)) (some (-1)) (some xr1)))
def laws_heldRowS.step3 (n : Nat) (k0 : Int → Option Int) (back : (List TRow) → Int → Int → Option Int) (a : List TRow) (k : Int) (i : Int) : Option Int :=
  (cond (decide (i < (a.length : Int))) (inB i a.length (cond (((a.getD i.toNat TRow.dflt).id_) != k) (some (-1)) (inB i a.length ((laws_heldIntS n ((a.getD i.toNat TRow.dflt).cells) (W (k + 1))).bind fun xr1 => (cond (decide (xr1 < 0)) (some (-1)) (back a xr1 (W (i + 1)))))))) (k0 k))
def laws_heldRowS.loop3 (n : Nat) (k0 : Int → Option Int) (N : Nat) : (List TRow) → Int → Int → Option Int :=
  iterN (fun _ _ _ => none) (fun back => laws_heldRowS.step3 n k0 back) N
def laws_heldRowS : Nat → (List TRow) → Int → Option Int
  | 0, _, _ => none
  | n + 1, a, k =>
    (laws_heldRowS.loop3 n (fun xy2 => (some xy2)) n a k 0)
def laws_heldRowSS.step3 (n : Nat) (k0 : Int → Option Int) (back : (List (List TRow)) → Int → Int → Option Int) (a : List (List TRow)) (k : Int) (i : Int) : Option Int :=
  (cond (decide (i < (a.length : Int))) (inB i a.length ((laws_heldRowS n (a.getD i.toNat []) k).bind fun xr1 => (cond (decide (xr1 < 0)) (some (-1)) (back a xr1 (W (i + 1)))))) (k0 k))
def laws_heldRowSS.loop3 (n : Nat) (k0 : Int → Option Int) (N : Nat) : (List (List TRow)) → Int → Int → Option Int :=
  iterN (fun _ _ _ => none) (fun back => laws_heldRowSS.step3 n k0 back) N
def laws_heldRowSS : Nat → (List (List TRow)) → Int → Option Int
  | 0, _, _ => none
  | n + 1, a, k =>
    (laws_heldRowSS.loop3 n (fun xy2 => (some xy2)) n a k 0)
def laws_heldStore : Nat → TStore → Int → Option Int
  | 0, _, _ => none
  | n + 1, a, k =>
    ((laws_heldSchema n a.schema k).bind fun xr1 => (cond (decide (xr1 < 0)) (some (-1)) ((laws_heldRowSS n a.tables xr1).bind fun xr2 => (cond (decide (xr2 < 0)) (some (-1)) (some xr2)))))
def laws_heldChangeS.step3 (n : Nat) (k0 : Int → Option Int) (back : (List TChange) → Int → Int → Option Int) (o : List TChange) (append : Int) (t5 : Int) : Option Int :=
  (cond (decide (t5 < (o.length : Int))) (inB t5 o.length (cond (((o.getD t5.toNat TChange.dflt).table) != append) (some (-1)) (inB t5 o.length (let xv1 : Bool := (!(((o.getD t5.toNat TChange.dflt).had) == ((Int.tmod (W (append + 1)) 3) == 0))); (cond xv1 (some (-1)) (inB t5 o.length (let xv2 : Bool := (!(((o.getD t5.toNat TChange.dflt).has) == ((Int.tmod (W ((W (append + 1)) + 1)) 3) == 0))); (cond xv2 (some (-1)) (inB t5 o.length (let xv3 : Bool := ((((o.getD t5.toNat TChange.dflt).old).id_) != (W ((W ((W (append + 1)) + 1)) + 1))); (cond xv3 (some (-1)) (inB t5 o.length ((laws_heldIntS n (((o.getD t5.toNat TChange.dflt).old).cells) (W ((W ((W ((W (append + 1)) + 1)) + 1)) + 1))).bind fun xr4 => (cond (decide (xr4 < 0)) (some (-1)) (inB t5 o.length (cond ((((o.getD t5.toNat TChange.dflt).new).id_) != xr4) (some (-1)) (inB t5 o.length ((laws_heldIntS n (((o.getD t5.toNat TChange.dflt).new).cells) (W (xr4 + 1))).bind fun xr5 => (cond (decide (xr5 < 0)) (some (-1)) (back o xr5 (W (t5 + 1)))))))))))))))))))))) (k0 append))
def laws_heldChangeS.loop3 (n : Nat) (k0 : Int → Option Int) (N : Nat) : (List TChange) → Int → Int → Option Int :=
  iterN (fun _ _ _ => none) (fun back => laws_heldChangeS.step3 n k0 back) N
def laws_heldChangeS : Nat → (List TChange) → Int → Option Int
  | 0, _, _ => none
  | n + 1, o, append =>
    (laws_heldChangeS.loop3 n (fun xy6 => (some xy6)) n o append 0)
def laws_heldChangeSS.step3 (n : Nat) (k0 : Int → Option Int) (back : (List (List TChange)) → Int → Int → Option Int) (a : List (List TChange)) (k : Int) (i : Int) : Option Int :=
  (cond (decide (i < (a.length : Int))) (inB i a.length ((laws_heldChangeS n (a.getD i.toNat []) k).bind fun xr1 => (cond (decide (xr1 < 0)) (some (-1)) (back a xr1 (W (i + 1)))))) (k0 k))
def laws_heldChangeSS.loop3 (n : Nat) (k0 : Int → Option Int) (N : Nat) : (List (List TChange)) → Int → Int → Option Int :=
  iterN (fun _ _ _ => none) (fun back => laws_heldChangeSS.step3 n k0 back) N
def laws_heldChangeSS : Nat → (List (List TChange)) → Int → Option Int
  | 0, _, _ => none
  | n + 1, a, k =>
    (laws_heldChangeSS.loop3 n (fun xy2 => (some xy2)) n a k 0)
def laws_heldRecord : Nat → TRecord → Int → Option Int
  | 0, _, _ => none
  | n + 1, a, k =>
    ((laws_heldStore n a.first k).bind fun xr1 => (cond (decide (xr1 < 0)) (some (-1)) ((laws_heldChangeSS n a.steps xr1).bind fun xr2 => (cond (decide (xr2 < 0)) (some (-1)) (some xr2)))))
def laws_heldCondS.step3 (n : Nat) (k0 : Int → Option Int) (back : (List TCond) → Int → Int → Option Int) (a : List TCond) (k : Int) (i : Int) : Option Int :=
  (cond (decide (i < (a.length : Int))) (inB i a.length (cond (((a.getD i.toNat TCond.dflt).col) != k) (some (-1)) (inB i a.length (cond (((a.getD i.toNat TCond.dflt).op) != (W (k + 1))) (some (-1)) (inB i a.length (cond (((a.getD i.toNat TCond.dflt).v) != (W ((W (k + 1)) + 1))) (some (-1)) (back a (W ((W ((W (k + 1)) + 1)) + 1)) (W (i + 1))))))))) (k0 k))
def laws_heldCondS.loop3 (n : Nat) (k0 : Int → Option Int) (N : Nat) : (List TCond) → Int → Int → Option Int :=
  iterN (fun _ _ _ => none) (fun back => laws_heldCondS.step3 n k0 back) N
def laws_heldCondS : Nat → (List TCond) → Int → Option Int
  | 0, _, _ => none
  | n + 1, a, k =>
    (laws_heldCondS.loop3 n (fun xy1 => (some xy1)) n a k 0)
def laws_heldKidS.step3 (n : Nat) (k0 : Int → Option Int) (back : (List TKid) → Int → Int → Option Int) (a : List TKid) (k : Int) (i : Int) : Option Int :=
  (cond (decide (i < (a.length : Int))) (inB i a.length (cond (((a.getD i.toNat TKid.dflt).id_) != k) (some (-1)) (inB i a.length (cond (((a.getD i.toNat TKid.dflt).n_) != (W (k + 1))) (some (-1)) (back a (W ((W (k + 1)) + 1)) (W (i + 1))))))) (k0 k))
def laws_heldKidS.loop3 (n : Nat) (k0 : Int → Option Int) (N : Nat) : (List TKid) → Int → Int → Option Int :=
  iterN (fun _ _ _ => none) (fun back => laws_heldKidS.step3 n k0 back) N
def laws_heldKidS : Nat → (List TKid) → Int → Option Int
  | 0, _, _ => none
  | n + 1, a, k =>
    (laws_heldKidS.loop3 n (fun xy1 => (some xy1)) n a k 0)
def laws_heldSeatS.step3 (n : Nat) (k0 : Int → Option Int) (back : (List TSeat) → Int → Int → Option Int) (o : List TSeat) (append : Int) (t5 : Int) : Option Int :=
  (cond (decide (t5 < (o.length : Int))) (inB t5 o.length (cond ((((((o.getD t5.toNat TSeat.dflt).sess).view).q).table) != append) (some (-1)) (inB t5 o.length ((laws_heldCondS n (((((o.getD t5.toNat TSeat.dflt).sess).view).q).where_) (W (append + 1))).bind fun xr1 => (cond (decide (xr1 < 0)) (some (-1)) (inB t5 o.length (cond ((((((o.getD t5.toNat TSeat.dflt).sess).view).q).order) != xr1) (some (-1)) (inB t5 o.length (let xv2 : Bool := (!((((((o.getD t5.toNat TSeat.dflt).sess).view).q).down) == ((Int.tmod (W (xr1 + 1)) 3) == 0))); (cond xv2 (some (-1)) (inB t5 o.length (let xv3 : Bool := ((((((o.getD t5.toNat TSeat.dflt).sess).view).q).first) != (W ((W (xr1 + 1)) + 1))); (cond xv3 (some (-1)) (inB t5 o.length ((laws_heldIntS n (((((o.getD t5.toNat TSeat.dflt).sess).view).q).show_) (W ((W ((W (xr1 + 1)) + 1)) + 1))).bind fun xr4 => (cond (decide (xr4 < 0)) (some (-1)) (inB t5 o.length (let xv5 : Bool := (!((((((o.getD t5.toNat TSeat.dflt).sess).view).q).kids) == ((Int.tmod xr4 3) == 0))); (cond xv5 (some (-1)) (inB t5 o.length (let xv6 : Bool := ((((((o.getD t5.toNat TSeat.dflt).sess).view).q).kidTable) != (W (xr4 + 1))); (cond xv6 (some (-1)) (inB t5 o.length (let xv7 : Bool := ((((((o.getD t5.toNat TSeat.dflt).sess).view).q).kidCol) != (W ((W (xr4 + 1)) + 1))); (cond xv7 (some (-1)) (inB t5 o.length ((laws_heldRowS n ((((o.getD t5.toNat TSeat.dflt).sess).view).rows) (W ((W ((W (xr4 + 1)) + 1)) + 1))).bind fun xr8 => (cond (decide (xr8 < 0)) (some (-1)) (inB t5 o.length ((laws_heldKidS n ((((o.getD t5.toNat TSeat.dflt).sess).view).kids) xr8).bind fun xr9 => (cond (decide (xr9 < 0)) (some (-1)) (inB t5 o.length (cond ((((o.getD t5.toNat TSeat.dflt).sess).version) != xr9) (some (-1)) (inB t5 o.length (let xv10 : Bool := ((((((o.getD t5.toNat TSeat.dflt).sess).last).q).table) != (W (xr9 + 1))); (cond xv10 (some (-1)) (inB t5 o.length ((laws_heldCondS n (((((o.getD t5.toNat TSeat.dflt).sess).last).q).where_) (W ((W (xr9 + 1)) + 1))).bind fun xr11 => (cond (decide (xr11 < 0)) (some (-1)) (inB t5 o.length (cond ((((((o.getD t5.toNat TSeat.dflt).sess).last).q).order) != xr11) (some (-1)) (inB t5 o.length (let xv12 : Bool := (!((((((o.getD t5.toNat TSeat.dflt).sess).last).q).down) == ((Int.tmod (W (xr11 + 1)) 3) == 0))); (cond xv12 (some (-1)) (inB t5 o.length (let xv13 : Bool := ((((((o.getD t5.toNat TSeat.dflt).sess).last).q).first) != (W ((W (xr11 + 1)) + 1))); (cond xv13 (some (-1)) (inB t5 o.length ((laws_heldIntS n (((((o.getD t5.toNat TSeat.dflt).sess).last).q).show_) (W ((W ((W (xr11 + 1)) + 1)) + 1))).bind fun xr14 => (cond (decide (xr14 < 0)) (some (-1)) (inB t5 o.length (let xv15 : Bool := (!((((((o.getD t5.toNat TSeat.dflt).sess).last).q).kids) == ((Int.tmod xr14 3) == 0))); (cond xv15 (some (-1)) (inB t5 o.length (let xv16 : Bool := ((((((o.getD t5.toNat TSeat.dflt).sess).last).q).kidTable) != (W (xr14 + 1))); (cond xv16 (some (-1)) (inB t5 o.length (let xv17 : Bool := ((((((o.getD t5.toNat TSeat.dflt).sess).last).q).kidCol) != (W ((W (xr14 + 1)) + 1))); (cond xv17 (some (-1)) (inB t5 o.length ((laws_heldRowS n ((((o.getD t5.toNat TSeat.dflt).sess).last).rows) (W ((W ((W (xr14 + 1)) + 1)) + 1))).bind fun xr18 => (cond (decide (xr18 < 0)) (some (-1)) (inB t5 o.length ((laws_heldKidS n ((((o.getD t5.toNat TSeat.dflt).sess).last).kids) xr18).bind fun xr19 => (cond (decide (xr19 < 0)) (some (-1)) (inB t5 o.length (cond ((((o.getD t5.toNat TSeat.dflt).sess).lastVersion) != xr19) (some (-1)) (inB t5 o.length (let xv20 : Bool := (!((((o.getD t5.toNat TSeat.dflt).sess).began) == ((Int.tmod (W (xr19 + 1)) 3) == 0))); (cond xv20 (some (-1)) (inB t5 o.length ((laws_markText n (W ((W (xr19 + 1)) + 1))).bind fun xr21 => (cond (!((((o.getD t5.toNat TSeat.dflt).line).wait) == xr21)) (some (-1)) (inB t5 o.length (let xv22 : Bool := ((((o.getD t5.toNat TSeat.dflt).line).gone) != (W ((W ((W (xr19 + 1)) + 1)) + 1))); (cond xv22 (some (-1)) (inB t5 o.length ((laws_markText n (W ((W ((W ((W (xr19 + 1)) + 1)) + 1)) + 1))).bind fun xr23 => (cond (!(((o.getD t5.toNat TSeat.dflt).sent) == xr23)) (some (-1)) (inB t5 o.length ((laws_markText n (W ((W ((W ((W ((W (xr19 + 1)) + 1)) + 1)) + 1)) + 1))).bind fun xr24 => (cond (!(((o.getD t5.toNat TSeat.dflt).came) == xr24)) (some (-1)) (inB t5 o.length (let xv25 : Int := (Int.tmod (W ((W ((W ((W ((W ((W (xr19 + 1)) + 1)) + 1)) + 1)) + 1)) + 1)) 3); (cond (!(((o.getD t5.toNat TSeat.dflt).gone) == (xv25 == 0))) (some (-1)) (let xv26 : Int := (W ((W ((W ((W ((W ((W ((W (xr19 + 1)) + 1)) + 1)) + 1)) + 1)) + 1)) + 1)); (back o xv26 (W (t5 + 1))))))))))))))))))))))))))))))))))))))))))))))))))))))))))))))))))))))))))))))))))))))))) (k0 append))
def laws_heldSeatS.loop3 (n : Nat) (k0 : Int → Option Int) (N : Nat) : (List TSeat) → Int → Int → Option Int :=
  iterN (fun _ _ _ => none) (fun back => laws_heldSeatS.step3 n k0 back) N
def laws_heldSeatS : Nat → (List TSeat) → Int → Option Int
  | 0, _, _ => none
  | n + 1, o, append =>
    (laws_heldSeatS.loop3 n (fun xy27 => (some xy27)) n o append 0)
def laws_heldServer : Nat → TServer → Int → Option Int
  | 0, _, _ => none
  | n + 1, a, k =>
    ((laws_heldRecord n a.record k).bind fun xr1 => (cond (decide (xr1 < 0)) (some (-1)) ((laws_heldSeatS n a.seats xr1).bind fun xr2 => (cond (decide (xr2 < 0)) (some (-1)) (some xr2)))))
def laws_FnExactServerNew : Nat → TSchema → Option Bool
  | 0, _ => none
  | n + 1, o =>
    ((laws_szSchema n o 1048576).bind fun xr1 => (cond (decide (xr1 < 0)) (some true) ((laws_toSchema n o).bind fun xr2 => ((spec_ServerNew n xr2).bind fun xr3 => ((laws_toSchema n o).bind fun xr4 => ((impl_ServerNew n xr4).bind fun xr5 => ((laws_eqServer n xr5.1 xr3.1).bind fun xr6 => (cond (!xr6) (some false) (cond (!(xr5.2 == xr3.2)) (some false) ((laws_toSchema n o).bind fun xr7 => ((laws_eqSchema n xr4 xr7).bind fun xr8 => (cond (!xr8) (some false) ((laws_markSchema n xr4 1).bind fun xr9 => (cond (Nat.beq xr9.2.length xr4.cols.length) (cond (decide (xr9.1 < 0)) (some false) ((laws_eqServer n xr5.1 xr3.1).bind fun xr10 => (cond (!xr10) (some false) (cond (!(xr5.2 == xr3.2)) (some false) ((laws_markServer n xr5.1 1).bind fun xr11 => (cond (Nat.beq xr11.2.1.length xr5.1.record.first.schema.cols.length) (cond (Nat.beq xr11.2.2.1.length xr5.1.record.first.tables.length) (cond (Nat.beq xr11.2.2.2.1.length xr5.1.record.steps.length) (cond (Nat.beq xr11.2.2.2.2.length xr5.1.seats.length) ((laws_heldServer n (TServer.mk (TRecord.mk (TStore.mk (TSchema.mk xr11.2.1) xr5.1.record.first.version xr11.2.2.1) xr11.2.2.2.1) xr11.2.2.2.2) 1).bind fun xr12 => (cond (decide (xr12 < 0)) (some false) (cond (xr12 != xr11.1) (some false) ((laws_toSchema n o).bind fun xr13 => ((impl_ServerNew n xr13).bind fun xr14 => ((laws_eqServer n xr14.1 xr3.1).bind fun xr15 => (cond (!xr15) (some false) (cond (!(xr14.2 == xr3.2)) (some false) ((laws_heldServer n (TServer.mk (TRecord.mk (TStore.mk (TSchema.mk xr11.2.1) xr5.1.record.first.version xr11.2.2.1) xr11.2.2.2.1) xr11.2.2.2.2) 1).bind fun xr16 => (cond (decide (xr16 < 0)) (some false) (cond (xr16 != xr11.1) (some false) (some true)))))))))))) none) none) none) none)))))) none))))))))))))))
end Go.Pi
end
section
set_option linter.unusedVariables false
set_option maxRecDepth 100000
namespace Go.Pi
def TSchema.p (m : M) : List Pat := [.sl m .int]
abbrev TSchema.c : Type := (List Int) × Unit
def TSchema.of : TSchema.c → TSchema := fun (x0, _) => ⟨x0⟩
def TSchema.to (s : TSchema) : TSchema.c := (s.cols, ())
def TRow.p (m : M) : List Pat := [.i .i64, .sl m .int]
abbrev TRow.c : Type := Int × (List Int) × Unit
def TRow.of : TRow.c → TRow := fun (x0, x1, _) => ⟨x0, x1⟩
def TRow.to (s : TRow) : TRow.c := (s.id_, s.cells, ())
def TStore.p (m : M) : List Pat := [.sl m .int, .i .i64, .sl m .s_iRow]
abbrev TStore.c : Type := (List Int) × Int × (List (List TRow)) × Unit
def TStore.of : TStore.c → TStore := fun (x0, x1, x2, _) => ⟨⟨x0⟩, x1, x2⟩
def TStore.to (s : TStore) : TStore.c := (s.schema.cols, s.version, s.tables, ())
def TChange.p (m : M) : List Pat := [.i .i64, .b, .b, .i .i64, .sl m .int, .i .i64, .sl m .int]
abbrev TChange.c : Type := Int × Bool × Bool × Int × (List Int) × Int × (List Int) × Unit
def TChange.of : TChange.c → TChange := fun (x0, x1, x2, x3, x4, x5, x6, _) => ⟨x0, x1, x2, ⟨x3, x4⟩, ⟨x5, x6⟩⟩
def TChange.to (s : TChange) : TChange.c := (s.table, s.had, s.has, s.old.id_, s.old.cells, s.new.id_, s.new.cells, ())
def TRecord.p (m : M) : List Pat := [.sl m .int, .i .i64, .sl m .s_iRow, .sl m .s_iChange]
abbrev TRecord.c : Type := (List Int) × Int × (List (List TRow)) × (List (List TChange)) × Unit
def TRecord.of : TRecord.c → TRecord := fun (x0, x1, x2, x3, _) => ⟨⟨⟨x0⟩, x1, x2⟩, x3⟩
def TRecord.to (s : TRecord) : TRecord.c := (s.first.schema.cols, s.first.version, s.first.tables, s.steps, ())
def TCond.p (m : M) : List Pat := [.i .i64, .i .i64, .i .i64]
abbrev TCond.c : Type := Int × Int × Int × Unit
def TCond.of : TCond.c → TCond := fun (x0, x1, x2, _) => ⟨x0, x1, x2⟩
def TCond.to (s : TCond) : TCond.c := (s.col, s.op, s.v, ())
def TQuery.p (m : M) : List Pat := [.i .i64, .sl m .iCond, .i .i64, .b, .i .i64, .sl m .int, .b, .i .i64, .i .i64]
abbrev TQuery.c : Type := Int × (List TCond) × Int × Bool × Int × (List Int) × Bool × Int × Int × Unit
def TQuery.of : TQuery.c → TQuery := fun (x0, x1, x2, x3, x4, x5, x6, x7, x8, _) => ⟨x0, x1, x2, x3, x4, x5, x6, x7, x8⟩
def TQuery.to (s : TQuery) : TQuery.c := (s.table, s.where_, s.order, s.down, s.first, s.show_, s.kids, s.kidTable, s.kidCol, ())
def TKid.p (m : M) : List Pat := [.i .i64, .i .i64]
abbrev TKid.c : Type := Int × Int × Unit
def TKid.of : TKid.c → TKid := fun (x0, x1, _) => ⟨x0, x1⟩
def TKid.to (s : TKid) : TKid.c := (s.id_, s.n_, ())
def TView.p (m : M) : List Pat := [.i .i64, .sl m .iCond, .i .i64, .b, .i .i64, .sl m .int, .b, .i .i64, .i .i64, .sl m .iRow, .sl m .iKid]
abbrev TView.c : Type := Int × (List TCond) × Int × Bool × Int × (List Int) × Bool × Int × Int × (List TRow) × (List TKid) × Unit
def TView.of : TView.c → TView := fun (x0, x1, x2, x3, x4, x5, x6, x7, x8, x9, x10, _) => ⟨⟨x0, x1, x2, x3, x4, x5, x6, x7, x8⟩, x9, x10⟩
def TView.to (s : TView) : TView.c := (s.q.table, s.q.where_, s.q.order, s.q.down, s.q.first, s.q.show_, s.q.kids, s.q.kidTable, s.q.kidCol, s.rows, s.kids, ())
def TSess.p (m : M) : List Pat := [.i .i64, .sl m .iCond, .i .i64, .b, .i .i64, .sl m .int, .b, .i .i64, .i .i64, .sl m .iRow, .sl m .iKid, .i .i64, .i .i64, .sl m .iCond, .i .i64, .b, .i .i64, .sl m .int, .b, .i .i64, .i .i64, .sl m .iRow, .sl m .iKid, .i .i64, .b]
abbrev TSess.c : Type := Int × (List TCond) × Int × Bool × Int × (List Int) × Bool × Int × Int × (List TRow) × (List TKid) × Int × Int × (List TCond) × Int × Bool × Int × (List Int) × Bool × Int × Int × (List TRow) × (List TKid) × Int × Bool × Unit
def TSess.of : TSess.c → TSess := fun (x0, x1, x2, x3, x4, x5, x6, x7, x8, x9, x10, x11, x12, x13, x14, x15, x16, x17, x18, x19, x20, x21, x22, x23, x24, _) => ⟨⟨⟨x0, x1, x2, x3, x4, x5, x6, x7, x8⟩, x9, x10⟩, x11, ⟨⟨x12, x13, x14, x15, x16, x17, x18, x19, x20⟩, x21, x22⟩, x23, x24⟩
def TSess.to (s : TSess) : TSess.c := (s.view.q.table, s.view.q.where_, s.view.q.order, s.view.q.down, s.view.q.first, s.view.q.show_, s.view.q.kids, s.view.q.kidTable, s.view.q.kidCol, s.view.rows, s.view.kids, s.version, s.last.q.table, s.last.q.where_, s.last.q.order, s.last.q.down, s.last.q.first, s.last.q.show_, s.last.q.kids, s.last.q.kidTable, s.last.q.kidCol, s.last.rows, s.last.kids, s.lastVersion, s.began, ())
def TLine.p (m : M) : List Pat := [.s, .i .i64]
abbrev TLine.c : Type := Bs × Int × Unit
def TLine.of : TLine.c → TLine := fun (x0, x1, _) => ⟨x0, x1⟩
def TLine.to (s : TLine) : TLine.c := (s.wait, s.gone, ())
def TSeat.p (m : M) : List Pat := [.i .i64, .sl m .iCond, .i .i64, .b, .i .i64, .sl m .int, .b, .i .i64, .i .i64, .sl m .iRow, .sl m .iKid, .i .i64, .i .i64, .sl m .iCond, .i .i64, .b, .i .i64, .sl m .int, .b, .i .i64, .i .i64, .sl m .iRow, .sl m .iKid, .i .i64, .b, .s, .i .i64, .s, .s, .b]
abbrev TSeat.c : Type := Int × (List TCond) × Int × Bool × Int × (List Int) × Bool × Int × Int × (List TRow) × (List TKid) × Int × Int × (List TCond) × Int × Bool × Int × (List Int) × Bool × Int × Int × (List TRow) × (List TKid) × Int × Bool × Bs × Int × Bs × Bs × Bool × Unit
def TSeat.of : TSeat.c → TSeat := fun (x0, x1, x2, x3, x4, x5, x6, x7, x8, x9, x10, x11, x12, x13, x14, x15, x16, x17, x18, x19, x20, x21, x22, x23, x24, x25, x26, x27, x28, x29, _) => ⟨⟨⟨⟨x0, x1, x2, x3, x4, x5, x6, x7, x8⟩, x9, x10⟩, x11, ⟨⟨x12, x13, x14, x15, x16, x17, x18, x19, x20⟩, x21, x22⟩, x23, x24⟩, ⟨x25, x26⟩, x27, x28, x29⟩
def TSeat.to (s : TSeat) : TSeat.c := (s.sess.view.q.table, s.sess.view.q.where_, s.sess.view.q.order, s.sess.view.q.down, s.sess.view.q.first, s.sess.view.q.show_, s.sess.view.q.kids, s.sess.view.q.kidTable, s.sess.view.q.kidCol, s.sess.view.rows, s.sess.view.kids, s.sess.version, s.sess.last.q.table, s.sess.last.q.where_, s.sess.last.q.order, s.sess.last.q.down, s.sess.last.q.first, s.sess.last.q.show_, s.sess.last.q.kids, s.sess.last.q.kidTable, s.sess.last.q.kidCol, s.sess.last.rows, s.sess.last.kids, s.sess.lastVersion, s.sess.began, s.line.wait, s.line.gone, s.sent, s.came, s.gone, ())
def TServer.p (m : M) : List Pat := [.sl m .int, .i .i64, .sl m .s_iRow, .sl m .s_iChange, .sl m .iSeat]
abbrev TServer.c : Type := (List Int) × Int × (List (List TRow)) × (List (List TChange)) × (List TSeat) × Unit
def TServer.of : TServer.c → TServer := fun (x0, x1, x2, x3, x4, _) => ⟨⟨⟨⟨x0⟩, x1, x2⟩, x3⟩, x4⟩
def TServer.to (s : TServer) : TServer.c := (s.record.first.schema.cols, s.record.first.version, s.record.first.tables, s.record.steps, s.seats, ())

def laws_szIntS.d : FD Int := ⟨39, 12, 1, [.sl .v .int, .i .i64], [.i .i64], fun (a0, _) => a0, fun r => (r, ()), [.v, .v], [.v], [.k], [.tmp 4], [], [], [], []⟩
def laws_szIntS.F (n : Nat) : Pat.Ts laws_szIntS.d.ps → Option Int := fun (a0, a1, _) => laws_szIntS n a0 a1

def laws_szSchema.d : FD Int := ⟨7, 12, 1, [.ag [.sl .v .int], .i .i64], [.i .i64], fun (a0, _) => a0, fun r => (r, ()), [.ag [.v], .v], [.v], [.k], [.tmp 4], [], [], [], []⟩
def laws_szSchema.F (n : Nat) : Pat.Ts laws_szSchema.d.ps → Option Int := fun (a0, a1, _) => laws_szSchema n (TSchema.of a0) a1

def laws_toIntS.p4 : OD := ⟨[(0, .view .int), (3, .own .d .int), (4, .k)], [.sl .v .int, .rt 1, .i .i64], [.ext, .arr .d .int 2]⟩
def laws_toIntS.o0 : OD := ⟨[(3, .own .d .int)], [.rt 1], [.ext, .arr .d .int 2]⟩
def laws_toIntS.d : FD (List Int) := ⟨45, 22, 1, [.sl .v .int], [.sl .d .int], fun (a0, _) => a0, fun r => (r, ()), [.v], [.o], [.own .d .int], [.tmp 2], [], [(4, laws_toIntS.p4)], [], [(0, laws_toIntS.o0)]⟩
def laws_toIntS.F (n : Nat) : Pat.Ts laws_toIntS.d.ps → Option (List Int) := fun (a0, _) => laws_toIntS n a0

def laws_toSchema.d : FD TSchema := ⟨10, 9, 1, [.ag [.sl .v .int]], [.ag [.sl .d .int]], fun (a0, _) => (TSchema.of a0), fun r => (TSchema.to r, ()), [.ag [.v]], [.ag [.o]], [.ag [.own .d .int]], [.cell 2 37], [], [], [], []⟩
def laws_toSchema.F (n : Nat) : Pat.Ts laws_toSchema.d.ps → Option TSchema := fun (a0, _) => laws_toSchema n (TSchema.of a0)

def spec_l1In.d : FD Bool := ⟨42, 15, 1, (TCond.p .v), [.b], fun (a0, _) => a0, fun r => (r, ()), [.v, .v, .v], [.v], [.k], [.tmp 6], [], [], [], []⟩
def spec_l1In.F (n : Nat) : Pat.Ts spec_l1In.d.ps → Option Bool := fun (a0, a1, a2, _) => spec_l1In n a0 a1 a2

def spec_SchemaOk.p3 : OD := ⟨[(1, .box [.view .int]), (3, .k)], [.pb 1 0, .i .i64], [.ext, .box [.sl .v .int]]⟩
def spec_SchemaOk.o0 : OD := ⟨[(1, .box [.view .int])], [.pb 1 0], [.ext, .box [.sl .v .int]]⟩
def spec_SchemaOk.d : FD Bool := ⟨108, 22, 1, [.ag [.sl .v .int]], [.b], fun (a0, _) => a0, fun r => (r, ()), [.ag [.v]], [.v], [.k], [.tmp 2], [], [(3, spec_SchemaOk.p3)], [], [(0, spec_SchemaOk.o0)]⟩
def spec_SchemaOk.F (n : Nat) : Pat.Ts spec_SchemaOk.d.ps → Option Bool := fun (a0, _) => spec_SchemaOk n (TSchema.of a0)

def spec_l7Schema.d : FD TSchema := ⟨109, 8, 1, [.ag [.sl .v .int]], [.ag [.sl .d .int]], fun (a0, _) => (TSchema.of a0), fun r => (TSchema.to r, ()), [.ag [.v]], [.ag [.o]], [.ag [.own .d .int]], [.cell 2 37], [], [], [], []⟩
def spec_l7Schema.F (n : Nat) : Pat.Ts spec_l7Schema.d.ps → Option TSchema := fun (a0, _) => spec_l7Schema n (TSchema.of a0)

def spec_StoreNew.d : FD (TStore × Bool) := ⟨54, 15, 1, [.ag [.sl .v .int]], [.ag (TStore.p .d), .b], fun (a0, a1, _) => ((TStore.of a0), a1), fun (a0, a1) => (TStore.to a0, a1, ()), [.ag [.v]], [.ag [.o, .v, .o], .v], [.ag [.own .d .int, .k, .own .d .s_iRow], .k], [.cell 2 54, .tmp 3], [], [], [], []⟩
def spec_StoreNew.F (n : Nat) : Pat.Ts spec_StoreNew.d.ps → Option (TStore × Bool) := fun (a0, _) => spec_StoreNew n (TSchema.of a0)

def spec_RowOk.p6 : OD := ⟨[(5, .box [.k, .view .int]), (7, .k)], [.pb 1 0, .i .i64], [.ext, .box (TRow.p .v)]⟩
def spec_RowOk.o0 : OD := ⟨[], [], [.ext]⟩
def spec_RowOk.d : FD Bool := ⟨87, 51, 1, [.ag [.sl .v .int], .i .i64, .ag (TRow.p .v)], [.b], fun (a0, _) => a0, fun r => (r, ()), [.ag [.v], .v, .ag [.v, .v]], [.v], [.k], [.tmp 6], [], [(6, spec_RowOk.p6)], [], [(0, spec_RowOk.o0)]⟩
def spec_RowOk.F (n : Nat) : Pat.Ts spec_RowOk.d.ps → Option Bool := fun (a0, a1, a2, _) => spec_RowOk n (TSchema.of a0) a1 (TRow.of a2)

def spec_RowsOk.p3 : OD := ⟨[(1, .k), (2, .view .iRow), (3, .box [.view .int]), (7, .k)], [.i .i64, .sl .v .iRow, .pb 1 0, .i .i64], [.ext, .box [.sl .v .int]]⟩
def spec_RowsOk.o0 : OD := ⟨[(1, .k), (2, .view .iRow), (3, .box [.view .int])], [.i .i64, .sl .v .iRow, .pb 1 0], [.ext, .box [.sl .v .int]]⟩
def spec_RowsOk.d : FD Bool := ⟨155, 55, 1, [.ag [.sl .v .int], .i .i64, .sl .v .iRow], [.b], fun (a0, _) => a0, fun r => (r, ()), [.ag [.v], .v, .v], [.v], [.k], [.tmp 6], [], [(3, spec_RowsOk.p3)], [], [(0, spec_RowsOk.o0)]⟩
def spec_RowsOk.F (n : Nat) : Pat.Ts spec_RowsOk.d.ps → Option Bool := fun (a0, a1, a2, _) => spec_RowsOk n (TSchema.of a0) a1 a2

def spec_StoreOk.p6 : OD := ⟨[(1, .box [.view .int, .k, .view .s_iRow]), (3, .k)], [.pb 1 0, .i .i64], [.ext, .box (TStore.p .v)]⟩
def spec_StoreOk.o0 : OD := ⟨[], [], [.ext]⟩
def spec_StoreOk.d : FD Bool := ⟨110, 41, 1, [.ag (TStore.p .v)], [.b], fun (a0, _) => a0, fun r => (r, ()), [.ag [.v, .v, .v]], [.v], [.k], [.tmp 2], [], [(6, spec_StoreOk.p6)], [], [(0, spec_StoreOk.o0)]⟩
def spec_StoreOk.F (n : Nat) : Pat.Ts spec_StoreOk.d.ps → Option Bool := fun (a0, _) => spec_StoreOk n (TStore.of a0)

def spec_l6Copy.d : FD TRow := ⟨173, 10, 1, [.ag (TRow.p .v)], [.ag (TRow.p .d)], fun (a0, _) => (TRow.of a0), fun r => (TRow.to r, ()), [.ag [.v, .v]], [.ag [.v, .o]], [.ag [.k, .own .d .int]], [.cell 2 113], [], [], [], []⟩
def spec_l6Copy.F (n : Nat) : Pat.Ts spec_l6Copy.d.ps → Option TRow := fun (a0, _) => spec_l6Copy n (TRow.of a0)

def spec_l6Rows.p4 : OD := ⟨[(0, .view .iRow), (3, .own .d .iRow), (4, .k)], [.sl .v .iRow, .rt 1, .i .i64], [.ext, .arr .d .iRow 2]⟩
def spec_l6Rows.o0 : OD := ⟨[(3, .own .d .iRow)], [.rt 1], [.ext, .arr .d .iRow 2]⟩
def spec_l6Rows.d : FD (List TRow) := ⟨156, 21, 1, [.sl .v .iRow], [.sl .d .iRow], fun (a0, _) => a0, fun r => (r, ()), [.v], [.o], [.own .d .iRow], [.tmp 2], [], [(4, spec_l6Rows.p4)], [], [(0, spec_l6Rows.o0)]⟩
def spec_l6Rows.F (n : Nat) : Pat.Ts spec_l6Rows.d.ps → Option (List TRow) := fun (a0, _) => spec_l6Rows n a0

def spec_l7Copy.p4 : OD := ⟨[(1, .box [.view .int, .k, .view .s_iRow]), (2, .box [.k, .k, .k]), (3, .box [.own .d .int, .k, .own .d .s_iRow]), (4, .k)], [.pb 1 0, .pb 2 0, .pb 3 0, .i .i64], [.ext, .box (TStore.p .v), .box [.nils, .i .i64, .nils], .box [.rt 4, .i .i64, .rt 5], .arr .d .int 2, .arr .d .s_iRow 2]⟩
def spec_l7Copy.o0 : OD := ⟨[(2, .box [.k, .k, .k]), (3, .box [.own .d .int, .k, .own .d .s_iRow])], [.pb 1 0, .pb 2 0], [.ext, .box [.nils, .i .i64, .nils], .box [.rt 3, .i .i64, .rt 4], .arr .d .int 2, .arr .d .s_iRow 2]⟩
def spec_l7Copy.d : FD TStore := ⟨111, 30, 1, [.ag (TStore.p .v)], [.ag (TStore.p .d)], fun (a0, _) => (TStore.of a0), fun r => (TStore.to r, ()), [.ag [.v, .v, .v]], [.ag [.o, .v, .o]], [.ag [.own .d .int, .k, .own .d .s_iRow]], [.cell 2 54], [], [(4, spec_l7Copy.p4)], [], [(0, spec_l7Copy.o0)]⟩
def spec_l7Copy.F (n : Nat) : Pat.Ts spec_l7Copy.d.ps → Option TStore := fun (a0, _) => spec_l7Copy n (TStore.of a0)

def spec_RecordNew.d : FD TRecord := ⟨55, 10, 1, [.ag (TStore.p .v)], [.ag (TRecord.p .d)], fun (a0, _) => (TRecord.of a0), fun r => (TRecord.to r, ()), [.ag [.v, .v, .v]], [.ag [.o, .v, .o, .o]], [.ag [.own .d .int, .k, .own .d .s_iRow, .own .d .s_iChange]], [.cell 2 57], [], [], [], []⟩
def spec_RecordNew.F (n : Nat) : Pat.Ts spec_RecordNew.d.ps → Option TRecord := fun (a0, _) => spec_RecordNew n (TStore.of a0)

def spec_ServerNew.d : FD (TServer × Bool) := ⟨15, 17, 1, [.ag [.sl .v .int]], [.ag (TServer.p .d), .b], fun (a0, a1, _) => ((TServer.of a0), a1), fun (a0, a1) => (TServer.to a0, a1, ()), [.ag [.v]], [.ag [.o, .v, .o, .o, .o], .v], [.ag [.own .d .int, .k, .own .d .s_iRow, .own .d .s_iChange, .own .d .iSeat], .k], [.cell 2 60, .tmp 3], [], [], [], []⟩
def spec_ServerNew.F (n : Nat) : Pat.Ts spec_ServerNew.d.ps → Option (TServer × Bool) := fun (a0, _) => spec_ServerNew n (TSchema.of a0)

def impl_copyInts.d : FD (List Int) := ⟨112, 6, 1, [.sl .v .int], [.sl .d .int], fun (a0, _) => a0, fun r => (r, ()), [.v], [.o], [.own .d .int], [.tmp 2], [], [], [], []⟩
def impl_copyInts.F (n : Nat) : Pat.Ts impl_copyInts.d.ps → Option (List Int) := fun (a0, _) => impl_copyInts n a0

def impl_within.d : FD Bool := ⟨51, 15, 1, (TCond.p .v), [.b], fun (a0, _) => a0, fun r => (r, ()), [.v, .v, .v], [.v], [.k], [.tmp 6], [], [], [], []⟩
def impl_within.F (n : Nat) : Pat.Ts impl_within.d.ps → Option Bool := fun (a0, a1, a2, _) => impl_within n a0 a1 a2

def impl_SchemaOk.p3 : OD := ⟨[(1, .box [.view .int]), (6, .view .int), (7, .k), (8, .k)], [.pb 1 0, .sl .v .int, .i .i64, .i .i64], [.ext, .box [.sl .v .int]]⟩
def impl_SchemaOk.o0 : OD := ⟨[(1, .box [.view .int])], [.pb 1 0], [.ext, .box [.sl .v .int]]⟩
def impl_SchemaOk.d : FD Bool := ⟨146, 20, 1, [.ag [.sl .v .int]], [.b], fun (a0, _) => a0, fun r => (r, ()), [.ag [.v]], [.v], [.k], [.tmp 2], [], [(3, impl_SchemaOk.p3)], [], [(0, impl_SchemaOk.o0)]⟩
def impl_SchemaOk.F (n : Nat) : Pat.Ts impl_SchemaOk.d.ps → Option Bool := fun (a0, _) => impl_SchemaOk n (TSchema.of a0)

def impl_isVersion.d : FD Bool := ⟨48, 5, 1, [.i .i64], [.b], fun (a0, _) => a0, fun r => (r, ()), [.v], [.v], [.k], [.tmp 2], [], [], [], []⟩
def impl_isVersion.F (n : Nat) : Pat.Ts impl_isVersion.d.ps → Option Bool := fun (a0, _) => impl_isVersion n a0

def impl_isNum.d : FD Bool := ⟨148, 5, 1, [.i .i64], [.b], fun (a0, _) => a0, fun r => (r, ()), [.v], [.v], [.k], [.tmp 2], [], [], [], []⟩
def impl_isNum.F (n : Nat) : Pat.Ts impl_isNum.d.ps → Option Bool := fun (a0, _) => impl_isNum n a0

def impl_hasTable.d : FD Bool := ⟨147, 11, 1, [.ag [.sl .v .int], .i .i64], [.b], fun (a0, _) => a0, fun r => (r, ()), [.ag [.v], .v], [.v], [.k], [.tmp 4], [], [], [], []⟩
def impl_hasTable.F (n : Nat) : Pat.Ts impl_hasTable.d.ps → Option Bool := fun (a0, a1, _) => impl_hasTable n (TSchema.of a0) a1

def impl_RowOk.p3 : OD := ⟨[(1, .k), (3, .box [.view .int]), (5, .box [.k, .view .int]), (10, .view .int), (11, .k), (12, .k)], [.i .i64, .pb 1 0, .pb 2 0, .sl .v .int, .i .i64, .i .i64], [.ext, .box [.sl .v .int], .box (TRow.p .v)]⟩
def impl_RowOk.o0 : OD := ⟨[(1, .k), (3, .box [.view .int]), (5, .box [.k, .view .int])], [.i .i64, .pb 1 0, .pb 2 0], [.ext, .box [.sl .v .int], .box (TRow.p .v)]⟩
def impl_RowOk.d : FD Bool := ⟨97, 43, 1, [.ag [.sl .v .int], .i .i64, .ag (TRow.p .v)], [.b], fun (a0, _) => a0, fun r => (r, ()), [.ag [.v], .v, .ag [.v, .v]], [.v], [.k], [.tmp 6], [], [(3, impl_RowOk.p3)], [], [(0, impl_RowOk.o0)]⟩
def impl_RowOk.F (n : Nat) : Pat.Ts impl_RowOk.d.ps → Option Bool := fun (a0, a1, a2, _) => impl_RowOk n (TSchema.of a0) a1 (TRow.of a2)

def impl_RowsOk.p3 : OD := ⟨[(1, .k), (2, .view .iRow), (3, .box [.view .int]), (9, .view .iRow), (10, .k), (11, .k)], [.i .i64, .sl .v .iRow, .pb 1 0, .sl .v .iRow, .i .i64, .i .i64], [.ext, .box [.sl .v .int]]⟩
def impl_RowsOk.o0 : OD := ⟨[(1, .k), (2, .view .iRow), (3, .box [.view .int])], [.i .i64, .sl .v .iRow, .pb 1 0], [.ext, .box [.sl .v .int]]⟩
def impl_RowsOk.d : FD Bool := ⟨157, 49, 1, [.ag [.sl .v .int], .i .i64, .sl .v .iRow], [.b], fun (a0, _) => a0, fun r => (r, ()), [.ag [.v], .v, .v], [.v], [.k], [.tmp 6], [], [(3, impl_RowsOk.p3)], [], [(0, impl_RowsOk.o0)]⟩
def impl_RowsOk.F (n : Nat) : Pat.Ts impl_RowsOk.d.ps → Option Bool := fun (a0, a1, a2, _) => impl_RowsOk n (TSchema.of a0) a1 a2

def impl_StoreOk.p6 : OD := ⟨[(1, .box [.view .int, .k, .view .s_iRow]), (26, .view .s_iRow), (27, .k), (28, .k)], [.pb 1 0, .sl .v .s_iRow, .i .i64, .i .i64], [.ext, .box (TStore.p .v)]⟩
def impl_StoreOk.o0 : OD := ⟨[], [], [.ext]⟩
def impl_StoreOk.d : FD Bool := ⟨113, 40, 1, [.ag (TStore.p .v)], [.b], fun (a0, _) => a0, fun r => (r, ()), [.ag [.v, .v, .v]], [.v], [.k], [.tmp 2], [], [(6, impl_StoreOk.p6)], [], [(0, impl_StoreOk.o0)]⟩
def impl_StoreOk.F (n : Nat) : Pat.Ts impl_StoreOk.d.ps → Option Bool := fun (a0, _) => impl_StoreOk n (TStore.of a0)

def impl_StoreNew.d : FD (TStore × Bool) := ⟨56, 19, 1, [.ag [.sl .v .int]], [.ag (TStore.p .d), .b], fun (a0, a1, _) => ((TStore.of a0), a1), fun (a0, a1) => (TStore.to a0, a1, ()), [.ag [.v]], [.ag [.o, .v, .o], .v], [.ag [.own .d .int, .k, .own .d .s_iRow], .k], [.cell 2 54, .tmp 3], [], [], [], []⟩
def impl_StoreNew.F (n : Nat) : Pat.Ts impl_StoreNew.d.ps → Option (TStore × Bool) := fun (a0, _) => impl_StoreNew n (TSchema.of a0)

def impl_copyRow.d : FD TRow := ⟨168, 9, 1, [.ag (TRow.p .v)], [.ag (TRow.p .d)], fun (a0, _) => (TRow.of a0), fun r => (TRow.to r, ()), [.ag [.v, .v]], [.ag [.v, .o]], [.ag [.k, .own .d .int]], [.cell 2 113], [], [], [], []⟩
def impl_copyRow.F (n : Nat) : Pat.Ts impl_copyRow.d.ps → Option TRow := fun (a0, _) => impl_copyRow n (TRow.of a0)

def impl_copyRows.p4 : OD := ⟨[(3, .own .d .iRow), (7, .view .iRow), (8, .k), (9, .k)], [.rt 1, .sl .v .iRow, .i .i64, .i .i64], [.ext, .arr .d .iRow 2]⟩
def impl_copyRows.o0 : OD := ⟨[(3, .own .d .iRow)], [.rt 1], [.ext, .arr .d .iRow 2]⟩
def impl_copyRows.d : FD (List TRow) := ⟨165, 20, 1, [.sl .v .iRow], [.sl .d .iRow], fun (a0, _) => a0, fun r => (r, ()), [.v], [.o], [.own .d .iRow], [.tmp 2], [], [(4, impl_copyRows.p4)], [], [(0, impl_copyRows.o0)]⟩
def impl_copyRows.F (n : Nat) : Pat.Ts impl_copyRows.d.ps → Option (List TRow) := fun (a0, _) => impl_copyRows n a0

def impl_copyStore.p4 : OD := ⟨[(2, .box [.k, .k, .k]), (3, .box [.own .d .int, .k, .own .d .s_iRow]), (15, .view .s_iRow), (16, .k), (17, .k)], [.pb 1 0, .pb 2 0, .sl .v .s_iRow, .i .i64, .i .i64], [.ext, .box [.nils, .i .i64, .nils], .box [.rt 3, .i .i64, .rt 4], .arr .d .int 2, .arr .d .s_iRow 2]⟩
def impl_copyStore.o0 : OD := ⟨[(2, .box [.k, .k, .k]), (3, .box [.own .d .int, .k, .own .d .s_iRow])], [.pb 1 0, .pb 2 0], [.ext, .box [.nils, .i .i64, .nils], .box [.rt 3, .i .i64, .rt 4], .arr .d .int 2, .arr .d .s_iRow 2]⟩
def impl_copyStore.d : FD TStore := ⟨158, 30, 1, [.ag (TStore.p .v)], [.ag (TStore.p .d)], fun (a0, _) => (TStore.of a0), fun r => (TStore.to r, ()), [.ag [.v, .v, .v]], [.ag [.o, .v, .o]], [.ag [.own .d .int, .k, .own .d .s_iRow]], [.cell 2 54], [], [(4, impl_copyStore.p4)], [], [(0, impl_copyStore.o0)]⟩
def impl_copyStore.F (n : Nat) : Pat.Ts impl_copyStore.d.ps → Option TStore := fun (a0, _) => impl_copyStore n (TStore.of a0)

def impl_asWas.d : FD TStore := ⟨114, 9, 1, [.ag (TStore.p .v)], [.ag (TStore.p .d)], fun (a0, _) => (TStore.of a0), fun r => (TStore.to r, ()), [.ag [.v, .v, .v]], [.ag [.o, .v, .o]], [.ag [.own .d .int, .k, .own .d .s_iRow]], [.cell 2 54], [], [], [], []⟩
def impl_asWas.F (n : Nat) : Pat.Ts impl_asWas.d.ps → Option TStore := fun (a0, _) => impl_asWas n (TStore.of a0)

def impl_RecordNew.d : FD TRecord := ⟨57, 6, 1, [.ag (TStore.p .v)], [.ag (TRecord.p .d)], fun (a0, _) => (TRecord.of a0), fun r => (TRecord.to r, ()), [.ag [.v, .v, .v]], [.ag [.o, .v, .o, .o]], [.ag [.own .d .int, .k, .own .d .s_iRow, .own .d .s_iChange]], [.cell 2 57], [], [], [], []⟩
def impl_RecordNew.F (n : Nat) : Pat.Ts impl_RecordNew.d.ps → Option TRecord := fun (a0, _) => impl_RecordNew n (TStore.of a0)

def impl_ServerNew.d : FD (TServer × Bool) := ⟨16, 17, 1, [.ag [.sl .v .int]], [.ag (TServer.p .d), .b], fun (a0, a1, _) => ((TServer.of a0), a1), fun (a0, a1) => (TServer.to a0, a1, ()), [.ag [.v]], [.ag [.o, .v, .o, .o, .o], .v], [.ag [.own .d .int, .k, .own .d .s_iRow, .own .d .s_iChange, .own .d .iSeat], .k], [.cell 2 60, .tmp 3], [], [], [], []⟩
def impl_ServerNew.F (n : Nat) : Pat.Ts impl_ServerNew.d.ps → Option (TServer × Bool) := fun (a0, _) => impl_ServerNew n (TSchema.of a0)

def laws_eqIntS.p6 : OD := ⟨[(0, .view .int), (1, .view .int), (5, .k)], [.sl .v .int, .sl .v .int, .i .i64], [.ext]⟩
def laws_eqIntS.o0 : OD := ⟨[], [], [.ext]⟩
def laws_eqIntS.d : FD Bool := ⟨52, 26, 1, [.sl .v .int, .sl .v .int], [.b], fun (a0, _) => a0, fun r => (r, ()), [.v, .v], [.v], [.k], [.tmp 4], [], [(6, laws_eqIntS.p6)], [], [(0, laws_eqIntS.o0)]⟩
def laws_eqIntS.F (n : Nat) : Pat.Ts laws_eqIntS.d.ps → Option Bool := fun (a0, a1, _) => laws_eqIntS n a0 a1

def laws_eqSchema.d : FD Bool := ⟨13, 11, 1, [.ag [.sl .v .int], .ag [.sl .v .int]], [.b], fun (a0, _) => a0, fun r => (r, ()), [.ag [.v], .ag [.v]], [.v], [.k], [.tmp 4], [], [], [], []⟩
def laws_eqSchema.F (n : Nat) : Pat.Ts laws_eqSchema.d.ps → Option Bool := fun (a0, a1, _) => laws_eqSchema n (TSchema.of a0) (TSchema.of a1)

def laws_eqRow.d : FD Bool := ⟨133, 16, 1, [.ag (TRow.p .v), .ag (TRow.p .v)], [.b], fun (a0, _) => a0, fun r => (r, ()), [.ag [.v, .v], .ag [.v, .v]], [.v], [.k], [.tmp 4], [], [], [], []⟩
def laws_eqRow.F (n : Nat) : Pat.Ts laws_eqRow.d.ps → Option Bool := fun (a0, a1, _) => laws_eqRow n (TRow.of a0) (TRow.of a1)

def laws_eqRowS.p6 : OD := ⟨[(0, .view .iRow), (1, .view .iRow), (5, .k)], [.sl .v .iRow, .sl .v .iRow, .i .i64], [.ext]⟩
def laws_eqRowS.o0 : OD := ⟨[], [], [.ext]⟩
def laws_eqRowS.d : FD Bool := ⟨106, 27, 1, [.sl .v .iRow, .sl .v .iRow], [.b], fun (a0, _) => a0, fun r => (r, ()), [.v, .v], [.v], [.k], [.tmp 4], [], [(6, laws_eqRowS.p6)], [], [(0, laws_eqRowS.o0)]⟩
def laws_eqRowS.F (n : Nat) : Pat.Ts laws_eqRowS.d.ps → Option Bool := fun (a0, a1, _) => laws_eqRowS n a0 a1

def laws_eqRowSS.p6 : OD := ⟨[(0, .view .s_iRow), (1, .view .s_iRow), (5, .k)], [.sl .v .s_iRow, .sl .v .s_iRow, .i .i64], [.ext]⟩
def laws_eqRowSS.o0 : OD := ⟨[], [], [.ext]⟩
def laws_eqRowSS.d : FD Bool := ⟨80, 27, 1, [.sl .v .s_iRow, .sl .v .s_iRow], [.b], fun (a0, _) => a0, fun r => (r, ()), [.v, .v], [.v], [.k], [.tmp 4], [], [(6, laws_eqRowSS.p6)], [], [(0, laws_eqRowSS.o0)]⟩
def laws_eqRowSS.F (n : Nat) : Pat.Ts laws_eqRowSS.d.ps → Option Bool := fun (a0, a1, _) => laws_eqRowSS n a0 a1

def laws_eqStore.d : FD Bool := ⟨35, 22, 1, [.ag (TStore.p .v), .ag (TStore.p .v)], [.b], fun (a0, _) => a0, fun r => (r, ()), [.ag [.v, .v, .v], .ag [.v, .v, .v]], [.v], [.k], [.tmp 4], [], [], [], []⟩
def laws_eqStore.F (n : Nat) : Pat.Ts laws_eqStore.d.ps → Option Bool := fun (a0, a1, _) => laws_eqStore n (TStore.of a0) (TStore.of a1)

def laws_eqChange.d : FD Bool := ⟨71, 32, 1, [.ag (TChange.p .v), .ag (TChange.p .v)], [.b], fun (a0, _) => a0, fun r => (r, ()), [.ag [.v, .v, .v, .v, .v, .v, .v], .ag [.v, .v, .v, .v, .v, .v, .v]], [.v], [.k], [.tmp 4], [], [], [], []⟩
def laws_eqChange.F (n : Nat) : Pat.Ts laws_eqChange.d.ps → Option Bool := fun (a0, a1, _) => laws_eqChange n (TChange.of a0) (TChange.of a1)

def laws_eqChangeS.p6 : OD := ⟨[(0, .view .iChange), (1, .view .iChange), (5, .k)], [.sl .v .iChange, .sl .v .iChange, .i .i64], [.ext]⟩
def laws_eqChangeS.o0 : OD := ⟨[], [], [.ext]⟩
def laws_eqChangeS.d : FD Bool := ⟨25, 27, 1, [.sl .v .iChange, .sl .v .iChange], [.b], fun (a0, _) => a0, fun r => (r, ()), [.v, .v], [.v], [.k], [.tmp 4], [], [(6, laws_eqChangeS.p6)], [], [(0, laws_eqChangeS.o0)]⟩
def laws_eqChangeS.F (n : Nat) : Pat.Ts laws_eqChangeS.d.ps → Option Bool := fun (a0, a1, _) => laws_eqChangeS n a0 a1

def laws_eqChangeSS.p6 : OD := ⟨[(0, .view .s_iChange), (1, .view .s_iChange), (5, .k)], [.sl .v .s_iChange, .sl .v .s_iChange, .i .i64], [.ext]⟩
def laws_eqChangeSS.o0 : OD := ⟨[], [], [.ext]⟩
def laws_eqChangeSS.d : FD Bool := ⟨115, 27, 1, [.sl .v .s_iChange, .sl .v .s_iChange], [.b], fun (a0, _) => a0, fun r => (r, ()), [.v, .v], [.v], [.k], [.tmp 4], [], [(6, laws_eqChangeSS.p6)], [], [(0, laws_eqChangeSS.o0)]⟩
def laws_eqChangeSS.F (n : Nat) : Pat.Ts laws_eqChangeSS.d.ps → Option Bool := fun (a0, a1, _) => laws_eqChangeSS n a0 a1

def laws_eqRecord.d : FD Bool := ⟨58, 17, 1, [.ag (TRecord.p .v), .ag (TRecord.p .v)], [.b], fun (a0, _) => a0, fun r => (r, ()), [.ag [.v, .v, .v, .v], .ag [.v, .v, .v, .v]], [.v], [.k], [.tmp 4], [], [], [], []⟩
def laws_eqRecord.F (n : Nat) : Pat.Ts laws_eqRecord.d.ps → Option Bool := fun (a0, a1, _) => laws_eqRecord n (TRecord.of a0) (TRecord.of a1)

def laws_eqCond.d : FD Bool := ⟨142, 20, 1, [.ag (TCond.p .v), .ag (TCond.p .v)], [.b], fun (a0, _) => a0, fun r => (r, ()), [.ag [.v, .v, .v], .ag [.v, .v, .v]], [.v], [.k], [.tmp 4], [], [], [], []⟩
def laws_eqCond.F (n : Nat) : Pat.Ts laws_eqCond.d.ps → Option Bool := fun (a0, a1, _) => laws_eqCond n (TCond.of a0) (TCond.of a1)

def laws_eqCondS.p6 : OD := ⟨[(0, .view .iCond), (1, .view .iCond), (5, .k)], [.sl .v .iCond, .sl .v .iCond, .i .i64], [.ext]⟩
def laws_eqCondS.o0 : OD := ⟨[], [], [.ext]⟩
def laws_eqCondS.d : FD Bool := ⟨81, 27, 1, [.sl .v .iCond, .sl .v .iCond], [.b], fun (a0, _) => a0, fun r => (r, ()), [.v, .v], [.v], [.k], [.tmp 4], [], [(6, laws_eqCondS.p6)], [], [(0, laws_eqCondS.o0)]⟩
def laws_eqCondS.F (n : Nat) : Pat.Ts laws_eqCondS.d.ps → Option Bool := fun (a0, a1, _) => laws_eqCondS n a0 a1

def laws_eqQuery.d : FD Bool := ⟨36, 52, 1, [.ag (TQuery.p .v), .ag (TQuery.p .v)], [.b], fun (a0, _) => a0, fun r => (r, ()), [.ag [.v, .v, .v, .v, .v, .v, .v, .v, .v], .ag [.v, .v, .v, .v, .v, .v, .v, .v, .v]], [.v], [.k], [.tmp 4], [], [], [], []⟩
def laws_eqQuery.F (n : Nat) : Pat.Ts laws_eqQuery.d.ps → Option Bool := fun (a0, a1, _) => laws_eqQuery n (TQuery.of a0) (TQuery.of a1)

def laws_eqKid.d : FD Bool := ⟨154, 15, 1, [.ag (TKid.p .v), .ag (TKid.p .v)], [.b], fun (a0, _) => a0, fun r => (r, ()), [.ag [.v, .v], .ag [.v, .v]], [.v], [.k], [.tmp 4], [], [], [], []⟩
def laws_eqKid.F (n : Nat) : Pat.Ts laws_eqKid.d.ps → Option Bool := fun (a0, a1, _) => laws_eqKid n (TKid.of a0) (TKid.of a1)

def laws_eqKidS.p6 : OD := ⟨[(0, .view .iKid), (1, .view .iKid), (5, .k)], [.sl .v .iKid, .sl .v .iKid, .i .i64], [.ext]⟩
def laws_eqKidS.o0 : OD := ⟨[], [], [.ext]⟩
def laws_eqKidS.d : FD Bool := ⟨107, 27, 1, [.sl .v .iKid, .sl .v .iKid], [.b], fun (a0, _) => a0, fun r => (r, ()), [.v, .v], [.v], [.k], [.tmp 4], [], [(6, laws_eqKidS.p6)], [], [(0, laws_eqKidS.o0)]⟩
def laws_eqKidS.F (n : Nat) : Pat.Ts laws_eqKidS.d.ps → Option Bool := fun (a0, a1, _) => laws_eqKidS n a0 a1

def laws_eqView.d : FD Bool := ⟨53, 23, 1, [.ag (TView.p .v), .ag (TView.p .v)], [.b], fun (a0, _) => a0, fun r => (r, ()), [.ag [.v, .v, .v, .v, .v, .v, .v, .v, .v, .v, .v], .ag [.v, .v, .v, .v, .v, .v, .v, .v, .v, .v, .v]], [.v], [.k], [.tmp 4], [], [], [], []⟩
def laws_eqView.F (n : Nat) : Pat.Ts laws_eqView.d.ps → Option Bool := fun (a0, a1, _) => laws_eqView n (TView.of a0) (TView.of a1)

def laws_eqSess.d : FD Bool := ⟨14, 32, 1, [.ag (TSess.p .v), .ag (TSess.p .v)], [.b], fun (a0, _) => a0, fun r => (r, ()), [.ag [.v, .v, .v, .v, .v, .v, .v, .v, .v, .v, .v, .v, .v, .v, .v, .v, .v, .v, .v, .v, .v, .v, .v, .v, .v], .ag [.v, .v, .v, .v, .v, .v, .v, .v, .v, .v, .v, .v, .v, .v, .v, .v, .v, .v, .v, .v, .v, .v, .v, .v, .v]], [.v], [.k], [.tmp 4], [], [], [], []⟩
def laws_eqSess.F (n : Nat) : Pat.Ts laws_eqSess.d.ps → Option Bool := fun (a0, a1, _) => laws_eqSess n (TSess.of a0) (TSess.of a1)

def laws_eqLine.d : FD Bool := ⟨159, 15, 1, [.ag (TLine.p .v), .ag (TLine.p .v)], [.b], fun (a0, _) => a0, fun r => (r, ()), [.ag [.v, .v], .ag [.v, .v]], [.v], [.k], [.tmp 4], [], [], [], []⟩
def laws_eqLine.F (n : Nat) : Pat.Ts laws_eqLine.d.ps → Option Bool := fun (a0, a1, _) => laws_eqLine n (TLine.of a0) (TLine.of a1)

def laws_eqSeat.d : FD Bool := ⟨116, 32, 1, [.ag (TSeat.p .v), .ag (TSeat.p .v)], [.b], fun (a0, _) => a0, fun r => (r, ()), [.ag [.v, .v, .v, .v, .v, .v, .v, .v, .v, .v, .v, .v, .v, .v, .v, .v, .v, .v, .v, .v, .v, .v, .v, .v, .v, .v, .v, .v, .v, .v], .ag [.v, .v, .v, .v, .v, .v, .v, .v, .v, .v, .v, .v, .v, .v, .v, .v, .v, .v, .v, .v, .v, .v, .v, .v, .v, .v, .v, .v, .v, .v]], [.v], [.k], [.tmp 4], [], [], [], []⟩
def laws_eqSeat.F (n : Nat) : Pat.Ts laws_eqSeat.d.ps → Option Bool := fun (a0, a1, _) => laws_eqSeat n (TSeat.of a0) (TSeat.of a1)

def laws_eqSeatS.p6 : OD := ⟨[(0, .view .iSeat), (1, .view .iSeat), (5, .k)], [.sl .v .iSeat, .sl .v .iSeat, .i .i64], [.ext]⟩
def laws_eqSeatS.o0 : OD := ⟨[], [], [.ext]⟩
def laws_eqSeatS.d : FD Bool := ⟨59, 27, 1, [.sl .v .iSeat, .sl .v .iSeat], [.b], fun (a0, _) => a0, fun r => (r, ()), [.v, .v], [.v], [.k], [.tmp 4], [], [(6, laws_eqSeatS.p6)], [], [(0, laws_eqSeatS.o0)]⟩
def laws_eqSeatS.F (n : Nat) : Pat.Ts laws_eqSeatS.d.ps → Option Bool := fun (a0, a1, _) => laws_eqSeatS n a0 a1

def laws_eqServer.d : FD Bool := ⟨17, 17, 1, [.ag (TServer.p .v), .ag (TServer.p .v)], [.b], fun (a0, _) => a0, fun r => (r, ()), [.ag [.v, .v, .v, .v, .v], .ag [.v, .v, .v, .v, .v]], [.v], [.k], [.tmp 4], [], [], [], []⟩
def laws_eqServer.F (n : Nat) : Pat.Ts laws_eqServer.d.ps → Option Bool := fun (a0, a1, _) => laws_eqServer n (TServer.of a0) (TServer.of a1)

def laws_markIntS.p3 : OD := ⟨[(0, .own .d .int), (1, .k), (5, .k)], [.rt 1, .i .i64, .i .i64], [.ext, .arr .d .int 2]⟩
def laws_markIntS.o0 : OD := ⟨[(1, .k)], [.i .i64], [.ext, .arr .d .int 2]⟩
def laws_markIntS.d : FD (Int × (List Int)) := ⟨60, 19, 2, [.sl .d .int, .i .i64], (TRow.p .d), fun (a0, a1, _) => (a0, a1), fun (a0, a1) => (a0, a1, ()), [.mu, .v], [.v, .o], [.k, .own .d .int], [.tmp 4], [.rt 1], [(3, laws_markIntS.p3)], [], [(0, laws_markIntS.o0)]⟩
def laws_markIntS.F (n : Nat) : Pat.Ts laws_markIntS.d.ps → Option (Int × (List Int)) := fun (a0, a1, _) => laws_markIntS n a0 a1

def laws_markSchema.d : FD (Int × (List Int)) := ⟨18, 10, 2, [.ag [.sl .d .int], .i .i64], (TRow.p .d), fun (a0, a1, _) => (a0, a1), fun (a0, a1) => (a0, a1, ()), [.ag [.mu], .v], [.v, .o], [.k, .own .d .int], [.tmp 4], [.rt 1], [], [], []⟩
def laws_markSchema.F (n : Nat) : Pat.Ts laws_markSchema.d.ps → Option (Int × (List Int)) := fun (a0, a1, _) => laws_markSchema n (TSchema.of a0) a1

def laws_markRowS.p3 : OD := ⟨[(0, .own .d .iRow), (1, .k), (5, .k)], [.rt 1, .i .i64, .i .i64], [.ext, .arr .d .iRow 2]⟩
def laws_markRowS.o0 : OD := ⟨[(1, .k)], [.i .i64], [.ext, .arr .d .iRow 2]⟩
def laws_markRowS.d : FD (Int × (List TRow)) := ⟨118, 27, 2, [.sl .d .iRow, .i .i64], [.i .i64, .sl .d .iRow], fun (a0, a1, _) => (a0, a1), fun (a0, a1) => (a0, a1, ()), [.mu, .v], [.v, .o], [.k, .own .d .iRow], [.tmp 4], [.rt 1], [(3, laws_markRowS.p3)], [], [(0, laws_markRowS.o0)]⟩
def laws_markRowS.F (n : Nat) : Pat.Ts laws_markRowS.d.ps → Option (Int × (List TRow)) := fun (a0, a1, _) => laws_markRowS n a0 a1

def laws_markRowSS.p3 : OD := ⟨[(0, .own .d .s_iRow), (1, .k), (5, .k)], [.rt 1, .i .i64, .i .i64], [.ext, .arr .d .s_iRow 2]⟩
def laws_markRowSS.o0 : OD := ⟨[(1, .k)], [.i .i64], [.ext, .arr .d .s_iRow 2]⟩
def laws_markRowSS.d : FD (Int × (List (List TRow))) := ⟨82, 19, 2, [.sl .d .s_iRow, .i .i64], [.i .i64, .sl .d .s_iRow], fun (a0, a1, _) => (a0, a1), fun (a0, a1) => (a0, a1, ()), [.mu, .v], [.v, .o], [.k, .own .d .s_iRow], [.tmp 4], [.rt 1], [(3, laws_markRowSS.p3)], [], [(0, laws_markRowSS.o0)]⟩
def laws_markRowSS.F (n : Nat) : Pat.Ts laws_markRowSS.d.ps → Option (Int × (List (List TRow))) := fun (a0, a1, _) => laws_markRowSS n a0 a1

def laws_markStore.d : FD (Int × (List Int) × (List (List TRow))) := ⟨37, 14, 3, [.ag (TStore.p .d), .i .i64], [.i .i64, .sl .d .int, .sl .d .s_iRow], fun (a0, a1, a2, _) => (a0, a1, a2), fun (a0, a1, a2) => (a0, a1, a2, ()), [.ag [.mu, .v, .mu], .v], [.v, .o, .o], [.k, .own .d .int, .own .d .s_iRow], [.tmp 4], [.rt 1, .rt 2], [], [], []⟩
def laws_markStore.F (n : Nat) : Pat.Ts laws_markStore.d.ps → Option (Int × (List Int) × (List (List TRow))) := fun (a0, a1, _) => laws_markStore n (TStore.of a0) a1

def laws_markChangeS.p3 : OD := ⟨[(0, .own .d .iChange), (1, .k), (5, .k)], [.rt 1, .i .i64, .i .i64], [.ext, .arr .d .iChange 2]⟩
def laws_markChangeS.o0 : OD := ⟨[(1, .k)], [.i .i64], [.ext, .arr .d .iChange 2]⟩
def laws_markChangeS.d : FD (Int × (List TChange)) := ⟨27, 70, 2, [.sl .d .iChange, .i .i64], [.i .i64, .sl .d .iChange], fun (a0, a1, _) => (a0, a1), fun (a0, a1) => (a0, a1, ()), [.mu, .v], [.v, .o], [.k, .own .d .iChange], [.tmp 4], [.rt 1], [(3, laws_markChangeS.p3)], [], [(0, laws_markChangeS.o0)]⟩
def laws_markChangeS.F (n : Nat) : Pat.Ts laws_markChangeS.d.ps → Option (Int × (List TChange)) := fun (a0, a1, _) => laws_markChangeS n a0 a1

def laws_markChangeSS.p3 : OD := ⟨[(0, .own .d .s_iChange), (1, .k), (5, .k)], [.rt 1, .i .i64, .i .i64], [.ext, .arr .d .s_iChange 2]⟩
def laws_markChangeSS.o0 : OD := ⟨[(1, .k)], [.i .i64], [.ext, .arr .d .s_iChange 2]⟩
def laws_markChangeSS.d : FD (Int × (List (List TChange))) := ⟨117, 19, 2, [.sl .d .s_iChange, .i .i64], [.i .i64, .sl .d .s_iChange], fun (a0, a1, _) => (a0, a1), fun (a0, a1) => (a0, a1, ()), [.mu, .v], [.v, .o], [.k, .own .d .s_iChange], [.tmp 4], [.rt 1], [(3, laws_markChangeSS.p3)], [], [(0, laws_markChangeSS.o0)]⟩
def laws_markChangeSS.F (n : Nat) : Pat.Ts laws_markChangeSS.d.ps → Option (Int × (List (List TChange))) := fun (a0, a1, _) => laws_markChangeSS n a0 a1

def laws_markRecord.d : FD (Int × (List Int) × (List (List TRow)) × (List (List TChange))) := ⟨61, 14, 4, [.ag (TRecord.p .d), .i .i64], [.i .i64, .sl .d .int, .sl .d .s_iRow, .sl .d .s_iChange], fun (a0, a1, a2, a3, _) => (a0, a1, a2, a3), fun (a0, a1, a2, a3) => (a0, a1, a2, a3, ()), [.ag [.mu, .v, .mu, .mu], .v], [.v, .o, .o, .o], [.k, .own .d .int, .own .d .s_iRow, .own .d .s_iChange], [.tmp 4], [.rt 1, .rt 2, .rt 3], [], [], []⟩
def laws_markRecord.F (n : Nat) : Pat.Ts laws_markRecord.d.ps → Option (Int × (List Int) × (List (List TRow)) × (List (List TChange))) := fun (a0, a1, _) => laws_markRecord n (TRecord.of a0) a1

def laws_markCondS.p3 : OD := ⟨[(0, .own .d .iCond), (1, .k), (5, .k)], [.rt 1, .i .i64, .i .i64], [.ext, .arr .d .iCond 2]⟩
def laws_markCondS.o0 : OD := ⟨[(1, .k)], [.i .i64], [.ext, .arr .d .iCond 2]⟩
def laws_markCondS.d : FD (Int × (List TCond)) := ⟨83, 34, 2, [.sl .d .iCond, .i .i64], [.i .i64, .sl .d .iCond], fun (a0, a1, _) => (a0, a1), fun (a0, a1) => (a0, a1, ()), [.mu, .v], [.v, .o], [.k, .own .d .iCond], [.tmp 4], [.rt 1], [(3, laws_markCondS.p3)], [], [(0, laws_markCondS.o0)]⟩
def laws_markCondS.F (n : Nat) : Pat.Ts laws_markCondS.d.ps → Option (Int × (List TCond)) := fun (a0, a1, _) => laws_markCondS n a0 a1

def laws_markKidS.p3 : OD := ⟨[(0, .own .d .iKid), (1, .k), (5, .k)], [.rt 1, .i .i64, .i .i64], [.ext, .arr .d .iKid 2]⟩
def laws_markKidS.o0 : OD := ⟨[(1, .k)], [.i .i64], [.ext, .arr .d .iKid 2]⟩
def laws_markKidS.d : FD (Int × (List TKid)) := ⟨119, 27, 2, [.sl .d .iKid, .i .i64], [.i .i64, .sl .d .iKid], fun (a0, a1, _) => (a0, a1), fun (a0, a1) => (a0, a1, ()), [.mu, .v], [.v, .o], [.k, .own .d .iKid], [.tmp 4], [.rt 1], [(3, laws_markKidS.p3)], [], [(0, laws_markKidS.o0)]⟩
def laws_markKidS.F (n : Nat) : Pat.Ts laws_markKidS.d.ps → Option (Int × (List TKid)) := fun (a0, a1, _) => laws_markKidS n a0 a1

def laws_markText.p6 : OD := ⟨[(0, .k), (3, .k)], [.i .i64, .s], [.ext]⟩
def laws_markText.o0 : OD := ⟨[(3, .k)], [.s], [.ext]⟩
def laws_markText.d : FD Bs := ⟨120, 20, 1, [.i .i64], [.s], fun (a0, _) => a0, fun r => (r, ()), [.v], [.v], [.k], [.tmp 2], [], [(6, laws_markText.p6)], [], [(0, laws_markText.o0)]⟩
def laws_markText.F (n : Nat) : Pat.Ts laws_markText.d.ps → Option Bs := fun (a0, _) => laws_markText n a0

def laws_markSeatS.p3 : OD := ⟨[(0, .own .d .iSeat), (1, .k), (5, .k)], [.rt 1, .i .i64, .i .i64], [.ext, .arr .d .iSeat 2]⟩
def laws_markSeatS.o0 : OD := ⟨[(1, .k)], [.i .i64], [.ext, .arr .d .iSeat 2]⟩
def laws_markSeatS.d : FD (Int × (List TSeat)) := ⟨62, 305, 2, [.sl .d .iSeat, .i .i64], [.i .i64, .sl .d .iSeat], fun (a0, a1, _) => (a0, a1), fun (a0, a1) => (a0, a1, ()), [.mu, .v], [.v, .o], [.k, .own .d .iSeat], [.tmp 4], [.rt 1], [(3, laws_markSeatS.p3)], [], [(0, laws_markSeatS.o0)]⟩
def laws_markSeatS.F (n : Nat) : Pat.Ts laws_markSeatS.d.ps → Option (Int × (List TSeat)) := fun (a0, a1, _) => laws_markSeatS n a0 a1

def laws_markServer.d : FD (Int × (List Int) × (List (List TRow)) × (List (List TChange)) × (List TSeat)) := ⟨19, 14, 5, [.ag (TServer.p .d), .i .i64], [.i .i64, .sl .d .int, .sl .d .s_iRow, .sl .d .s_iChange, .sl .d .iSeat], fun (a0, a1, a2, a3, a4, _) => (a0, a1, a2, a3, a4), fun (a0, a1, a2, a3, a4) => (a0, a1, a2, a3, a4, ()), [.ag [.mu, .v, .mu, .mu, .mu], .v], [.v, .o, .o, .o, .o], [.k, .own .d .int, .own .d .s_iRow, .own .d .s_iChange, .own .d .iSeat], [.tmp 4], [.rt 1, .rt 2, .rt 3, .rt 4], [], [], []⟩
def laws_markServer.F (n : Nat) : Pat.Ts laws_markServer.d.ps → Option (Int × (List Int) × (List (List TRow)) × (List (List TChange)) × (List TSeat)) := fun (a0, a1, _) => laws_markServer n (TServer.of a0) a1

def laws_heldIntS.p3 : OD := ⟨[(0, .view .int), (1, .k), (5, .k)], [.sl .v .int, .i .i64, .i .i64], [.ext]⟩
def laws_heldIntS.o0 : OD := ⟨[(1, .k)], [.i .i64], [.ext]⟩
def laws_heldIntS.d : FD Int := ⟨124, 21, 1, [.sl .v .int, .i .i64], [.i .i64], fun (a0, _) => a0, fun r => (r, ()), [.v, .v], [.v], [.k], [.tmp 4], [], [(3, laws_heldIntS.p3)], [], [(0, laws_heldIntS.o0)]⟩
def laws_heldIntS.F (n : Nat) : Pat.Ts laws_heldIntS.d.ps → Option Int := fun (a0, a1, _) => laws_heldIntS n a0 a1

def laws_heldSchema.d : FD Int := ⟨160, 12, 1, [.ag [.sl .v .int], .i .i64], [.i .i64], fun (a0, _) => a0, fun r => (r, ()), [.ag [.v], .v], [.v], [.k], [.tmp 4], [], [], [], []⟩
def laws_heldSchema.F (n : Nat) : Pat.Ts laws_heldSchema.d.ps → Option Int := fun (a0, a1, _) => laws_heldSchema n (TSchema.of a0) a1

def laws_heldRowS.p3 : OD := ⟨[(0, .view .iRow), (1, .k), (5, .k)], [.sl .v .iRow, .i .i64, .i .i64], [.ext]⟩
def laws_heldRowS.o0 : OD := ⟨[(1, .k)], [.i .i64], [.ext]⟩
def laws_heldRowS.d : FD Int := ⟨125, 31, 1, [.sl .v .iRow, .i .i64], [.i .i64], fun (a0, _) => a0, fun r => (r, ()), [.v, .v], [.v], [.k], [.tmp 4], [], [(3, laws_heldRowS.p3)], [], [(0, laws_heldRowS.o0)]⟩
def laws_heldRowS.F (n : Nat) : Pat.Ts laws_heldRowS.d.ps → Option Int := fun (a0, a1, _) => laws_heldRowS n a0 a1

def laws_heldRowSS.p3 : OD := ⟨[(0, .view .s_iRow), (1, .k), (5, .k)], [.sl .v .s_iRow, .i .i64, .i .i64], [.ext]⟩
def laws_heldRowSS.o0 : OD := ⟨[(1, .k)], [.i .i64], [.ext]⟩
def laws_heldRowSS.d : FD Int := ⟨161, 21, 1, [.sl .v .s_iRow, .i .i64], [.i .i64], fun (a0, _) => a0, fun r => (r, ()), [.v, .v], [.v], [.k], [.tmp 4], [], [(3, laws_heldRowSS.p3)], [], [(0, laws_heldRowSS.o0)]⟩
def laws_heldRowSS.F (n : Nat) : Pat.Ts laws_heldRowSS.d.ps → Option Int := fun (a0, a1, _) => laws_heldRowSS n a0 a1

def laws_heldStore.d : FD Int := ⟨121, 18, 1, [.ag (TStore.p .v), .i .i64], [.i .i64], fun (a0, _) => a0, fun r => (r, ()), [.ag [.v, .v, .v], .v], [.v], [.k], [.tmp 4], [], [], [], []⟩
def laws_heldStore.F (n : Nat) : Pat.Ts laws_heldStore.d.ps → Option Int := fun (a0, a1, _) => laws_heldStore n (TStore.of a0) a1

def laws_heldChangeS.p3 : OD := ⟨[(0, .view .iChange), (1, .k), (5, .k)], [.sl .v .iChange, .i .i64, .i .i64], [.ext]⟩
def laws_heldChangeS.o0 : OD := ⟨[(1, .k)], [.i .i64], [.ext]⟩
def laws_heldChangeS.d : FD Int := ⟨162, 84, 1, [.sl .v .iChange, .i .i64], [.i .i64], fun (a0, _) => a0, fun r => (r, ()), [.v, .v], [.v], [.k], [.tmp 4], [], [(3, laws_heldChangeS.p3)], [], [(0, laws_heldChangeS.o0)]⟩
def laws_heldChangeS.F (n : Nat) : Pat.Ts laws_heldChangeS.d.ps → Option Int := fun (a0, a1, _) => laws_heldChangeS n a0 a1

def laws_heldChangeSS.p3 : OD := ⟨[(0, .view .s_iChange), (1, .k), (5, .k)], [.sl .v .s_iChange, .i .i64, .i .i64], [.ext]⟩
def laws_heldChangeSS.o0 : OD := ⟨[(1, .k)], [.i .i64], [.ext]⟩
def laws_heldChangeSS.d : FD Int := ⟨122, 21, 1, [.sl .v .s_iChange, .i .i64], [.i .i64], fun (a0, _) => a0, fun r => (r, ()), [.v, .v], [.v], [.k], [.tmp 4], [], [(3, laws_heldChangeSS.p3)], [], [(0, laws_heldChangeSS.o0)]⟩
def laws_heldChangeSS.F (n : Nat) : Pat.Ts laws_heldChangeSS.d.ps → Option Int := fun (a0, a1, _) => laws_heldChangeSS n a0 a1

def laws_heldRecord.d : FD Int := ⟨63, 18, 1, [.ag (TRecord.p .v), .i .i64], [.i .i64], fun (a0, _) => a0, fun r => (r, ()), [.ag [.v, .v, .v, .v], .v], [.v], [.k], [.tmp 4], [], [], [], []⟩
def laws_heldRecord.F (n : Nat) : Pat.Ts laws_heldRecord.d.ps → Option Int := fun (a0, a1, _) => laws_heldRecord n (TRecord.of a0) a1

def laws_heldCondS.p3 : OD := ⟨[(0, .view .iCond), (1, .k), (5, .k)], [.sl .v .iCond, .i .i64, .i .i64], [.ext]⟩
def laws_heldCondS.o0 : OD := ⟨[(1, .k)], [.i .i64], [.ext]⟩
def laws_heldCondS.d : FD Int := ⟨123, 40, 1, [.sl .v .iCond, .i .i64], [.i .i64], fun (a0, _) => a0, fun r => (r, ()), [.v, .v], [.v], [.k], [.tmp 4], [], [(3, laws_heldCondS.p3)], [], [(0, laws_heldCondS.o0)]⟩
def laws_heldCondS.F (n : Nat) : Pat.Ts laws_heldCondS.d.ps → Option Int := fun (a0, a1, _) => laws_heldCondS n a0 a1

def laws_heldKidS.p3 : OD := ⟨[(0, .view .iKid), (1, .k), (5, .k)], [.sl .v .iKid, .i .i64, .i .i64], [.ext]⟩
def laws_heldKidS.o0 : OD := ⟨[(1, .k)], [.i .i64], [.ext]⟩
def laws_heldKidS.d : FD Int := ⟨126, 31, 1, [.sl .v .iKid, .i .i64], [.i .i64], fun (a0, _) => a0, fun r => (r, ()), [.v, .v], [.v], [.k], [.tmp 4], [], [(3, laws_heldKidS.p3)], [], [(0, laws_heldKidS.o0)]⟩
def laws_heldKidS.F (n : Nat) : Pat.Ts laws_heldKidS.d.ps → Option Int := fun (a0, a1, _) => laws_heldKidS n a0 a1

def laws_heldSeatS.p3 : OD := ⟨[(0, .view .iSeat), (1, .k), (5, .k)], [.sl .v .iSeat, .i .i64, .i .i64], [.ext]⟩
def laws_heldSeatS.o0 : OD := ⟨[(1, .k)], [.i .i64], [.ext]⟩
def laws_heldSeatS.d : FD Int := ⟨64, 365, 1, [.sl .v .iSeat, .i .i64], [.i .i64], fun (a0, _) => a0, fun r => (r, ()), [.v, .v], [.v], [.k], [.tmp 4], [], [(3, laws_heldSeatS.p3)], [], [(0, laws_heldSeatS.o0)]⟩
def laws_heldSeatS.F (n : Nat) : Pat.Ts laws_heldSeatS.d.ps → Option Int := fun (a0, a1, _) => laws_heldSeatS n a0 a1

def laws_heldServer.d : FD Int := ⟨20, 18, 1, [.ag (TServer.p .v), .i .i64], [.i .i64], fun (a0, _) => a0, fun r => (r, ()), [.ag [.v, .v, .v, .v, .v], .v], [.v], [.k], [.tmp 4], [], [], [], []⟩
def laws_heldServer.F (n : Nat) : Pat.Ts laws_heldServer.d.ps → Option Int := fun (a0, a1, _) => laws_heldServer n (TServer.of a0) a1

def laws_FnExactServerNew.d : FD Bool := ⟨4, 96, 1, [.ag [.sl .v .int]], [.b], fun (a0, _) => a0, fun r => (r, ()), [.ag [.v]], [.v], [.k], [.tmp 2], [], [], [], []⟩
def laws_FnExactServerNew.F (n : Nat) : Pat.Ts laws_FnExactServerNew.d.ps → Option Bool := fun (a0, _) => laws_FnExactServerNew n (TSchema.of a0)

def KL (n : Nat) : List (Nat × Hd) := [
  (4, ⟨fun _ => laws_FnExactServerNew.d.K (laws_FnExactServerNew.F n)⟩),
  (7, ⟨fun _ => laws_szSchema.d.K (laws_szSchema.F n)⟩),
  (10, ⟨fun _ => laws_toSchema.d.K (laws_toSchema.F n)⟩),
  (13, ⟨fun _ => laws_eqSchema.d.K (laws_eqSchema.F n)⟩),
  (14, ⟨fun _ => laws_eqSess.d.K (laws_eqSess.F n)⟩),
  (15, ⟨fun _ => spec_ServerNew.d.K (spec_ServerNew.F n)⟩),
  (16, ⟨fun _ => impl_ServerNew.d.K (impl_ServerNew.F n)⟩),
  (17, ⟨fun _ => laws_eqServer.d.K (laws_eqServer.F n)⟩),
  (18, ⟨fun _ => laws_markSchema.d.K (laws_markSchema.F n)⟩),
  (19, ⟨fun _ => laws_markServer.d.K (laws_markServer.F n)⟩),
  (20, ⟨fun _ => laws_heldServer.d.K (laws_heldServer.F n)⟩),
  (25, ⟨fun _ => laws_eqChangeS.d.K (laws_eqChangeS.F n)⟩),
  (27, ⟨fun _ => laws_markChangeS.d.K (laws_markChangeS.F n)⟩),
  (35, ⟨fun _ => laws_eqStore.d.K (laws_eqStore.F n)⟩),
  (36, ⟨fun _ => laws_eqQuery.d.K (laws_eqQuery.F n)⟩),
  (37, ⟨fun _ => laws_markStore.d.K (laws_markStore.F n)⟩),
  (39, ⟨fun _ => laws_szIntS.d.K (laws_szIntS.F n)⟩),
  (42, ⟨fun _ => spec_l1In.d.K (spec_l1In.F n)⟩),
  (45, ⟨fun _ => laws_toIntS.d.K (laws_toIntS.F n)⟩),
  (48, ⟨fun _ => impl_isVersion.d.K (impl_isVersion.F n)⟩),
  (51, ⟨fun _ => impl_within.d.K (impl_within.F n)⟩),
  (52, ⟨fun _ => laws_eqIntS.d.K (laws_eqIntS.F n)⟩),
  (53, ⟨fun _ => laws_eqView.d.K (laws_eqView.F n)⟩),
  (54, ⟨fun _ => spec_StoreNew.d.K (spec_StoreNew.F n)⟩),
  (55, ⟨fun _ => spec_RecordNew.d.K (spec_RecordNew.F n)⟩),
  (56, ⟨fun _ => impl_StoreNew.d.K (impl_StoreNew.F n)⟩),
  (57, ⟨fun _ => impl_RecordNew.d.K (impl_RecordNew.F n)⟩),
  (58, ⟨fun _ => laws_eqRecord.d.K (laws_eqRecord.F n)⟩),
  (59, ⟨fun _ => laws_eqSeatS.d.K (laws_eqSeatS.F n)⟩),
  (60, ⟨fun _ => laws_markIntS.d.K (laws_markIntS.F n)⟩),
  (61, ⟨fun _ => laws_markRecord.d.K (laws_markRecord.F n)⟩),
  (62, ⟨fun _ => laws_markSeatS.d.K (laws_markSeatS.F n)⟩),
  (63, ⟨fun _ => laws_heldRecord.d.K (laws_heldRecord.F n)⟩),
  (64, ⟨fun _ => laws_heldSeatS.d.K (laws_heldSeatS.F n)⟩),
  (71, ⟨fun _ => laws_eqChange.d.K (laws_eqChange.F n)⟩),
  (80, ⟨fun _ => laws_eqRowSS.d.K (laws_eqRowSS.F n)⟩),
  (81, ⟨fun _ => laws_eqCondS.d.K (laws_eqCondS.F n)⟩),
  (82, ⟨fun _ => laws_markRowSS.d.K (laws_markRowSS.F n)⟩),
  (83, ⟨fun _ => laws_markCondS.d.K (laws_markCondS.F n)⟩),
  (87, ⟨fun _ => spec_RowOk.d.K (spec_RowOk.F n)⟩),
  (97, ⟨fun _ => impl_RowOk.d.K (impl_RowOk.F n)⟩),
  (106, ⟨fun _ => laws_eqRowS.d.K (laws_eqRowS.F n)⟩),
  (107, ⟨fun _ => laws_eqKidS.d.K (laws_eqKidS.F n)⟩),
  (108, ⟨fun _ => spec_SchemaOk.d.K (spec_SchemaOk.F n)⟩),
  (109, ⟨fun _ => spec_l7Schema.d.K (spec_l7Schema.F n)⟩),
  (110, ⟨fun _ => spec_StoreOk.d.K (spec_StoreOk.F n)⟩),
  (111, ⟨fun _ => spec_l7Copy.d.K (spec_l7Copy.F n)⟩),
  (112, ⟨fun _ => impl_copyInts.d.K (impl_copyInts.F n)⟩),
  (113, ⟨fun _ => impl_StoreOk.d.K (impl_StoreOk.F n)⟩),
  (114, ⟨fun _ => impl_asWas.d.K (impl_asWas.F n)⟩),
  (115, ⟨fun _ => laws_eqChangeSS.d.K (laws_eqChangeSS.F n)⟩),
  (116, ⟨fun _ => laws_eqSeat.d.K (laws_eqSeat.F n)⟩),
  (117, ⟨fun _ => laws_markChangeSS.d.K (laws_markChangeSS.F n)⟩),
  (118, ⟨fun _ => laws_markRowS.d.K (laws_markRowS.F n)⟩),
  (119, ⟨fun _ => laws_markKidS.d.K (laws_markKidS.F n)⟩),
  (120, ⟨fun _ => laws_markText.d.K (laws_markText.F n)⟩),
  (121, ⟨fun _ => laws_heldStore.d.K (laws_heldStore.F n)⟩),
  (122, ⟨fun _ => laws_heldChangeSS.d.K (laws_heldChangeSS.F n)⟩),
  (123, ⟨fun _ => laws_heldCondS.d.K (laws_heldCondS.F n)⟩),
  (124, ⟨fun _ => laws_heldIntS.d.K (laws_heldIntS.F n)⟩),
  (125, ⟨fun _ => laws_heldRowS.d.K (laws_heldRowS.F n)⟩),
  (126, ⟨fun _ => laws_heldKidS.d.K (laws_heldKidS.F n)⟩),
  (133, ⟨fun _ => laws_eqRow.d.K (laws_eqRow.F n)⟩),
  (142, ⟨fun _ => laws_eqCond.d.K (laws_eqCond.F n)⟩),
  (146, ⟨fun _ => impl_SchemaOk.d.K (impl_SchemaOk.F n)⟩),
  (147, ⟨fun _ => impl_hasTable.d.K (impl_hasTable.F n)⟩),
  (148, ⟨fun _ => impl_isNum.d.K (impl_isNum.F n)⟩),
  (154, ⟨fun _ => laws_eqKid.d.K (laws_eqKid.F n)⟩),
  (155, ⟨fun _ => spec_RowsOk.d.K (spec_RowsOk.F n)⟩),
  (156, ⟨fun _ => spec_l6Rows.d.K (spec_l6Rows.F n)⟩),
  (157, ⟨fun _ => impl_RowsOk.d.K (impl_RowsOk.F n)⟩),
  (158, ⟨fun _ => impl_copyStore.d.K (impl_copyStore.F n)⟩),
  (159, ⟨fun _ => laws_eqLine.d.K (laws_eqLine.F n)⟩),
  (160, ⟨fun _ => laws_heldSchema.d.K (laws_heldSchema.F n)⟩),
  (161, ⟨fun _ => laws_heldRowSS.d.K (laws_heldRowSS.F n)⟩),
  (162, ⟨fun _ => laws_heldChangeS.d.K (laws_heldChangeS.F n)⟩),
  (165, ⟨fun _ => impl_copyRows.d.K (impl_copyRows.F n)⟩),
  (168, ⟨fun _ => impl_copyRow.d.K (impl_copyRow.F n)⟩),
  (173, ⟨fun _ => spec_l6Copy.d.K (spec_l6Copy.F n)⟩)]
def sigL : List (Nat × List PS) := [
  (4, laws_FnExactServerNew.d.sig),
  (7, laws_szSchema.d.sig),
  (10, laws_toSchema.d.sig),
  (13, laws_eqSchema.d.sig),
  (14, laws_eqSess.d.sig),
  (15, spec_ServerNew.d.sig),
  (16, impl_ServerNew.d.sig),
  (17, laws_eqServer.d.sig),
  (18, laws_markSchema.d.sig),
  (19, laws_markServer.d.sig),
  (20, laws_heldServer.d.sig),
  (25, laws_eqChangeS.d.sig),
  (27, laws_markChangeS.d.sig),
  (35, laws_eqStore.d.sig),
  (36, laws_eqQuery.d.sig),
  (37, laws_markStore.d.sig),
  (39, laws_szIntS.d.sig),
  (42, spec_l1In.d.sig),
  (45, laws_toIntS.d.sig),
  (48, impl_isVersion.d.sig),
  (51, impl_within.d.sig),
  (52, laws_eqIntS.d.sig),
  (53, laws_eqView.d.sig),
  (54, spec_StoreNew.d.sig),
  (55, spec_RecordNew.d.sig),
  (56, impl_StoreNew.d.sig),
  (57, impl_RecordNew.d.sig),
  (58, laws_eqRecord.d.sig),
  (59, laws_eqSeatS.d.sig),
  (60, laws_markIntS.d.sig),
  (61, laws_markRecord.d.sig),
  (62, laws_markSeatS.d.sig),
  (63, laws_heldRecord.d.sig),
  (64, laws_heldSeatS.d.sig),
  (71, laws_eqChange.d.sig),
  (80, laws_eqRowSS.d.sig),
  (81, laws_eqCondS.d.sig),
  (82, laws_markRowSS.d.sig),
  (83, laws_markCondS.d.sig),
  (87, spec_RowOk.d.sig),
  (97, impl_RowOk.d.sig),
  (106, laws_eqRowS.d.sig),
  (107, laws_eqKidS.d.sig),
  (108, spec_SchemaOk.d.sig),
  (109, spec_l7Schema.d.sig),
  (110, spec_StoreOk.d.sig),
  (111, spec_l7Copy.d.sig),
  (112, impl_copyInts.d.sig),
  (113, impl_StoreOk.d.sig),
  (114, impl_asWas.d.sig),
  (115, laws_eqChangeSS.d.sig),
  (116, laws_eqSeat.d.sig),
  (117, laws_markChangeSS.d.sig),
  (118, laws_markRowS.d.sig),
  (119, laws_markKidS.d.sig),
  (120, laws_markText.d.sig),
  (121, laws_heldStore.d.sig),
  (122, laws_heldChangeSS.d.sig),
  (123, laws_heldCondS.d.sig),
  (124, laws_heldIntS.d.sig),
  (125, laws_heldRowS.d.sig),
  (126, laws_heldKidS.d.sig),
  (133, laws_eqRow.d.sig),
  (142, laws_eqCond.d.sig),
  (146, impl_SchemaOk.d.sig),
  (147, impl_hasTable.d.sig),
  (148, impl_isNum.d.sig),
  (154, laws_eqKid.d.sig),
  (155, spec_RowsOk.d.sig),
  (156, spec_l6Rows.d.sig),
  (157, impl_RowsOk.d.sig),
  (158, impl_copyStore.d.sig),
  (159, laws_eqLine.d.sig),
  (160, laws_heldSchema.d.sig),
  (161, laws_heldRowSS.d.sig),
  (162, laws_heldChangeS.d.sig),
  (165, impl_copyRows.d.sig),
  (168, impl_copyRow.d.sig),
  (173, spec_l6Copy.d.sig)]
def cx (n nt : Nat) : Cx := ⟨nt, tt, fun f => look2 sigL f, KH (KL n)⟩
end Go.Pi
end
section
set_option linter.unusedVariables false
set_option maxRecDepth 100000
namespace Go.Pi
open Go.Proofs
noncomputable def laws_szIntS.fs (n : Nat) : laws_szIntS.d.Fs := ()
theorem laws_szIntS.ok (n : Nat) : CxOk E (cx n laws_szIntS.d.nt) → KPar (cx n laws_szIntS.d.nt) → laws_szIntS.d.Ok E (laws_szIntS.F (n + 1)) :=
  FD.ok (fs := laws_szIntS.fs n) mixedOk Try.func39 (by kernel_rfl) (by kernel_rfl) (by kernel_rfl) (by kernel_rfl) (fun _ => by kernel_rfl) (by kernel_rfl) (fun x => by kernel_rfl) (.nil)
noncomputable def laws_szSchema.fs (n : Nat) : laws_szSchema.d.Fs := ()
theorem laws_szSchema.ok (n : Nat) : CxOk E (cx n laws_szSchema.d.nt) → KPar (cx n laws_szSchema.d.nt) → laws_szSchema.d.Ok E (laws_szSchema.F (n + 1)) :=
  FD.ok (fs := laws_szSchema.fs n) mixedOk Try.func7 (by kernel_rfl) (by kernel_rfl) (by kernel_rfl) (by kernel_rfl) (fun _ => by kernel_rfl) (by kernel_rfl) (fun x => by kernel_rfl) (.nil)
noncomputable def laws_toIntS.fs (n : Nat) : laws_toIntS.d.Fs := (fun _ κe => laws_toIntS.loop4 n (laws_toIntS.o0.k (κe 0)) n, ())
theorem laws_toIntS.r4 (n : Nat) : laws_toIntS.d.Round (laws_toIntS.fs n) (cx n laws_toIntS.d.nt) (bodyOf Try.f45) 4 laws_toIntS.p4 (fun κe => laws_toIntS.step4 n (laws_toIntS.o0.k (κe 0))) := fun κ κe x y => by kernel_rfl
theorem laws_toIntS.ok (n : Nat) : CxOk E (cx n laws_toIntS.d.nt) → KPar (cx n laws_toIntS.d.nt) → laws_toIntS.d.Ok E (laws_toIntS.F (n + 1)) :=
  FD.ok (fs := laws_toIntS.fs n) mixedOk Try.func45 (by kernel_rfl) (by kernel_rfl) (by kernel_rfl) (by kernel_rfl) (fun _ => by kernel_rfl) (by kernel_rfl) (fun x => by kernel_rfl) (.cons (FD.lp n (laws_toIntS.r4 n) (by kernel_rfl) fun _ _ => by kernel_rfl) (.nil))
noncomputable def laws_toSchema.fs (n : Nat) : laws_toSchema.d.Fs := ()
theorem laws_toSchema.ok (n : Nat) : CxOk E (cx n laws_toSchema.d.nt) → KPar (cx n laws_toSchema.d.nt) → laws_toSchema.d.Ok E (laws_toSchema.F (n + 1)) :=
  FD.ok (fs := laws_toSchema.fs n) mixedOk Try.func10 (by kernel_rfl) (by kernel_rfl) (by kernel_rfl) (by kernel_rfl) (fun _ => by kernel_rfl) (by kernel_rfl) (fun x => by kernel_rfl) (.nil)
noncomputable def spec_l1In.fs (n : Nat) : spec_l1In.d.Fs := ()
theorem spec_l1In.ok (n : Nat) : CxOk E (cx n spec_l1In.d.nt) → KPar (cx n spec_l1In.d.nt) → spec_l1In.d.Ok E (spec_l1In.F (n + 1)) :=
  FD.ok (fs := spec_l1In.fs n) mixedOk Try.func42 (by kernel_rfl) (by kernel_rfl) (by kernel_rfl) (by kernel_rfl) (fun _ => by kernel_rfl) (by kernel_rfl) (fun x => by kernel_rfl) (.nil)
noncomputable def spec_SchemaOk.fs (n : Nat) : spec_SchemaOk.d.Fs := (fun _ κe => spec_SchemaOk.loop3 n (spec_SchemaOk.o0.k (κe 0)) n, ())
theorem spec_SchemaOk.r3 (n : Nat) : spec_SchemaOk.d.Round (spec_SchemaOk.fs n) (cx n spec_SchemaOk.d.nt) (bodyOf Try.f108) 3 spec_SchemaOk.p3 (fun κe => spec_SchemaOk.step3 n (spec_SchemaOk.o0.k (κe 0))) := fun κ κe x y => by kernel_rfl
theorem spec_SchemaOk.ok (n : Nat) : CxOk E (cx n spec_SchemaOk.d.nt) → KPar (cx n spec_SchemaOk.d.nt) → spec_SchemaOk.d.Ok E (spec_SchemaOk.F (n + 1)) :=
  FD.ok (fs := spec_SchemaOk.fs n) mixedOk Try.func108 (by kernel_rfl) (by kernel_rfl) (by kernel_rfl) (by kernel_rfl) (fun _ => by kernel_rfl) (by kernel_rfl) (fun x => by kernel_rfl) (.cons (FD.lp n (spec_SchemaOk.r3 n) (by kernel_rfl) fun _ _ => by kernel_rfl) (.nil))
noncomputable def spec_l7Schema.fs (n : Nat) : spec_l7Schema.d.Fs := ()
theorem spec_l7Schema.ok (n : Nat) : CxOk E (cx n spec_l7Schema.d.nt) → KPar (cx n spec_l7Schema.d.nt) → spec_l7Schema.d.Ok E (spec_l7Schema.F (n + 1)) :=
  FD.ok (fs := spec_l7Schema.fs n) mixedOk Try.func109 (by kernel_rfl) (by kernel_rfl) (by kernel_rfl) (by kernel_rfl) (fun _ => by kernel_rfl) (by kernel_rfl) (fun x => by kernel_rfl) (.nil)
noncomputable def spec_StoreNew.fs (n : Nat) : spec_StoreNew.d.Fs := ()
theorem spec_StoreNew.ok (n : Nat) : CxOk E (cx n spec_StoreNew.d.nt) → KPar (cx n spec_StoreNew.d.nt) → spec_StoreNew.d.Ok E (spec_StoreNew.F (n + 1)) :=
  FD.ok (fs := spec_StoreNew.fs n) mixedOk Try.func54 (by kernel_rfl) (by kernel_rfl) (by kernel_rfl) (by kernel_rfl) (fun _ => by kernel_rfl) (by kernel_rfl) (fun x => by kernel_rfl) (.nil)
noncomputable def spec_RowOk.fs (n : Nat) : spec_RowOk.d.Fs := (fun _ κe => spec_RowOk.loop6 n (spec_RowOk.o0.k (κe 0)) n, ())
theorem spec_RowOk.r6 (n : Nat) : spec_RowOk.d.Round (spec_RowOk.fs n) (cx n spec_RowOk.d.nt) (bodyOf Try.f87) 6 spec_RowOk.p6 (fun κe => spec_RowOk.step6 n (spec_RowOk.o0.k (κe 0))) := fun κ κe x y => by kernel_rfl
theorem spec_RowOk.ok (n : Nat) : CxOk E (cx n spec_RowOk.d.nt) → KPar (cx n spec_RowOk.d.nt) → spec_RowOk.d.Ok E (spec_RowOk.F (n + 1)) :=
  FD.ok (fs := spec_RowOk.fs n) mixedOk Try.func87 (by kernel_rfl) (by kernel_rfl) (by kernel_rfl) (by kernel_rfl) (fun _ => by kernel_rfl) (by kernel_rfl) (fun x => by kernel_rfl) (.cons (FD.lp n (spec_RowOk.r6 n) (by kernel_rfl) fun _ _ => by kernel_rfl) (.nil))
noncomputable def spec_RowsOk.fs (n : Nat) : spec_RowsOk.d.Fs := (fun _ κe => spec_RowsOk.loop3 n (spec_RowsOk.o0.k (κe 0)) n, ())
theorem spec_RowsOk.r3 (n : Nat) : spec_RowsOk.d.Round (spec_RowsOk.fs n) (cx n spec_RowsOk.d.nt) (bodyOf Try.f155) 3 spec_RowsOk.p3 (fun κe => spec_RowsOk.step3 n (spec_RowsOk.o0.k (κe 0))) := fun κ κe x y => by kernel_rfl
theorem spec_RowsOk.ok (n : Nat) : CxOk E (cx n spec_RowsOk.d.nt) → KPar (cx n spec_RowsOk.d.nt) → spec_RowsOk.d.Ok E (spec_RowsOk.F (n + 1)) :=
  FD.ok (fs := spec_RowsOk.fs n) mixedOk Try.func155 (by kernel_rfl) (by kernel_rfl) (by kernel_rfl) (by kernel_rfl) (fun _ => by kernel_rfl) (by kernel_rfl) (fun x => by kernel_rfl) (.cons (FD.lp n (spec_RowsOk.r3 n) (by kernel_rfl) fun _ _ => by kernel_rfl) (.nil))
noncomputable def spec_StoreOk.fs (n : Nat) : spec_StoreOk.d.Fs := (fun _ κe => spec_StoreOk.loop6 n (spec_StoreOk.o0.k (κe 0)) n, ())
theorem spec_StoreOk.r6 (n : Nat) : spec_StoreOk.d.Round (spec_StoreOk.fs n) (cx n spec_StoreOk.d.nt) (bodyOf Try.f110) 6 spec_StoreOk.p6 (fun κe => spec_StoreOk.step6 n (spec_StoreOk.o0.k (κe 0))) := fun κ κe x y => by kernel_rfl
theorem spec_StoreOk.ok (n : Nat) : CxOk E (cx n spec_StoreOk.d.nt) → KPar (cx n spec_StoreOk.d.nt) → spec_StoreOk.d.Ok E (spec_StoreOk.F (n + 1)) :=
  FD.ok (fs := spec_StoreOk.fs n) mixedOk Try.func110 (by kernel_rfl) (by kernel_rfl) (by kernel_rfl) (by kernel_rfl) (fun _ => by kernel_rfl) (by kernel_rfl) (fun x => by kernel_rfl) (.cons (FD.lp n (spec_StoreOk.r6 n) (by kernel_rfl) fun _ _ => by kernel_rfl) (.nil))
noncomputable def spec_l6Copy.fs (n : Nat) : spec_l6Copy.d.Fs := ()
theorem spec_l6Copy.ok (n : Nat) : CxOk E (cx n spec_l6Copy.d.nt) → KPar (cx n spec_l6Copy.d.nt) → spec_l6Copy.d.Ok E (spec_l6Copy.F (n + 1)) :=
  FD.ok (fs := spec_l6Copy.fs n) mixedOk Try.func173 (by kernel_rfl) (by kernel_rfl) (by kernel_rfl) (by kernel_rfl) (fun _ => by kernel_rfl) (by kernel_rfl) (fun x => by kernel_rfl) (.nil)
noncomputable def spec_l6Rows.fs (n : Nat) : spec_l6Rows.d.Fs := (fun _ κe => spec_l6Rows.loop4 n (spec_l6Rows.o0.k (κe 0)) n, ())
theorem spec_l6Rows.r4 (n : Nat) : spec_l6Rows.d.Round (spec_l6Rows.fs n) (cx n spec_l6Rows.d.nt) (bodyOf Try.f156) 4 spec_l6Rows.p4 (fun κe => spec_l6Rows.step4 n (spec_l6Rows.o0.k (κe 0))) := fun κ κe x y => by kernel_rfl
theorem spec_l6Rows.ok (n : Nat) : CxOk E (cx n spec_l6Rows.d.nt) → KPar (cx n spec_l6Rows.d.nt) → spec_l6Rows.d.Ok E (spec_l6Rows.F (n + 1)) :=
  FD.ok (fs := spec_l6Rows.fs n) mixedOk Try.func156 (by kernel_rfl) (by kernel_rfl) (by kernel_rfl) (by kernel_rfl) (fun _ => by kernel_rfl) (by kernel_rfl) (fun x => by kernel_rfl) (.cons (FD.lp n (spec_l6Rows.r4 n) (by kernel_rfl) fun _ _ => by kernel_rfl) (.nil))
noncomputable def spec_l7Copy.fs (n : Nat) : spec_l7Copy.d.Fs := (fun _ κe => spec_l7Copy.loop4 n (spec_l7Copy.o0.k (κe 0)) n, ())
theorem spec_l7Copy.r4 (n : Nat) : spec_l7Copy.d.Round (spec_l7Copy.fs n) (cx n spec_l7Copy.d.nt) (bodyOf Try.f111) 4 spec_l7Copy.p4 (fun κe => spec_l7Copy.step4 n (spec_l7Copy.o0.k (κe 0))) := fun κ κe x y => by kernel_rfl
theorem spec_l7Copy.ok (n : Nat) : CxOk E (cx n spec_l7Copy.d.nt) → KPar (cx n spec_l7Copy.d.nt) → spec_l7Copy.d.Ok E (spec_l7Copy.F (n + 1)) :=
  FD.ok (fs := spec_l7Copy.fs n) mixedOk Try.func111 (by kernel_rfl) (by kernel_rfl) (by kernel_rfl) (by kernel_rfl) (fun _ => by kernel_rfl) (by kernel_rfl) (fun x => by kernel_rfl) (.cons (FD.lp n (spec_l7Copy.r4 n) (by kernel_rfl) fun _ _ => by kernel_rfl) (.nil))
noncomputable def spec_RecordNew.fs (n : Nat) : spec_RecordNew.d.Fs := ()
theorem spec_RecordNew.ok (n : Nat) : CxOk E (cx n spec_RecordNew.d.nt) → KPar (cx n spec_RecordNew.d.nt) → spec_RecordNew.d.Ok E (spec_RecordNew.F (n + 1)) :=
  FD.ok (fs := spec_RecordNew.fs n) mixedOk Try.func55 (by kernel_rfl) (by kernel_rfl) (by kernel_rfl) (by kernel_rfl) (fun _ => by kernel_rfl) (by kernel_rfl) (fun x => by kernel_rfl) (.nil)
noncomputable def spec_ServerNew.fs (n : Nat) : spec_ServerNew.d.Fs := ()
theorem spec_ServerNew.ok (n : Nat) : CxOk E (cx n spec_ServerNew.d.nt) → KPar (cx n spec_ServerNew.d.nt) → spec_ServerNew.d.Ok E (spec_ServerNew.F (n + 1)) :=
  FD.ok (fs := spec_ServerNew.fs n) mixedOk Try.func15 (by kernel_rfl) (by kernel_rfl) (by kernel_rfl) (by kernel_rfl) (fun _ => by kernel_rfl) (by kernel_rfl) (fun x => by kernel_rfl) (.nil)
noncomputable def impl_copyInts.fs (n : Nat) : impl_copyInts.d.Fs := ()
theorem impl_copyInts.ok (n : Nat) : CxOk E (cx n impl_copyInts.d.nt) → KPar (cx n impl_copyInts.d.nt) → impl_copyInts.d.Ok E (impl_copyInts.F (n + 1)) :=
  FD.ok (fs := impl_copyInts.fs n) mixedOk Try.func112 (by kernel_rfl) (by kernel_rfl) (by kernel_rfl) (by kernel_rfl) (fun _ => by kernel_rfl) (by kernel_rfl) (fun x => by kernel_rfl) (.nil)
noncomputable def impl_within.fs (n : Nat) : impl_within.d.Fs := ()
theorem impl_within.ok (n : Nat) : CxOk E (cx n impl_within.d.nt) → KPar (cx n impl_within.d.nt) → impl_within.d.Ok E (impl_within.F (n + 1)) :=
  FD.ok (fs := impl_within.fs n) mixedOk Try.func51 (by kernel_rfl) (by kernel_rfl) (by kernel_rfl) (by kernel_rfl) (fun _ => by kernel_rfl) (by kernel_rfl) (fun x => by kernel_rfl) (.nil)
noncomputable def impl_SchemaOk.fs (n : Nat) : impl_SchemaOk.d.Fs := (fun _ κe => impl_SchemaOk.loop3 n (impl_SchemaOk.o0.k (κe 0)) n, ())
theorem impl_SchemaOk.r3 (n : Nat) : impl_SchemaOk.d.Round (impl_SchemaOk.fs n) (cx n impl_SchemaOk.d.nt) (bodyOf Try.f146) 3 impl_SchemaOk.p3 (fun κe => impl_SchemaOk.step3 n (impl_SchemaOk.o0.k (κe 0))) := fun κ κe x y => by kernel_rfl
theorem impl_SchemaOk.ok (n : Nat) : CxOk E (cx n impl_SchemaOk.d.nt) → KPar (cx n impl_SchemaOk.d.nt) → impl_SchemaOk.d.Ok E (impl_SchemaOk.F (n + 1)) :=
  FD.ok (fs := impl_SchemaOk.fs n) mixedOk Try.func146 (by kernel_rfl) (by kernel_rfl) (by kernel_rfl) (by kernel_rfl) (fun _ => by kernel_rfl) (by kernel_rfl) (fun x => by kernel_rfl) (.cons (FD.lp n (impl_SchemaOk.r3 n) (by kernel_rfl) fun _ _ => by kernel_rfl) (.nil))
noncomputable def impl_isVersion.fs (n : Nat) : impl_isVersion.d.Fs := ()
theorem impl_isVersion.ok (n : Nat) : CxOk E (cx n impl_isVersion.d.nt) → KPar (cx n impl_isVersion.d.nt) → impl_isVersion.d.Ok E (impl_isVersion.F (n + 1)) :=
  FD.ok (fs := impl_isVersion.fs n) mixedOk Try.func48 (by kernel_rfl) (by kernel_rfl) (by kernel_rfl) (by kernel_rfl) (fun _ => by kernel_rfl) (by kernel_rfl) (fun x => by kernel_rfl) (.nil)
noncomputable def impl_isNum.fs (n : Nat) : impl_isNum.d.Fs := ()
theorem impl_isNum.ok (n : Nat) : CxOk E (cx n impl_isNum.d.nt) → KPar (cx n impl_isNum.d.nt) → impl_isNum.d.Ok E (impl_isNum.F (n + 1)) :=
  FD.ok (fs := impl_isNum.fs n) mixedOk Try.func148 (by kernel_rfl) (by kernel_rfl) (by kernel_rfl) (by kernel_rfl) (fun _ => by kernel_rfl) (by kernel_rfl) (fun x => by kernel_rfl) (.nil)
noncomputable def impl_hasTable.fs (n : Nat) : impl_hasTable.d.Fs := ()
theorem impl_hasTable.ok (n : Nat) : CxOk E (cx n impl_hasTable.d.nt) → KPar (cx n impl_hasTable.d.nt) → impl_hasTable.d.Ok E (impl_hasTable.F (n + 1)) :=
  FD.ok (fs := impl_hasTable.fs n) mixedOk Try.func147 (by kernel_rfl) (by kernel_rfl) (by kernel_rfl) (by kernel_rfl) (fun _ => by kernel_rfl) (by kernel_rfl) (fun x => by kernel_rfl) (.nil)
noncomputable def impl_RowOk.fs (n : Nat) : impl_RowOk.d.Fs := (fun _ κe => impl_RowOk.loop3 n (impl_RowOk.o0.k (κe 0)) n, ())
theorem impl_RowOk.r3 (n : Nat) : impl_RowOk.d.Round (impl_RowOk.fs n) (cx n impl_RowOk.d.nt) (bodyOf Try.f97) 3 impl_RowOk.p3 (fun κe => impl_RowOk.step3 n (impl_RowOk.o0.k (κe 0))) := fun κ κe x y => by kernel_rfl
theorem impl_RowOk.ok (n : Nat) : CxOk E (cx n impl_RowOk.d.nt) → KPar (cx n impl_RowOk.d.nt) → impl_RowOk.d.Ok E (impl_RowOk.F (n + 1)) :=
  FD.ok (fs := impl_RowOk.fs n) mixedOk Try.func97 (by kernel_rfl) (by kernel_rfl) (by kernel_rfl) (by kernel_rfl) (fun _ => by kernel_rfl) (by kernel_rfl) (fun x => by kernel_rfl) (.cons (FD.lp n (impl_RowOk.r3 n) (by kernel_rfl) fun _ _ => by kernel_rfl) (.nil))
noncomputable def impl_RowsOk.fs (n : Nat) : impl_RowsOk.d.Fs := (fun _ κe => impl_RowsOk.loop3 n (impl_RowsOk.o0.k (κe 0)) n, ())
theorem impl_RowsOk.r3 (n : Nat) : impl_RowsOk.d.Round (impl_RowsOk.fs n) (cx n impl_RowsOk.d.nt) (bodyOf Try.f157) 3 impl_RowsOk.p3 (fun κe => impl_RowsOk.step3 n (impl_RowsOk.o0.k (κe 0))) := fun κ κe x y => by kernel_rfl
theorem impl_RowsOk.ok (n : Nat) : CxOk E (cx n impl_RowsOk.d.nt) → KPar (cx n impl_RowsOk.d.nt) → impl_RowsOk.d.Ok E (impl_RowsOk.F (n + 1)) :=
  FD.ok (fs := impl_RowsOk.fs n) mixedOk Try.func157 (by kernel_rfl) (by kernel_rfl) (by kernel_rfl) (by kernel_rfl) (fun _ => by kernel_rfl) (by kernel_rfl) (fun x => by kernel_rfl) (.cons (FD.lp n (impl_RowsOk.r3 n) (by kernel_rfl) fun _ _ => by kernel_rfl) (.nil))
noncomputable def impl_StoreOk.fs (n : Nat) : impl_StoreOk.d.Fs := (fun _ κe => impl_StoreOk.loop6 n (impl_StoreOk.o0.k (κe 0)) n, ())
theorem impl_StoreOk.r6 (n : Nat) : impl_StoreOk.d.Round (impl_StoreOk.fs n) (cx n impl_StoreOk.d.nt) (bodyOf Try.f113) 6 impl_StoreOk.p6 (fun κe => impl_StoreOk.step6 n (impl_StoreOk.o0.k (κe 0))) := fun κ κe x y => by kernel_rfl
theorem impl_StoreOk.ok (n : Nat) : CxOk E (cx n impl_StoreOk.d.nt) → KPar (cx n impl_StoreOk.d.nt) → impl_StoreOk.d.Ok E (impl_StoreOk.F (n + 1)) :=
  FD.ok (fs := impl_StoreOk.fs n) mixedOk Try.func113 (by kernel_rfl) (by kernel_rfl) (by kernel_rfl) (by kernel_rfl) (fun _ => by kernel_rfl) (by kernel_rfl) (fun x => by kernel_rfl) (.cons (FD.lp n (impl_StoreOk.r6 n) (by kernel_rfl) fun _ _ => by kernel_rfl) (.nil))
noncomputable def impl_StoreNew.fs (n : Nat) : impl_StoreNew.d.Fs := ()
theorem impl_StoreNew.ok (n : Nat) : CxOk E (cx n impl_StoreNew.d.nt) → KPar (cx n impl_StoreNew.d.nt) → impl_StoreNew.d.Ok E (impl_StoreNew.F (n + 1)) :=
  FD.ok (fs := impl_StoreNew.fs n) mixedOk Try.func56 (by kernel_rfl) (by kernel_rfl) (by kernel_rfl) (by kernel_rfl) (fun _ => by kernel_rfl) (by kernel_rfl) (fun x => by kernel_rfl) (.nil)
noncomputable def impl_copyRow.fs (n : Nat) : impl_copyRow.d.Fs := ()
theorem impl_copyRow.ok (n : Nat) : CxOk E (cx n impl_copyRow.d.nt) → KPar (cx n impl_copyRow.d.nt) → impl_copyRow.d.Ok E (impl_copyRow.F (n + 1)) :=
  FD.ok (fs := impl_copyRow.fs n) mixedOk Try.func168 (by kernel_rfl) (by kernel_rfl) (by kernel_rfl) (by kernel_rfl) (fun _ => by kernel_rfl) (by kernel_rfl) (fun x => by kernel_rfl) (.nil)
noncomputable def impl_copyRows.fs (n : Nat) : impl_copyRows.d.Fs := (fun _ κe => impl_copyRows.loop4 n (impl_copyRows.o0.k (κe 0)) n, ())
theorem impl_copyRows.r4 (n : Nat) : impl_copyRows.d.Round (impl_copyRows.fs n) (cx n impl_copyRows.d.nt) (bodyOf Try.f165) 4 impl_copyRows.p4 (fun κe => impl_copyRows.step4 n (impl_copyRows.o0.k (κe 0))) := fun κ κe x y => by kernel_rfl
theorem impl_copyRows.ok (n : Nat) : CxOk E (cx n impl_copyRows.d.nt) → KPar (cx n impl_copyRows.d.nt) → impl_copyRows.d.Ok E (impl_copyRows.F (n + 1)) :=
  FD.ok (fs := impl_copyRows.fs n) mixedOk Try.func165 (by kernel_rfl) (by kernel_rfl) (by kernel_rfl) (by kernel_rfl) (fun _ => by kernel_rfl) (by kernel_rfl) (fun x => by kernel_rfl) (.cons (FD.lp n (impl_copyRows.r4 n) (by kernel_rfl) fun _ _ => by kernel_rfl) (.nil))
noncomputable def impl_copyStore.fs (n : Nat) : impl_copyStore.d.Fs := (fun _ κe => impl_copyStore.loop4 n (impl_copyStore.o0.k (κe 0)) n, ())
theorem impl_copyStore.r4 (n : Nat) : impl_copyStore.d.Round (impl_copyStore.fs n) (cx n impl_copyStore.d.nt) (bodyOf Try.f158) 4 impl_copyStore.p4 (fun κe => impl_copyStore.step4 n (impl_copyStore.o0.k (κe 0))) := fun κ κe x y => by kernel_rfl
theorem impl_copyStore.ok (n : Nat) : CxOk E (cx n impl_copyStore.d.nt) → KPar (cx n impl_copyStore.d.nt) → impl_copyStore.d.Ok E (impl_copyStore.F (n + 1)) :=
  FD.ok (fs := impl_copyStore.fs n) mixedOk Try.func158 (by kernel_rfl) (by kernel_rfl) (by kernel_rfl) (by kernel_rfl) (fun _ => by kernel_rfl) (by kernel_rfl) (fun x => by kernel_rfl) (.cons (FD.lp n (impl_copyStore.r4 n) (by kernel_rfl) fun _ _ => by kernel_rfl) (.nil))
noncomputable def impl_asWas.fs (n : Nat) : impl_asWas.d.Fs := ()
theorem impl_asWas.ok (n : Nat) : CxOk E (cx n impl_asWas.d.nt) → KPar (cx n impl_asWas.d.nt) → impl_asWas.d.Ok E (impl_asWas.F (n + 1)) :=
  FD.ok (fs := impl_asWas.fs n) mixedOk Try.func114 (by kernel_rfl) (by kernel_rfl) (by kernel_rfl) (by kernel_rfl) (fun _ => by kernel_rfl) (by kernel_rfl) (fun x => by kernel_rfl) (.nil)
noncomputable def impl_RecordNew.fs (n : Nat) : impl_RecordNew.d.Fs := ()
theorem impl_RecordNew.ok (n : Nat) : CxOk E (cx n impl_RecordNew.d.nt) → KPar (cx n impl_RecordNew.d.nt) → impl_RecordNew.d.Ok E (impl_RecordNew.F (n + 1)) :=
  FD.ok (fs := impl_RecordNew.fs n) mixedOk Try.func57 (by kernel_rfl) (by kernel_rfl) (by kernel_rfl) (by kernel_rfl) (fun _ => by kernel_rfl) (by kernel_rfl) (fun x => by kernel_rfl) (.nil)
noncomputable def impl_ServerNew.fs (n : Nat) : impl_ServerNew.d.Fs := ()
theorem impl_ServerNew.ok (n : Nat) : CxOk E (cx n impl_ServerNew.d.nt) → KPar (cx n impl_ServerNew.d.nt) → impl_ServerNew.d.Ok E (impl_ServerNew.F (n + 1)) :=
  FD.ok (fs := impl_ServerNew.fs n) mixedOk Try.func16 (by kernel_rfl) (by kernel_rfl) (by kernel_rfl) (by kernel_rfl) (fun _ => by kernel_rfl) (by kernel_rfl) (fun x => by kernel_rfl) (.nil)
noncomputable def laws_eqIntS.fs (n : Nat) : laws_eqIntS.d.Fs := (fun _ κe => laws_eqIntS.loop6 n (laws_eqIntS.o0.k (κe 0)) n, ())
theorem laws_eqIntS.r6 (n : Nat) : laws_eqIntS.d.Round (laws_eqIntS.fs n) (cx n laws_eqIntS.d.nt) (bodyOf Try.f52) 6 laws_eqIntS.p6 (fun κe => laws_eqIntS.step6 n (laws_eqIntS.o0.k (κe 0))) := fun κ κe x y => by kernel_rfl
theorem laws_eqIntS.ok (n : Nat) : CxOk E (cx n laws_eqIntS.d.nt) → KPar (cx n laws_eqIntS.d.nt) → laws_eqIntS.d.Ok E (laws_eqIntS.F (n + 1)) :=
  FD.ok (fs := laws_eqIntS.fs n) mixedOk Try.func52 (by kernel_rfl) (by kernel_rfl) (by kernel_rfl) (by kernel_rfl) (fun _ => by kernel_rfl) (by kernel_rfl) (fun x => by kernel_rfl) (.cons (FD.lp n (laws_eqIntS.r6 n) (by kernel_rfl) fun _ _ => by kernel_rfl) (.nil))
noncomputable def laws_eqSchema.fs (n : Nat) : laws_eqSchema.d.Fs := ()
theorem laws_eqSchema.ok (n : Nat) : CxOk E (cx n laws_eqSchema.d.nt) → KPar (cx n laws_eqSchema.d.nt) → laws_eqSchema.d.Ok E (laws_eqSchema.F (n + 1)) :=
  FD.ok (fs := laws_eqSchema.fs n) mixedOk Try.func13 (by kernel_rfl) (by kernel_rfl) (by kernel_rfl) (by kernel_rfl) (fun _ => by kernel_rfl) (by kernel_rfl) (fun x => by kernel_rfl) (.nil)
noncomputable def laws_eqRow.fs (n : Nat) : laws_eqRow.d.Fs := ()
theorem laws_eqRow.ok (n : Nat) : CxOk E (cx n laws_eqRow.d.nt) → KPar (cx n laws_eqRow.d.nt) → laws_eqRow.d.Ok E (laws_eqRow.F (n + 1)) :=
  FD.ok (fs := laws_eqRow.fs n) mixedOk Try.func133 (by kernel_rfl) (by kernel_rfl) (by kernel_rfl) (by kernel_rfl) (fun _ => by kernel_rfl) (by kernel_rfl) (fun x => by kernel_rfl) (.nil)
noncomputable def laws_eqRowS.fs (n : Nat) : laws_eqRowS.d.Fs := (fun _ κe => laws_eqRowS.loop6 n (laws_eqRowS.o0.k (κe 0)) n, ())
theorem laws_eqRowS.r6 (n : Nat) : laws_eqRowS.d.Round (laws_eqRowS.fs n) (cx n laws_eqRowS.d.nt) (bodyOf Try.f106) 6 laws_eqRowS.p6 (fun κe => laws_eqRowS.step6 n (laws_eqRowS.o0.k (κe 0))) := fun κ κe x y => by kernel_rfl
theorem laws_eqRowS.ok (n : Nat) : CxOk E (cx n laws_eqRowS.d.nt) → KPar (cx n laws_eqRowS.d.nt) → laws_eqRowS.d.Ok E (laws_eqRowS.F (n + 1)) :=
  FD.ok (fs := laws_eqRowS.fs n) mixedOk Try.func106 (by kernel_rfl) (by kernel_rfl) (by kernel_rfl) (by kernel_rfl) (fun _ => by kernel_rfl) (by kernel_rfl) (fun x => by kernel_rfl) (.cons (FD.lp n (laws_eqRowS.r6 n) (by kernel_rfl) fun _ _ => by kernel_rfl) (.nil))
noncomputable def laws_eqRowSS.fs (n : Nat) : laws_eqRowSS.d.Fs := (fun _ κe => laws_eqRowSS.loop6 n (laws_eqRowSS.o0.k (κe 0)) n, ())
theorem laws_eqRowSS.r6 (n : Nat) : laws_eqRowSS.d.Round (laws_eqRowSS.fs n) (cx n laws_eqRowSS.d.nt) (bodyOf Try.f80) 6 laws_eqRowSS.p6 (fun κe => laws_eqRowSS.step6 n (laws_eqRowSS.o0.k (κe 0))) := fun κ κe x y => by kernel_rfl
theorem laws_eqRowSS.ok (n : Nat) : CxOk E (cx n laws_eqRowSS.d.nt) → KPar (cx n laws_eqRowSS.d.nt) → laws_eqRowSS.d.Ok E (laws_eqRowSS.F (n + 1)) :=
  FD.ok (fs := laws_eqRowSS.fs n) mixedOk Try.func80 (by kernel_rfl) (by kernel_rfl) (by kernel_rfl) (by kernel_rfl) (fun _ => by kernel_rfl) (by kernel_rfl) (fun x => by kernel_rfl) (.cons (FD.lp n (laws_eqRowSS.r6 n) (by kernel_rfl) fun _ _ => by kernel_rfl) (.nil))
noncomputable def laws_eqStore.fs (n : Nat) : laws_eqStore.d.Fs := ()
theorem laws_eqStore.ok (n : Nat) : CxOk E (cx n laws_eqStore.d.nt) → KPar (cx n laws_eqStore.d.nt) → laws_eqStore.d.Ok E (laws_eqStore.F (n + 1)) :=
  FD.ok (fs := laws_eqStore.fs n) mixedOk Try.func35 (by kernel_rfl) (by kernel_rfl) (by kernel_rfl) (by kernel_rfl) (fun _ => by kernel_rfl) (by kernel_rfl) (fun x => by kernel_rfl) (.nil)
noncomputable def laws_eqChange.fs (n : Nat) : laws_eqChange.d.Fs := ()
theorem laws_eqChange.ok (n : Nat) : CxOk E (cx n laws_eqChange.d.nt) → KPar (cx n laws_eqChange.d.nt) → laws_eqChange.d.Ok E (laws_eqChange.F (n + 1)) :=
  FD.ok (fs := laws_eqChange.fs n) mixedOk Try.func71 (by kernel_rfl) (by kernel_rfl) (by kernel_rfl) (by kernel_rfl) (fun _ => by kernel_rfl) (by kernel_rfl) (fun x => by kernel_rfl) (.nil)
noncomputable def laws_eqChangeS.fs (n : Nat) : laws_eqChangeS.d.Fs := (fun _ κe => laws_eqChangeS.loop6 n (laws_eqChangeS.o0.k (κe 0)) n, ())
theorem laws_eqChangeS.r6 (n : Nat) : laws_eqChangeS.d.Round (laws_eqChangeS.fs n) (cx n laws_eqChangeS.d.nt) (bodyOf Try.f25) 6 laws_eqChangeS.p6 (fun κe => laws_eqChangeS.step6 n (laws_eqChangeS.o0.k (κe 0))) := fun κ κe x y => by kernel_rfl
theorem laws_eqChangeS.ok (n : Nat) : CxOk E (cx n laws_eqChangeS.d.nt) → KPar (cx n laws_eqChangeS.d.nt) → laws_eqChangeS.d.Ok E (laws_eqChangeS.F (n + 1)) :=
  FD.ok (fs := laws_eqChangeS.fs n) mixedOk Try.func25 (by kernel_rfl) (by kernel_rfl) (by kernel_rfl) (by kernel_rfl) (fun _ => by kernel_rfl) (by kernel_rfl) (fun x => by kernel_rfl) (.cons (FD.lp n (laws_eqChangeS.r6 n) (by kernel_rfl) fun _ _ => by kernel_rfl) (.nil))
noncomputable def laws_eqChangeSS.fs (n : Nat) : laws_eqChangeSS.d.Fs := (fun _ κe => laws_eqChangeSS.loop6 n (laws_eqChangeSS.o0.k (κe 0)) n, ())
theorem laws_eqChangeSS.r6 (n : Nat) : laws_eqChangeSS.d.Round (laws_eqChangeSS.fs n) (cx n laws_eqChangeSS.d.nt) (bodyOf Try.f115) 6 laws_eqChangeSS.p6 (fun κe => laws_eqChangeSS.step6 n (laws_eqChangeSS.o0.k (κe 0))) := fun κ κe x y => by kernel_rfl
theorem laws_eqChangeSS.ok (n : Nat) : CxOk E (cx n laws_eqChangeSS.d.nt) → KPar (cx n laws_eqChangeSS.d.nt) → laws_eqChangeSS.d.Ok E (laws_eqChangeSS.F (n + 1)) :=
  FD.ok (fs := laws_eqChangeSS.fs n) mixedOk Try.func115 (by kernel_rfl) (by kernel_rfl) (by kernel_rfl) (by kernel_rfl) (fun _ => by kernel_rfl) (by kernel_rfl) (fun x => by kernel_rfl) (.cons (FD.lp n (laws_eqChangeSS.r6 n) (by kernel_rfl) fun _ _ => by kernel_rfl) (.nil))
noncomputable def laws_eqRecord.fs (n : Nat) : laws_eqRecord.d.Fs := ()
theorem laws_eqRecord.ok (n : Nat) : CxOk E (cx n laws_eqRecord.d.nt) → KPar (cx n laws_eqRecord.d.nt) → laws_eqRecord.d.Ok E (laws_eqRecord.F (n + 1)) :=
  FD.ok (fs := laws_eqRecord.fs n) mixedOk Try.func58 (by kernel_rfl) (by kernel_rfl) (by kernel_rfl) (by kernel_rfl) (fun _ => by kernel_rfl) (by kernel_rfl) (fun x => by kernel_rfl) (.nil)
noncomputable def laws_eqCond.fs (n : Nat) : laws_eqCond.d.Fs := ()
theorem laws_eqCond.ok (n : Nat) : CxOk E (cx n laws_eqCond.d.nt) → KPar (cx n laws_eqCond.d.nt) → laws_eqCond.d.Ok E (laws_eqCond.F (n + 1)) :=
  FD.ok (fs := laws_eqCond.fs n) mixedOk Try.func142 (by kernel_rfl) (by kernel_rfl) (by kernel_rfl) (by kernel_rfl) (fun _ => by kernel_rfl) (by kernel_rfl) (fun x => by kernel_rfl) (.nil)
noncomputable def laws_eqCondS.fs (n : Nat) : laws_eqCondS.d.Fs := (fun _ κe => laws_eqCondS.loop6 n (laws_eqCondS.o0.k (κe 0)) n, ())
theorem laws_eqCondS.r6 (n : Nat) : laws_eqCondS.d.Round (laws_eqCondS.fs n) (cx n laws_eqCondS.d.nt) (bodyOf Try.f81) 6 laws_eqCondS.p6 (fun κe => laws_eqCondS.step6 n (laws_eqCondS.o0.k (κe 0))) := fun κ κe x y => by kernel_rfl
theorem laws_eqCondS.ok (n : Nat) : CxOk E (cx n laws_eqCondS.d.nt) → KPar (cx n laws_eqCondS.d.nt) → laws_eqCondS.d.Ok E (laws_eqCondS.F (n + 1)) :=
  FD.ok (fs := laws_eqCondS.fs n) mixedOk Try.func81 (by kernel_rfl) (by kernel_rfl) (by kernel_rfl) (by kernel_rfl) (fun _ => by kernel_rfl) (by kernel_rfl) (fun x => by kernel_rfl) (.cons (FD.lp n (laws_eqCondS.r6 n) (by kernel_rfl) fun _ _ => by kernel_rfl) (.nil))
noncomputable def laws_eqQuery.fs (n : Nat) : laws_eqQuery.d.Fs := ()
theorem laws_eqQuery.ok (n : Nat) : CxOk E (cx n laws_eqQuery.d.nt) → KPar (cx n laws_eqQuery.d.nt) → laws_eqQuery.d.Ok E (laws_eqQuery.F (n + 1)) :=
  FD.ok (fs := laws_eqQuery.fs n) mixedOk Try.func36 (by kernel_rfl) (by kernel_rfl) (by kernel_rfl) (by kernel_rfl) (fun _ => by kernel_rfl) (by kernel_rfl) (fun x => by kernel_rfl) (.nil)
noncomputable def laws_eqKid.fs (n : Nat) : laws_eqKid.d.Fs := ()
theorem laws_eqKid.ok (n : Nat) : CxOk E (cx n laws_eqKid.d.nt) → KPar (cx n laws_eqKid.d.nt) → laws_eqKid.d.Ok E (laws_eqKid.F (n + 1)) :=
  FD.ok (fs := laws_eqKid.fs n) mixedOk Try.func154 (by kernel_rfl) (by kernel_rfl) (by kernel_rfl) (by kernel_rfl) (fun _ => by kernel_rfl) (by kernel_rfl) (fun x => by kernel_rfl) (.nil)
noncomputable def laws_eqKidS.fs (n : Nat) : laws_eqKidS.d.Fs := (fun _ κe => laws_eqKidS.loop6 n (laws_eqKidS.o0.k (κe 0)) n, ())
theorem laws_eqKidS.r6 (n : Nat) : laws_eqKidS.d.Round (laws_eqKidS.fs n) (cx n laws_eqKidS.d.nt) (bodyOf Try.f107) 6 laws_eqKidS.p6 (fun κe => laws_eqKidS.step6 n (laws_eqKidS.o0.k (κe 0))) := fun κ κe x y => by kernel_rfl
theorem laws_eqKidS.ok (n : Nat) : CxOk E (cx n laws_eqKidS.d.nt) → KPar (cx n laws_eqKidS.d.nt) → laws_eqKidS.d.Ok E (laws_eqKidS.F (n + 1)) :=
  FD.ok (fs := laws_eqKidS.fs n) mixedOk Try.func107 (by kernel_rfl) (by kernel_rfl) (by kernel_rfl) (by kernel_rfl) (fun _ => by kernel_rfl) (by kernel_rfl) (fun x => by kernel_rfl) (.cons (FD.lp n (laws_eqKidS.r6 n) (by kernel_rfl) fun _ _ => by kernel_rfl) (.nil))
noncomputable def laws_eqView.fs (n : Nat) : laws_eqView.d.Fs := ()
theorem laws_eqView.ok (n : Nat) : CxOk E (cx n laws_eqView.d.nt) → KPar (cx n laws_eqView.d.nt) → laws_eqView.d.Ok E (laws_eqView.F (n + 1)) :=
  FD.ok (fs := laws_eqView.fs n) mixedOk Try.func53 (by kernel_rfl) (by kernel_rfl) (by kernel_rfl) (by kernel_rfl) (fun _ => by kernel_rfl) (by kernel_rfl) (fun x => by kernel_rfl) (.nil)
noncomputable def laws_eqSess.fs (n : Nat) : laws_eqSess.d.Fs := ()
theorem laws_eqSess.ok (n : Nat) : CxOk E (cx n laws_eqSess.d.nt) → KPar (cx n laws_eqSess.d.nt) → laws_eqSess.d.Ok E (laws_eqSess.F (n + 1)) :=
  FD.ok (fs := laws_eqSess.fs n) mixedOk Try.func14 (by kernel_rfl) (by kernel_rfl) (by kernel_rfl) (by kernel_rfl) (fun _ => by kernel_rfl) (by kernel_rfl) (fun x => by kernel_rfl) (.nil)
noncomputable def laws_eqLine.fs (n : Nat) : laws_eqLine.d.Fs := ()
theorem laws_eqLine.ok (n : Nat) : CxOk E (cx n laws_eqLine.d.nt) → KPar (cx n laws_eqLine.d.nt) → laws_eqLine.d.Ok E (laws_eqLine.F (n + 1)) :=
  FD.ok (fs := laws_eqLine.fs n) mixedOk Try.func159 (by kernel_rfl) (by kernel_rfl) (by kernel_rfl) (by kernel_rfl) (fun _ => by kernel_rfl) (by kernel_rfl) (fun x => by kernel_rfl) (.nil)
noncomputable def laws_eqSeat.fs (n : Nat) : laws_eqSeat.d.Fs := ()
theorem laws_eqSeat.ok (n : Nat) : CxOk E (cx n laws_eqSeat.d.nt) → KPar (cx n laws_eqSeat.d.nt) → laws_eqSeat.d.Ok E (laws_eqSeat.F (n + 1)) :=
  FD.ok (fs := laws_eqSeat.fs n) mixedOk Try.func116 (by kernel_rfl) (by kernel_rfl) (by kernel_rfl) (by kernel_rfl) (fun _ => by kernel_rfl) (by kernel_rfl) (fun x => by kernel_rfl) (.nil)
noncomputable def laws_eqSeatS.fs (n : Nat) : laws_eqSeatS.d.Fs := (fun _ κe => laws_eqSeatS.loop6 n (laws_eqSeatS.o0.k (κe 0)) n, ())
theorem laws_eqSeatS.r6 (n : Nat) : laws_eqSeatS.d.Round (laws_eqSeatS.fs n) (cx n laws_eqSeatS.d.nt) (bodyOf Try.f59) 6 laws_eqSeatS.p6 (fun κe => laws_eqSeatS.step6 n (laws_eqSeatS.o0.k (κe 0))) := fun κ κe x y => by kernel_rfl
theorem laws_eqSeatS.ok (n : Nat) : CxOk E (cx n laws_eqSeatS.d.nt) → KPar (cx n laws_eqSeatS.d.nt) → laws_eqSeatS.d.Ok E (laws_eqSeatS.F (n + 1)) :=
  FD.ok (fs := laws_eqSeatS.fs n) mixedOk Try.func59 (by kernel_rfl) (by kernel_rfl) (by kernel_rfl) (by kernel_rfl) (fun _ => by kernel_rfl) (by kernel_rfl) (fun x => by kernel_rfl) (.cons (FD.lp n (laws_eqSeatS.r6 n) (by kernel_rfl) fun _ _ => by kernel_rfl) (.nil))
noncomputable def laws_eqServer.fs (n : Nat) : laws_eqServer.d.Fs := ()
theorem laws_eqServer.ok (n : Nat) : CxOk E (cx n laws_eqServer.d.nt) → KPar (cx n laws_eqServer.d.nt) → laws_eqServer.d.Ok E (laws_eqServer.F (n + 1)) :=
  FD.ok (fs := laws_eqServer.fs n) mixedOk Try.func17 (by kernel_rfl) (by kernel_rfl) (by kernel_rfl) (by kernel_rfl) (fun _ => by kernel_rfl) (by kernel_rfl) (fun x => by kernel_rfl) (.nil)
noncomputable def laws_markIntS.fs (n : Nat) : laws_markIntS.d.Fs := (fun _ κe => laws_markIntS.loop3 n (laws_markIntS.o0.k (κe 0)) n, ())
theorem laws_markIntS.r3 (n : Nat) : laws_markIntS.d.Round (laws_markIntS.fs n) (cx n laws_markIntS.d.nt) (bodyOf Try.f60) 3 laws_markIntS.p3 (fun κe => laws_markIntS.step3 n (laws_markIntS.o0.k (κe 0))) := fun κ κe x y => by kernel_rfl
theorem laws_markIntS.ok (n : Nat) : CxOk E (cx n laws_markIntS.d.nt) → KPar (cx n laws_markIntS.d.nt) → laws_markIntS.d.Ok E (laws_markIntS.F (n + 1)) :=
  FD.ok (fs := laws_markIntS.fs n) mixedOk Try.func60 (by kernel_rfl) (by kernel_rfl) (by kernel_rfl) (by kernel_rfl) (fun _ => by kernel_rfl) (by kernel_rfl) (fun x => by kernel_rfl) (.cons (FD.lp n (laws_markIntS.r3 n) (by kernel_rfl) fun _ _ => by kernel_rfl) (.nil))
noncomputable def laws_markSchema.fs (n : Nat) : laws_markSchema.d.Fs := ()
theorem laws_markSchema.ok (n : Nat) : CxOk E (cx n laws_markSchema.d.nt) → KPar (cx n laws_markSchema.d.nt) → laws_markSchema.d.Ok E (laws_markSchema.F (n + 1)) :=
  FD.ok (fs := laws_markSchema.fs n) mixedOk Try.func18 (by kernel_rfl) (by kernel_rfl) (by kernel_rfl) (by kernel_rfl) (fun _ => by kernel_rfl) (by kernel_rfl) (fun x => by kernel_rfl) (.nil)
noncomputable def laws_markRowS.fs (n : Nat) : laws_markRowS.d.Fs := (fun _ κe => laws_markRowS.loop3 n (laws_markRowS.o0.k (κe 0)) n, ())
theorem laws_markRowS.r3 (n : Nat) : laws_markRowS.d.Round (laws_markRowS.fs n) (cx n laws_markRowS.d.nt) (bodyOf Try.f118) 3 laws_markRowS.p3 (fun κe => laws_markRowS.step3 n (laws_markRowS.o0.k (κe 0))) := fun κ κe x y => by kernel_rfl
theorem laws_markRowS.ok (n : Nat) : CxOk E (cx n laws_markRowS.d.nt) → KPar (cx n laws_markRowS.d.nt) → laws_markRowS.d.Ok E (laws_markRowS.F (n + 1)) :=
  FD.ok (fs := laws_markRowS.fs n) mixedOk Try.func118 (by kernel_rfl) (by kernel_rfl) (by kernel_rfl) (by kernel_rfl) (fun _ => by kernel_rfl) (by kernel_rfl) (fun x => by kernel_rfl) (.cons (FD.lp n (laws_markRowS.r3 n) (by kernel_rfl) fun _ _ => by kernel_rfl) (.nil))
noncomputable def laws_markRowSS.fs (n : Nat) : laws_markRowSS.d.Fs := (fun _ κe => laws_markRowSS.loop3 n (laws_markRowSS.o0.k (κe 0)) n, ())
theorem laws_markRowSS.r3 (n : Nat) : laws_markRowSS.d.Round (laws_markRowSS.fs n) (cx n laws_markRowSS.d.nt) (bodyOf Try.f82) 3 laws_markRowSS.p3 (fun κe => laws_markRowSS.step3 n (laws_markRowSS.o0.k (κe 0))) := fun κ κe x y => by kernel_rfl
theorem laws_markRowSS.ok (n : Nat) : CxOk E (cx n laws_markRowSS.d.nt) → KPar (cx n laws_markRowSS.d.nt) → laws_markRowSS.d.Ok E (laws_markRowSS.F (n + 1)) :=
  FD.ok (fs := laws_markRowSS.fs n) mixedOk Try.func82 (by kernel_rfl) (by kernel_rfl) (by kernel_rfl) (by kernel_rfl) (fun _ => by kernel_rfl) (by kernel_rfl) (fun x => by kernel_rfl) (.cons (FD.lp n (laws_markRowSS.r3 n) (by kernel_rfl) fun _ _ => by kernel_rfl) (.nil))
noncomputable def laws_markStore.fs (n : Nat) : laws_markStore.d.Fs := ()
theorem laws_markStore.ok (n : Nat) : CxOk E (cx n laws_markStore.d.nt) → KPar (cx n laws_markStore.d.nt) → laws_markStore.d.Ok E (laws_markStore.F (n + 1)) :=
  FD.ok (fs := laws_markStore.fs n) mixedOk Try.func37 (by kernel_rfl) (by kernel_rfl) (by kernel_rfl) (by kernel_rfl) (fun _ => by kernel_rfl) (by kernel_rfl) (fun x => by kernel_rfl) (.nil)
noncomputable def laws_markChangeS.fs (n : Nat) : laws_markChangeS.d.Fs := (fun _ κe => laws_markChangeS.loop3 n (laws_markChangeS.o0.k (κe 0)) n, ())
theorem laws_markChangeS.r3 (n : Nat) : laws_markChangeS.d.Round (laws_markChangeS.fs n) (cx n laws_markChangeS.d.nt) (bodyOf Try.f27) 3 laws_markChangeS.p3 (fun κe => laws_markChangeS.step3 n (laws_markChangeS.o0.k (κe 0))) := fun κ κe x y => by kernel_rfl
theorem laws_markChangeS.ok (n : Nat) : CxOk E (cx n laws_markChangeS.d.nt) → KPar (cx n laws_markChangeS.d.nt) → laws_markChangeS.d.Ok E (laws_markChangeS.F (n + 1)) :=
  FD.ok (fs := laws_markChangeS.fs n) mixedOk Try.func27 (by kernel_rfl) (by kernel_rfl) (by kernel_rfl) (by kernel_rfl) (fun _ => by kernel_rfl) (by kernel_rfl) (fun x => by kernel_rfl) (.cons (FD.lp n (laws_markChangeS.r3 n) (by kernel_rfl) fun _ _ => by kernel_rfl) (.nil))
noncomputable def laws_markChangeSS.fs (n : Nat) : laws_markChangeSS.d.Fs := (fun _ κe => laws_markChangeSS.loop3 n (laws_markChangeSS.o0.k (κe 0)) n, ())
theorem laws_markChangeSS.r3 (n : Nat) : laws_markChangeSS.d.Round (laws_markChangeSS.fs n) (cx n laws_markChangeSS.d.nt) (bodyOf Try.f117) 3 laws_markChangeSS.p3 (fun κe => laws_markChangeSS.step3 n (laws_markChangeSS.o0.k (κe 0))) := fun κ κe x y => by kernel_rfl
theorem laws_markChangeSS.ok (n : Nat) : CxOk E (cx n laws_markChangeSS.d.nt) → KPar (cx n laws_markChangeSS.d.nt) → laws_markChangeSS.d.Ok E (laws_markChangeSS.F (n + 1)) :=
  FD.ok (fs := laws_markChangeSS.fs n) mixedOk Try.func117 (by kernel_rfl) (by kernel_rfl) (by kernel_rfl) (by kernel_rfl) (fun _ => by kernel_rfl) (by kernel_rfl) (fun x => by kernel_rfl) (.cons (FD.lp n (laws_markChangeSS.r3 n) (by kernel_rfl) fun _ _ => by kernel_rfl) (.nil))
noncomputable def laws_markRecord.fs (n : Nat) : laws_markRecord.d.Fs := ()
theorem laws_markRecord.ok (n : Nat) : CxOk E (cx n laws_markRecord.d.nt) → KPar (cx n laws_markRecord.d.nt) → laws_markRecord.d.Ok E (laws_markRecord.F (n + 1)) :=
  FD.ok (fs := laws_markRecord.fs n) mixedOk Try.func61 (by kernel_rfl) (by kernel_rfl) (by kernel_rfl) (by kernel_rfl) (fun _ => by kernel_rfl) (by kernel_rfl) (fun x => by kernel_rfl) (.nil)
noncomputable def laws_markCondS.fs (n : Nat) : laws_markCondS.d.Fs := (fun _ κe => laws_markCondS.loop3 n (laws_markCondS.o0.k (κe 0)) n, ())
theorem laws_markCondS.r3 (n : Nat) : laws_markCondS.d.Round (laws_markCondS.fs n) (cx n laws_markCondS.d.nt) (bodyOf Try.f83) 3 laws_markCondS.p3 (fun κe => laws_markCondS.step3 n (laws_markCondS.o0.k (κe 0))) := fun κ κe x y => by kernel_rfl
theorem laws_markCondS.ok (n : Nat) : CxOk E (cx n laws_markCondS.d.nt) → KPar (cx n laws_markCondS.d.nt) → laws_markCondS.d.Ok E (laws_markCondS.F (n + 1)) :=
  FD.ok (fs := laws_markCondS.fs n) mixedOk Try.func83 (by kernel_rfl) (by kernel_rfl) (by kernel_rfl) (by kernel_rfl) (fun _ => by kernel_rfl) (by kernel_rfl) (fun x => by kernel_rfl) (.cons (FD.lp n (laws_markCondS.r3 n) (by kernel_rfl) fun _ _ => by kernel_rfl) (.nil))
noncomputable def laws_markKidS.fs (n : Nat) : laws_markKidS.d.Fs := (fun _ κe => laws_markKidS.loop3 n (laws_markKidS.o0.k (κe 0)) n, ())
theorem laws_markKidS.r3 (n : Nat) : laws_markKidS.d.Round (laws_markKidS.fs n) (cx n laws_markKidS.d.nt) (bodyOf Try.f119) 3 laws_markKidS.p3 (fun κe => laws_markKidS.step3 n (laws_markKidS.o0.k (κe 0))) := fun κ κe x y => by kernel_rfl
theorem laws_markKidS.ok (n : Nat) : CxOk E (cx n laws_markKidS.d.nt) → KPar (cx n laws_markKidS.d.nt) → laws_markKidS.d.Ok E (laws_markKidS.F (n + 1)) :=
  FD.ok (fs := laws_markKidS.fs n) mixedOk Try.func119 (by kernel_rfl) (by kernel_rfl) (by kernel_rfl) (by kernel_rfl) (fun _ => by kernel_rfl) (by kernel_rfl) (fun x => by kernel_rfl) (.cons (FD.lp n (laws_markKidS.r3 n) (by kernel_rfl) fun _ _ => by kernel_rfl) (.nil))
noncomputable def laws_markText.fs (n : Nat) : laws_markText.d.Fs := (fun _ κe => laws_markText.loop6 n (laws_markText.o0.k (κe 0)) n, ())
theorem laws_markText.r6 (n : Nat) : laws_markText.d.Round (laws_markText.fs n) (cx n laws_markText.d.nt) (bodyOf Try.f120) 6 laws_markText.p6 (fun κe => laws_markText.step6 n (laws_markText.o0.k (κe 0))) := fun κ κe x y => by kernel_rfl
theorem laws_markText.ok (n : Nat) : CxOk E (cx n laws_markText.d.nt) → KPar (cx n laws_markText.d.nt) → laws_markText.d.Ok E (laws_markText.F (n + 1)) :=
  FD.ok (fs := laws_markText.fs n) mixedOk Try.func120 (by kernel_rfl) (by kernel_rfl) (by kernel_rfl) (by kernel_rfl) (fun _ => by kernel_rfl) (by kernel_rfl) (fun x => by kernel_rfl) (.cons (FD.lp n (laws_markText.r6 n) (by kernel_rfl) fun _ _ => by kernel_rfl) (.nil))
noncomputable def laws_markSeatS.fs (n : Nat) : laws_markSeatS.d.Fs := (fun _ κe => laws_markSeatS.loop3 n (laws_markSeatS.o0.k (κe 0)) n, ())
theorem laws_markSeatS.r3 (n : Nat) : laws_markSeatS.d.Round (laws_markSeatS.fs n) (cx n laws_markSeatS.d.nt) (bodyOf Try.f62) 3 laws_markSeatS.p3 (fun κe => laws_markSeatS.step3 n (laws_markSeatS.o0.k (κe 0))) := fun κ κe x y => by kernel_rfl
theorem laws_markSeatS.ok (n : Nat) : CxOk E (cx n laws_markSeatS.d.nt) → KPar (cx n laws_markSeatS.d.nt) → laws_markSeatS.d.Ok E (laws_markSeatS.F (n + 1)) :=
  FD.ok (fs := laws_markSeatS.fs n) mixedOk Try.func62 (by kernel_rfl) (by kernel_rfl) (by kernel_rfl) (by kernel_rfl) (fun _ => by kernel_rfl) (by kernel_rfl) (fun x => by kernel_rfl) (.cons (FD.lp n (laws_markSeatS.r3 n) (by kernel_rfl) fun _ _ => by kernel_rfl) (.nil))
noncomputable def laws_markServer.fs (n : Nat) : laws_markServer.d.Fs := ()
theorem laws_markServer.ok (n : Nat) : CxOk E (cx n laws_markServer.d.nt) → KPar (cx n laws_markServer.d.nt) → laws_markServer.d.Ok E (laws_markServer.F (n + 1)) :=
  FD.ok (fs := laws_markServer.fs n) mixedOk Try.func19 (by kernel_rfl) (by kernel_rfl) (by kernel_rfl) (by kernel_rfl) (fun _ => by kernel_rfl) (by kernel_rfl) (fun x => by kernel_rfl) (.nil)
noncomputable def laws_heldIntS.fs (n : Nat) : laws_heldIntS.d.Fs := (fun _ κe => laws_heldIntS.loop3 n (laws_heldIntS.o0.k (κe 0)) n, ())
theorem laws_heldIntS.r3 (n : Nat) : laws_heldIntS.d.Round (laws_heldIntS.fs n) (cx n laws_heldIntS.d.nt) (bodyOf Try.f124) 3 laws_heldIntS.p3 (fun κe => laws_heldIntS.step3 n (laws_heldIntS.o0.k (κe 0))) := fun κ κe x y => by kernel_rfl
theorem laws_heldIntS.ok (n : Nat) : CxOk E (cx n laws_heldIntS.d.nt) → KPar (cx n laws_heldIntS.d.nt) → laws_heldIntS.d.Ok E (laws_heldIntS.F (n + 1)) :=
  FD.ok (fs := laws_heldIntS.fs n) mixedOk Try.func124 (by kernel_rfl) (by kernel_rfl) (by kernel_rfl) (by kernel_rfl) (fun _ => by kernel_rfl) (by kernel_rfl) (fun x => by kernel_rfl) (.cons (FD.lp n (laws_heldIntS.r3 n) (by kernel_rfl) fun _ _ => by kernel_rfl) (.nil))
noncomputable def laws_heldSchema.fs (n : Nat) : laws_heldSchema.d.Fs := ()
theorem laws_heldSchema.ok (n : Nat) : CxOk E (cx n laws_heldSchema.d.nt) → KPar (cx n laws_heldSchema.d.nt) → laws_heldSchema.d.Ok E (laws_heldSchema.F (n + 1)) :=
  FD.ok (fs := laws_heldSchema.fs n) mixedOk Try.func160 (by kernel_rfl) (by kernel_rfl) (by kernel_rfl) (by kernel_rfl) (fun _ => by kernel_rfl) (by kernel_rfl) (fun x => by kernel_rfl) (.nil)
noncomputable def laws_heldRowS.fs (n : Nat) : laws_heldRowS.d.Fs := (fun _ κe => laws_heldRowS.loop3 n (laws_heldRowS.o0.k (κe 0)) n, ())
theorem laws_heldRowS.r3 (n : Nat) : laws_heldRowS.d.Round (laws_heldRowS.fs n) (cx n laws_heldRowS.d.nt) (bodyOf Try.f125) 3 laws_heldRowS.p3 (fun κe => laws_heldRowS.step3 n (laws_heldRowS.o0.k (κe 0))) := fun κ κe x y => by kernel_rfl
theorem laws_heldRowS.ok (n : Nat) : CxOk E (cx n laws_heldRowS.d.nt) → KPar (cx n laws_heldRowS.d.nt) → laws_heldRowS.d.Ok E (laws_heldRowS.F (n + 1)) :=
  FD.ok (fs := laws_heldRowS.fs n) mixedOk Try.func125 (by kernel_rfl) (by kernel_rfl) (by kernel_rfl) (by kernel_rfl) (fun _ => by kernel_rfl) (by kernel_rfl) (fun x => by kernel_rfl) (.cons (FD.lp n (laws_heldRowS.r3 n) (by kernel_rfl) fun _ _ => by kernel_rfl) (.nil))
noncomputable def laws_heldRowSS.fs (n : Nat) : laws_heldRowSS.d.Fs := (fun _ κe => laws_heldRowSS.loop3 n (laws_heldRowSS.o0.k (κe 0)) n, ())
theorem laws_heldRowSS.r3 (n : Nat) : laws_heldRowSS.d.Round (laws_heldRowSS.fs n) (cx n laws_heldRowSS.d.nt) (bodyOf Try.f161) 3 laws_heldRowSS.p3 (fun κe => laws_heldRowSS.step3 n (laws_heldRowSS.o0.k (κe 0))) := fun κ κe x y => by kernel_rfl
theorem laws_heldRowSS.ok (n : Nat) : CxOk E (cx n laws_heldRowSS.d.nt) → KPar (cx n laws_heldRowSS.d.nt) → laws_heldRowSS.d.Ok E (laws_heldRowSS.F (n + 1)) :=
  FD.ok (fs := laws_heldRowSS.fs n) mixedOk Try.func161 (by kernel_rfl) (by kernel_rfl) (by kernel_rfl) (by kernel_rfl) (fun _ => by kernel_rfl) (by kernel_rfl) (fun x => by kernel_rfl) (.cons (FD.lp n (laws_heldRowSS.r3 n) (by kernel_rfl) fun _ _ => by kernel_rfl) (.nil))
noncomputable def laws_heldStore.fs (n : Nat) : laws_heldStore.d.Fs := ()
theorem laws_heldStore.ok (n : Nat) : CxOk E (cx n laws_heldStore.d.nt) → KPar (cx n laws_heldStore.d.nt) → laws_heldStore.d.Ok E (laws_heldStore.F (n + 1)) :=
  FD.ok (fs := laws_heldStore.fs n) mixedOk Try.func121 (by kernel_rfl) (by kernel_rfl) (by kernel_rfl) (by kernel_rfl) (fun _ => by kernel_rfl) (by kernel_rfl) (fun x => by kernel_rfl) (.nil)
noncomputable def laws_heldChangeS.fs (n : Nat) : laws_heldChangeS.d.Fs := (fun _ κe => laws_heldChangeS.loop3 n (laws_heldChangeS.o0.k (κe 0)) n, ())
theorem laws_heldChangeS.r3 (n : Nat) : laws_heldChangeS.d.Round (laws_heldChangeS.fs n) (cx n laws_heldChangeS.d.nt) (bodyOf Try.f162) 3 laws_heldChangeS.p3 (fun κe => laws_heldChangeS.step3 n (laws_heldChangeS.o0.k (κe 0))) := fun κ κe x y => by kernel_rfl
theorem laws_heldChangeS.ok (n : Nat) : CxOk E (cx n laws_heldChangeS.d.nt) → KPar (cx n laws_heldChangeS.d.nt) → laws_heldChangeS.d.Ok E (laws_heldChangeS.F (n + 1)) :=
  FD.ok (fs := laws_heldChangeS.fs n) mixedOk Try.func162 (by kernel_rfl) (by kernel_rfl) (by kernel_rfl) (by kernel_rfl) (fun _ => by kernel_rfl) (by kernel_rfl) (fun x => by kernel_rfl) (.cons (FD.lp n (laws_heldChangeS.r3 n) (by kernel_rfl) fun _ _ => by kernel_rfl) (.nil))
noncomputable def laws_heldChangeSS.fs (n : Nat) : laws_heldChangeSS.d.Fs := (fun _ κe => laws_heldChangeSS.loop3 n (laws_heldChangeSS.o0.k (κe 0)) n, ())
theorem laws_heldChangeSS.r3 (n : Nat) : laws_heldChangeSS.d.Round (laws_heldChangeSS.fs n) (cx n laws_heldChangeSS.d.nt) (bodyOf Try.f122) 3 laws_heldChangeSS.p3 (fun κe => laws_heldChangeSS.step3 n (laws_heldChangeSS.o0.k (κe 0))) := fun κ κe x y => by kernel_rfl
theorem laws_heldChangeSS.ok (n : Nat) : CxOk E (cx n laws_heldChangeSS.d.nt) → KPar (cx n laws_heldChangeSS.d.nt) → laws_heldChangeSS.d.Ok E (laws_heldChangeSS.F (n + 1)) :=
  FD.ok (fs := laws_heldChangeSS.fs n) mixedOk Try.func122 (by kernel_rfl) (by kernel_rfl) (by kernel_rfl) (by kernel_rfl) (fun _ => by kernel_rfl) (by kernel_rfl) (fun x => by kernel_rfl) (.cons (FD.lp n (laws_heldChangeSS.r3 n) (by kernel_rfl) fun _ _ => by kernel_rfl) (.nil))
noncomputable def laws_heldRecord.fs (n : Nat) : laws_heldRecord.d.Fs := ()
theorem laws_heldRecord.ok (n : Nat) : CxOk E (cx n laws_heldRecord.d.nt) → KPar (cx n laws_heldRecord.d.nt) → laws_heldRecord.d.Ok E (laws_heldRecord.F (n + 1)) :=
  FD.ok (fs := laws_heldRecord.fs n) mixedOk Try.func63 (by kernel_rfl) (by kernel_rfl) (by kernel_rfl) (by kernel_rfl) (fun _ => by kernel_rfl) (by kernel_rfl) (fun x => by kernel_rfl) (.nil)
noncomputable def laws_heldCondS.fs (n : Nat) : laws_heldCondS.d.Fs := (fun _ κe => laws_heldCondS.loop3 n (laws_heldCondS.o0.k (κe 0)) n, ())
theorem laws_heldCondS.r3 (n : Nat) : laws_heldCondS.d.Round (laws_heldCondS.fs n) (cx n laws_heldCondS.d.nt) (bodyOf Try.f123) 3 laws_heldCondS.p3 (fun κe => laws_heldCondS.step3 n (laws_heldCondS.o0.k (κe 0))) := fun κ κe x y => by kernel_rfl
theorem laws_heldCondS.ok (n : Nat) : CxOk E (cx n laws_heldCondS.d.nt) → KPar (cx n laws_heldCondS.d.nt) → laws_heldCondS.d.Ok E (laws_heldCondS.F (n + 1)) :=
  FD.ok (fs := laws_heldCondS.fs n) mixedOk Try.func123 (by kernel_rfl) (by kernel_rfl) (by kernel_rfl) (by kernel_rfl) (fun _ => by kernel_rfl) (by kernel_rfl) (fun x => by kernel_rfl) (.cons (FD.lp n (laws_heldCondS.r3 n) (by kernel_rfl) fun _ _ => by kernel_rfl) (.nil))
noncomputable def laws_heldKidS.fs (n : Nat) : laws_heldKidS.d.Fs := (fun _ κe => laws_heldKidS.loop3 n (laws_heldKidS.o0.k (κe 0)) n, ())
theorem laws_heldKidS.r3 (n : Nat) : laws_heldKidS.d.Round (laws_heldKidS.fs n) (cx n laws_heldKidS.d.nt) (bodyOf Try.f126) 3 laws_heldKidS.p3 (fun κe => laws_heldKidS.step3 n (laws_heldKidS.o0.k (κe 0))) := fun κ κe x y => by kernel_rfl
theorem laws_heldKidS.ok (n : Nat) : CxOk E (cx n laws_heldKidS.d.nt) → KPar (cx n laws_heldKidS.d.nt) → laws_heldKidS.d.Ok E (laws_heldKidS.F (n + 1)) :=
  FD.ok (fs := laws_heldKidS.fs n) mixedOk Try.func126 (by kernel_rfl) (by kernel_rfl) (by kernel_rfl) (by kernel_rfl) (fun _ => by kernel_rfl) (by kernel_rfl) (fun x => by kernel_rfl) (.cons (FD.lp n (laws_heldKidS.r3 n) (by kernel_rfl) fun _ _ => by kernel_rfl) (.nil))
noncomputable def laws_heldSeatS.fs (n : Nat) : laws_heldSeatS.d.Fs := (fun _ κe => laws_heldSeatS.loop3 n (laws_heldSeatS.o0.k (κe 0)) n, ())
theorem laws_heldSeatS.r3 (n : Nat) : laws_heldSeatS.d.Round (laws_heldSeatS.fs n) (cx n laws_heldSeatS.d.nt) (bodyOf Try.f64) 3 laws_heldSeatS.p3 (fun κe => laws_heldSeatS.step3 n (laws_heldSeatS.o0.k (κe 0))) := fun κ κe x y => by kernel_rfl
theorem laws_heldSeatS.ok (n : Nat) : CxOk E (cx n laws_heldSeatS.d.nt) → KPar (cx n laws_heldSeatS.d.nt) → laws_heldSeatS.d.Ok E (laws_heldSeatS.F (n + 1)) :=
  FD.ok (fs := laws_heldSeatS.fs n) mixedOk Try.func64 (by kernel_rfl) (by kernel_rfl) (by kernel_rfl) (by kernel_rfl) (fun _ => by kernel_rfl) (by kernel_rfl) (fun x => by kernel_rfl) (.cons (FD.lp n (laws_heldSeatS.r3 n) (by kernel_rfl) fun _ _ => by kernel_rfl) (.nil))
noncomputable def laws_heldServer.fs (n : Nat) : laws_heldServer.d.Fs := ()
theorem laws_heldServer.ok (n : Nat) : CxOk E (cx n laws_heldServer.d.nt) → KPar (cx n laws_heldServer.d.nt) → laws_heldServer.d.Ok E (laws_heldServer.F (n + 1)) :=
  FD.ok (fs := laws_heldServer.fs n) mixedOk Try.func20 (by kernel_rfl) (by kernel_rfl) (by kernel_rfl) (by kernel_rfl) (fun _ => by kernel_rfl) (by kernel_rfl) (fun x => by kernel_rfl) (.nil)
noncomputable def laws_FnExactServerNew.fs (n : Nat) : laws_FnExactServerNew.d.Fs := ()
theorem laws_FnExactServerNew.ok (n : Nat) : CxOk E (cx n laws_FnExactServerNew.d.nt) → KPar (cx n laws_FnExactServerNew.d.nt) → laws_FnExactServerNew.d.Ok E (laws_FnExactServerNew.F (n + 1)) :=
  FD.ok (fs := laws_FnExactServerNew.fs n) mixedOk Try.func4 (by kernel_rfl) (by kernel_rfl) (by kernel_rfl) (by kernel_rfl) (fun _ => by kernel_rfl) (by kernel_rfl) (fun x => by kernel_rfl) (.nil)
end Go.Pi
end
section
set_option linter.unusedVariables false
set_option maxRecDepth 100000
namespace Go.Pi
open Go.Proofs
theorem kpar (n nt : Nat) : KPar (cx n nt) := KH_par (l := KL n) ⟨FD.kp, FD.kp, FD.kp, FD.kp, FD.kp, FD.kp, FD.kp, FD.kp, FD.kp, FD.kp, FD.kp, FD.kp, FD.kp, FD.kp, FD.kp, FD.kp, FD.kp, FD.kp, FD.kp, FD.kp, FD.kp, FD.kp, FD.kp, FD.kp, FD.kp, FD.kp, FD.kp, FD.kp, FD.kp, FD.kp, FD.kp, FD.kp, FD.kp, FD.kp, FD.kp, FD.kp, FD.kp, FD.kp, FD.kp, FD.kp, FD.kp, FD.kp, FD.kp, FD.kp, FD.kp, FD.kp, FD.kp, FD.kp, FD.kp, FD.kp, FD.kp, FD.kp, FD.kp, FD.kp, FD.kp, FD.kp, FD.kp, FD.kp, FD.kp, FD.kp, FD.kp, FD.kp, FD.kp, FD.kp, FD.kp, FD.kp, FD.kp, FD.kp, FD.kp, FD.kp, FD.kp, FD.kp, FD.kp, FD.kp, FD.kp, FD.kp, FD.kp, FD.kp, FD.kp, trivial⟩
structure AllOk (n : Nat) : Prop where
  h0 : laws_szIntS.d.Ok E (laws_szIntS.F n)
  h1 : laws_szSchema.d.Ok E (laws_szSchema.F n)
  h2 : laws_toIntS.d.Ok E (laws_toIntS.F n)
  h3 : laws_toSchema.d.Ok E (laws_toSchema.F n)
  h4 : spec_l1In.d.Ok E (spec_l1In.F n)
  h5 : spec_SchemaOk.d.Ok E (spec_SchemaOk.F n)
  h6 : spec_l7Schema.d.Ok E (spec_l7Schema.F n)
  h7 : spec_StoreNew.d.Ok E (spec_StoreNew.F n)
  h8 : spec_RowOk.d.Ok E (spec_RowOk.F n)
  h9 : spec_RowsOk.d.Ok E (spec_RowsOk.F n)
  h10 : spec_StoreOk.d.Ok E (spec_StoreOk.F n)
  h11 : spec_l6Copy.d.Ok E (spec_l6Copy.F n)
  h12 : spec_l6Rows.d.Ok E (spec_l6Rows.F n)
  h13 : spec_l7Copy.d.Ok E (spec_l7Copy.F n)
  h14 : spec_RecordNew.d.Ok E (spec_RecordNew.F n)
  h15 : spec_ServerNew.d.Ok E (spec_ServerNew.F n)
  h16 : impl_copyInts.d.Ok E (impl_copyInts.F n)
  h17 : impl_within.d.Ok E (impl_within.F n)
  h18 : impl_SchemaOk.d.Ok E (impl_SchemaOk.F n)
  h19 : impl_isVersion.d.Ok E (impl_isVersion.F n)
  h20 : impl_isNum.d.Ok E (impl_isNum.F n)
  h21 : impl_hasTable.d.Ok E (impl_hasTable.F n)
  h22 : impl_RowOk.d.Ok E (impl_RowOk.F n)
  h23 : impl_RowsOk.d.Ok E (impl_RowsOk.F n)
  h24 : impl_StoreOk.d.Ok E (impl_StoreOk.F n)
  h25 : impl_StoreNew.d.Ok E (impl_StoreNew.F n)
  h26 : impl_copyRow.d.Ok E (impl_copyRow.F n)
  h27 : impl_copyRows.d.Ok E (impl_copyRows.F n)
  h28 : impl_copyStore.d.Ok E (impl_copyStore.F n)
  h29 : impl_asWas.d.Ok E (impl_asWas.F n)
  h30 : impl_RecordNew.d.Ok E (impl_RecordNew.F n)
  h31 : impl_ServerNew.d.Ok E (impl_ServerNew.F n)
  h32 : laws_eqIntS.d.Ok E (laws_eqIntS.F n)
  h33 : laws_eqSchema.d.Ok E (laws_eqSchema.F n)
  h34 : laws_eqRow.d.Ok E (laws_eqRow.F n)
  h35 : laws_eqRowS.d.Ok E (laws_eqRowS.F n)
  h36 : laws_eqRowSS.d.Ok E (laws_eqRowSS.F n)
  h37 : laws_eqStore.d.Ok E (laws_eqStore.F n)
  h38 : laws_eqChange.d.Ok E (laws_eqChange.F n)
  h39 : laws_eqChangeS.d.Ok E (laws_eqChangeS.F n)
  h40 : laws_eqChangeSS.d.Ok E (laws_eqChangeSS.F n)
  h41 : laws_eqRecord.d.Ok E (laws_eqRecord.F n)
  h42 : laws_eqCond.d.Ok E (laws_eqCond.F n)
  h43 : laws_eqCondS.d.Ok E (laws_eqCondS.F n)
  h44 : laws_eqQuery.d.Ok E (laws_eqQuery.F n)
  h45 : laws_eqKid.d.Ok E (laws_eqKid.F n)
  h46 : laws_eqKidS.d.Ok E (laws_eqKidS.F n)
  h47 : laws_eqView.d.Ok E (laws_eqView.F n)
  h48 : laws_eqSess.d.Ok E (laws_eqSess.F n)
  h49 : laws_eqLine.d.Ok E (laws_eqLine.F n)
  h50 : laws_eqSeat.d.Ok E (laws_eqSeat.F n)
  h51 : laws_eqSeatS.d.Ok E (laws_eqSeatS.F n)
  h52 : laws_eqServer.d.Ok E (laws_eqServer.F n)
  h53 : laws_markIntS.d.Ok E (laws_markIntS.F n)
  h54 : laws_markSchema.d.Ok E (laws_markSchema.F n)
  h55 : laws_markRowS.d.Ok E (laws_markRowS.F n)
  h56 : laws_markRowSS.d.Ok E (laws_markRowSS.F n)
  h57 : laws_markStore.d.Ok E (laws_markStore.F n)
  h58 : laws_markChangeS.d.Ok E (laws_markChangeS.F n)
  h59 : laws_markChangeSS.d.Ok E (laws_markChangeSS.F n)
  h60 : laws_markRecord.d.Ok E (laws_markRecord.F n)
  h61 : laws_markCondS.d.Ok E (laws_markCondS.F n)
  h62 : laws_markKidS.d.Ok E (laws_markKidS.F n)
  h63 : laws_markText.d.Ok E (laws_markText.F n)
  h64 : laws_markSeatS.d.Ok E (laws_markSeatS.F n)
  h65 : laws_markServer.d.Ok E (laws_markServer.F n)
  h66 : laws_heldIntS.d.Ok E (laws_heldIntS.F n)
  h67 : laws_heldSchema.d.Ok E (laws_heldSchema.F n)
  h68 : laws_heldRowS.d.Ok E (laws_heldRowS.F n)
  h69 : laws_heldRowSS.d.Ok E (laws_heldRowSS.F n)
  h70 : laws_heldStore.d.Ok E (laws_heldStore.F n)
  h71 : laws_heldChangeS.d.Ok E (laws_heldChangeS.F n)
  h72 : laws_heldChangeSS.d.Ok E (laws_heldChangeSS.F n)
  h73 : laws_heldRecord.d.Ok E (laws_heldRecord.F n)
  h74 : laws_heldCondS.d.Ok E (laws_heldCondS.F n)
  h75 : laws_heldKidS.d.Ok E (laws_heldKidS.F n)
  h76 : laws_heldSeatS.d.Ok E (laws_heldSeatS.F n)
  h77 : laws_heldServer.d.Ok E (laws_heldServer.F n)
  h78 : laws_FnExactServerNew.d.Ok E (laws_FnExactServerNew.F n)
theorem kok (n nt : Nat) (a : AllOk n) : KOk E (cx n nt) := KH_ok (l := KL n) ⟨FD.kf (d := laws_FnExactServerNew.d) Try.func4 (by kernel_rfl) (by kernel_rfl) (by kernel_rfl) a.h78, FD.kf (d := laws_szSchema.d) Try.func7 (by kernel_rfl) (by kernel_rfl) (by kernel_rfl) a.h1, FD.kf (d := laws_toSchema.d) Try.func10 (by kernel_rfl) (by kernel_rfl) (by kernel_rfl) a.h3, FD.kf (d := laws_eqSchema.d) Try.func13 (by kernel_rfl) (by kernel_rfl) (by kernel_rfl) a.h33, FD.kf (d := laws_eqSess.d) Try.func14 (by kernel_rfl) (by kernel_rfl) (by kernel_rfl) a.h48, FD.kf (d := spec_ServerNew.d) Try.func15 (by kernel_rfl) (by kernel_rfl) (by kernel_rfl) a.h15, FD.kf (d := impl_ServerNew.d) Try.func16 (by kernel_rfl) (by kernel_rfl) (by kernel_rfl) a.h31, FD.kf (d := laws_eqServer.d) Try.func17 (by kernel_rfl) (by kernel_rfl) (by kernel_rfl) a.h52, FD.kf (d := laws_markSchema.d) Try.func18 (by kernel_rfl) (by kernel_rfl) (by kernel_rfl) a.h54, FD.kf (d := laws_markServer.d) Try.func19 (by kernel_rfl) (by kernel_rfl) (by kernel_rfl) a.h65, FD.kf (d := laws_heldServer.d) Try.func20 (by kernel_rfl) (by kernel_rfl) (by kernel_rfl) a.h77, FD.kf (d := laws_eqChangeS.d) Try.func25 (by kernel_rfl) (by kernel_rfl) (by kernel_rfl) a.h39, FD.kf (d := laws_markChangeS.d) Try.func27 (by kernel_rfl) (by kernel_rfl) (by kernel_rfl) a.h58, FD.kf (d := laws_eqStore.d) Try.func35 (by kernel_rfl) (by kernel_rfl) (by kernel_rfl) a.h37, FD.kf (d := laws_eqQuery.d) Try.func36 (by kernel_rfl) (by kernel_rfl) (by kernel_rfl) a.h44, FD.kf (d := laws_markStore.d) Try.func37 (by kernel_rfl) (by kernel_rfl) (by kernel_rfl) a.h57, FD.kf (d := laws_szIntS.d) Try.func39 (by kernel_rfl) (by kernel_rfl) (by kernel_rfl) a.h0, FD.kf (d := spec_l1In.d) Try.func42 (by kernel_rfl) (by kernel_rfl) (by kernel_rfl) a.h4, FD.kf (d := laws_toIntS.d) Try.func45 (by kernel_rfl) (by kernel_rfl) (by kernel_rfl) a.h2, FD.kf (d := impl_isVersion.d) Try.func48 (by kernel_rfl) (by kernel_rfl) (by kernel_rfl) a.h19, FD.kf (d := impl_within.d) Try.func51 (by kernel_rfl) (by kernel_rfl) (by kernel_rfl) a.h17, FD.kf (d := laws_eqIntS.d) Try.func52 (by kernel_rfl) (by kernel_rfl) (by kernel_rfl) a.h32, FD.kf (d := laws_eqView.d) Try.func53 (by kernel_rfl) (by kernel_rfl) (by kernel_rfl) a.h47, FD.kf (d := spec_StoreNew.d) Try.func54 (by kernel_rfl) (by kernel_rfl) (by kernel_rfl) a.h7, FD.kf (d := spec_RecordNew.d) Try.func55 (by kernel_rfl) (by kernel_rfl) (by kernel_rfl) a.h14, FD.kf (d := impl_StoreNew.d) Try.func56 (by kernel_rfl) (by kernel_rfl) (by kernel_rfl) a.h25, FD.kf (d := impl_RecordNew.d) Try.func57 (by kernel_rfl) (by kernel_rfl) (by kernel_rfl) a.h30, FD.kf (d := laws_eqRecord.d) Try.func58 (by kernel_rfl) (by kernel_rfl) (by kernel_rfl) a.h41, FD.kf (d := laws_eqSeatS.d) Try.func59 (by kernel_rfl) (by kernel_rfl) (by kernel_rfl) a.h51, FD.kf (d := laws_markIntS.d) Try.func60 (by kernel_rfl) (by kernel_rfl) (by kernel_rfl) a.h53, FD.kf (d := laws_markRecord.d) Try.func61 (by kernel_rfl) (by kernel_rfl) (by kernel_rfl) a.h60, FD.kf (d := laws_markSeatS.d) Try.func62 (by kernel_rfl) (by kernel_rfl) (by kernel_rfl) a.h64, FD.kf (d := laws_heldRecord.d) Try.func63 (by kernel_rfl) (by kernel_rfl) (by kernel_rfl) a.h73, FD.kf (d := laws_heldSeatS.d) Try.func64 (by kernel_rfl) (by kernel_rfl) (by kernel_rfl) a.h76, FD.kf (d := laws_eqChange.d) Try.func71 (by kernel_rfl) (by kernel_rfl) (by kernel_rfl) a.h38, FD.kf (d := laws_eqRowSS.d) Try.func80 (by kernel_rfl) (by kernel_rfl) (by kernel_rfl) a.h36, FD.kf (d := laws_eqCondS.d) Try.func81 (by kernel_rfl) (by kernel_rfl) (by kernel_rfl) a.h43, FD.kf (d := laws_markRowSS.d) Try.func82 (by kernel_rfl) (by kernel_rfl) (by kernel_rfl) a.h56, FD.kf (d := laws_markCondS.d) Try.func83 (by kernel_rfl) (by kernel_rfl) (by kernel_rfl) a.h61, FD.kf (d := spec_RowOk.d) Try.func87 (by kernel_rfl) (by kernel_rfl) (by kernel_rfl) a.h8, FD.kf (d := impl_RowOk.d) Try.func97 (by kernel_rfl) (by kernel_rfl) (by kernel_rfl) a.h22, FD.kf (d := laws_eqRowS.d) Try.func106 (by kernel_rfl) (by kernel_rfl) (by kernel_rfl) a.h35, FD.kf (d := laws_eqKidS.d) Try.func107 (by kernel_rfl) (by kernel_rfl) (by kernel_rfl) a.h46, FD.kf (d := spec_SchemaOk.d) Try.func108 (by kernel_rfl) (by kernel_rfl) (by kernel_rfl) a.h5, FD.kf (d := spec_l7Schema.d) Try.func109 (by kernel_rfl) (by kernel_rfl) (by kernel_rfl) a.h6, FD.kf (d := spec_StoreOk.d) Try.func110 (by kernel_rfl) (by kernel_rfl) (by kernel_rfl) a.h10, FD.kf (d := spec_l7Copy.d) Try.func111 (by kernel_rfl) (by kernel_rfl) (by kernel_rfl) a.h13, FD.kf (d := impl_copyInts.d) Try.func112 (by kernel_rfl) (by kernel_rfl) (by kernel_rfl) a.h16, FD.kf (d := impl_StoreOk.d) Try.func113 (by kernel_rfl) (by kernel_rfl) (by kernel_rfl) a.h24, FD.kf (d := impl_asWas.d) Try.func114 (by kernel_rfl) (by kernel_rfl) (by kernel_rfl) a.h29, FD.kf (d := laws_eqChangeSS.d) Try.func115 (by kernel_rfl) (by kernel_rfl) (by kernel_rfl) a.h40, FD.kf (d := laws_eqSeat.d) Try.func116 (by kernel_rfl) (by kernel_rfl) (by kernel_rfl) a.h50, FD.kf (d := laws_markChangeSS.d) Try.func117 (by kernel_rfl) (by kernel_rfl) (by kernel_rfl) a.h59, FD.kf (d := laws_markRowS.d) Try.func118 (by kernel_rfl) (by kernel_rfl) (by kernel_rfl) a.h55, FD.kf (d := laws_markKidS.d) Try.func119 (by kernel_rfl) (by kernel_rfl) (by kernel_rfl) a.h62, FD.kf (d := laws_markText.d) Try.func120 (by kernel_rfl) (by kernel_rfl) (by kernel_rfl) a.h63, FD.kf (d := laws_heldStore.d) Try.func121 (by kernel_rfl) (by kernel_rfl) (by kernel_rfl) a.h70, FD.kf (d := laws_heldChangeSS.d) Try.func122 (by kernel_rfl) (by kernel_rfl) (by kernel_rfl) a.h72, FD.kf (d := laws_heldCondS.d) Try.func123 (by kernel_rfl) (by kernel_rfl) (by kernel_rfl) a.h74, FD.kf (d := laws_heldIntS.d) Try.func124 (by kernel_rfl) (by kernel_rfl) (by kernel_rfl) a.h66, FD.kf (d := laws_heldRowS.d) Try.func125 (by kernel_rfl) (by kernel_rfl) (by kernel_rfl) a.h68, FD.kf (d := laws_heldKidS.d) Try.func126 (by kernel_rfl) (by kernel_rfl) (by kernel_rfl) a.h75, FD.kf (d := laws_eqRow.d) Try.func133 (by kernel_rfl) (by kernel_rfl) (by kernel_rfl) a.h34, FD.kf (d := laws_eqCond.d) Try.func142 (by kernel_rfl) (by kernel_rfl) (by kernel_rfl) a.h42, FD.kf (d := impl_SchemaOk.d) Try.func146 (by kernel_rfl) (by kernel_rfl) (by kernel_rfl) a.h18, FD.kf (d := impl_hasTable.d) Try.func147 (by kernel_rfl) (by kernel_rfl) (by kernel_rfl) a.h21, FD.kf (d := impl_isNum.d) Try.func148 (by kernel_rfl) (by kernel_rfl) (by kernel_rfl) a.h20, FD.kf (d := laws_eqKid.d) Try.func154 (by kernel_rfl) (by kernel_rfl) (by kernel_rfl) a.h45, FD.kf (d := spec_RowsOk.d) Try.func155 (by kernel_rfl) (by kernel_rfl) (by kernel_rfl) a.h9, FD.kf (d := spec_l6Rows.d) Try.func156 (by kernel_rfl) (by kernel_rfl) (by kernel_rfl) a.h12, FD.kf (d := impl_RowsOk.d) Try.func157 (by kernel_rfl) (by kernel_rfl) (by kernel_rfl) a.h23, FD.kf (d := impl_copyStore.d) Try.func158 (by kernel_rfl) (by kernel_rfl) (by kernel_rfl) a.h28, FD.kf (d := laws_eqLine.d) Try.func159 (by kernel_rfl) (by kernel_rfl) (by kernel_rfl) a.h49, FD.kf (d := laws_heldSchema.d) Try.func160 (by kernel_rfl) (by kernel_rfl) (by kernel_rfl) a.h67, FD.kf (d := laws_heldRowSS.d) Try.func161 (by kernel_rfl) (by kernel_rfl) (by kernel_rfl) a.h69, FD.kf (d := laws_heldChangeS.d) Try.func162 (by kernel_rfl) (by kernel_rfl) (by kernel_rfl) a.h71, FD.kf (d := impl_copyRows.d) Try.func165 (by kernel_rfl) (by kernel_rfl) (by kernel_rfl) a.h27, FD.kf (d := impl_copyRow.d) Try.func168 (by kernel_rfl) (by kernel_rfl) (by kernel_rfl) a.h26, FD.kf (d := spec_l6Copy.d) Try.func173 (by kernel_rfl) (by kernel_rfl) (by kernel_rfl) a.h11, trivial⟩
theorem cxok (n nt : Nat) (a : AllOk n) : CxOk E (cx n nt) := ⟨ttOk, tcOk, u8Ok, kok n nt a⟩
theorem allOk : ∀ n, AllOk n
  | 0 => ⟨fun _ _ h => (by cases h), fun _ _ h => (by cases h), fun _ _ h => (by cases h), fun _ _ h => (by cases h), fun _ _ h => (by cases h), fun _ _ h => (by cases h), fun _ _ h => (by cases h), fun _ _ h => (by cases h), fun _ _ h => (by cases h), fun _ _ h => (by cases h), fun _ _ h => (by cases h), fun _ _ h => (by cases h), fun _ _ h => (by cases h), fun _ _ h => (by cases h), fun _ _ h => (by cases h), fun _ _ h => (by cases h), fun _ _ h => (by cases h), fun _ _ h => (by cases h), fun _ _ h => (by cases h), fun _ _ h => (by cases h), fun _ _ h => (by cases h), fun _ _ h => (by cases h), fun _ _ h => (by cases h), fun _ _ h => (by cases h), fun _ _ h => (by cases h), fun _ _ h => (by cases h), fun _ _ h => (by cases h), fun _ _ h => (by cases h), fun _ _ h => (by cases h), fun _ _ h => (by cases h), fun _ _ h => (by cases h), fun _ _ h => (by cases h), fun _ _ h => (by cases h), fun _ _ h => (by cases h), fun _ _ h => (by cases h), fun _ _ h => (by cases h), fun _ _ h => (by cases h), fun _ _ h => (by cases h), fun _ _ h => (by cases h), fun _ _ h => (by cases h), fun _ _ h => (by cases h), fun _ _ h => (by cases h), fun _ _ h => (by cases h), fun _ _ h => (by cases h), fun _ _ h => (by cases h), fun _ _ h => (by cases h), fun _ _ h => (by cases h), fun _ _ h => (by cases h), fun _ _ h => (by cases h), fun _ _ h => (by cases h), fun _ _ h => (by cases h), fun _ _ h => (by cases h), fun _ _ h => (by cases h), fun _ _ h => (by cases h), fun _ _ h => (by cases h), fun _ _ h => (by cases h), fun _ _ h => (by cases h), fun _ _ h => (by cases h), fun _ _ h => (by cases h), fun _ _ h => (by cases h), fun _ _ h => (by cases h), fun _ _ h => (by cases h), fun _ _ h => (by cases h), fun _ _ h => (by cases h), fun _ _ h => (by cases h), fun _ _ h => (by cases h), fun _ _ h => (by cases h), fun _ _ h => (by cases h), fun _ _ h => (by cases h), fun _ _ h => (by cases h), fun _ _ h => (by cases h), fun _ _ h => (by cases h), fun _ _ h => (by cases h), fun _ _ h => (by cases h), fun _ _ h => (by cases h), fun _ _ h => (by cases h), fun _ _ h => (by cases h), fun _ _ h => (by cases h), fun _ _ h => (by cases h)⟩
  | n + 1 => ⟨laws_szIntS.ok n (cxok n _ (allOk n)) (kpar n _), laws_szSchema.ok n (cxok n _ (allOk n)) (kpar n _), laws_toIntS.ok n (cxok n _ (allOk n)) (kpar n _), laws_toSchema.ok n (cxok n _ (allOk n)) (kpar n _), spec_l1In.ok n (cxok n _ (allOk n)) (kpar n _), spec_SchemaOk.ok n (cxok n _ (allOk n)) (kpar n _), spec_l7Schema.ok n (cxok n _ (allOk n)) (kpar n _), spec_StoreNew.ok n (cxok n _ (allOk n)) (kpar n _), spec_RowOk.ok n (cxok n _ (allOk n)) (kpar n _), spec_RowsOk.ok n (cxok n _ (allOk n)) (kpar n _), spec_StoreOk.ok n (cxok n _ (allOk n)) (kpar n _), spec_l6Copy.ok n (cxok n _ (allOk n)) (kpar n _), spec_l6Rows.ok n (cxok n _ (allOk n)) (kpar n _), spec_l7Copy.ok n (cxok n _ (allOk n)) (kpar n _), spec_RecordNew.ok n (cxok n _ (allOk n)) (kpar n _), spec_ServerNew.ok n (cxok n _ (allOk n)) (kpar n _), impl_copyInts.ok n (cxok n _ (allOk n)) (kpar n _), impl_within.ok n (cxok n _ (allOk n)) (kpar n _), impl_SchemaOk.ok n (cxok n _ (allOk n)) (kpar n _), impl_isVersion.ok n (cxok n _ (allOk n)) (kpar n _), impl_isNum.ok n (cxok n _ (allOk n)) (kpar n _), impl_hasTable.ok n (cxok n _ (allOk n)) (kpar n _), impl_RowOk.ok n (cxok n _ (allOk n)) (kpar n _), impl_RowsOk.ok n (cxok n _ (allOk n)) (kpar n _), impl_StoreOk.ok n (cxok n _ (allOk n)) (kpar n _), impl_StoreNew.ok n (cxok n _ (allOk n)) (kpar n _), impl_copyRow.ok n (cxok n _ (allOk n)) (kpar n _), impl_copyRows.ok n (cxok n _ (allOk n)) (kpar n _), impl_copyStore.ok n (cxok n _ (allOk n)) (kpar n _), impl_asWas.ok n (cxok n _ (allOk n)) (kpar n _), impl_RecordNew.ok n (cxok n _ (allOk n)) (kpar n _), impl_ServerNew.ok n (cxok n _ (allOk n)) (kpar n _), laws_eqIntS.ok n (cxok n _ (allOk n)) (kpar n _), laws_eqSchema.ok n (cxok n _ (allOk n)) (kpar n _), laws_eqRow.ok n (cxok n _ (allOk n)) (kpar n _), laws_eqRowS.ok n (cxok n _ (allOk n)) (kpar n _), laws_eqRowSS.ok n (cxok n _ (allOk n)) (kpar n _), laws_eqStore.ok n (cxok n _ (allOk n)) (kpar n _), laws_eqChange.ok n (cxok n _ (allOk n)) (kpar n _), laws_eqChangeS.ok n (cxok n _ (allOk n)) (kpar n _), laws_eqChangeSS.ok n (cxok n _ (allOk n)) (kpar n _), laws_eqRecord.ok n (cxok n _ (allOk n)) (kpar n _), laws_eqCond.ok n (cxok n _ (allOk n)) (kpar n _), laws_eqCondS.ok n (cxok n _ (allOk n)) (kpar n _), laws_eqQuery.ok n (cxok n _ (allOk n)) (kpar n _), laws_eqKid.ok n (cxok n _ (allOk n)) (kpar n _), laws_eqKidS.ok n (cxok n _ (allOk n)) (kpar n _), laws_eqView.ok n (cxok n _ (allOk n)) (kpar n _), laws_eqSess.ok n (cxok n _ (allOk n)) (kpar n _), laws_eqLine.ok n (cxok n _ (allOk n)) (kpar n _), laws_eqSeat.ok n (cxok n _ (allOk n)) (kpar n _), laws_eqSeatS.ok n (cxok n _ (allOk n)) (kpar n _), laws_eqServer.ok n (cxok n _ (allOk n)) (kpar n _), laws_markIntS.ok n (cxok n _ (allOk n)) (kpar n _), laws_markSchema.ok n (cxok n _ (allOk n)) (kpar n _), laws_markRowS.ok n (cxok n _ (allOk n)) (kpar n _), laws_markRowSS.ok n (cxok n _ (allOk n)) (kpar n _), laws_markStore.ok n (cxok n _ (allOk n)) (kpar n _), laws_markChangeS.ok n (cxok n _ (allOk n)) (kpar n _), laws_markChangeSS.ok n (cxok n _ (allOk n)) (kpar n _), laws_markRecord.ok n (cxok n _ (allOk n)) (kpar n _), laws_markCondS.ok n (cxok n _ (allOk n)) (kpar n _), laws_markKidS.ok n (cxok n _ (allOk n)) (kpar n _), laws_markText.ok n (cxok n _ (allOk n)) (kpar n _), laws_markSeatS.ok n (cxok n _ (allOk n)) (kpar n _), laws_markServer.ok n (cxok n _ (allOk n)) (kpar n _), laws_heldIntS.ok n (cxok n _ (allOk n)) (kpar n _), laws_heldSchema.ok n (cxok n _ (allOk n)) (kpar n _), laws_heldRowS.ok n (cxok n _ (allOk n)) (kpar n _), laws_heldRowSS.ok n (cxok n _ (allOk n)) (kpar n _), laws_heldStore.ok n (cxok n _ (allOk n)) (kpar n _), laws_heldChangeS.ok n (cxok n _ (allOk n)) (kpar n _), laws_heldChangeSS.ok n (cxok n _ (allOk n)) (kpar n _), laws_heldRecord.ok n (cxok n _ (allOk n)) (kpar n _), laws_heldCondS.ok n (cxok n _ (allOk n)) (kpar n _), laws_heldKidS.ok n (cxok n _ (allOk n)) (kpar n _), laws_heldSeatS.ok n (cxok n _ (allOk n)) (kpar n _), laws_heldServer.ok n (cxok n _ (allOk n)) (kpar n _), laws_FnExactServerNew.ok n (cxok n _ (allOk n)) (kpar n _)⟩
end Go.Pi
end
