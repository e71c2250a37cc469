/- The law FnExactBehind returns true at every input, and leaves its arguments as they were; no condition. Text 5 of 5. -/
import Derived.Test.YtbddnebkegaaaaaGreatVbD
import Derived.Below
import Derived.Test.YtbddnebkegaaaaaGreatRows
import Derived.ProofKit
import Derived.OpenShut
import Derived.IntWalk
section
set_option linter.unusedVariables false
namespace Go.Pi
open Go.RowKit
variable [Coding]
open Coding
omit [Coding] in
theorem kinded_cons {k : Kd} {ks : List Kd} {l : List AV} (h : Kinded (k :: ks) l) : ∃ a l', l = a :: l' ∧ KindOk k a ∧ Kinded ks l' := by
  cases l with
  | nil => exact h.elim
  | cons a l => exact ⟨a, l, rfl, h.1, h.2⟩
omit [Coding] in
theorem kinded_nil {l : List AV} (h : Kinded [] l) : l = [] := by
  cases l with
  | nil => rfl
  | cons a l => exact h.elim
def codeL (eid : TC → TypeId) : List TC → TypeId → Option TC
  | [], _ => none
  | t :: ts, e => cond (Nat.beq (eid t) e) (some t) (codeL eid ts e)
omit [Coding] in
theorem codeL_ok {eid : TC → TypeId} {e : TypeId} {t : TC} : ∀ ts, codeL eid ts e = some t → eid t = e
  | [], h => by cases h
  | u :: ts, h => by
    simp only [codeL] at h
    cases hb : Nat.beq (eid u) e with
    | true => rw [hb] at h; cases h; exact beq_iff.1 hb
    | false => rw [hb] at h; exact codeL_ok ts h
/-- a law that answers true -/
theorem law_true [CodingOk] {E : Env} {f : FuncId} {avs : List AV} {outs : List AV} {ps : List PS} (h : CallOk E f avs (.b true) outs ps) {w : World} {Vs : List Value} (hr : RL E w NoF avs Vs (fun _ => 0)) :
    Calls E.P f Vs.toArray w fun e W' => e = .returned (.bool true) ∧ Below w.heap.size w W' := by
  refine (h w NoF Vs _ hr (fun _ => Nat.zero_le _) (fun b hb => hb.elim)).mono fun e W' ⟨V, φ', he, h1, _, _, e1, e2, e3, e4, e5⟩ => ⟨?_, e1, e2, e3, e4, fun k hk => e5 k hk rfl⟩
  cases h1 with
  | scal a v l vs φ hs _ => rw [he, show V = .bool true from hs]
theorem ag_open {E : Env} {w : World} {l : List AV} {cs : Array Value} (h : RL E w NoF l (Value.agg cs).cells.toList (fun _ => 0)) {l' : List AV} {vs : List Value} (h' : RL E w NoF l' vs (fun _ => 0)) :
    RL E w NoF (.ag l :: l') (.agg cs :: vs) (fun _ => 0) := by
  have := RL.ag (E := E) (w := w) (F := NoF) l cs.toList (fun _ => 0) l' vs (fun _ => 0) (fun _ => 0) h h' (fun b => rfl)
  simpa using this
end Go.Pi
end
section
set_option linter.unusedVariables false
set_option maxRecDepth 100000
namespace Go.Pi
open Go.Proofs Go.Proofs.YtbddnebkegaaaaaGreat
open Go.ChangeShapes Go.WideShapes Go.ChangeAt Go.RowKit
def code : TypeId → Option TC := codeL eid [.int, .u8, .str, .lRow, .s_lRow, .lChange, .s_lChange, .lSeat, .lCond, .lKid, .iRow, .s_iRow, .iChange, .s_iChange, .iSeat, .iCond, .iKid]
def kinds : TC → List Kd
  | .int => [.i .i64]
  | .u8 => [.i .u8]
  | .str => [.s]
  | .lRow => [.i .i64, .sl .int]
  | .s_lRow => [.sl .lRow]
  | .lChange => [.i .i64, .b, .b, .i .i64, .sl .int, .i .i64, .sl .int]
  | .s_lChange => [.sl .lChange]
  | .lSeat => [.i .i64, .sl .lCond, .i .i64, .b, .i .i64, .sl .int, .b, .i .i64, .i .i64, .sl .lRow, .sl .lKid, .i .i64, .i .i64, .sl .lCond, .i .i64, .b, .i .i64, .sl .int, .b, .i .i64, .i .i64, .sl .lRow, .sl .lKid, .i .i64, .b, .s, .i .i64, .s, .s, .b]
  | .lCond => [.i .i64, .i .i64, .i .i64]
  | .lKid => [.i .i64, .i .i64]
  | .iRow => [.i .i64, .sl .int]
  | .s_iRow => [.sl .iRow]
  | .iChange => [.i .i64, .b, .b, .i .i64, .sl .int, .i .i64, .sl .int]
  | .s_iChange => [.sl .iChange]
  | .iSeat => [.i .i64, .sl .iCond, .i .i64, .b, .i .i64, .sl .int, .b, .i .i64, .i .i64, .sl .iRow, .sl .iKid, .i .i64, .i .i64, .sl .iCond, .i .i64, .b, .i .i64, .sl .int, .b, .i .i64, .i .i64, .sl .iRow, .sl .iKid, .i .i64, .b, .s, .i .i64, .s, .s, .b]
  | .iCond => [.i .i64, .i .i64, .i .i64]
  | .iKid => [.i .i64, .i .i64]
theorem kindsOk : KindsOk E code kinds 12 where
  codeOk := fun e t h => codeL_ok _ h
  kdsOk := by intro t; cases t <;> kernel_rfl
  cells := by intro t; cases t <;> kernel_rfl
  dec := by
    intro t l h
    cases t with
    | int =>
      iterate 1 (replace h := kinded_cons h; obtain ⟨_, _, rfl, ⟨_, rfl⟩, h⟩ := h)
      replace h := kinded_nil h; subst h; exact ⟨_, rfl⟩
    | u8 =>
      iterate 1 (replace h := kinded_cons h; obtain ⟨_, _, rfl, ⟨_, rfl⟩, h⟩ := h)
      replace h := kinded_nil h; subst h; exact ⟨_, rfl⟩
    | str =>
      iterate 1 (replace h := kinded_cons h; obtain ⟨_, _, rfl, ⟨_, rfl⟩, h⟩ := h)
      replace h := kinded_nil h; subst h; exact ⟨_, rfl⟩
    | lRow =>
      iterate 2 (replace h := kinded_cons h; obtain ⟨_, _, rfl, ⟨_, rfl⟩, h⟩ := h)
      replace h := kinded_nil h; subst h; exact ⟨_, rfl⟩
    | s_lRow =>
      iterate 1 (replace h := kinded_cons h; obtain ⟨_, _, rfl, ⟨_, rfl⟩, h⟩ := h)
      replace h := kinded_nil h; subst h; exact ⟨_, rfl⟩
    | lChange =>
      iterate 7 (replace h := kinded_cons h; obtain ⟨_, _, rfl, ⟨_, rfl⟩, h⟩ := h)
      replace h := kinded_nil h; subst h; exact ⟨_, rfl⟩
    | s_lChange =>
      iterate 1 (replace h := kinded_cons h; obtain ⟨_, _, rfl, ⟨_, rfl⟩, h⟩ := h)
      replace h := kinded_nil h; subst h; exact ⟨_, rfl⟩
    | lSeat =>
      iterate 30 (replace h := kinded_cons h; obtain ⟨_, _, rfl, ⟨_, rfl⟩, h⟩ := h)
      replace h := kinded_nil h; subst h; exact ⟨_, rfl⟩
    | lCond =>
      iterate 3 (replace h := kinded_cons h; obtain ⟨_, _, rfl, ⟨_, rfl⟩, h⟩ := h)
      replace h := kinded_nil h; subst h; exact ⟨_, rfl⟩
    | lKid =>
      iterate 2 (replace h := kinded_cons h; obtain ⟨_, _, rfl, ⟨_, rfl⟩, h⟩ := h)
      replace h := kinded_nil h; subst h; exact ⟨_, rfl⟩
    | iRow =>
      iterate 2 (replace h := kinded_cons h; obtain ⟨_, _, rfl, ⟨_, rfl⟩, h⟩ := h)
      replace h := kinded_nil h; subst h; exact ⟨_, rfl⟩
    | s_iRow =>
      iterate 1 (replace h := kinded_cons h; obtain ⟨_, _, rfl, ⟨_, rfl⟩, h⟩ := h)
      replace h := kinded_nil h; subst h; exact ⟨_, rfl⟩
    | iChange =>
      iterate 7 (replace h := kinded_cons h; obtain ⟨_, _, rfl, ⟨_, rfl⟩, h⟩ := h)
      replace h := kinded_nil h; subst h; exact ⟨_, rfl⟩
    | s_iChange =>
      iterate 1 (replace h := kinded_cons h; obtain ⟨_, _, rfl, ⟨_, rfl⟩, h⟩ := h)
      replace h := kinded_nil h; subst h; exact ⟨_, rfl⟩
    | iSeat =>
      iterate 30 (replace h := kinded_cons h; obtain ⟨_, _, rfl, ⟨_, rfl⟩, h⟩ := h)
      replace h := kinded_nil h; subst h; exact ⟨_, rfl⟩
    | iCond =>
      iterate 3 (replace h := kinded_cons h; obtain ⟨_, _, rfl, ⟨_, rfl⟩, h⟩ := h)
      replace h := kinded_nil h; subst h; exact ⟨_, rfl⟩
    | iKid =>
      iterate 2 (replace h := kinded_cons h; obtain ⟨_, _, rfl, ⟨_, rfl⟩, h⟩ := h)
      replace h := kinded_nil h; subst h; exact ⟨_, rfl⟩
namespace laws_FnExactBehind
theorem own : ownKnob Tryz.prog.godebug = none := by kernel_rfl
theorem laidOut : laidOutB Tryz.prog = true := by kernel_rfl
def Pure : Prop := ∀ (aV : TServer) (aK : Int), (∀ c ∈ ([.sl .v .int aV.record.first.schema.cols, .i .i64 aV.record.first.version, .sl .v .s_lRow aV.record.first.tables, .sl .v .s_lChange aV.record.steps, .sl .v .lSeat aV.seats] : List AV), Good c) → (∀ c ∈ ([.i .i64 aK] : List AV), Good c) → ∃ n, Go.Pi.laws_FnExactBehind n aV aK = some true
theorem lifted (hp : Pure) (os : Os) (started : os.Started) (H : Type) (enc : TypeId × Value → H) :
    ReturnsInHanded {} Tryz.checked os 4 .any (Rows.fnExactBehindSpec.pre6 enc Tryz.prog Tryz.f4 Rows.fnExactBehindRow.domain false) (Rows.fnExactBehindSpec.post enc Tryz.prog Tryz.f4 false true false false) := by
  refine returnsInHanded_of_change (C := Tryz.checked) own started (by kernel_rfl) Tryz.func4
    (ChangeSpec.witness6 (enc := enc) (C := Tryz.checked) false ⟨#[], #[.agg #[.slice none 0 0, .int .i64 0, .slice none 0 0, .slice none 0 0, .slice none 0 0], .int .i64 0], []⟩ 8 (by kernel_rfl) (by kernel_rfl) (by kernel_rfl) (by kernel_rfl)) ?_
  intro W base args ds gs before hval0 hW hcnd _
  have hval : ∀ (j : Nat) t v, Tryz.f4.params[j]? = some t → args[j]? = some v → Value.okWide Tryz.prog W .any base t v := hval0
  have hW' := hW
  obtain ⟨p, q, hA0, hV, rfl, hfz, hnd⟩ := hW
  have hA : DataW.TrodAll enc Tryz.prog W 0 (fun _ => true) true Tryz.f4.params.toList args.toList ds p := hA0
  rw [Tryz.params4] at hA hval
  obtain ⟨v0, vs0, d0, ds0, p0, q0, hargs, rfl, rfl, h0, r0⟩ := trodAll_cons hA
  obtain ⟨v1, vs1, d1, ds1, p1, q1, rfl, rfl, rfl, h1, r1⟩ := trodAll_cons r0
  obtain ⟨rfl, rfl, rfl⟩ := trodAll_nil r1
  obtain rfl : args = #[v0, v1] := by cases args; simp_all
  obtain ⟨rfl, rfl⟩ := trodVars_none hV
  obtain ⟨c0, rfl, -⟩ := okWide_struct Tryz.underlying33 (hval 0 33 v0 rfl rfl)
  have lt0 : ∀ x ∈ p0, x.block < W.heap.size := by obtain ⟨m, hm⟩ := h0; exact DataW.trod_lt m _ _ _ hm
  obtain ⟨l0, k0, e0, g0⟩ := arg_open kindsOk (T := 33) (ks := [.sl .int, .i .i64, .sl .s_lRow, .sl .s_lChange, .sl .lSeat]) (by kernel_rfl) h0
  obtain ⟨c1, rfl⟩ := okWide_int Tryz.underlying3 (hval 1 3 v1 rfl rfl)
  have lt1 : ∀ x ∈ p1, x.block < W.heap.size := by obtain ⟨m, hm⟩ := h1; exact DataW.trod_lt m _ _ _ hm
  obtain ⟨l1, k1, e1, g1⟩ := arg_open kindsOk (T := 3) (ks := [.i .i64]) (by kernel_rfl) h1
  replace k0 := kinded_cons k0; obtain ⟨_, _, rfl, ⟨z0, rfl⟩, k0⟩ := k0
  replace k0 := kinded_cons k0; obtain ⟨_, _, rfl, ⟨z1, rfl⟩, k0⟩ := k0
  replace k0 := kinded_cons k0; obtain ⟨_, _, rfl, ⟨z2, rfl⟩, k0⟩ := k0
  replace k0 := kinded_cons k0; obtain ⟨_, _, rfl, ⟨z3, rfl⟩, k0⟩ := k0
  replace k0 := kinded_cons k0; obtain ⟨_, _, rfl, ⟨z4, rfl⟩, k0⟩ := k0
  replace k0 := kinded_nil k0; subst k0
  replace k1 := kinded_cons k1; obtain ⟨_, _, rfl, ⟨z5, rfl⟩, k1⟩ := k1
  replace k1 := kinded_nil k1; subst k1
  obtain ⟨n, hn⟩ := hp (TServer.mk (TRecord.mk (TStore.mk (TSchema.mk z0) z1 z2) z3) z4) z5 g0 g1
  refine (law_true ((allOk n).h139 ((z0, z1, z2, z3, z4, ()), z5, ()) _ hn) (ag_open e0 (RL.cons e1 (.nil _ fun _ => rfl) (fun b => rfl)))).mono fun e W' ⟨he, bel⟩ => ?_
  subst he
  exact ⟨_, rfl, _, _, _, [], _, [], hW', trodAll_mk1 (shut_bool Tryz.underlying4 _), (trodAll_cons_mk (Below.trod laidOut (by kernel_rfl) (of_decide_eq_true (by kernel_rfl)) h0 bel lt0) (trodAll_cons_mk (Below.trod laidOut (by kernel_rfl) (of_decide_eq_true (by kernel_rfl)) h1 bel lt1) trodAll_mk0)), rfl, bel.frame _, fun h => by cases h⟩
theorem over (hp : Pure) : Rows.fnExactBehindRow.holds Tryz.pinned (OpenSpec.ofChange Rows.fnExactBehindSpec) :=
  OpenClaim.holds_of_wide 4 Tryz.f4 rfl rfl rfl rfl rfl rfl rfl ⟨rfl, rfl, rfl, rfl, rfl⟩ rfl rfl rfl rfl rfl (by kernel_rfl) Tryz.func4 (by kernel_rfl)
    (of_decide_eq_true (by kernel_rfl)) (by unfold Func.isWrapper; first | (rw [if_pos (by decide +kernel)]; kernel_rfl) | (rw [if_neg (by decide +kernel)]; exact ⟨rfl, rfl⟩))
    (fun os started H enc _ => lifted hp os started H enc)
end laws_FnExactBehind
end Go.Pi
end
section
set_option linter.unusedVariables false
/-! What the functions compute, for all sizes of fuel that are large enough. -/
namespace Go.Pi
section
variable {α β : Type}
def Ev (f : Nat → Nat → Option α) (v : α) : Prop := ∃ M, ∀ n N, M ≤ n → M ≤ N → f n N = some v
theorem ev_some {v w : α} : Ev (fun _ _ => some v) w ↔ v = w :=
  ⟨fun ⟨M, h⟩ => Option.some.inj (h M M (Nat.le_refl _) (Nat.le_refl _)), fun h => ⟨0, fun _ _ _ _ => by rw [h]⟩⟩
theorem ev_iff {f : Nat → Nat → Option α} {v w : α} (h : Ev f v) : Ev f w ↔ v = w := by
  constructor
  · rintro ⟨M', h'⟩
    obtain ⟨M, h⟩ := h
    have a := h (max M M') (max M M') (by omega) (by omega)
    have b := h' (max M M') (max M M') (by omega) (by omega)
    rw [a] at b
    exact Option.some.inj b
  · rintro rfl; exact h
theorem ev_bind {f : Nat → Nat → Option α} {a : α} (h : Ev f a) {g : Nat → Nat → α → Option β} {v : β} : Ev (fun n N => (f n N).bind (g n N)) v ↔ Ev (fun n N => g n N a) v := by
  obtain ⟨M, h⟩ := h
  constructor
  · rintro ⟨M', h'⟩
    refine ⟨max M M', fun n N h1 h2 => ?_⟩
    have := h' n N (by omega) (by omega)
    simp only [h n N (by omega) (by omega), Option.bind_some] at this
    exact this
  · rintro ⟨M', h'⟩
    refine ⟨max M M', fun n N h1 h2 => ?_⟩
    simp only [h n N (by omega) (by omega), Option.bind_some]
    exact h' n N (by omega) (by omega)
theorem ev_none {v : α} : Ev (fun _ _ => none) v ↔ False := by
  simp only [iff_false]
  rintro ⟨M, h⟩
  cases h M M (Nat.le_refl _) (Nat.le_refl _)
theorem ev_cond {c : Bool} {f g : Nat → Nat → Option α} {v : α} : Ev (fun n N => cond c (f n N) (g n N)) v ↔ (c = true → Ev f v) ∧ (c = false → Ev g v) := by
  cases c <;> simp
theorem ev_inB {i : Int} {len : Nat} {f : Nat → Nat → Option α} {v : α} : Ev (fun n N => inB i len (f n N)) v ↔ (0 ≤ i ∧ i < (len : Int)) ∧ Ev f v := by
  unfold inB
  rw [ev_cond, ev_cond]
  by_cases h1 : 0 ≤ i <;> by_cases h2 : i < (len : Int) <;> simp [h1, h2, ev_none]
theorem ev_succ {f : Nat → Nat → Option α} {v : α} (h : Ev (fun n N => f (n + 1) N) v) : Ev f v := by
  obtain ⟨M, h⟩ := h
  refine ⟨M + 1, fun n N h1 h2 => ?_⟩
  obtain ⟨m, rfl⟩ : ∃ m, n = m + 1 := ⟨n - 1, by omega⟩
  exact h m N (by omega) (by omega)
theorem ev_diag {f : Nat → Nat → Option α} {v : α} (h : Ev f v) : Ev (fun n _ => f n n) v := by
  obtain ⟨M, h⟩ := h
  exact ⟨M, fun n N h1 h2 => h n n h1 h1⟩
theorem ev_round {f : Nat → Nat → Option α} {v : α} (h : Ev (fun n N => f n (N + 1)) v) : Ev f v := by
  obtain ⟨M, h⟩ := h
  refine ⟨M + 1, fun n N h1 h2 => ?_⟩
  obtain ⟨m, rfl⟩ : ∃ m, N = m + 1 := ⟨N - 1, by omega⟩
  exact h n m (by omega) (by omega)
theorem ev_ex {f : Nat → Option α} {v : α} (h : Ev (fun n _ => f n) v) : ∃ n, f n = some v := by
  obtain ⟨M, h⟩ := h
  exact ⟨M, h M M (Nat.le_refl _) (Nat.le_refl _)⟩
/-- a loop that counts up to an end -/
theorem ev_up {σ : Type} (L : Nat → Nat → Nat → σ → Option α) (F : Nat → σ → α) (I : Nat → σ → Prop) (len : Nat)
    (h : ∀ i s, I i s → i ≤ len → (∀ s', I (i + 1) s' → i < len → Ev (fun n N => L n N (i + 1) s') (F (i + 1) s')) → Ev (fun n N => L n (N + 1) i s) (F i s)) :
    ∀ s, I 0 s → Ev (fun n _ => L n n 0 s) (F 0 s) := by
  have key : ∀ d i s, d + i = len → I i s → Ev (fun n N => L n N i s) (F i s) := by
    intro d
    induction d with
    | zero => exact fun i s hd hI => ev_round (h i s hI (by omega) fun s' _ hl => absurd hl (by omega))
    | succ d ih => exact fun i s hd hI => ev_round (h i s hI (by omega) fun s' hI' _ => ih (i + 1) s' (by omega) hI')
  exact fun s hI => ev_diag (f := fun n N => L n N 0 s) (key len 0 s (by omega) hI)
/-- a loop of which only the number moves -/
theorem ev_up1 (L : Nat → Nat → Nat → Option α) (F : Nat → α) (len : Nat)
    (h : ∀ i, i ≤ len → (i < len → Ev (fun n N => L n N (i + 1)) (F (i + 1))) → Ev (fun n N => L n (N + 1) i) (F i)) :
    Ev (fun n _ => L n n 0) (F 0) :=
  ev_up (σ := Unit) (fun n N i _ => L n N i) (fun i _ => F i) (fun _ _ => True) len (fun i s _ hi k => h i hi fun hl => k () trivial hl) () trivial
end
/-- the most that a list holds -/
abbrev topN : Nat := 9223372036854775807
theorem W_id {n : Int} (h : -9223372036854775808 ≤ n) (h' : n < 9223372036854775808) : W n = n := by
  show IntKind.i64.wrap n = n
  rw [IntKind.wrap_i64]; omega
theorem W_up {i : Nat} {len : Nat} (h : i < len) (hl : len ≤ topN) : W ((i : Int) + 1) = ((i + 1 : Nat) : Int) := by
  rw [W_id (by omega) (by simp only [topN] at hl; omega)]; omega
theorem drop_step {α : Type} (d : α) {a : List α} {i : Nat} (h : i < a.length) : a.drop i = a.getD i d :: a.drop (i + 1) := by
  rw [List.drop_eq_getElem_cons h, List.getD_eq_getElem?_getD, List.getElem?_eq_getElem h]; rfl
theorem drop_end {α : Type} {a : List α} {i : Nat} (h : a.length ≤ i) : a.drop i = [] := List.drop_eq_nil_of_le h
theorem getD_mem {α : Type} (d : α) {a : List α} {i : Nat} (h : i < a.length) : a.getD i d ∈ a := by
  rw [List.getD_eq_getElem?_getD, List.getElem?_eq_getElem h]; exact List.getElem_mem h
end Go.Pi
end
section
set_option linter.unusedVariables false
/-! Lists that are measured, copied, compared, marked and looked at again: each loop once. -/
namespace Go.Pi
abbrev cap : Nat := 1048576
def sumL {α : Type} (f : α → Nat) : List α → Nat
  | [] => 0
  | x :: xs => f x + sumL f xs
def sizeL {α : Type} (f : α → Nat) (l : List α) : Nat := l.length + sumL f l
def lenL {α : Type} (P : α → Prop) (l : List α) : Prop := l.length ≤ topN ∧ ∀ x ∈ l, P x
def szI (_ : Int) : Nat := 0
def szB (s : Bs) : Nat := s.length
def lenI (_ : Int) : Prop := True
def lenB (s : Bs) : Prop := s.length ≤ topN
theorem sumL_drop {α : Type} (f : α → Nat) (d : α) {a : List α} {i : Nat} (h : i < a.length) : sumL f (a.drop i) = f (a.getD i d) + sumL f (a.drop (i + 1)) := by
  rw [drop_step d h]; rfl
theorem sumL_le {α : Type} (f : α → Nat) {a : List α} {x : α} (h : x ∈ a) : f x ≤ sumL f a := by
  induction a with
  | nil => cases h
  | cons y a ih =>
    simp only [sumL]
    rcases List.mem_cons.1 h with rfl | h
    · omega
    · have := ih h; omega
theorem sizeL_le {α : Type} (f : α → Nat) {a : List α} {x : α} (h : x ∈ a) : 1 + f x ≤ sizeL f a := by
  unfold sizeL
  have := sumL_le f h
  have := List.length_pos_of_mem h
  omega
theorem sizeL_len {α : Type} (f : α → Nat) (a : List α) : a.length ≤ sizeL f a := by unfold sizeL; omega
theorem sumL_zero {α : Type} (f : α → Nat) (h : ∀ x, f x = 0) : ∀ a : List α, sumL f a = 0
  | [] => rfl
  | x :: a => by simp only [sumL, h, sumL_zero f h a]
theorem take_set {α : Type} (d : α) {a s : List α} {i : Nat} (h : i < a.length) (hs : s.length = a.length) (ht : s.take i = a.take i) : (s.set i (a.getD i d)).take (i + 1) = a.take (i + 1) := by
  rw [List.take_add_one, List.take_add_one, List.take_set_of_le (Nat.le_refl i), ht, List.getElem?_set_self (by omega), List.getD_eq_getElem?_getD, List.getElem?_eq_getElem h]
  rfl
theorem getD_put {α : Type} (d : α) {a : List α} {i : Nat} (h : i < a.length) (x : α) : (a.set i x).getD i d = x := by
  rw [List.getD_eq_getElem?_getD, List.getElem?_set_self h]; rfl
/-- what is left of a size -/
def subS (l : Int) (s : Nat) : Int := if (s : Int) ≤ l then l - s else -1
theorem subS_zero {l : Int} (h : 0 ≤ l) : subS l 0 = l := by unfold subS; rw [if_pos (by omega)]; omega
theorem subS_add {l : Int} {s t : Nat} (h0 : 0 ≤ l) : (subS l s < 0 → subS l (s + t) = -1) ∧ (¬ subS l s < 0 → (0 ≤ subS l s ∧ subS l s ≤ l) ∧ subS (subS l s) t = subS l (s + t)) := by
  unfold subS
  constructor <;> intro h
  · split at h
    · omega
    · rw [if_neg (by omega)]
  · split at h
    · rename_i h1
      rw [if_pos h1]
      refine ⟨by omega, ?_⟩
      by_cases h2 : (t : Int) ≤ l - s
      · rw [if_pos h2, if_pos (by omega)]; omega
      · rw [if_neg h2, if_neg (by omega)]
    · omega
theorem subS_ok {l : Int} {s : Nat} (h : ¬ subS l s < 0) : (s : Int) ≤ l := by
  unfold subS at h; split at h <;> omega
section
variable {α β : Type}
/-- a size behind another -/
theorem ev_sz {f : Nat → Nat → Option Int} {g : Nat → Nat → Int → Option Int} {l : Int} {s t : Nat} (h0 : 0 ≤ l) (h1 : l ≤ 1048576) (h : Ev f (subS l s)) (k : ∀ r, 0 ≤ r → r ≤ 1048576 → Ev (fun n N => g n N r) (subS r t)) :
    Ev (fun n N => (f n N).bind fun x => cond (decide (x < 0)) (some (-1)) (g n N x)) (subS l (s + t)) := by
  rw [ev_bind h, ev_cond]
  obtain ⟨a, b⟩ := subS_add (l := l) (s := s) (t := t) h0
  refine ⟨fun h => ?_, fun h => ?_⟩
  · rw [a (of_decide_eq_true h)]; exact ev_some.2 rfl
  · obtain ⟨⟨b1, b2⟩, b3⟩ := b (of_decide_eq_false h)
    rw [← b3]
    exact k _ b1 (by omega)
theorem ev_szE {l : Int} (h : 0 ≤ l) : Ev (fun _ _ => some l) (subS l 0) := by rw [subS_zero h]; exact ev_some.2 rfl
/-- the length comes off first -/
theorem ev_szL {l : Int} {m t : Nat} (h0 : 0 ≤ l) (h1 : l ≤ 1048576) (hm : m ≤ topN) {g : Nat → Nat → Int → Option Int} (k : ∀ r, 0 ≤ r → r ≤ 1048576 → Ev (fun n N => g n N r) (subS r t)) :
    Ev (fun n N => cond (decide (W (l - (m : Int)) < 0)) (some (-1)) (g n N (W (l - (m : Int))))) (subS l (m + t)) := by
  simp only [topN] at hm
  rw [W_id (by omega) (by omega)]
  have e : l - (m : Int) < 0 ∨ l - m = subS l m := by unfold subS; split <;> omega
  rw [ev_cond]
  refine ⟨fun h => ?_, fun h => ?_⟩
  · have h := of_decide_eq_true h
    rw [(subS_add h0).1 (by unfold subS; rw [if_neg (by omega)]; omega)]
    exact ev_some.2 rfl
  · have h := of_decide_eq_false h
    have e := e.resolve_left h
    have := (subS_add (l := l) (s := m) (t := t) h0).2 (by rw [← e]; exact h)
    rw [← this.2, ← e]
    exact k _ (by omega) (by omega)
theorem ev_szI {l : Int} {m : Nat} (h0 : 0 ≤ l) (h1 : l ≤ 1048576) (hm : m ≤ topN) :
    Ev (fun _ _ => cond (decide (W (l - (m : Int)) < 0)) (some (-1)) (some (W (l - (m : Int))))) (subS l m) :=
  ev_szL (t := 0) (g := fun _ _ x => some x) h0 h1 hm fun r a b => ev_szE a
theorem sz_list (d : α) (f : α → Nat) (L : Nat → Nat → Int → Nat → Option Int) (a : List α)
    (h1 : ∀ i l, i < a.length → 0 ≤ l → l ≤ 1048576 → ∀ t, (∀ r, 0 ≤ r → r ≤ 1048576 → Ev (fun n N => L n N r (i + 1)) (subS r t)) → Ev (fun n N => L n (N + 1) l i) (subS l (f (a.getD i d) + t)))
    (h2 : ∀ l, Ev (fun n N => L n (N + 1) l a.length) l) (l : Int) (hl : 0 ≤ l) (hl' : l ≤ 1048576) : Ev (fun n _ => L n n l 0) (subS l (sumL f a)) := by
  have key : ∀ j i, j + i = a.length → ∀ l, 0 ≤ l → l ≤ 1048576 → Ev (fun n N => L n N l i) (subS l (sumL f (a.drop i))) := by
    intro j
    induction j with
    | zero =>
      intro i hi l h0 _
      rw [drop_end (by omega)]
      refine ev_round ?_
      have : i = a.length := by omega
      subst this
      rw [show sumL f [] = 0 from rfl, subS_zero h0]
      exact h2 l
    | succ j ih =>
      intro i hi l h0 h1'
      rw [sumL_drop f d (by omega)]
      exact ev_round (h1 i l (by omega) h0 h1' _ fun r a b => ih (i + 1) (by omega) r a b)
  have := key a.length 0 (by omega) l hl hl'
  rw [List.drop_zero] at this
  exact ev_diag (f := fun n N => L n N l 0) this
theorem ev_copy (d : α) (a : List α) (L : Nat → Nat → Nat → List α → Option (List α))
    (h1 : ∀ i s, i < a.length → s.length = a.length → Ev (fun n N => L n N (i + 1) (s.set i (a.getD i d))) a → Ev (fun n N => L n (N + 1) i s) a)
    (h2 : Ev (fun n N => L n (N + 1) a.length a) a) (s : List α) (hs : s.length = a.length) : Ev (fun n _ => L n n 0 s) a := by
  refine ev_up L (fun _ _ => a) (fun i s => s.length = a.length ∧ s.take i = a.take i) a.length (fun i s hI hi k => ?_) s ⟨hs, by simp⟩
  by_cases h : i < a.length
  · exact h1 i s h hI.1 (k _ ⟨by simp [hI.1], take_set d h hI.1 hI.2⟩ h)
  · have e : i = a.length := by omega
    subst e
    have : s = a := by
      have := hI.2
      rwa [List.take_of_length_le (by omega), List.take_of_length_le (Nat.le_refl _)] at this
    subst this
    exact h2
end
end Go.Pi
end
section
set_option linter.unusedVariables false
namespace Go.Pi
def lenQ (c : Nat) (q : TQuery) : Prop := q.where_.length ≤ c ∧ q.show_.length ≤ c
def lenR (c : Nat) (r : List TRow) : Prop := r.length ≤ c ∧ ∀ x ∈ r, x.cells.length ≤ c
def lenV (c : Nat) (v : TView) : Prop := lenQ c v.q ∧ lenR c v.rows ∧ v.kids.length ≤ c
def lenS (c : Nat) (s : TSess) : Prop := lenV c s.view ∧ lenV c s.last
end Go.Pi
end
section
set_option linter.unusedVariables false
set_option maxRecDepth 100000
namespace Go.Pi
abbrev laws_szRowS.K7 : Type := Int → Option Int
theorem laws_szRowS.turn7 {n N : Nat} {k : Int → Option Int} {x0 x1 x2} : laws_szRowS.loop7 n k (N + 1) x0 x1 x2 = laws_szRowS.step7 n k (laws_szRowS.loop7 n k N) x0 x1 x2 := rfl
abbrev laws_szRowSS.K7 : Type := Int → Option Int
theorem laws_szRowSS.turn7 {n N : Nat} {k : Int → Option Int} {x0 x1 x2} : laws_szRowSS.loop7 n k (N + 1) x0 x1 x2 = laws_szRowSS.step7 n k (laws_szRowSS.loop7 n k N) x0 x1 x2 := rfl
abbrev laws_szChangeS.K7 : Type := Int → Option Int
theorem laws_szChangeS.turn7 {n N : Nat} {k : Int → Option Int} {x0 x1 x2} : laws_szChangeS.loop7 n k (N + 1) x0 x1 x2 = laws_szChangeS.step7 n k (laws_szChangeS.loop7 n k N) x0 x1 x2 := rfl
abbrev laws_szChangeSS.K7 : Type := Int → Option Int
theorem laws_szChangeSS.turn7 {n N : Nat} {k : Int → Option Int} {x0 x1 x2} : laws_szChangeSS.loop7 n k (N + 1) x0 x1 x2 = laws_szChangeSS.step7 n k (laws_szChangeSS.loop7 n k N) x0 x1 x2 := rfl
abbrev laws_szSeatS.K7 : Type := Int → Option Int
theorem laws_szSeatS.turn7 {n N : Nat} {k : Int → Option Int} {x0 x1 x2} : laws_szSeatS.loop7 n k (N + 1) x0 x1 x2 = laws_szSeatS.step7 n k (laws_szSeatS.loop7 n k N) x0 x1 x2 := rfl
abbrev laws_toIntS.K4 : Type := (List Int) → Option (List Int)
theorem laws_toIntS.turn4 {n N : Nat} {k : (List Int) → Option (List Int)} {x0 x1 x2} : laws_toIntS.loop4 n k (N + 1) x0 x1 x2 = laws_toIntS.step4 n k (laws_toIntS.loop4 n k N) x0 x1 x2 := rfl
abbrev laws_toRowS.K4 : Type := (List TRow) → Option (List TRow)
theorem laws_toRowS.turn4 {n N : Nat} {k : (List TRow) → Option (List TRow)} {x0 x1 x2} : laws_toRowS.loop4 n k (N + 1) x0 x1 x2 = laws_toRowS.step4 n k (laws_toRowS.loop4 n k N) x0 x1 x2 := rfl
abbrev laws_toRowSS.K4 : Type := (List (List TRow)) → Option (List (List TRow))
theorem laws_toRowSS.turn4 {n N : Nat} {k : (List (List TRow)) → Option (List (List TRow))} {x0 x1 x2} : laws_toRowSS.loop4 n k (N + 1) x0 x1 x2 = laws_toRowSS.step4 n k (laws_toRowSS.loop4 n k N) x0 x1 x2 := rfl
abbrev laws_toChangeS.K4 : Type := (List TChange) → Option (List TChange)
theorem laws_toChangeS.turn4 {n N : Nat} {k : (List TChange) → Option (List TChange)} {x0 x1 x2} : laws_toChangeS.loop4 n k (N + 1) x0 x1 x2 = laws_toChangeS.step4 n k (laws_toChangeS.loop4 n k N) x0 x1 x2 := rfl
abbrev laws_toChangeSS.K4 : Type := (List (List TChange)) → Option (List (List TChange))
theorem laws_toChangeSS.turn4 {n N : Nat} {k : (List (List TChange)) → Option (List (List TChange))} {x0 x1 x2} : laws_toChangeSS.loop4 n k (N + 1) x0 x1 x2 = laws_toChangeSS.step4 n k (laws_toChangeSS.loop4 n k N) x0 x1 x2 := rfl
abbrev laws_toCondS.K4 : Type := (List TCond) → Option (List TCond)
theorem laws_toCondS.turn4 {n N : Nat} {k : (List TCond) → Option (List TCond)} {x0 x1 x2} : laws_toCondS.loop4 n k (N + 1) x0 x1 x2 = laws_toCondS.step4 n k (laws_toCondS.loop4 n k N) x0 x1 x2 := rfl
abbrev laws_toKidS.K4 : Type := (List TKid) → Option (List TKid)
theorem laws_toKidS.turn4 {n N : Nat} {k : (List TKid) → Option (List TKid)} {x0 x1 x2} : laws_toKidS.loop4 n k (N + 1) x0 x1 x2 = laws_toKidS.step4 n k (laws_toKidS.loop4 n k N) x0 x1 x2 := rfl
abbrev laws_toSeatS.K4 : Type := (List TSeat) → Option (List TSeat)
theorem laws_toSeatS.turn4 {n N : Nat} {k : (List TSeat) → Option (List TSeat)} {x0 x1 x2} : laws_toSeatS.loop4 n k (N + 1) x0 x1 x2 = laws_toSeatS.step4 n k (laws_toSeatS.loop4 n k N) x0 x1 x2 := rfl
abbrev spec_SchemaOk.K3 : Type := (List Int) → Option Bool
theorem spec_SchemaOk.turn3 {n N : Nat} {k : (List Int) → Option Bool} {x0 x1} : spec_SchemaOk.loop3 n k (N + 1) x0 x1 = spec_SchemaOk.step3 n k (spec_SchemaOk.loop3 n k N) x0 x1 := rfl
abbrev spec_RowOk.K6 : Type := Option Bool
theorem spec_RowOk.turn6 {n N : Nat} {k : Option Bool} {x0 x1 x2} : spec_RowOk.loop6 n k (N + 1) x0 x1 x2 = spec_RowOk.step6 n k (spec_RowOk.loop6 n k N) x0 x1 x2 := rfl
abbrev spec_RowsOk.K3 : Type := Int → (List TRow) → (List Int) → Option Bool
theorem spec_RowsOk.turn3 {n N : Nat} {k : Int → (List TRow) → (List Int) → Option Bool} {x0 x1 x2 x3} : spec_RowsOk.loop3 n k (N + 1) x0 x1 x2 x3 = spec_RowsOk.step3 n k (spec_RowsOk.loop3 n k N) x0 x1 x2 x3 := rfl
abbrev spec_StoreOk.K6 : Type := Option Bool
theorem spec_StoreOk.turn6 {n N : Nat} {k : Option Bool} {x0 x1 x2 x3} : spec_StoreOk.loop6 n k (N + 1) x0 x1 x2 x3 = spec_StoreOk.step6 n k (spec_StoreOk.loop6 n k N) x0 x1 x2 x3 := rfl
abbrev spec_l6Rows.K4 : Type := (List TRow) → Option (List TRow)
theorem spec_l6Rows.turn4 {n N : Nat} {k : (List TRow) → Option (List TRow)} {x0 x1 x2} : spec_l6Rows.loop4 n k (N + 1) x0 x1 x2 = spec_l6Rows.step4 n k (spec_l6Rows.loop4 n k N) x0 x1 x2 := rfl
abbrev spec_l7Copy.K4 : Type := Int → Int → (List Int) → (List (List TRow)) → Option TStore
theorem spec_l7Copy.turn4 {n N : Nat} {k : Int → Int → (List Int) → (List (List TRow)) → Option TStore} {x0 x1 x2 x3 x4 x5 x6 x7} : spec_l7Copy.loop4 n k (N + 1) x0 x1 x2 x3 x4 x5 x6 x7 = spec_l7Copy.step4 n k (spec_l7Copy.loop4 n k N) x0 x1 x2 x3 x4 x5 x6 x7 := rfl
abbrev spec_RowAt.K3 : Type := Option Int
theorem spec_RowAt.turn3 {n N : Nat} {k : Option Int} {x0 x1 x2} : spec_RowAt.loop3 n k (N + 1) x0 x1 x2 = spec_RowAt.step3 n k (spec_RowAt.loop3 n k N) x0 x1 x2 := rfl
abbrev spec_RowSame.K6 : Type := Option Bool
theorem spec_RowSame.turn6 {n N : Nat} {k : Option Bool} {x0 x1 x2 x3 x4} : spec_RowSame.loop6 n k (N + 1) x0 x1 x2 x3 x4 = spec_RowSame.step6 n k (spec_RowSame.loop6 n k N) x0 x1 x2 x3 x4 := rfl
abbrev spec_RowDrop.K5 : Type := (List TRow) → Option (List TRow)
theorem spec_RowDrop.turn5 {n N : Nat} {k : (List TRow) → Option (List TRow)} {x0 x1 x2 x3} : spec_RowDrop.loop5 n k (N + 1) x0 x1 x2 x3 = spec_RowDrop.step5 n k (spec_RowDrop.loop5 n k N) x0 x1 x2 x3 := rfl
abbrev spec_RowPut.K6 : Type := Int → Int → (List Int) → (List TRow) → Option (List TRow)
theorem spec_RowPut.turn6 {n N : Nat} {k : Int → Int → (List Int) → (List TRow) → Option (List TRow)} {x0 x1 x2 x3 x4} : spec_RowPut.loop6 n k (N + 1) x0 x1 x2 x3 x4 = spec_RowPut.step6 n k (spec_RowPut.loop6 n k N) x0 x1 x2 x3 x4 := rfl
abbrev spec_Forward.K7 : Type := (List Int) → Int → (List (List TRow)) → Int → Int → (List Int) → (List (List TRow)) → Option (TStore × Bool)
theorem spec_Forward.turn7 {n N : Nat} {k : (List Int) → Int → (List (List TRow)) → Int → Int → (List Int) → (List (List TRow)) → Option (TStore × Bool)} {x0 x1 x2 x3 x4 x5 x6 x7 x8} : spec_Forward.loop7 n k (N + 1) x0 x1 x2 x3 x4 x5 x6 x7 x8 = spec_Forward.step7 n k (spec_Forward.loop7 n k N) x0 x1 x2 x3 x4 x5 x6 x7 x8 := rfl
abbrev spec_RecordOk.K4 : Type := (List Int) → Int → (List (List TRow)) → (List (List TChange)) → (List Int) → Int → (List (List TRow)) → Option Bool
theorem spec_RecordOk.turn4 {n N : Nat} {k : (List Int) → Int → (List (List TRow)) → (List (List TChange)) → (List Int) → Int → (List (List TRow)) → Option Bool} {x0 x1 x2 x3 x4 x5 x6 x7} : spec_RecordOk.loop4 n k (N + 1) x0 x1 x2 x3 x4 x5 x6 x7 = spec_RecordOk.step4 n k (spec_RecordOk.loop4 n k N) x0 x1 x2 x3 x4 x5 x6 x7 := rfl
abbrev spec_QueryOk.K7 : Type := Int → (List Int) → Int → (List TCond) → Int → Bool → Int → (List Int) → Bool → Int → Int → Option Bool
theorem spec_QueryOk.turn7 {n N : Nat} {k : Int → (List Int) → Int → (List TCond) → Int → Bool → Int → (List Int) → Bool → Int → Int → Option Bool} {x0 x1 x2 x3 x4 x5 x6 x7 x8 x9 x10 x11} : spec_QueryOk.loop7 n k (N + 1) x0 x1 x2 x3 x4 x5 x6 x7 x8 x9 x10 x11 = spec_QueryOk.step7 n k (spec_QueryOk.loop7 n k N) x0 x1 x2 x3 x4 x5 x6 x7 x8 x9 x10 x11 := rfl
abbrev spec_QueryOk.K16 : Type := Int → (List Int) → Int → (List TCond) → Int → Bool → Int → (List Int) → Bool → Int → Int → Option Bool
theorem spec_QueryOk.turn16 {n N : Nat} {k : Int → (List Int) → Int → (List TCond) → Int → Bool → Int → (List Int) → Bool → Int → Int → Option Bool} {x0 x1 x2 x3 x4 x5 x6 x7 x8 x9 x10 x11} : spec_QueryOk.loop16 n k (N + 1) x0 x1 x2 x3 x4 x5 x6 x7 x8 x9 x10 x11 = spec_QueryOk.step16 n k (spec_QueryOk.loop16 n k N) x0 x1 x2 x3 x4 x5 x6 x7 x8 x9 x10 x11 := rfl
abbrev spec_Matches.K3 : Type := Option Bool
theorem spec_Matches.turn3 {n N : Nat} {k : Option Bool} {x0 x1 x2 x3 x4 x5 x6 x7 x8 x9 x10 x11} : spec_Matches.loop3 n k (N + 1) x0 x1 x2 x3 x4 x5 x6 x7 x8 x9 x10 x11 = spec_Matches.step3 n k (spec_Matches.loop3 n k N) x0 x1 x2 x3 x4 x5 x6 x7 x8 x9 x10 x11 := rfl
abbrev spec_ViewOk.K6 : Type := Int → (List TCond) → Int → Bool → Int → (List Int) → Bool → Int → Int → (List TRow) → (List TKid) → Option Bool
theorem spec_ViewOk.turn6 {n N : Nat} {k : Int → (List TCond) → Int → Bool → Int → (List Int) → Bool → Int → Int → (List TRow) → (List TKid) → Option Bool} {x0 x1 x2 x3 x4 x5 x6 x7 x8 x9 x10 x11 x12} : spec_ViewOk.loop6 n k (N + 1) x0 x1 x2 x3 x4 x5 x6 x7 x8 x9 x10 x11 x12 = spec_ViewOk.step6 n k (spec_ViewOk.loop6 n k N) x0 x1 x2 x3 x4 x5 x6 x7 x8 x9 x10 x11 x12 := rfl
abbrev spec_ViewOk.K15 : Type := Int → (List TCond) → Int → Bool → Int → (List Int) → Bool → Int → Int → (List TRow) → (List TKid) → Option Bool
theorem spec_ViewOk.turn15 {n N : Nat} {k : Int → (List TCond) → Int → Bool → Int → (List Int) → Bool → Int → Int → (List TRow) → (List TKid) → Option Bool} {x0 x1 x2 x3 x4 x5 x6 x7 x8 x9 x10 x11} : spec_ViewOk.loop15 n k (N + 1) x0 x1 x2 x3 x4 x5 x6 x7 x8 x9 x10 x11 = spec_ViewOk.step15 n k (spec_ViewOk.loop15 n k N) x0 x1 x2 x3 x4 x5 x6 x7 x8 x9 x10 x11 := rfl
abbrev spec_l9Conds.K3 : Type := (List TCond) → (List TCond) → Option Bool
theorem spec_l9Conds.turn3 {n N : Nat} {k : (List TCond) → (List TCond) → Option Bool} {x0 x1 x2} : spec_l9Conds.loop3 n k (N + 1) x0 x1 x2 = spec_l9Conds.step3 n k (spec_l9Conds.loop3 n k N) x0 x1 x2 := rfl
abbrev spec_l9Ints.K3 : Type := (List Int) → (List Int) → Option Bool
theorem spec_l9Ints.turn3 {n N : Nat} {k : (List Int) → (List Int) → Option Bool} {x0 x1 x2} : spec_l9Ints.loop3 n k (N + 1) x0 x1 x2 = spec_l9Ints.step3 n k (spec_l9Ints.loop3 n k N) x0 x1 x2 := rfl
abbrev spec_ViewSame.K6 : Type := Int → (List TCond) → Int → Bool → Int → (List Int) → Bool → Int → Int → (List TRow) → (List TKid) → Int → (List TCond) → Int → Bool → Int → (List Int) → Bool → Int → Int → (List TRow) → (List TKid) → Option Bool
theorem spec_ViewSame.turn6 {n N : Nat} {k : Int → (List TCond) → Int → Bool → Int → (List Int) → Bool → Int → Int → (List TRow) → (List TKid) → Int → (List TCond) → Int → Bool → Int → (List Int) → Bool → Int → Int → (List TRow) → (List TKid) → Option Bool} {x0 x1 x2 x3 x4 x5 x6 x7 x8 x9 x10 x11 x12 x13 x14 x15 x16 x17 x18 x19 x20 x21 x22} : spec_ViewSame.loop6 n k (N + 1) x0 x1 x2 x3 x4 x5 x6 x7 x8 x9 x10 x11 x12 x13 x14 x15 x16 x17 x18 x19 x20 x21 x22 = spec_ViewSame.step6 n k (spec_ViewSame.loop6 n k N) x0 x1 x2 x3 x4 x5 x6 x7 x8 x9 x10 x11 x12 x13 x14 x15 x16 x17 x18 x19 x20 x21 x22 := rfl
abbrev spec_ViewSame.K14 : Type := Option Bool
theorem spec_ViewSame.turn14 {n N : Nat} {k : Option Bool} {x0 x1 x2 x3 x4 x5 x6 x7 x8 x9 x10 x11 x12 x13 x14 x15 x16 x17 x18 x19 x20 x21 x22} : spec_ViewSame.loop14 n k (N + 1) x0 x1 x2 x3 x4 x5 x6 x7 x8 x9 x10 x11 x12 x13 x14 x15 x16 x17 x18 x19 x20 x21 x22 = spec_ViewSame.step14 n k (spec_ViewSame.loop14 n k N) x0 x1 x2 x3 x4 x5 x6 x7 x8 x9 x10 x11 x12 x13 x14 x15 x16 x17 x18 x19 x20 x21 x22 := rfl
abbrev spec_ServerOk.K6 : Type := Option Bool
theorem spec_ServerOk.turn6 {n N : Nat} {k : Option Bool} {x0 x1 x2 x3 x4 x5} : spec_ServerOk.loop6 n k (N + 1) x0 x1 x2 x3 x4 x5 = spec_ServerOk.step6 n k (spec_ServerOk.loop6 n k N) x0 x1 x2 x3 x4 x5 := rfl
abbrev impl_copyRows.K4 : Type := (List TRow) → Option (List TRow)
theorem impl_copyRows.turn4 {n N : Nat} {k : (List TRow) → Option (List TRow)} {x0 x1 x2 x3} : impl_copyRows.loop4 n k (N + 1) x0 x1 x2 x3 = impl_copyRows.step4 n k (impl_copyRows.loop4 n k N) x0 x1 x2 x3 := rfl
abbrev impl_copyStore.K4 : Type := Int → Int → (List Int) → (List (List TRow)) → Option TStore
theorem impl_copyStore.turn4 {n N : Nat} {k : Int → Int → (List Int) → (List (List TRow)) → Option TStore} {x0 x1 x2 x3 x4 x5 x6} : impl_copyStore.loop4 n k (N + 1) x0 x1 x2 x3 x4 x5 x6 = impl_copyStore.step4 n k (impl_copyStore.loop4 n k N) x0 x1 x2 x3 x4 x5 x6 := rfl
abbrev impl_SchemaOk.K3 : Type := (List Int) → Option Bool
theorem impl_SchemaOk.turn3 {n N : Nat} {k : (List Int) → Option Bool} {x0 x1 x2 x3} : impl_SchemaOk.loop3 n k (N + 1) x0 x1 x2 x3 = impl_SchemaOk.step3 n k (impl_SchemaOk.loop3 n k N) x0 x1 x2 x3 := rfl
abbrev impl_RowOk.K3 : Type := Int → (List Int) → Int → (List Int) → Option Bool
theorem impl_RowOk.turn3 {n N : Nat} {k : Int → (List Int) → Int → (List Int) → Option Bool} {x0 x1 x2 x3 x4 x5 x6} : impl_RowOk.loop3 n k (N + 1) x0 x1 x2 x3 x4 x5 x6 = impl_RowOk.step3 n k (impl_RowOk.loop3 n k N) x0 x1 x2 x3 x4 x5 x6 := rfl
abbrev impl_RowsOk.K3 : Type := Int → (List TRow) → (List Int) → Option Bool
theorem impl_RowsOk.turn3 {n N : Nat} {k : Int → (List TRow) → (List Int) → Option Bool} {x0 x1 x2 x3 x4 x5} : impl_RowsOk.loop3 n k (N + 1) x0 x1 x2 x3 x4 x5 = impl_RowsOk.step3 n k (impl_RowsOk.loop3 n k N) x0 x1 x2 x3 x4 x5 := rfl
abbrev impl_StoreOk.K6 : Type := Option Bool
theorem impl_StoreOk.turn6 {n N : Nat} {k : Option Bool} {x0 x1 x2 x3 x4 x5} : impl_StoreOk.loop6 n k (N + 1) x0 x1 x2 x3 x4 x5 = impl_StoreOk.step6 n k (impl_StoreOk.loop6 n k N) x0 x1 x2 x3 x4 x5 := rfl
abbrev slices_IndexFunc_Row_impl_RowAt_f1.K3 : Type := Option Int
theorem slices_IndexFunc_Row_impl_RowAt_f1.turn3 {n N : Nat} {k : Option Int} {x0 x1 x2 x3} : slices_IndexFunc_Row_impl_RowAt_f1.loop3 n k (N + 1) x0 x1 x2 x3 = slices_IndexFunc_Row_impl_RowAt_f1.step3 n k (slices_IndexFunc_Row_impl_RowAt_f1.loop3 n k N) x0 x1 x2 x3 := rfl
abbrev slices_Equal_int.K6 : Type := Option Bool
theorem slices_Equal_int.turn6 {n N : Nat} {k : Option Bool} {x0 x1 x2 x3} : slices_Equal_int.loop6 n k (N + 1) x0 x1 x2 x3 = slices_Equal_int.step6 n k (slices_Equal_int.loop6 n k N) x0 x1 x2 x3 := rfl
abbrev slices_IndexFunc_Row_impl_RowPut_f1.K3 : Type := Option Int
theorem slices_IndexFunc_Row_impl_RowPut_f1.turn3 {n N : Nat} {k : Option Int} {x0 x1 x2 x3 x4} : slices_IndexFunc_Row_impl_RowPut_f1.loop3 n k (N + 1) x0 x1 x2 x3 x4 = slices_IndexFunc_Row_impl_RowPut_f1.step3 n k (slices_IndexFunc_Row_impl_RowPut_f1.loop3 n k N) x0 x1 x2 x3 x4 := rfl
abbrev impl_Forward.K7 : Type := Int → Int → (List Int) → (List (List TRow)) → Option (TStore × Bool)
theorem impl_Forward.turn7 {n N : Nat} {k : Int → Int → (List Int) → (List (List TRow)) → Option (TStore × Bool)} {x0 x1 x2 x3 x4 x5 x6 x7 x8 x9} : impl_Forward.loop7 n k (N + 1) x0 x1 x2 x3 x4 x5 x6 x7 x8 x9 = impl_Forward.step7 n k (impl_Forward.loop7 n k N) x0 x1 x2 x3 x4 x5 x6 x7 x8 x9 := rfl
abbrev impl_after.K7 : Type := Int → Int → (List Int) → (List (List TRow)) → Option (TStore × Bool)
theorem impl_after.turn7 {n N : Nat} {k : Int → Int → (List Int) → (List (List TRow)) → Option (TStore × Bool)} {x0 x1 x2 x3 x4 x5 x6} : impl_after.loop7 n k (N + 1) x0 x1 x2 x3 x4 x5 x6 = impl_after.step7 n k (impl_after.loop7 n k N) x0 x1 x2 x3 x4 x5 x6 := rfl
abbrev impl_QueryOk.K7 : Type := Int → (List Int) → Int → (List TCond) → Int → Bool → Int → (List Int) → Bool → Int → Int → Option Bool
theorem impl_QueryOk.turn7 {n N : Nat} {k : Int → (List Int) → Int → (List TCond) → Int → Bool → Int → (List Int) → Bool → Int → Int → Option Bool} {x0 x1 x2 x3 x4 x5 x6 x7 x8 x9 x10 x11 x12 x13} : impl_QueryOk.loop7 n k (N + 1) x0 x1 x2 x3 x4 x5 x6 x7 x8 x9 x10 x11 x12 x13 = impl_QueryOk.step7 n k (impl_QueryOk.loop7 n k N) x0 x1 x2 x3 x4 x5 x6 x7 x8 x9 x10 x11 x12 x13 := rfl
abbrev impl_QueryOk.K16 : Type := Int → (List Int) → Int → (List TCond) → Int → Bool → Int → (List Int) → Bool → Int → Int → Option Bool
theorem impl_QueryOk.turn16 {n N : Nat} {k : Int → (List Int) → Int → (List TCond) → Int → Bool → Int → (List Int) → Bool → Int → Int → Option Bool} {x0 x1 x2 x3 x4 x5 x6 x7 x8 x9 x10 x11 x12 x13} : impl_QueryOk.loop16 n k (N + 1) x0 x1 x2 x3 x4 x5 x6 x7 x8 x9 x10 x11 x12 x13 = impl_QueryOk.step16 n k (impl_QueryOk.loop16 n k N) x0 x1 x2 x3 x4 x5 x6 x7 x8 x9 x10 x11 x12 x13 := rfl
abbrev impl_Matches.K3 : Type := Option Bool
theorem impl_Matches.turn3 {n N : Nat} {k : Option Bool} {x0 x1 x2 x3 x4} : impl_Matches.loop3 n k (N + 1) x0 x1 x2 x3 x4 = impl_Matches.step3 n k (impl_Matches.loop3 n k N) x0 x1 x2 x3 x4 := rfl
abbrev impl_ViewOk.K6 : Type := Int → (List TCond) → Int → Bool → Int → (List Int) → Bool → Int → Int → (List TRow) → (List TKid) → Option Bool
theorem impl_ViewOk.turn6 {n N : Nat} {k : Int → (List TCond) → Int → Bool → Int → (List Int) → Bool → Int → Int → (List TRow) → (List TKid) → Option Bool} {x0 x1 x2 x3 x4 x5 x6 x7 x8 x9 x10 x11 x12 x13 x14} : impl_ViewOk.loop6 n k (N + 1) x0 x1 x2 x3 x4 x5 x6 x7 x8 x9 x10 x11 x12 x13 x14 = impl_ViewOk.step6 n k (impl_ViewOk.loop6 n k N) x0 x1 x2 x3 x4 x5 x6 x7 x8 x9 x10 x11 x12 x13 x14 := rfl
abbrev impl_ViewOk.K15 : Type := Option Bool
theorem impl_ViewOk.turn15 {n N : Nat} {k : Option Bool} {x0 x1 x2 x3 x4 x5 x6 x7 x8 x9 x10 x11 x12 x13} : impl_ViewOk.loop15 n k (N + 1) x0 x1 x2 x3 x4 x5 x6 x7 x8 x9 x10 x11 x12 x13 = impl_ViewOk.step15 n k (impl_ViewOk.loop15 n k N) x0 x1 x2 x3 x4 x5 x6 x7 x8 x9 x10 x11 x12 x13 := rfl
abbrev slices_Equal_Cond.K6 : Type := Option Bool
theorem slices_Equal_Cond.turn6 {n N : Nat} {k : Option Bool} {x0 x1 x2 x3} : slices_Equal_Cond.loop6 n k (N + 1) x0 x1 x2 x3 = slices_Equal_Cond.step6 n k (slices_Equal_Cond.loop6 n k N) x0 x1 x2 x3 := rfl
abbrev slices_EqualFunc_Row_impl_RowSame.K6 : Type := Option Bool
theorem slices_EqualFunc_Row_impl_RowSame.turn6 {n N : Nat} {k : Option Bool} {x0 x1 x2 x3} : slices_EqualFunc_Row_impl_RowSame.loop6 n k (N + 1) x0 x1 x2 x3 = slices_EqualFunc_Row_impl_RowSame.step6 n k (slices_EqualFunc_Row_impl_RowSame.loop6 n k N) x0 x1 x2 x3 := rfl
abbrev slices_Equal_Kid.K6 : Type := Option Bool
theorem slices_Equal_Kid.turn6 {n N : Nat} {k : Option Bool} {x0 x1 x2 x3} : slices_Equal_Kid.loop6 n k (N + 1) x0 x1 x2 x3 = slices_Equal_Kid.step6 n k (slices_Equal_Kid.loop6 n k N) x0 x1 x2 x3 := rfl
abbrev impl_ServerOk.K6 : Type := Option Bool
theorem impl_ServerOk.turn6 {n N : Nat} {k : Option Bool} {x0 x1 x2 x3 x4 x5 x6 x7} : impl_ServerOk.loop6 n k (N + 1) x0 x1 x2 x3 x4 x5 x6 x7 = impl_ServerOk.step6 n k (impl_ServerOk.loop6 n k N) x0 x1 x2 x3 x4 x5 x6 x7 := rfl
abbrev laws_eqIntS.K6 : Type := Option Bool
theorem laws_eqIntS.turn6 {n N : Nat} {k : Option Bool} {x0 x1 x2} : laws_eqIntS.loop6 n k (N + 1) x0 x1 x2 = laws_eqIntS.step6 n k (laws_eqIntS.loop6 n k N) x0 x1 x2 := rfl
abbrev laws_eqRowS.K6 : Type := Option Bool
theorem laws_eqRowS.turn6 {n N : Nat} {k : Option Bool} {x0 x1 x2} : laws_eqRowS.loop6 n k (N + 1) x0 x1 x2 = laws_eqRowS.step6 n k (laws_eqRowS.loop6 n k N) x0 x1 x2 := rfl
abbrev laws_eqRowSS.K6 : Type := Option Bool
theorem laws_eqRowSS.turn6 {n N : Nat} {k : Option Bool} {x0 x1 x2} : laws_eqRowSS.loop6 n k (N + 1) x0 x1 x2 = laws_eqRowSS.step6 n k (laws_eqRowSS.loop6 n k N) x0 x1 x2 := rfl
abbrev laws_eqChangeS.K6 : Type := Option Bool
theorem laws_eqChangeS.turn6 {n N : Nat} {k : Option Bool} {x0 x1 x2} : laws_eqChangeS.loop6 n k (N + 1) x0 x1 x2 = laws_eqChangeS.step6 n k (laws_eqChangeS.loop6 n k N) x0 x1 x2 := rfl
abbrev laws_eqChangeSS.K6 : Type := Option Bool
theorem laws_eqChangeSS.turn6 {n N : Nat} {k : Option Bool} {x0 x1 x2} : laws_eqChangeSS.loop6 n k (N + 1) x0 x1 x2 = laws_eqChangeSS.step6 n k (laws_eqChangeSS.loop6 n k N) x0 x1 x2 := rfl
abbrev laws_eqCondS.K6 : Type := Option Bool
theorem laws_eqCondS.turn6 {n N : Nat} {k : Option Bool} {x0 x1 x2} : laws_eqCondS.loop6 n k (N + 1) x0 x1 x2 = laws_eqCondS.step6 n k (laws_eqCondS.loop6 n k N) x0 x1 x2 := rfl
abbrev laws_eqKidS.K6 : Type := Option Bool
theorem laws_eqKidS.turn6 {n N : Nat} {k : Option Bool} {x0 x1 x2} : laws_eqKidS.loop6 n k (N + 1) x0 x1 x2 = laws_eqKidS.step6 n k (laws_eqKidS.loop6 n k N) x0 x1 x2 := rfl
abbrev laws_eqSeatS.K6 : Type := Option Bool
theorem laws_eqSeatS.turn6 {n N : Nat} {k : Option Bool} {x0 x1 x2} : laws_eqSeatS.loop6 n k (N + 1) x0 x1 x2 = laws_eqSeatS.step6 n k (laws_eqSeatS.loop6 n k N) x0 x1 x2 := rfl
end Go.Pi
end
section
set_option linter.unusedVariables false
set_option maxRecDepth 100000
set_option linter.unusedSimpArgs false
namespace Go.Pi
def allFrom (p : Nat → Bool) : Nat → Nat → Bool
  | 0, _ => true
  | d + 1, i => p i && allFrom p d (i + 1)
def allN (p : Nat → Bool) (len : Nat) : Bool := allFrom p len 0
theorem ev_all (L : Nat → Nat → Nat → Option Bool) (p : Nat → Bool) {len : Nat} {v : Bool}
    (h : ∀ i w, i < len → Ev (fun n N => L n N (i + 1)) w → Ev (fun n N => L n (N + 1) i) (p i && w)) (h2 : Ev (fun n N => L n (N + 1) len) v) :
    Ev (fun n _ => L n n 0) (allN p len && v) := by
  have key : ∀ d i, d + i = len → Ev (fun n N => L n N i) (allFrom p d i && v) := by
    intro d
    induction d with
    | zero => intro i hd; obtain rfl : i = len := by omega
              simpa [allFrom] using ev_round (f := fun n N => L n N i) h2
    | succ d ih => intro i hd
                   have := h i _ (by omega) (ih (i + 1) (by omega))
                   rw [← Bool.and_assoc] at this
                   exact ev_round (f := fun n N => L n N i) this
  exact ev_diag (f := fun n N => L n N 0) (key len 0 (by omega))
theorem ev_congr {α : Type} {f : Nat → Nat → Option α} {v w : α} (h : Ev f v) (e : v = w) : Ev f w := e ▸ h
def inn (x lo hi : Int) : Bool := decide (lo ≤ x) && decide (x ≤ hi)
theorem inn_iff {x lo hi : Int} : inn x lo hi = true ↔ lo ≤ x ∧ x ≤ hi := by simp [inn]
theorem l1In_ev {x lo hi : Int} : Ev (fun n _ => spec_l1In n x lo hi) (inn x lo hi) := by
  refine ev_succ ?_
  simp only [spec_l1In, ev_cond, ev_some, inn]
  grind
theorem within_ev {x lo hi : Int} : Ev (fun n _ => impl_within n x lo hi) (inn x lo hi) := by
  refine ev_succ ?_
  simp only [impl_within, ev_cond, ev_some, inn]
  grind
section
variable {β : Type} {x lo hi : Int} {g : Nat → Nat → Bool → Option β} {v : β}
theorem l1In_b : Ev (fun n N => (spec_l1In n x lo hi).bind (g n N)) v ↔ Ev (fun n N => g n N (inn x lo hi)) v := ev_bind l1In_ev
theorem within_b : Ev (fun n N => (impl_within n x lo hi).bind (g n N)) v ↔ Ev (fun n N => g n N (inn x lo hi)) v := ev_bind within_ev
theorem hasTable_b {s : TSchema} : Ev (fun n N => (impl_hasTable n s x).bind (g n N)) v ↔ Ev (fun n N => g n N (inn x 0 (W ((s.cols.length : Int) - 1)))) v :=
  ev_bind (ev_succ (by simp only [impl_hasTable, within_b, ev_some]))
theorem isNum_b : Ev (fun n N => (impl_isNum n x).bind (g n N)) v ↔ Ev (fun n N => g n N (inn x (-1000000000) 1000000000)) v :=
  ev_bind (ev_succ (by simp only [impl_isNum, within_b, ev_some]))
theorem isVersion_b : Ev (fun n N => (impl_isVersion n x).bind (g n N)) v ↔ Ev (fun n N => g n N (inn x 0 100000)) v :=
  ev_bind (ev_succ (by simp only [impl_isVersion, within_b, ev_some]))
end
theorem lt_up {i len : Nat} (h : i < len) : decide ((i : Int) < (len : Int)) = true := by simp; omega
theorem lt_end {len : Nat} : decide ((len : Int) < (len : Int)) = false := by simp
theorem in_up {i len : Nat} (h : i < len) : ((0 : Int) ≤ (i : Int) ∧ (i : Int) < (len : Int)) ↔ True := by simp; omega
def FSchema (s : TSchema) : Bool := allN (fun i => inn (s.cols.getD i 0) 1 4) s.cols.length && inn s.cols.length 1 3
theorem spec_SchemaOk_ev {s : TSchema} (hs : s.cols.length ≤ topN) : Ev (fun n _ => spec_SchemaOk n s) (FSchema s) := by
  refine ev_succ ?_
  simp only [spec_SchemaOk]
  refine ev_all (fun n N i => spec_SchemaOk.loop3 n _ N (i : Int) s.cols) _ (fun i w hi ih => ?_) ?_
  · simp only [spec_SchemaOk.turn3, spec_SchemaOk.step3, Int.toNat_natCast, ev_cond, ev_inB, l1In_b, ev_some, W_up hi hs, ev_iff ih, lt_up hi, in_up hi]
    grind
  · simp only [spec_SchemaOk.turn3, spec_SchemaOk.step3, lt_end, cond_false, l1In_b, ev_some]
theorem impl_SchemaOk_ev {s : TSchema} (hs : s.cols.length ≤ topN) : Ev (fun n _ => impl_SchemaOk n s) (FSchema s) := by
  refine ev_succ ?_
  simp only [impl_SchemaOk]
  refine ev_all (fun n N i => impl_SchemaOk.loop3 n _ N s.cols (s.cols.length : Int) (i : Int) s.cols) _ (fun i w hi ih => ?_) ?_
  · simp only [impl_SchemaOk.turn3, impl_SchemaOk.step3, Int.toNat_natCast, ev_cond, ev_inB, within_b, ev_some, W_up hi hs, ev_iff ih, lt_up hi, in_up hi]
    grind
  · simp only [impl_SchemaOk.turn3, impl_SchemaOk.step3, lt_end, cond_false, within_b, ev_some]
end Go.Pi
end
section
set_option linter.unusedVariables false
set_option maxRecDepth 100000
set_option linter.unusedSimpArgs false
namespace Go.Pi
theorem W_dn {i : Nat} (h : i ≤ topN) : W ((i : Int) - 1) = (i : Int) - 1 := by
  rw [W_id (by omega) (by simp only [topN] at h; omega)]
theorem toNat_dn {i : Nat} : ((i : Int) - 1).toNat = i - 1 := by omega
theorem inn_true {x lo hi : Int} (h : inn x lo hi = true) : lo ≤ x ∧ x ≤ hi := inn_iff.1 h
def FConds (w : Int) (c : List TCond) : Bool := allN (fun i => inn (c.getD i TCond.dflt).col 0 (W (w - 1)) && (inn (c.getD i TCond.dflt).op 1 4 && inn (c.getD i TCond.dflt).v (-1000000000) 1000000000)) c.length
def FShow (w : Int) (s : List Int) : Bool := allN (fun i => inn (s.getD i 0) 0 (W (w - 1)) && (decide (i = 0) || decide (s.getD (i - 1) 0 < s.getD i 0))) s.length
def FKids (s : TSchema) (q : TQuery) : Bool := cond q.kids (inn q.kidTable 0 (W ((s.cols.length : Int) - 1)) && inn q.kidCol 0 (W ((s.cols.getD q.kidTable.toNat 0) - 1))) ((q.kidTable == 0) && (q.kidCol == 0))
def FQuery (s : TSchema) (q : TQuery) : Bool := FSchema s && (inn q.table 0 (W ((s.cols.length : Int) - 1)) && (decide (q.where_.length ≤ 3) && (FConds (s.cols.getD q.table.toNat 0) q.where_ && (FShow (s.cols.getD q.table.toNat 0) q.show_ &&
  (inn q.order 0 (s.cols.getD q.table.toNat 0) && (inn q.first 0 24 && (!((q.order == 0) && q.down) && FKids s q)))))))
section
variable {w : Int} {cols sh : List Int} {wh : List TCond} {t o f kt kc : Int} {d ks v : Bool}
theorem spec_QueryOk_loop7 {k : Nat → spec_QueryOk.K7} (hl : wh.length ≤ topN) (hk : Ev (fun n N => k n w cols t wh o d f sh ks kt kc) v) :
    Ev (fun n _ => spec_QueryOk.loop7 n (k n) n w 0 cols t wh o d f sh ks kt kc) (FConds w wh && v) := by
  refine ev_all (fun n N i => spec_QueryOk.loop7 n (k n) N w (i : Int) cols t wh o d f sh ks kt kc) _ (fun i u hi ih => ?_) ?_
  · simp only [spec_QueryOk.turn7, spec_QueryOk.step7, Int.toNat_natCast, W_up hi hl, ev_cond, ev_inB, l1In_b, ev_some, ev_iff ih, lt_up hi, in_up hi]
    clear ih hk
    repeat' (first | apply And.intro | intro _)
    all_goals (try rw [Bool.eq_iff_iff])
    all_goals (try simp only [Bool.not_eq_true', Bool.not_eq_false', decide_eq_true_eq, decide_eq_false_iff_not, beq_iff_eq, beq_eq_false_iff_ne, Bool.and_eq_true, Bool.or_eq_true, Bool.and_eq_false_iff, Bool.or_eq_false_iff] at *)
    all_goals grind
  · simp only [spec_QueryOk.turn7, spec_QueryOk.step7, lt_end, cond_false]
    exact hk
theorem spec_QueryOk_loop16 {k : Nat → spec_QueryOk.K16} (hl : sh.length ≤ topN) (hk : Ev (fun n N => k n w cols t wh o d f sh ks kt kc) v) :
    Ev (fun n _ => spec_QueryOk.loop16 n (k n) n w 0 cols t wh o d f sh ks kt kc) (FShow w sh && v) := by
  refine ev_all (fun n N i => spec_QueryOk.loop16 n (k n) N w (i : Int) cols t wh o d f sh ks kt kc) _ (fun i u hi ih => ?_) ?_
  · simp only [spec_QueryOk.turn16, spec_QueryOk.step16, Int.toNat_natCast, W_up hi hl, W_dn (i := i) (by omega), toNat_dn, ev_cond, ev_inB, l1In_b, ev_some, ev_iff ih, lt_up hi, in_up hi]
    clear ih hk
    repeat' (first | apply And.intro | intro _)
    all_goals (try rw [Bool.eq_iff_iff])
    all_goals (try simp only [Bool.not_eq_true', Bool.not_eq_false', decide_eq_true_eq, decide_eq_false_iff_not, beq_iff_eq, beq_eq_false_iff_ne, Bool.and_eq_true, Bool.or_eq_true, Bool.and_eq_false_iff, Bool.or_eq_false_iff] at *)
    all_goals grind
  · simp only [spec_QueryOk.turn16, spec_QueryOk.step16, lt_end, cond_false]
    exact hk
theorem impl_QueryOk_loop7 {k : Nat → impl_QueryOk.K7} (hl : wh.length ≤ topN) (hk : Ev (fun n N => k n w cols t wh o d f sh ks kt kc) v) :
    Ev (fun n _ => impl_QueryOk.loop7 n (k n) n w wh (wh.length : Int) 0 cols t wh o d f sh ks kt kc) (FConds w wh && v) := by
  refine ev_all (fun n N i => impl_QueryOk.loop7 n (k n) N w wh (wh.length : Int) (i : Int) cols t wh o d f sh ks kt kc) _ (fun i u hi ih => ?_) ?_
  · simp only [impl_QueryOk.turn7, impl_QueryOk.step7, Int.toNat_natCast, W_up hi hl, ev_cond, ev_inB, within_b, isNum_b, ev_some, ev_iff ih, lt_up hi, in_up hi]
    clear ih hk
    repeat' (first | apply And.intro | intro _)
    all_goals (try rw [Bool.eq_iff_iff])
    all_goals (try simp only [Bool.not_eq_true', Bool.not_eq_false', decide_eq_true_eq, decide_eq_false_iff_not, beq_iff_eq, beq_eq_false_iff_ne, Bool.and_eq_true, Bool.or_eq_true, Bool.and_eq_false_iff, Bool.or_eq_false_iff] at *)
    all_goals grind
  · simp only [impl_QueryOk.turn7, impl_QueryOk.step7, lt_end, cond_false]
    exact hk
theorem impl_QueryOk_loop16 {k : Nat → impl_QueryOk.K16} (hl : sh.length ≤ topN) (hk : Ev (fun n N => k n w cols t wh o d f sh ks kt kc) v) :
    Ev (fun n _ => impl_QueryOk.loop16 n (k n) n w sh (sh.length : Int) 0 cols t wh o d f sh ks kt kc) (FShow w sh && v) := by
  refine ev_all (fun n N i => impl_QueryOk.loop16 n (k n) N w sh (sh.length : Int) (i : Int) cols t wh o d f sh ks kt kc) _ (fun i u hi ih => ?_) ?_
  · simp only [impl_QueryOk.turn16, impl_QueryOk.step16, Int.toNat_natCast, W_up hi hl, W_dn (i := i) (by omega), toNat_dn, ev_cond, ev_inB, within_b, ev_some, ev_iff ih, lt_up hi, in_up hi]
    clear ih hk
    repeat' (first | apply And.intro | intro _)
    all_goals (try rw [Bool.eq_iff_iff])
    all_goals (try simp only [Bool.not_eq_true', Bool.not_eq_false', decide_eq_true_eq, decide_eq_false_iff_not, beq_iff_eq, beq_eq_false_iff_ne, Bool.and_eq_true, Bool.or_eq_true, Bool.and_eq_false_iff, Bool.or_eq_false_iff] at *)
    all_goals grind
  · simp only [impl_QueryOk.turn16, impl_QueryOk.step16, lt_end, cond_false]
    exact hk
end
theorem spec_SchemaOk_b {β : Type} {s : TSchema} (hs : s.cols.length ≤ topN) {g : Nat → Nat → Bool → Option β} {v : β} : Ev (fun n N => (spec_SchemaOk n s).bind (g n N)) v ↔ Ev (fun n N => g n N (FSchema s)) v := ev_bind (spec_SchemaOk_ev hs)
theorem impl_SchemaOk_b {β : Type} {s : TSchema} (hs : s.cols.length ≤ topN) {g : Nat → Nat → Bool → Option β} {v : β} : Ev (fun n N => (impl_SchemaOk n s).bind (g n N)) v ↔ Ev (fun n N => g n N (FSchema s)) v := ev_bind (impl_SchemaOk_ev hs)
theorem kidsFit_ev {s : TSchema} {q : TQuery} (hs : s.cols.length ≤ topN) : Ev (fun n _ => impl_kidsFit n s q) (FKids s q) := by
  refine ev_succ ?_
  simp only [impl_kidsFit, ev_cond, hasTable_b, ev_inB, within_b, ev_some, FKids]
  have e := @W_dn s.cols.length hs
  rw [e]
  repeat' (first | apply And.intro | intro _)
  all_goals (try rw [Bool.eq_iff_iff])
  all_goals (try simp only [inn, cond_true, cond_false, Bool.not_eq_true', Bool.not_eq_false', decide_eq_true_eq, decide_eq_false_iff_not, beq_iff_eq, beq_eq_false_iff_ne, Bool.and_eq_true, Bool.or_eq_true, Bool.and_eq_false_iff, Bool.or_eq_false_iff] at *)
  all_goals grind
theorem spec_QueryOk_ev {s : TSchema} {q : TQuery} (hs : s.cols.length ≤ topN) (hq : lenQ topN q) : Ev (fun n _ => spec_QueryOk n s q) (FQuery s q) := by
  refine ev_succ ?_
  have e := @W_dn s.cols.length hs
  simp only [spec_QueryOk, spec_SchemaOk_b hs, l1In_b, ev_cond, ev_inB, ev_some]
  refine ⟨fun h => by simp at h; simp [FQuery, h], fun h1 => ⟨fun h => by simp at h; simp [FQuery, h], fun h2 => ⟨fun h => by simp at h; simp [FQuery]; grind, fun h3 => ⟨by simp at h2; have := inn_true h2; omega, ?_⟩⟩⟩⟩
  refine ev_congr (spec_QueryOk_loop7 (k := fun n => _) hq.1 (spec_QueryOk_loop16 (k := fun n => _) (v := inn q.order 0 (s.cols.getD q.table.toNat 0) && (inn q.first 0 24 && (!((q.order == 0) && q.down) && FKids s q))) hq.2 ?_)) ?_
  · simp only [l1In_b, ev_cond, ev_inB, ev_some, FKids]
    repeat' (first | apply And.intro | intro _)
    all_goals (try rw [Bool.eq_iff_iff])
    all_goals (try simp only [inn, cond_true, cond_false, Bool.not_eq_true', Bool.not_eq_false', decide_eq_true_eq, decide_eq_false_iff_not, beq_iff_eq, beq_eq_false_iff_ne, Bool.and_eq_true, Bool.or_eq_true, Bool.and_eq_false_iff, Bool.or_eq_false_iff] at *)
    all_goals grind
  · simp [FQuery]; grind
theorem impl_QueryOk_ev {s : TSchema} {q : TQuery} (hs : s.cols.length ≤ topN) (hq : lenQ topN q) : Ev (fun n _ => impl_QueryOk n s q) (FQuery s q) := by
  refine ev_succ ?_
  have e := @W_dn s.cols.length hs
  simp only [impl_QueryOk, impl_SchemaOk_b hs, hasTable_b, ev_cond, ev_inB, ev_some]
  refine ⟨fun h => by simp at h; simp [FQuery, h], fun h1 => ⟨fun h => by simp at h; simp [FQuery, h], fun h2 => ⟨by simp at h2; have := inn_true h2; omega, ?_⟩⟩⟩
  refine ev_congr (impl_QueryOk_loop7 (k := fun n => _) hq.1 (impl_QueryOk_loop16 (k := fun n => _) (v := inn q.order 0 (s.cols.getD q.table.toNat 0) && (decide (q.where_.length ≤ 3) && (inn q.first 0 24 && (!((q.order == 0) && q.down) && FKids s q)))) hq.2 ?_)) ?_
  · simp only [within_b, ev_bind (kidsFit_ev (s := s) (q := q) hs), ev_cond, ev_inB, ev_some]
    repeat' (first | apply And.intro | intro _)
    all_goals (try rw [Bool.eq_iff_iff])
    all_goals (try simp only [inn, cond_true, cond_false, Bool.not_eq_true', Bool.not_eq_false', decide_eq_true_eq, decide_eq_false_iff_not, beq_iff_eq, beq_eq_false_iff_ne, Bool.and_eq_true, Bool.or_eq_true, Bool.and_eq_false_iff, Bool.or_eq_false_iff] at *)
    all_goals grind
  · simp [FQuery]; grind
end Go.Pi
end
section
set_option linter.unusedVariables false
set_option maxRecDepth 100000
set_option linter.unusedSimpArgs false
namespace Go.Pi
def foldFrom {α : Type} (s : Nat → α → α) (v : α) : Nat → Nat → α
  | 0, _ => v
  | d + 1, i => s i (foldFrom s v d (i + 1))
theorem ev_fold {α : Type} (L : Nat → Nat → Nat → Option α) (s : Nat → α → α) {len : Nat} {v : α}
    (h : ∀ i w, i < len → Ev (fun n N => L n N (i + 1)) w → Ev (fun n N => L n (N + 1) i) (s i w)) (h2 : Ev (fun n N => L n (N + 1) len) v) :
    Ev (fun n _ => L n n 0) (foldFrom s v len 0) := by
  have key : ∀ d i, d + i = len → Ev (fun n N => L n N i) (foldFrom s v d i) := by
    intro d
    induction d with
    | zero => intro i hd; obtain rfl : i = len := by omega
              exact ev_round (f := fun n N => L n N i) h2
    | succ d ih => intro i hd
                   exact ev_round (f := fun n N => L n N i) (h i _ (by omega) (ih (i + 1) (by omega)))
  exact ev_diag (f := fun n N => L n N 0) (key len 0 (by omega))
def FCells (c : List Int) : Bool := allN (fun i => inn (c.getD i 0) (-1000000000) 1000000000) c.length
def FRow (s : TSchema) (t : Int) (r : TRow) : Bool := FSchema s && (inn t 0 (W ((s.cols.length : Int) - 1)) && (inn r.id_ 1 999 && (decide ((r.cells.length : Int) = s.cols.getD t.toNat 0) && FCells r.cells)))
theorem spec_RowOk_ev {s : TSchema} {t : Int} {r : TRow} (hs : s.cols.length ≤ topN) (hr : r.cells.length ≤ topN) : Ev (fun n _ => spec_RowOk n s t r) (FRow s t r) := by
  refine ev_succ ?_
  have e := @W_dn s.cols.length hs
  have hl : Ev (fun n _ => spec_RowOk.loop6 n (some true) n 0 r.id_ r.cells) (FCells r.cells && true) := by
    refine ev_all (fun n N i => spec_RowOk.loop6 n (some true) N (i : Int) r.id_ r.cells) _ (fun i u hi ih => ?_) ?_
    · simp only [spec_RowOk.turn6, spec_RowOk.step6, Int.toNat_natCast, W_up hi hr, ev_cond, ev_inB, l1In_b, ev_some, ev_iff ih, lt_up hi, in_up hi]
      clear ih
      grind
    · simp only [spec_RowOk.turn6, spec_RowOk.step6, lt_end, cond_false, ev_some]
  simp only [spec_RowOk, spec_SchemaOk_b hs, l1In_b, ev_cond, ev_inB, ev_some, ev_iff hl]
  clear hl
  repeat' (first | apply And.intro | intro _)
  all_goals (try rw [Bool.eq_iff_iff])
  all_goals (try simp only [FRow, inn, bne_iff_ne, bne_eq_false_iff_eq, Bool.not_eq_true', Bool.not_eq_false', decide_eq_true_eq, decide_eq_false_iff_not, beq_iff_eq, beq_eq_false_iff_ne, Bool.and_eq_true, Bool.or_eq_true, Bool.and_eq_false_iff, Bool.or_eq_false_iff] at *)
  all_goals grind
theorem impl_RowOk_ev {s : TSchema} {t : Int} {r : TRow} (hs : s.cols.length ≤ topN) (hr : r.cells.length ≤ topN) : Ev (fun n _ => impl_RowOk n s t r) (FRow s t r) := by
  refine ev_succ ?_
  have e := @W_dn s.cols.length hs
  simp only [impl_RowOk]
  have hl : ∀ {k : Nat → impl_RowOk.K3} {v : Bool}, Ev (fun n N => k n t s.cols r.id_ r.cells) v → Ev (fun n _ => impl_RowOk.loop3 n (k n) n t r.cells (r.cells.length : Int) 0 s.cols r.id_ r.cells) (FCells r.cells && v) := by
    intro k v hk
    refine ev_all (fun n N i => impl_RowOk.loop3 n (k n) N t r.cells (r.cells.length : Int) (i : Int) s.cols r.id_ r.cells) _ (fun i u hi ih => ?_) ?_
    · simp only [impl_RowOk.turn3, impl_RowOk.step3, Int.toNat_natCast, W_up hi hr, ev_cond, ev_inB, isNum_b, ev_some, ev_iff ih, lt_up hi, in_up hi]
      clear ih hk
      grind
    · simp only [impl_RowOk.turn3, impl_RowOk.step3, lt_end, cond_false]
      exact hk
  refine ev_congr (hl (k := fun n => _) (v := FSchema s && (inn t 0 (W ((s.cols.length : Int) - 1)) && (decide ((r.cells.length : Int) = s.cols.getD t.toNat 0) && inn r.id_ 1 999))) ?_) ?_
  · have hS : ∀ {g : Nat → Nat → Bool → Option Bool} {v : Bool}, Ev (fun n N => (impl_SchemaOk n (TSchema.mk s.cols)).bind (g n N)) v ↔ Ev (fun n N => g n N (FSchema s)) v := impl_SchemaOk_b hs
    simp only [hS, hasTable_b, within_b, ev_cond, ev_inB, ev_some]
    clear hl hS
    repeat' (first | apply And.intro | intro _)
    all_goals (try rw [Bool.eq_iff_iff])
    all_goals (try simp only [inn, bne_iff_ne, bne_eq_false_iff_eq, Bool.not_eq_true', Bool.not_eq_false', decide_eq_true_eq, decide_eq_false_iff_not, beq_iff_eq, beq_eq_false_iff_ne, Bool.and_eq_true, Bool.or_eq_true, Bool.and_eq_false_iff, Bool.or_eq_false_iff] at *)
    all_goals grind
  · clear hl; rw [Bool.eq_iff_iff]; simp only [FRow, Bool.and_eq_true]; grind
def FHolds (c : TCond) (r : TRow) : Bool := inn c.col 0 (W ((r.cells.length : Int) - 1)) && (cond (c.op == 1) (r.cells.getD c.col.toNat 0 == c.v) (cond (c.op == 2) (decide (r.cells.getD c.col.toNat 0 < c.v)) (cond (c.op == 3) (decide (r.cells.getD c.col.toNat 0 > c.v)) (cond (c.op == 4) (r.cells.getD c.col.toNat 0 != c.v) false))))
theorem spec_l9Holds_ev {c : TCond} {r : TRow} (hr : r.cells.length ≤ topN) : Ev (fun n _ => spec_l9Holds n c r) (FHolds c r) := by
  refine ev_succ ?_
  have e := @W_dn r.cells.length hr
  simp only [spec_l9Holds, l1In_b, ev_cond, ev_inB, ev_some, FHolds]
  repeat' (first | apply And.intro | intro _)
  all_goals (try simp only [inn, Bool.not_eq_true', Bool.not_eq_false', decide_eq_true_eq, decide_eq_false_iff_not, Bool.and_eq_true, Bool.and_eq_false_iff] at *)
  all_goals simp_all
  all_goals omega
theorem holds_ev {c : TCond} {r : TRow} (hr : r.cells.length ≤ topN) : Ev (fun n _ => impl_holds n c r) (FHolds c r) := by
  refine ev_succ ?_
  have e := @W_dn r.cells.length hr
  simp only [impl_holds, within_b, ev_cond, ev_inB, ev_some, FHolds]
  repeat' (first | apply And.intro | intro _)
  all_goals (try simp only [inn, Bool.not_eq_true', Bool.not_eq_false', decide_eq_true_eq, decide_eq_false_iff_not, Bool.and_eq_true, Bool.and_eq_false_iff] at *)
  all_goals simp_all
  all_goals omega
def FMatches (q : TQuery) (r : TRow) : Bool := allN (fun i => FHolds (q.where_.getD i TCond.dflt) r) q.where_.length
theorem spec_Matches_ev {q : TQuery} {r : TRow} (hq : q.where_.length ≤ topN) (hr : r.cells.length ≤ topN) : Ev (fun n _ => spec_Matches n q r) (FMatches q r) := by
  refine ev_succ ?_
  simp only [spec_Matches]
  have hH : ∀ (c : TCond) (g : Nat → Nat → Bool → Option Bool) (v : Bool), Ev (fun n N => (spec_l9Holds n c (TRow.mk r.id_ r.cells)).bind (g n N)) v ↔ Ev (fun n N => g n N (FHolds c r)) v := fun c g v => ev_bind (spec_l9Holds_ev hr)
  refine ev_congr (ev_all (fun n N i => spec_Matches.loop3 n (some true) N (i : Int) q.table q.where_ q.order q.down q.first q.show_ q.kids q.kidTable q.kidCol r.id_ r.cells) (fun i => FHolds (q.where_.getD i TCond.dflt) r) (len := q.where_.length) (v := true) (fun i u hi ih => ?_) ?_) (by rw [Bool.and_true]; rfl)
  · simp only [spec_Matches.turn3, spec_Matches.step3, Int.toNat_natCast, W_up hi hq, ev_cond, ev_inB, hH, ev_some, ev_iff ih, lt_up hi, in_up hi]
    clear ih hH
    grind
  · simp only [spec_Matches.turn3, spec_Matches.step3, lt_end, cond_false, ev_some]
theorem impl_Matches_ev {q : TQuery} {r : TRow} (hq : q.where_.length ≤ topN) (hr : r.cells.length ≤ topN) : Ev (fun n _ => impl_Matches n q r) (FMatches q r) := by
  refine ev_succ ?_
  simp only [impl_Matches]
  have hH : ∀ (c : TCond) (g : Nat → Nat → Bool → Option Bool) (v : Bool), Ev (fun n N => (impl_holds n c (TRow.mk r.id_ r.cells)).bind (g n N)) v ↔ Ev (fun n N => g n N (FHolds c r)) v := fun c g v => ev_bind (holds_ev hr)
  refine ev_congr (ev_all (fun n N i => impl_Matches.loop3 n (some true) N q.where_ (q.where_.length : Int) (i : Int) r.id_ r.cells) (fun i => FHolds (q.where_.getD i TCond.dflt) r) (len := q.where_.length) (v := true) (fun i u hi ih => ?_) ?_) (by rw [Bool.and_true]; rfl)
  · simp only [impl_Matches.turn3, impl_Matches.step3, Int.toNat_natCast, W_up hi hq, ev_cond, ev_inB, hH, ev_some, ev_iff ih, lt_up hi, in_up hi]
    clear ih hH
    grind
  · simp only [impl_Matches.turn3, impl_Matches.step3, lt_end, cond_false, ev_some]
def FRowAt (rows : List TRow) (id : Int) : Int := foldFrom (fun i x => cond ((rows.getD i TRow.dflt).id_ == id) (i : Int) x) (-1) rows.length 0
theorem spec_RowAt_ev {rows : List TRow} {id : Int} (hr : rows.length ≤ topN) : Ev (fun n _ => spec_RowAt n rows id) (FRowAt rows id) := by
  refine ev_succ ?_
  simp only [spec_RowAt]
  refine ev_fold (fun n N i => spec_RowAt.loop3 n (some (-1)) N rows id (i : Int)) _ (fun i u hi ih => ?_) ?_
  · simp only [spec_RowAt.turn3, spec_RowAt.step3, Int.toNat_natCast, W_up hi hr, ev_cond, ev_inB, ev_some, ev_iff ih, lt_up hi, in_up hi]
    clear ih
    grind
  · simp only [spec_RowAt.turn3, spec_RowAt.step3, lt_end, cond_false, ev_some]
theorem impl_RowAt_ev {rows : List TRow} {id : Int} (hr : rows.length ≤ topN) : Ev (fun n _ => impl_RowAt n rows id) (FRowAt rows id) := by
  have hf : ∀ r, Ev (fun n _ => impl_RowAt_f1 n r id) (r.id_ == id) := fun r => ev_succ (by simp only [impl_RowAt_f1, ev_some])
  have h : Ev (fun n _ => slices_IndexFunc_Row_impl_RowAt_f1 n rows id) (FRowAt rows id) := by
    refine ev_succ ?_
    simp only [slices_IndexFunc_Row_impl_RowAt_f1]
    refine ev_fold (fun n N i => slices_IndexFunc_Row_impl_RowAt_f1.loop3 n (some (-1)) N rows id (rows.length : Int) (i : Int)) _ (fun i u hi ih => ?_) ?_
    · simp only [slices_IndexFunc_Row_impl_RowAt_f1.turn3, slices_IndexFunc_Row_impl_RowAt_f1.step3, Int.toNat_natCast, W_up hi hr, ev_cond, ev_inB, ev_bind (hf _), ev_some, ev_iff ih, lt_up hi, in_up hi]
      clear ih
      grind
    · simp only [slices_IndexFunc_Row_impl_RowAt_f1.turn3, slices_IndexFunc_Row_impl_RowAt_f1.step3, lt_end, cond_false, ev_some]
  exact ev_succ (by simp only [impl_RowAt, ev_bind h, ev_some])
def FCell (r : TRow) (col : Int) : Int := cond (inn col 0 (W ((r.cells.length : Int) - 1))) (r.cells.getD col.toNat 0) 0
theorem spec_l9Cell_ev {r : TRow} {col : Int} (hr : r.cells.length ≤ topN) : Ev (fun n _ => spec_l9Cell n r col) (FCell r col) := by
  refine ev_succ ?_
  have e := @W_dn r.cells.length hr
  simp only [spec_l9Cell, l1In_b, ev_cond, ev_inB, ev_some, FCell]
  cases hi : inn col 0 (W ((r.cells.length : Int) - 1)) with
  | false => simp
  | true => have := inn_true hi; exact ⟨fun h => (by cases h), fun _ => ⟨by omega, rfl⟩⟩
theorem cellOf_ev {r : TRow} {col : Int} (hr : r.cells.length ≤ topN) : Ev (fun n _ => impl_cellOf n r col) (FCell r col) := by
  refine ev_succ ?_
  have e := @W_dn r.cells.length hr
  simp only [impl_cellOf, within_b, ev_cond, ev_inB, ev_some, FCell]
  cases hi : inn col 0 (W ((r.cells.length : Int) - 1)) with
  | false => simp
  | true => have := inn_true hi; exact ⟨fun h => (by cases h), fun _ => ⟨by omega, rfl⟩⟩
def FAhead (q : TQuery) (a b : TRow) : Bool := cond (q.order == 0) (decide (a.id_ < b.id_)) (cond (FCell a (W (q.order - 1)) == FCell b (W (q.order - 1))) (decide (a.id_ < b.id_)) (cond q.down (decide (FCell a (W (q.order - 1)) > FCell b (W (q.order - 1)))) (decide (FCell a (W (q.order - 1)) < FCell b (W (q.order - 1))))))
theorem spec_Ahead_ev {q : TQuery} {a b : TRow} (ha : a.cells.length ≤ topN) (hb : b.cells.length ≤ topN) : Ev (fun n _ => spec_Ahead n q a b) (FAhead q a b) := by
  refine ev_succ ?_
  simp only [spec_Ahead, ev_bind (spec_l9Cell_ev ha), ev_bind (spec_l9Cell_ev hb), ev_cond, ev_some, FAhead]
  generalize FCell a (W (q.order - 1)) = x
  generalize FCell b (W (q.order - 1)) = y
  cases hd : q.down <;> grind
theorem impl_Ahead_ev {q : TQuery} {a b : TRow} (ha : a.cells.length ≤ topN) (hb : b.cells.length ≤ topN) : Ev (fun n _ => impl_Ahead n q a b) (FAhead q a b) := by
  refine ev_succ ?_
  simp only [impl_Ahead, ev_bind (cellOf_ev ha), ev_bind (cellOf_ev hb), ev_cond, ev_some, FAhead]
  generalize FCell a (W (q.order - 1)) = x
  generalize FCell b (W (q.order - 1)) = y
  cases hd : q.down <;> grind
def FRows (s : TSchema) (q : TQuery) (rows : List TRow) : Bool := allN (fun i => FRow s q.table (rows.getD i TRow.dflt) && (FMatches q (rows.getD i TRow.dflt) && (decide (FRowAt rows (rows.getD i TRow.dflt).id_ = (i : Int)) && (decide (i = 0) || FAhead q (rows.getD (i - 1) TRow.dflt) (rows.getD i TRow.dflt))))) rows.length
def FKidRows (kids : List TKid) : Bool := allN (fun i => inn (kids.getD i TKid.dflt).n_ 1 24 && (decide (i = 0) || decide ((kids.getD (i - 1) TKid.dflt).id_ < (kids.getD i TKid.dflt).id_))) kids.length
def FView (s : TSchema) (v : TView) : Bool := FQuery s v.q && (decide (v.rows.length ≤ 24) && (FRows s v.q v.rows && (FKidRows v.kids && (decide (v.kids.length = 0) || v.q.kids))))
section
variable {cols sh : List Int} {wh : List TCond} {t o f kt kc : Int} {d ks v : Bool} {rows : List TRow} {kids : List TKid}
theorem getD_cells (hr : lenR topN rows) (i : Nat) : (rows.getD i TRow.dflt).cells.length ≤ topN := by
  by_cases h : i < rows.length
  · exact hr.2 _ (getD_mem _ h)
  · rw [List.getD_eq_getElem?_getD, List.getElem?_eq_none (by omega)]; exact Nat.zero_le _
theorem spec_ViewOk_loop6 {k : Nat → spec_ViewOk.K6} (hs : cols.length ≤ topN) (hw : wh.length ≤ topN) (hr : lenR topN rows) (hk : Ev (fun n N => k n t wh o d f sh ks kt kc rows kids) v) :
    Ev (fun n _ => spec_ViewOk.loop6 n (k n) n 0 cols t wh o d f sh ks kt kc rows kids) (FRows (TSchema.mk cols) (TQuery.mk t wh o d f sh ks kt kc) rows && v) := by
  refine ev_all (fun n N i => spec_ViewOk.loop6 n (k n) N (i : Int) cols t wh o d f sh ks kt kc rows kids) _ (fun i u hi ih => ?_) ?_
  · simp only [spec_ViewOk.turn6, spec_ViewOk.step6, Int.toNat_natCast, W_up hi hr.1, W_dn (i := i) (by have := hr.1; omega), toNat_dn, ev_cond, ev_inB, ev_bind (spec_RowOk_ev (s := TSchema.mk cols) (t := t) hs (getD_cells hr i)),
      ev_bind (spec_Matches_ev (q := TQuery.mk t wh o d f sh ks kt kc) hw (getD_cells hr i)), ev_bind (spec_RowAt_ev hr.1), ev_bind (spec_Ahead_ev (getD_cells hr (i - 1)) (getD_cells hr i)), ev_some, ev_iff ih, lt_up hi, in_up hi]
    clear ih hk
    generalize rows.getD i TRow.dflt = x
    generalize rows.getD (i - 1) TRow.dflt = y
    repeat' (first | apply And.intro | intro _)
    all_goals (try rw [Bool.eq_iff_iff])
    all_goals (try simp only [bne_iff_ne, bne_eq_false_iff_eq, ne_eq, Bool.not_eq_true', Bool.not_eq_false', decide_eq_true_eq, decide_eq_false_iff_not, beq_iff_eq, beq_eq_false_iff_ne, Bool.and_eq_true, Bool.or_eq_true, Bool.and_eq_false_iff, Bool.or_eq_false_iff] at *)
    all_goals grind
  · simp only [spec_ViewOk.turn6, spec_ViewOk.step6, lt_end, cond_false]
    exact hk
theorem impl_ViewOk_loop6 {k : Nat → impl_ViewOk.K6} (hs : cols.length ≤ topN) (hw : wh.length ≤ topN) (hr : lenR topN rows) (hk : Ev (fun n N => k n t wh o d f sh ks kt kc rows kids) v) :
    Ev (fun n _ => impl_ViewOk.loop6 n (k n) n rows (rows.length : Int) 0 cols t wh o d f sh ks kt kc rows kids) (FRows (TSchema.mk cols) (TQuery.mk t wh o d f sh ks kt kc) rows && v) := by
  refine ev_all (fun n N i => impl_ViewOk.loop6 n (k n) N rows (rows.length : Int) (i : Int) cols t wh o d f sh ks kt kc rows kids) _ (fun i u hi ih => ?_) ?_
  · simp only [impl_ViewOk.turn6, impl_ViewOk.step6, Int.toNat_natCast, W_up hi hr.1, W_dn (i := i) (by have := hr.1; omega), toNat_dn, ev_cond, ev_inB, ev_bind (impl_RowOk_ev (s := TSchema.mk cols) (t := t) hs (getD_cells hr i)),
      ev_bind (impl_Matches_ev (q := TQuery.mk t wh o d f sh ks kt kc) hw (getD_cells hr i)), ev_bind (impl_RowAt_ev hr.1), ev_bind (impl_Ahead_ev (getD_cells hr (i - 1)) (getD_cells hr i)), ev_some, ev_iff ih, lt_up hi, in_up hi]
    clear ih hk
    generalize rows.getD i TRow.dflt = x
    generalize rows.getD (i - 1) TRow.dflt = y
    repeat' (first | apply And.intro | intro _)
    all_goals (try rw [Bool.eq_iff_iff])
    all_goals (try simp only [bne_iff_ne, bne_eq_false_iff_eq, ne_eq, Bool.not_eq_true', Bool.not_eq_false', decide_eq_true_eq, decide_eq_false_iff_not, beq_iff_eq, beq_eq_false_iff_ne, Bool.and_eq_true, Bool.or_eq_true, Bool.and_eq_false_iff, Bool.or_eq_false_iff] at *)
    all_goals grind
  · simp only [impl_ViewOk.turn6, impl_ViewOk.step6, lt_end, cond_false]
    exact hk
theorem spec_ViewOk_loop15 {k : Nat → spec_ViewOk.K15} (hr : kids.length ≤ topN) (hk : Ev (fun n N => k n t wh o d f sh ks kt kc rows kids) v) :
    Ev (fun n _ => spec_ViewOk.loop15 n (k n) n 0 t wh o d f sh ks kt kc rows kids) (FKidRows kids && v) := by
  refine ev_all (fun n N i => spec_ViewOk.loop15 n (k n) N (i : Int) t wh o d f sh ks kt kc rows kids) _ (fun i u hi ih => ?_) ?_
  · simp only [spec_ViewOk.turn15, spec_ViewOk.step15, Int.toNat_natCast, W_up hi hr, W_dn (i := i) (by omega), toNat_dn, ev_cond, ev_inB, l1In_b, ev_some, ev_iff ih, lt_up hi, in_up hi]
    clear ih hk
    repeat' (first | apply And.intro | intro _)
    all_goals (try rw [Bool.eq_iff_iff])
    all_goals (try simp only [Bool.not_eq_true', Bool.not_eq_false', decide_eq_true_eq, decide_eq_false_iff_not, beq_iff_eq, beq_eq_false_iff_ne, Bool.and_eq_true, Bool.or_eq_true, Bool.and_eq_false_iff, Bool.or_eq_false_iff] at *)
    all_goals grind
  · simp only [spec_ViewOk.turn15, spec_ViewOk.step15, lt_end, cond_false]
    exact hk
theorem impl_ViewOk_loop15 (hr : kids.length ≤ topN) :
    Ev (fun n _ => impl_ViewOk.loop15 n (some true) n kids (kids.length : Int) 0 t wh o d f sh ks kt kc rows kids) (FKidRows kids) := by
  refine ev_congr (ev_all (fun n N i => impl_ViewOk.loop15 n (some true) N kids (kids.length : Int) (i : Int) t wh o d f sh ks kt kc rows kids) _ (v := true) (fun i u hi ih => ?_) ?_) (Bool.and_true _)
  · simp only [impl_ViewOk.turn15, impl_ViewOk.step15, Int.toNat_natCast, W_up hi hr, W_dn (i := i) (by omega), toNat_dn, ev_cond, ev_inB, within_b, ev_some, ev_iff ih, lt_up hi, in_up hi]
    clear ih
    repeat' (first | apply And.intro | intro _)
    all_goals (try rw [Bool.eq_iff_iff])
    all_goals (try simp only [Bool.not_eq_true', Bool.not_eq_false', decide_eq_true_eq, decide_eq_false_iff_not, beq_iff_eq, beq_eq_false_iff_ne, Bool.and_eq_true, Bool.or_eq_true, Bool.and_eq_false_iff, Bool.or_eq_false_iff] at *)
    all_goals grind
  · simp only [impl_ViewOk.turn15, impl_ViewOk.step15, lt_end, cond_false, ev_some]
end
theorem spec_ViewOk_ev {s : TSchema} {x : TView} (hs : s.cols.length ≤ topN) (hx : lenV topN x) : Ev (fun n _ => spec_ViewOk n s x) (FView s x) := by
  refine ev_succ ?_
  simp only [spec_ViewOk, ev_bind (spec_QueryOk_ev hs hx.1), ev_cond, ev_some]
  refine ⟨fun h => by simp at h; simp [FView, h], fun h1 => ⟨fun h => ?_, fun h2 => ?_⟩⟩
  · simp only [decide_eq_true_eq] at h; have : ¬ x.rows.length ≤ 24 := by omega
    simp [FView, this]
  refine ev_congr (spec_ViewOk_loop6 (k := fun n => _) hs hx.1.1 hx.2.1 (spec_ViewOk_loop15 (k := fun n => _) (v := decide (x.kids.length = 0) || x.q.kids) hx.2.2 ?_)) ?_
  · simp only [ev_cond, ev_some]
    cases x.q.kids <;> grind
  · have h2 : x.rows.length ≤ 24 := by simp at h2; omega
    simp only [Bool.not_eq_false'] at h1
    simp only [FView, h1, decide_eq_true h2, Bool.true_and]
theorem impl_ViewOk_ev {s : TSchema} {x : TView} (hs : s.cols.length ≤ topN) (hx : lenV topN x) : Ev (fun n _ => impl_ViewOk n s x) (FView s x) := by
  refine ev_succ ?_
  simp only [impl_ViewOk, ev_bind (impl_QueryOk_ev hs hx.1), ev_cond, ev_some]
  refine ⟨fun h => by simp at h; simp [FView, h], fun h1 => ⟨fun h => ?_, fun h2 => ?_⟩⟩
  · simp only [decide_eq_true_eq] at h; have : ¬ x.rows.length ≤ 24 := by omega
    simp [FView, this]
  have h2 : x.rows.length ≤ 24 := by simp at h2; omega
  simp only [Bool.not_eq_false'] at h1
  have e : ∀ {b : Bool}, b = true → (FRows (TSchema.mk s.cols) (TQuery.mk x.q.table x.q.where_ x.q.order x.q.down x.q.first x.q.show_ x.q.kids x.q.kidTable x.q.kidCol) x.rows && FKidRows x.kids) = (FRows s x.q x.rows && (FKidRows x.kids && b)) := by
    rintro b rfl; rw [Bool.and_true]
  refine ⟨fun h3 => ⟨fun h => ?_, fun h => ?_⟩, fun h3 => ?_⟩
  · simp only [decide_eq_true_eq] at h3; have : ¬ x.kids.length = 0 := by omega
    simp only [Bool.not_eq_true'] at h
    simp [FView, this, h]
  · refine ev_congr (impl_ViewOk_loop6 (k := fun n => _) hs hx.1.1 hx.2.1 (impl_ViewOk_loop15 hx.2.2)) ?_
    simp only [Bool.not_eq_false'] at h
    simp only [FView, h1, decide_eq_true h2, Bool.true_and]
    exact e (by simp [h])
  · refine ev_congr (impl_ViewOk_loop6 (k := fun n => _) hs hx.1.1 hx.2.1 (impl_ViewOk_loop15 hx.2.2)) ?_
    simp only [FView, h1, decide_eq_true h2, Bool.true_and]
    exact e (by simp at h3; simp [h3])
end Go.Pi
end
section
set_option linter.unusedVariables false
set_option maxRecDepth 100000
set_option linter.unusedSimpArgs false
namespace Go.Pi
def lenRR (c : Nat) (t : List (List TRow)) : Prop := t.length ≤ c ∧ ∀ x ∈ t, lenR c x
def lenSt (c : Nat) (s : TStore) : Prop := s.schema.cols.length ≤ c ∧ lenRR c s.tables
theorem getD_rows {c : Nat} {t : List (List TRow)} (h : ∀ x ∈ t, lenR c x) (i : Nat) : lenR c (t.getD i []) := by
  by_cases hi : i < t.length
  · exact h _ (getD_mem [] hi)
  · rw [List.getD_eq_getElem?_getD, List.getElem?_eq_none (by omega)]
    exact ⟨Nat.zero_le _, fun x hx => by cases hx⟩
theorem schema_eta (s : TSchema) : TSchema.mk s.cols = s := rfl
def FRowsOk (s : TSchema) (t : Int) (rows : List TRow) : Bool :=
  allN (fun i => FRow s t (rows.getD i TRow.dflt) && (decide (i = 0) || decide ((rows.getD (i - 1) TRow.dflt).id_ < (rows.getD i TRow.dflt).id_))) rows.length && (FSchema s && (inn t 0 (W ((s.cols.length : Int) - 1)) && decide ((rows.length : Int) ≤ 24)))
theorem spec_RowsOk_ev {s : TSchema} {t : Int} {rows : List TRow} (hs : s.cols.length ≤ topN) (hr : lenR topN rows) : Ev (fun n _ => spec_RowsOk n s t rows) (FRowsOk s t rows) := by
  refine ev_succ ?_
  simp only [spec_RowsOk]
  refine ev_all (fun n N i => spec_RowsOk.loop3 n _ N t rows (i : Int) s.cols) _ (fun i u hi ih => ?_) ?_
  · simp only [schema_eta, spec_RowsOk.turn3, spec_RowsOk.step3, Int.toNat_natCast, W_up hi hr.1, W_dn (i := i) (by have := hr.1; omega), toNat_dn, ev_cond, ev_inB, ev_bind (spec_RowOk_ev (s := s) (t := t) (r := rows.getD i TRow.dflt) hs (getD_cells hr i)), ev_some, ev_iff ih, lt_up hi, in_up hi]
    clear ih
    repeat' (first | apply And.intro | intro _)
    all_goals (try rw [Bool.eq_iff_iff])
    all_goals (try simp only [Bool.not_eq_true', Bool.not_eq_false', decide_eq_true_eq, decide_eq_false_iff_not, beq_iff_eq, beq_eq_false_iff_ne, Bool.and_eq_true, Bool.or_eq_true, Bool.and_eq_false_iff, Bool.or_eq_false_iff] at *)
    all_goals grind
  · simp only [schema_eta, spec_RowsOk.turn3, spec_RowsOk.step3, lt_end, cond_false, spec_SchemaOk_b (s := s) hs, l1In_b, ev_cond, ev_some]
    repeat' (first | apply And.intro | intro _)
    all_goals (try simp_all)
theorem impl_RowsOk_ev {s : TSchema} {t : Int} {rows : List TRow} (hs : s.cols.length ≤ topN) (hr : lenR topN rows) : Ev (fun n _ => impl_RowsOk n s t rows) (FRowsOk s t rows) := by
  refine ev_succ ?_
  simp only [impl_RowsOk]
  refine ev_all (fun n N i => impl_RowsOk.loop3 n _ N t rows rows (rows.length : Int) (i : Int) s.cols) _ (fun i u hi ih => ?_) ?_
  · simp only [schema_eta, impl_RowsOk.turn3, impl_RowsOk.step3, Int.toNat_natCast, W_up hi hr.1, W_dn (i := i) (by have := hr.1; omega), toNat_dn, ev_cond, ev_inB, ev_bind (impl_RowOk_ev (s := s) (t := t) (r := rows.getD i TRow.dflt) hs (getD_cells hr i)), ev_some, ev_iff ih, lt_up hi, in_up hi]
    clear ih
    repeat' (first | apply And.intro | intro _)
    all_goals (try rw [Bool.eq_iff_iff])
    all_goals (try simp only [Bool.not_eq_true', Bool.not_eq_false', decide_eq_true_eq, decide_eq_false_iff_not, beq_iff_eq, beq_eq_false_iff_ne, Bool.and_eq_true, Bool.or_eq_true, Bool.and_eq_false_iff, Bool.or_eq_false_iff] at *)
    all_goals grind
  · simp only [schema_eta, impl_RowsOk.turn3, impl_RowsOk.step3, lt_end, cond_false, impl_SchemaOk_b (s := s) hs, hasTable_b, ev_cond, ev_some]
    repeat' (first | apply And.intro | intro _)
    all_goals (try simp_all)
def FTables (s : TSchema) (t : List (List TRow)) : Bool := allN (fun i => FRowsOk s (i : Int) (t.getD i [])) t.length
def FStore (s : TStore) : Bool := FSchema s.schema && (inn s.version 0 100000 && (decide (s.tables.length = s.schema.cols.length) && FTables s.schema s.tables))
theorem spec_StoreOk_ev {s : TStore} (h : lenSt topN s) : Ev (fun n _ => spec_StoreOk n s) (FStore s) := by
  refine ev_succ ?_
  have hl : Ev (fun n _ => spec_StoreOk.loop6 n (some true) n 0 s.schema.cols s.version s.tables) (FTables s.schema s.tables && true) := by
    refine ev_all (fun n N i => spec_StoreOk.loop6 n (some true) N (i : Int) s.schema.cols s.version s.tables) _ (fun i u hi ih => ?_) ?_
    · simp only [schema_eta, spec_StoreOk.turn6, spec_StoreOk.step6, Int.toNat_natCast, W_up hi h.2.1, ev_cond, ev_inB, ev_bind (spec_RowsOk_ev (s := s.schema) (t := (i : Int)) h.1 (getD_rows h.2.2 i)), ev_some, ev_iff ih, lt_up hi, in_up hi]
      clear ih
      repeat' (first | apply And.intro | intro _)
      all_goals (try simp_all)
    · simp only [schema_eta, spec_StoreOk.turn6, spec_StoreOk.step6, lt_end, cond_false, ev_some]
  simp only [spec_StoreOk, spec_SchemaOk_b h.1, l1In_b, ev_cond, ev_some, ev_iff hl, FStore]
  clear hl
  repeat' (first | apply And.intro | intro _)
  all_goals (try simp_all)
  all_goals (intros; omega)
theorem impl_StoreOk_ev {s : TStore} (h : lenSt topN s) : Ev (fun n _ => impl_StoreOk n s) (FStore s) := by
  refine ev_succ ?_
  have hl : Ev (fun n _ => impl_StoreOk.loop6 n (some true) n s.tables (s.tables.length : Int) 0 s.schema.cols s.version s.tables) (FTables s.schema s.tables && true) := by
    refine ev_all (fun n N i => impl_StoreOk.loop6 n (some true) N s.tables (s.tables.length : Int) (i : Int) s.schema.cols s.version s.tables) _ (fun i u hi ih => ?_) ?_
    · simp only [schema_eta, impl_StoreOk.turn6, impl_StoreOk.step6, Int.toNat_natCast, W_up hi h.2.1, ev_cond, ev_inB, ev_bind (impl_RowsOk_ev (s := s.schema) (t := (i : Int)) h.1 (getD_rows h.2.2 i)), ev_some, ev_iff ih, lt_up hi, in_up hi]
      clear ih
      repeat' (first | apply And.intro | intro _)
      all_goals (try simp_all)
    · simp only [schema_eta, impl_StoreOk.turn6, impl_StoreOk.step6, lt_end, cond_false, ev_some]
  simp only [impl_StoreOk, impl_SchemaOk_b h.1, isVersion_b, ev_cond, ev_some, ev_iff hl, FStore]
  clear hl
  repeat' (first | apply And.intro | intro _)
  all_goals (try simp_all)
  all_goals (intros; omega)
/-! copies -/
theorem ev_roomB {α : Type} {n b : Nat} {f : Nat → Nat → Option α} {v : α} : Ev (fun m N => roomB n b (f m N)) v ↔ n * b ≤ 140737488355328 ∧ Ev f v := by
  unfold roomB
  rw [ev_cond]
  by_cases h : n * b ≤ 140737488355328 <;> simp [h, ev_none]
theorem ev_map {α β γ : Type} (d : α) (a : List α) (f : α → β) (L : Nat → Nat → Nat → List β → Option γ) (v : γ)
    (h1 : ∀ i s, i < a.length → s.length = i → ∀ F, Ev (fun n N => L n N (i + 1) (s ++ [f (a.getD i d)])) F → Ev (fun n N => L n (N + 1) i s) F)
    (h2 : Ev (fun n N => L n (N + 1) a.length (a.map f)) v) : Ev (fun n _ => L n n 0 []) v := by
  have key : ∀ j i, j + i = a.length → Ev (fun n N => L n N i ((a.take i).map f)) v := by
    intro j
    induction j with
    | zero =>
      intro i hi
      have : i = a.length := by omega
      subst this
      rw [List.take_of_length_le (Nat.le_refl _)]
      exact ev_round h2
    | succ j ih =>
      intro i hi
      refine ev_round (h1 i _ (by omega) (by simp; omega) _ ?_)
      have := ih (i + 1) (by omega)
      rw [List.take_add_one, List.map_append] at this
      have e : a[i]?.toList = [a.getD i d] := by
        rw [List.getD_eq_getElem?_getD, List.getElem?_eq_getElem (by omega)]; rfl
      rw [e] at this
      exact this
  have := key a.length 0 (by omega)
  exact ev_diag (f := fun n N => L n N 0 []) this
abbrev capR : Nat := 1073741824
section
variable {β : Type} {g : Nat → Nat → List Int → Option β} {gr : Nat → Nat → TRow → Option β} {v : β}
theorem copyInts_b {l : List Int} (h : l.length ≤ capR) : Ev (fun n N => (impl_copyInts n l).bind (g n N)) v ↔ Ev (fun n N => g n N l) v :=
  ev_bind (ev_succ (by simp only [impl_copyInts, ev_roomB, ev_some, List.nil_append, and_true]; simp only [capR] at h; simp; omega))
theorem copyRow_b {r : TRow} (h : r.cells.length ≤ capR) : Ev (fun n N => (impl_copyRow n r).bind (gr n N)) v ↔ Ev (fun n N => gr n N r) v :=
  ev_bind (ev_succ (by simp only [impl_copyRow, copyInts_b h, ev_some]))
theorem l6Copy_b {r : TRow} (h : r.cells.length ≤ capR) : Ev (fun n N => (spec_l6Copy n r).bind (gr n N)) v ↔ Ev (fun n N => gr n N r) v :=
  ev_bind (ev_succ (by simp only [spec_l6Copy, ev_roomB, ev_some, List.nil_append, and_true]; simp only [capR] at h; simp; omega))
end
theorem getD_cellsC {c : Nat} {rows : List TRow} (hr : lenR c rows) (i : Nat) : (rows.getD i TRow.dflt).cells.length ≤ c := by
  by_cases hi : i < rows.length
  · exact hr.2 _ (getD_mem TRow.dflt hi)
  · rw [List.getD_eq_getElem?_getD, List.getElem?_eq_none (by omega)]
    exact Nat.zero_le _
theorem copyRows_ev {rows : List TRow} (h : lenR capR rows) : Ev (fun n _ => impl_copyRows n rows) rows := by
  refine ev_succ ?_
  have hl := h.1
  simp only [capR] at hl
  simp only [impl_copyRows]
  refine ev_map TRow.dflt rows id (fun n N i s => impl_copyRows.loop4 n _ N rows (rows.length : Int) (i : Int) s) rows (fun i s hi hs F hF => ?_) ?_
  · simp only [impl_copyRows.turn4, impl_copyRows.step4, Int.toNat_natCast, W_up hi (show rows.length ≤ topN by simp only [topN]; omega), ev_cond, ev_inB, copyRow_b (getD_cellsC h i), ev_roomB, lt_up hi, in_up hi]
    exact ⟨fun _ => ⟨trivial, by simp; omega, hF⟩, fun h => by cases h⟩
  · simp only [impl_copyRows.turn4, impl_copyRows.step4, lt_end, cond_false, ev_some, List.map_id]
theorem l6Rows_ev {rows : List TRow} (h : lenR capR rows) : Ev (fun n _ => spec_l6Rows n rows) rows := by
  refine ev_succ ?_
  have hl := h.1
  simp only [capR] at hl
  simp only [spec_l6Rows]
  refine ev_map TRow.dflt rows id (fun n N i s => spec_l6Rows.loop4 n _ N rows (i : Int) s) rows (fun i s hi hs F hF => ?_) ?_
  · simp only [spec_l6Rows.turn4, spec_l6Rows.step4, Int.toNat_natCast, W_up hi (show rows.length ≤ topN by simp only [topN]; omega), ev_cond, ev_inB, l6Copy_b (getD_cellsC h i), ev_roomB, lt_up hi, in_up hi]
    exact ⟨fun _ => ⟨trivial, by simp; omega, hF⟩, fun h => by cases h⟩
  · simp only [spec_l6Rows.turn4, spec_l6Rows.step4, lt_end, cond_false, ev_some, List.map_id]
theorem l7Schema_b {β : Type} {s : TSchema} {g : Nat → Nat → TSchema → Option β} {v : β} (h : s.cols.length ≤ capR) : Ev (fun n N => (spec_l7Schema n s).bind (g n N)) v ↔ Ev (fun n N => g n N s) v :=
  ev_bind (ev_succ (by simp only [spec_l7Schema, ev_roomB, ev_some, List.nil_append, and_true]; simp only [capR] at h; simp; omega))
theorem copyStore_ev {s : TStore} (h : lenSt capR s) : Ev (fun n _ => impl_copyStore n s) s := by
  refine ev_succ ?_
  have hl := h.2.1
  simp only [capR] at hl
  simp only [impl_copyStore, copyInts_b h.1]
  refine ev_map [] s.tables id (fun n N i q => impl_copyStore.loop4 n _ N s.tables (s.tables.length : Int) (i : Int) 0 s.version s.schema.cols q) s (fun i q hi hs F hF => ?_) ?_
  · simp only [impl_copyStore.turn4, impl_copyStore.step4, Int.toNat_natCast, W_up hi (show s.tables.length ≤ topN by simp only [topN]; omega), ev_cond, ev_inB, ev_bind (copyRows_ev (getD_rows h.2.2 i)), ev_roomB, lt_up hi, in_up hi]
    exact ⟨fun _ => ⟨trivial, by simp; omega, hF⟩, fun h => by cases h⟩
  · simp only [impl_copyStore.turn4, impl_copyStore.step4, lt_end, cond_false, ev_some, List.map_id]
theorem l7Copy_ev {s : TStore} (h : lenSt capR s) : Ev (fun n _ => spec_l7Copy n s) s := by
  refine ev_succ ?_
  have hl := h.2.1
  simp only [capR] at hl
  simp only [spec_l7Copy, l7Schema_b h.1]
  refine ev_map [] s.tables id (fun n N i q => spec_l7Copy.loop4 n _ N (i : Int) s.schema.cols s.version s.tables 0 s.version s.schema.cols q) s (fun i q hi hs F hF => ?_) ?_
  · simp only [spec_l7Copy.turn4, spec_l7Copy.step4, Int.toNat_natCast, W_up hi (show s.tables.length ≤ topN by simp only [topN]; omega), ev_cond, ev_inB, ev_bind (l6Rows_ev (getD_rows h.2.2 i)), ev_roomB, lt_up hi, in_up hi]
    exact ⟨fun _ => ⟨trivial, by simp; omega, hF⟩, fun h => by cases h⟩
  · simp only [spec_l7Copy.turn4, spec_l7Copy.step4, lt_end, cond_false, ev_some, List.map_id]
end Go.Pi
end
section
set_option linter.unusedVariables false
set_option maxRecDepth 100000
set_option linter.unusedSimpArgs false
namespace Go.Pi
/-! rows that come and go -/
theorem ev_seq {α γ : Type} (S : Nat → α) (len : Nat) (L : Nat → Nat → Nat → α → Option γ) (v : γ)
    (h1 : ∀ i, i < len → ∀ F, Ev (fun n N => L n N (i + 1) (S (i + 1))) F → Ev (fun n N => L n (N + 1) i (S i)) F)
    (h2 : Ev (fun n N => L n (N + 1) len (S len)) v) : Ev (fun n _ => L n n 0 (S 0)) v := by
  have key : ∀ j i, j + i = len → Ev (fun n N => L n N i (S i)) v := by
    intro j
    induction j with
    | zero =>
      intro i hi
      have : i = len := by omega
      subst this
      exact ev_round h2
    | succ j ih => exact fun i hi => ev_round (h1 i (by omega) _ (ih (i + 1) (by omega)))
  exact ev_diag (f := fun n N => L n N 0 (S 0)) (key len 0 (by omega))
theorem take_next {α : Type} (d : α) {a : List α} {i : Nat} (h : i < a.length) : a.take (i + 1) = a.take i ++ [a.getD i d] := by
  rw [List.take_add_one, List.getD_eq_getElem?_getD, List.getElem?_eq_getElem h]; rfl
theorem foldFrom_idx {α : Type} (d : α) (P : α → Bool) : ∀ (rows : List α), foldFrom (fun i (x : Int) => cond (P (rows.getD i d)) (i : Int) x) (-1) rows.length 0 = if rows.findIdx P < rows.length then (rows.findIdx P : Int) else -1 := by
  intro rows
  have key : ∀ j i, j + i = rows.length → (∀ k, k < i → P (rows.getD k d) = false) → foldFrom (fun i (x : Int) => cond (P (rows.getD i d)) (i : Int) x) (-1) j i = if rows.findIdx P < rows.length then (rows.findIdx P : Int) else -1 := by
    intro j
    induction j with
    | zero =>
      intro i hi hk
      have : ¬ rows.findIdx P < rows.length := by
        intro h
        have h1 := List.findIdx_getElem (w := h)
        have h2 := hk _ (show rows.findIdx P < i by omega)
        rw [List.getD_eq_getElem?_getD, List.getElem?_eq_getElem h] at h2
        simp only [Option.getD_some] at h2
        rw [h1] at h2; cases h2
      rw [if_neg this]; rfl
    | succ j ih =>
      intro i hi hk
      simp only [foldFrom]
      cases hp : P (rows.getD i d) with
      | true =>
        have hlt : i < rows.length := by omega
        rw [List.getD_eq_getElem?_getD, List.getElem?_eq_getElem hlt] at hp
        have e : rows.findIdx P = i := by
          apply Nat.le_antisymm
          · exact Nat.le_of_not_lt fun h => by have := List.not_of_lt_findIdx h; rw [Option.getD_some] at hp; rw [hp] at this; cases this
          · exact Nat.le_of_not_lt fun h => by
              have h2 := hk _ h
              have hl : rows.findIdx P < rows.length := by omega
              rw [List.getD_eq_getElem?_getD, List.getElem?_eq_getElem hl] at h2
              rw [Option.getD_some, List.findIdx_getElem (w := hl)] at h2; cases h2
        rw [e, if_pos hlt]; rfl
      | false =>
        rw [cond_false]
        exact ih (i + 1) (by omega) fun k hk' => by
          by_cases e : k = i
          · subst e; exact hp
          · exact hk k (by omega)
  exact key rows.length 0 (by omega) fun k hk => by omega
theorem FRowAt_idx (rows : List TRow) (id : Int) : FRowAt rows id = if rows.findIdx (fun r => r.id_ == id) < rows.length then (rows.findIdx (fun r => r.id_ == id) : Int) else -1 := foldFrom_idx TRow.dflt (fun r => r.id_ == id) rows
def FDrop (rows : List TRow) (id : Int) : List TRow := rows.eraseIdx (rows.findIdx (fun r => r.id_ == id))
def dropTo (rows : List TRow) (at_ i : Nat) : List TRow := (rows.take i).eraseIdx at_
theorem dropTo_self {rows : List TRow} {i : Nat} (h : i < rows.length) : dropTo rows i (i + 1) = dropTo rows i i := by
  unfold dropTo
  rw [take_next TRow.dflt h]
  have e : (rows.take i).length = i := by rw [List.length_take]; omega
  rw [List.eraseIdx_of_length_le (l := rows.take i) (by omega), List.eraseIdx_append_of_length_le (by omega), e, Nat.sub_self]
  simp
theorem dropTo_other {rows : List TRow} {at_ i : Nat} (h : i < rows.length) (hne : i ≠ at_) : dropTo rows at_ (i + 1) = dropTo rows at_ i ++ [rows.getD i TRow.dflt] := by
  unfold dropTo
  rw [take_next TRow.dflt h]
  have e : (rows.take i).length = i := by rw [List.length_take]; omega
  by_cases hlt : at_ < i
  · rw [List.eraseIdx_append_of_lt_length (by omega)]
  · rw [List.eraseIdx_of_length_le (l := rows.take i) (by omega), List.eraseIdx_of_length_le (by simp; omega)]
theorem dropTo_len {rows : List TRow} {at_ i : Nat} : (dropTo rows at_ i).length ≤ rows.length := by
  unfold dropTo
  have := List.length_eraseIdx_le (rows.take i) at_
  rw [List.length_take] at this
  omega
theorem spec_RowDrop_ev {rows : List TRow} {id : Int} (h : lenR capR rows) : Ev (fun n _ => spec_RowDrop n rows id) (FDrop rows id) := by
  refine ev_succ ?_
  have hl := h.1
  simp only [capR] at hl
  have ht : rows.length ≤ topN := by simp only [topN]; omega
  simp only [spec_RowDrop, ev_bind (spec_RowAt_ev (rows := rows) (id := id) ht)]
  obtain ⟨p, hp⟩ : ∃ p, p = rows.findIdx (fun r => r.id_ == id) := ⟨_, rfl⟩
  have hat : ∀ i : Nat, i < rows.length → (((i : Int) != FRowAt rows id) = true ↔ i ≠ p) := fun i hi => by
    rw [FRowAt_idx, ← hp, bne_iff_ne]
    split <;> omega
  have hF : FDrop rows id = dropTo rows p rows.length := by unfold FDrop dropTo; rw [List.take_length, hp]
  rw [hF]
  refine ev_seq (fun i => dropTo rows p i) rows.length (fun n N i s => spec_RowDrop.loop5 n (fun xy3 => some xy3) N rows (FRowAt rows id) (i : Int) s) _ (fun i hi F hF => ?_) ?_
  · have hlen := dropTo_len (rows := rows) (at_ := p) (i := i)
    simp only [spec_RowDrop.turn5, spec_RowDrop.step5, Int.toNat_natCast, W_up hi ht, ev_cond, ev_inB, l6Copy_b (getD_cellsC h i), ev_roomB, lt_up hi, in_up hi]
    refine ⟨fun _ => ⟨fun hne => ⟨trivial, by simp; omega, ?_⟩, fun heq => ?_⟩, fun h => by cases h⟩
    · rw [← dropTo_other hi ((hat i hi).1 hne)]; exact hF
    · have : i = p := Classical.byContradiction fun hn => by rw [(hat i hi).2 hn] at heq; cases heq
      subst this
      rw [← dropTo_self hi]; exact hF
  · simp only [spec_RowDrop.turn5, spec_RowDrop.step5, lt_end, cond_false, ev_some]
theorem impl_RowDrop_ev {rows : List TRow} {id : Int} (h : lenR capR rows) : Ev (fun n _ => impl_RowDrop n rows id) (FDrop rows id) := by
  refine ev_succ ?_
  have hl := h.1
  simp only [capR] at hl
  have ht : rows.length ≤ topN := by simp only [topN]; omega
  simp only [impl_RowDrop, ev_bind (copyRows_ev h), ev_bind (impl_RowAt_ev (rows := rows) (id := id) ht), ev_cond, ev_some]
  rw [FRowAt_idx]
  by_cases hp : rows.findIdx (fun r => r.id_ == id) < rows.length
  · rw [if_pos hp]
    refine ⟨fun _ => ?_, fun h => by simp at h⟩
    have : Ev (fun n _ => slices_Delete_Row n rows ((rows.findIdx (fun r => r.id_ == id) : Nat) : Int) (W (((rows.findIdx (fun r => r.id_ == id) : Nat) : Int) + 1))) (FDrop rows id) := by
      refine ev_succ ?_
      rw [W_up hp ht]
      simp only [slices_Delete_Row, nDelete, ev_cond, ev_some, ev_none, FDrop, List.eraseIdx_eq_take_drop_succ, Int.toNat_natCast]
      simp; omega
    simp only [ev_bind this, ev_some]
  · rw [if_neg hp]
    refine ⟨fun h => by simp at h, fun _ => ?_⟩
    unfold FDrop
    rw [List.eraseIdx_of_length_le (by omega)]
end Go.Pi
end
section
set_option linter.unusedVariables false
set_option maxRecDepth 100000
set_option linter.unusedSimpArgs false
namespace Go.Pi
def sameC (x y : TCond) : Bool := cond (x.col == y.col) (cond (x.op == y.op) (cond (x.v == y.v) true false) false) false
def FConds2 (a b : List TCond) : Bool := decide (a.length = b.length) && allN (fun i => sameC (a.getD i TCond.dflt) (b.getD i TCond.dflt)) a.length
def FInts2 (a b : List Int) : Bool := decide (a.length = b.length) && allN (fun i => a.getD i 0 == b.getD i 0) a.length
def FKids2 (a b : List TKid) : Bool := decide (a.length = b.length) && allN (fun i => (cond ((a.getD i TKid.dflt).id_ == (b.getD i TKid.dflt).id_) (cond ((a.getD i TKid.dflt).n_ == (b.getD i TKid.dflt).n_) true false) false)) a.length
def FRow2 (a b : TRow) : Bool := (a.id_ == b.id_) && FInts2 a.cells b.cells
def FRows2 (a b : List TRow) : Bool := decide (a.length = b.length) && allN (fun i => FRow2 (a.getD i TRow.dflt) (b.getD i TRow.dflt)) a.length
def FQuery2 (a b : TQuery) : Bool := (a.table == b.table) && (FConds2 a.where_ b.where_ && ((a.order == b.order) && ((a.down == b.down) && ((a.first == b.first) && (FInts2 a.show_ b.show_ && ((a.kids == b.kids) && ((a.kidTable == b.kidTable) && (a.kidCol == b.kidCol))))))))
def FView2 (a b : TView) : Bool := FQuery2 a.q b.q && (FRows2 a.rows b.rows && FKids2 a.kids b.kids)
theorem min_same {n m : Nat} {p : Nat → Bool} : (allN p (min n m) && decide (n = m)) = (decide (n = m) && allN p n) := by
  by_cases h : n = m
  · subst h; simp [Nat.min_self, Bool.and_comm]
  · simp [h]
theorem spec_l9Conds_ev {a b : List TCond} (ha : a.length ≤ topN) : Ev (fun n _ => spec_l9Conds n a b) (FConds2 a b) := by
  refine ev_succ ?_
  simp only [spec_l9Conds]
  refine ev_congr (ev_all (fun n N i => spec_l9Conds.loop3 n (fun x y => some ((x.length : Int) == (y.length : Int))) N a b (i : Int)) (fun i => sameC (a.getD i TCond.dflt) (b.getD i TCond.dflt)) (len := min a.length b.length) (v := decide (a.length = b.length)) (fun i u hi ih => ?_) ?_) min_same
  · have h1 : i < a.length := by omega
    have h2 : i < b.length := by omega
    simp only [spec_l9Conds.turn3, spec_l9Conds.step3, Int.toNat_natCast, W_up h1 ha, ev_cond, ev_inB, ev_some, ev_iff ih, lt_up h1, in_up h1, lt_up h2, in_up h2]
    clear ih
    simp only [sameC]
    generalize (cond ((a.getD i TCond.dflt).col == (b.getD i TCond.dflt).col) (cond ((a.getD i TCond.dflt).op == (b.getD i TCond.dflt).op) (cond ((a.getD i TCond.dflt).v == (b.getD i TCond.dflt).v) true false) false) false) = c
    cases c <;> simp
  · simp only [spec_l9Conds.turn3, spec_l9Conds.step3, ev_cond, ev_some, ev_inB]
    grind
theorem spec_l9Ints_ev {a b : List Int} (ha : a.length ≤ topN) : Ev (fun n _ => spec_l9Ints n a b) (FInts2 a b) := by
  refine ev_succ ?_
  simp only [spec_l9Ints]
  refine ev_congr (ev_all (fun n N i => spec_l9Ints.loop3 n (fun x y => some ((x.length : Int) == (y.length : Int))) N a b (i : Int)) (fun i => a.getD i 0 == b.getD i 0) (len := min a.length b.length) (v := decide (a.length = b.length)) (fun i u hi ih => ?_) ?_) min_same
  · have h1 : i < a.length := by omega
    have h2 : i < b.length := by omega
    simp only [spec_l9Ints.turn3, spec_l9Ints.step3, Int.toNat_natCast, W_up h1 ha, ev_cond, ev_inB, ev_some, ev_iff ih, lt_up h1, in_up h1, lt_up h2, in_up h2]
    clear ih
    generalize a.getD i 0 = x
    generalize b.getD i 0 = y
    grind
  · simp only [spec_l9Ints.turn3, spec_l9Ints.step3, ev_cond, ev_some, ev_inB]
    grind
theorem spec_QuerySame_ev {a b : TQuery} (ha : lenQ topN a) : Ev (fun n _ => spec_QuerySame n a b) (FQuery2 a b) := by
  refine ev_succ ?_
  simp only [spec_QuerySame, ev_bind (spec_l9Conds_ev ha.1), ev_bind (spec_l9Ints_ev ha.2), ev_cond, ev_some, FQuery2]
  generalize FConds2 a.where_ b.where_ = c
  generalize FInts2 a.show_ b.show_ = d
  cases c <;> cases d <;> grind
theorem spec_RowSame_ev {a b : TRow} (ha : a.cells.length ≤ topN) : Ev (fun n _ => spec_RowSame n a b) (FRow2 a b) := by
  refine ev_succ ?_
  simp only [spec_RowSame, ev_cond, ev_some]
  refine ⟨fun h => ?_, fun h1 => ⟨fun h => ?_, fun h2 => ?_⟩⟩
  · simp only [bne_iff_ne, ne_eq] at h; simp [FRow2, h]
  · simp only [bne_iff_ne, ne_eq] at h; have : ¬ a.cells.length = b.cells.length := by omega
    simp [FRow2, FInts2, this]
  · simp only [bne_eq_false_iff_eq] at h1 h2
    have hl : a.cells.length = b.cells.length := by omega
    refine ev_congr (ev_all (fun n N i => spec_RowSame.loop6 n (some true) N (i : Int) a.id_ a.cells b.id_ b.cells) (fun i => a.cells.getD i 0 == b.cells.getD i 0) (len := a.cells.length) (v := true) (fun i u hi ih => ?_) ?_) (by simp [FRow2, FInts2, h1, hl])
    · have h2 : i < b.cells.length := by omega
      simp only [spec_RowSame.turn6, spec_RowSame.step6, Int.toNat_natCast, W_up hi ha, ev_cond, ev_inB, ev_some, ev_iff ih, lt_up hi, in_up hi, in_up h2]
      clear ih
      generalize a.cells.getD i 0 = x
      generalize b.cells.getD i 0 = y
      grind
    · simp only [spec_RowSame.turn6, spec_RowSame.step6, lt_end, cond_false, ev_some]
theorem Equal_Cond_ev {a b : List TCond} (ha : a.length ≤ topN) : Ev (fun n _ => slices_Equal_Cond n a b) (FConds2 a b) := by
  refine ev_succ ?_
  simp only [slices_Equal_Cond, ev_cond, ev_some]
  refine ⟨fun h => ?_, fun h2 => ?_⟩
  · simp only [bne_iff_ne, ne_eq] at h; have : ¬ a.length = b.length := by omega
    simp [FConds2, this]
  · simp only [bne_eq_false_iff_eq] at h2
    have hl : a.length = b.length := by omega
    refine ev_congr (ev_all (fun n N i => slices_Equal_Cond.loop6 n (some true) N a b (a.length : Int) (i : Int)) (fun i => sameC (a.getD i TCond.dflt) (b.getD i TCond.dflt)) (len := a.length) (v := true) (fun i u hi ih => ?_) ?_) (by simp [FConds2, hl])
    · have h2 : i < b.length := by omega
      simp only [slices_Equal_Cond.turn6, slices_Equal_Cond.step6, Int.toNat_natCast, W_up hi ha, ev_cond, ev_inB, ev_some, ev_iff ih, lt_up hi, in_up hi, in_up h2]
      clear ih
      simp only [sameC]
      generalize (cond ((a.getD i TCond.dflt).col == (b.getD i TCond.dflt).col) (cond ((a.getD i TCond.dflt).op == (b.getD i TCond.dflt).op) (cond ((a.getD i TCond.dflt).v == (b.getD i TCond.dflt).v) true false) false) false) = c
      cases c <;> simp
    · simp only [slices_Equal_Cond.turn6, slices_Equal_Cond.step6, lt_end, cond_false, ev_some]
theorem Equal_Kid_ev {a b : List TKid} (ha : a.length ≤ topN) : Ev (fun n _ => slices_Equal_Kid n a b) (FKids2 a b) := by
  refine ev_succ ?_
  simp only [slices_Equal_Kid, ev_cond, ev_some]
  refine ⟨fun h => ?_, fun h2 => ?_⟩
  · simp only [bne_iff_ne, ne_eq] at h; have : ¬ a.length = b.length := by omega
    simp [FKids2, this]
  · simp only [bne_eq_false_iff_eq] at h2
    have hl : a.length = b.length := by omega
    refine ev_congr (ev_all (fun n N i => slices_Equal_Kid.loop6 n (some true) N a b (a.length : Int) (i : Int)) (fun i => (cond ((a.getD i TKid.dflt).id_ == (b.getD i TKid.dflt).id_) (cond ((a.getD i TKid.dflt).n_ == (b.getD i TKid.dflt).n_) true false) false)) (len := a.length) (v := true) (fun i u hi ih => ?_) ?_) (by simp [FKids2, hl])
    · have h2 : i < b.length := by omega
      simp only [slices_Equal_Kid.turn6, slices_Equal_Kid.step6, Int.toNat_natCast, W_up hi ha, ev_cond, ev_inB, ev_some, ev_iff ih, lt_up hi, in_up hi, in_up h2]
      clear ih
      generalize (cond ((a.getD i TKid.dflt).id_ == (b.getD i TKid.dflt).id_) (cond ((a.getD i TKid.dflt).n_ == (b.getD i TKid.dflt).n_) true false) false) = c
      cases c <;> simp
    · simp only [slices_Equal_Kid.turn6, slices_Equal_Kid.step6, lt_end, cond_false, ev_some]
theorem Equal_int_ev {a b : List Int} (ha : a.length ≤ topN) : Ev (fun n _ => slices_Equal_int n a b) (FInts2 a b) := by
  refine ev_succ ?_
  simp only [slices_Equal_int, ev_cond, ev_some]
  refine ⟨fun h => ?_, fun h2 => ?_⟩
  · simp only [bne_iff_ne, ne_eq] at h; have : ¬ a.length = b.length := by omega
    simp [FInts2, this]
  · simp only [bne_eq_false_iff_eq] at h2
    have hl : a.length = b.length := by omega
    refine ev_congr (ev_all (fun n N i => slices_Equal_int.loop6 n (some true) N a b (a.length : Int) (i : Int)) (fun i => a.getD i 0 == b.getD i 0) (len := a.length) (v := true) (fun i u hi ih => ?_) ?_) (by simp [FInts2, hl])
    · have h2 : i < b.length := by omega
      simp only [slices_Equal_int.turn6, slices_Equal_int.step6, Int.toNat_natCast, W_up hi ha, ev_cond, ev_inB, ev_some, ev_iff ih, lt_up hi, in_up hi, in_up h2]
      clear ih
      generalize a.getD i 0 = x
      generalize b.getD i 0 = y
      grind
    · simp only [slices_Equal_int.turn6, slices_Equal_int.step6, lt_end, cond_false, ev_some]
theorem impl_QuerySame_ev {a b : TQuery} (ha : lenQ topN a) : Ev (fun n _ => impl_QuerySame n a b) (FQuery2 a b) := by
  refine ev_succ ?_
  simp only [impl_QuerySame, ev_bind (Equal_Cond_ev ha.1), ev_bind (Equal_int_ev ha.2), ev_cond, ev_some, FQuery2]
  generalize FConds2 a.where_ b.where_ = c
  generalize FInts2 a.show_ b.show_ = d
  repeat' (first | apply And.intro | intro _)
  all_goals (try simp only [beq_iff_eq, beq_eq_false_iff_ne, ne_eq] at *)
  all_goals simp_all
theorem impl_RowSame_ev {a b : TRow} (ha : a.cells.length ≤ topN) : Ev (fun n _ => impl_RowSame n a b) (FRow2 a b) := by
  refine ev_succ ?_
  simp only [impl_RowSame, ev_bind (Equal_int_ev ha), ev_cond, ev_some, FRow2]
  generalize FInts2 a.cells b.cells = d
  cases d <;> grind
theorem EqualFunc_Row_ev {a b : List TRow} (ha : lenR topN a) : Ev (fun n _ => slices_EqualFunc_Row_impl_RowSame n a b) (FRows2 a b) := by
  refine ev_succ ?_
  simp only [slices_EqualFunc_Row_impl_RowSame, ev_cond, ev_some]
  refine ⟨fun h => ?_, fun h2 => ?_⟩
  · simp only [bne_iff_ne, ne_eq] at h; have : ¬ a.length = b.length := by omega
    simp [FRows2, this]
  · simp only [bne_eq_false_iff_eq] at h2
    have hl : a.length = b.length := by omega
    refine ev_congr (ev_all (fun n N i => slices_EqualFunc_Row_impl_RowSame.loop6 n (some true) N b a (a.length : Int) (i : Int)) (fun i => FRow2 (a.getD i TRow.dflt) (b.getD i TRow.dflt)) (len := a.length) (v := true) (fun i u hi ih => ?_) ?_) (by simp [FRows2, hl])
    · have h2 : i < b.length := by omega
      simp only [slices_EqualFunc_Row_impl_RowSame.turn6, slices_EqualFunc_Row_impl_RowSame.step6, Int.toNat_natCast, W_up hi ha.1, ev_cond, ev_inB, ev_bind (impl_RowSame_ev (getD_cells ha i)), ev_some, ev_iff ih, lt_up hi, in_up hi, in_up h2]
      clear ih
      generalize FRow2 (a.getD i TRow.dflt) (b.getD i TRow.dflt) = c
      cases c <;> simp
    · simp only [slices_EqualFunc_Row_impl_RowSame.turn6, slices_EqualFunc_Row_impl_RowSame.step6, lt_end, cond_false, ev_some]
theorem impl_ViewSame_ev {a b : TView} (ha : lenV topN a) : Ev (fun n _ => impl_ViewSame n a b) (FView2 a b) := by
  refine ev_succ ?_
  simp only [impl_ViewSame, ev_bind (impl_QuerySame_ev ha.1), ev_bind (EqualFunc_Row_ev ha.2.1), ev_bind (Equal_Kid_ev ha.2.2), ev_cond, ev_some, FView2]
  generalize FQuery2 a.q b.q = c
  generalize FRows2 a.rows b.rows = d
  generalize FKids2 a.kids b.kids = e
  cases c <;> cases d <;> cases e <;> simp
end Go.Pi
end
section
set_option linter.unusedVariables false
set_option maxRecDepth 100000
set_option linter.unusedSimpArgs false
namespace Go.Pi
/-! rows that are put; a store that goes forward -/
theorem ev_cutB {α : Type} {lo hi : Int} {len : Nat} {f : Nat → Nat → Option α} {v : α} : Ev (fun n N => cutB lo hi len (f n N)) v ↔ (0 ≤ lo ∧ lo ≤ hi ∧ hi ≤ (len : Int)) ∧ Ev f v := by
  unfold cutB
  simp only [ev_cond, ev_none]
  by_cases h1 : 0 ≤ lo <;> by_cases h2 : lo ≤ hi <;> by_cases h3 : hi ≤ (len : Int) <;> simp [h1, h2, h3]
def putPos (rows : List TRow) (id : Int) : Nat := rows.findIdx (fun x => decide (x.id_ > id))
def FRowPut (rows : List TRow) (r : TRow) : List TRow :=
  cond (decide (FRowAt rows r.id_ ≥ 0)) (rows.set (FRowAt rows r.id_).toNat r) (rows.take (putPos rows r.id_) ++ [r] ++ rows.drop (putPos rows r.id_))
theorem atCases (rows : List TRow) (id : Int) : (∃ p, p < rows.length ∧ FRowAt rows id = (p : Int) ∧ rows.findIdx (fun r => r.id_ == id) = p) ∨ (FRowAt rows id = -1 ∧ FDrop rows id = rows) := by
  rw [FRowAt_idx]
  by_cases h : rows.findIdx (fun r => r.id_ == id) < rows.length
  · exact .inl ⟨_, h, if_pos h, rfl⟩
  · refine .inr ⟨if_neg h, ?_⟩
    unfold FDrop
    rw [List.eraseIdx_of_length_le (by omega)]
theorem idx_down (rows : List TRow) (P : TRow → Bool) {j : Nat} (hj : j < rows.length) :
    j + (rows.drop j).findIdx P = cond (P (rows.getD j TRow.dflt)) j (j + 1 + (rows.drop (j + 1)).findIdx P) := by
  rw [drop_step TRow.dflt hj, List.findIdx_cons]
  cases P (rows.getD j TRow.dflt) <;> simp only [cond_true, cond_false] <;> omega
theorem spec_RowPut_ev {rows : List TRow} {r : TRow} (h : lenR capR rows) (hr : r.cells.length ≤ capR) : Ev (fun n _ => spec_RowPut n rows r) (FRowPut rows r) := by
  refine ev_succ ?_
  have hl := h.1
  simp only [capR] at hl
  have ht : rows.length ≤ topN := by simp only [topN]; omega
  have e0 : ∀ r : TRow, TRow.mk r.id_ r.cells = r := fun _ => rfl
  simp only [spec_RowPut, ev_bind (spec_RowDrop_ev (id := r.id_) h), ev_bind (spec_RowAt_ev (rows := rows) (id := r.id_) ht), ev_cond]
  rcases atCases rows r.id_ with ⟨p, hp, e1, e2⟩ | ⟨e1, e2⟩
  · have hd : FDrop rows r.id_ = rows.take p ++ rows.drop (p + 1) := by unfold FDrop; rw [e2, List.eraseIdx_eq_take_drop_succ]
    have hdl : (FDrop rows r.id_).length = rows.length - 1 := by rw [hd]; simp; omega
    refine ⟨fun _ => ?_, fun h => by rw [e1] at h; simp at h⟩
    rw [e1]
    simp only [ev_cutB, ev_roomB, l6Copy_b hr, ev_some, Int.toNat_natCast, List.length_nil, List.nil_append, List.drop_zero, hdl]
    refine ⟨by omega, by simp; omega, by simp; omega, by omega, by simp; omega, ?_⟩
    unfold FRowPut
    rw [e1, decide_eq_true (by omega), cond_true, Int.toNat_natCast, hd, List.set_eq_take_append_cons_drop, if_pos hp]
    have t1 : (rows.take p ++ rows.drop (p + 1)).take p = rows.take p := by rw [List.take_append_of_le_length (by simp; omega), List.take_take, Nat.min_self]
    have t2 : ((rows.take p ++ rows.drop (p + 1)).take (rows.length - 1)).drop p = rows.drop (p + 1) := by
      rw [List.take_of_length_le (by simp; omega), List.drop_append_of_le_length (by simp; omega), List.drop_eq_nil_of_le (by simp; omega), List.nil_append]
    rw [t1, t2]; simp
  · refine ⟨fun h => by rw [e1] at h; simp at h, fun _ => ?_⟩
    rw [e2]
    have hF : FRowPut rows r = rows.take (putPos rows r.id_) ++ [r] ++ rows.drop (putPos rows r.id_) := by unfold FRowPut; rw [e1]; rfl
    rw [hF]
    obtain ⟨S, hS⟩ : ∃ S : Nat → Int, S = fun i => (((rows.length - i) + (rows.drop (rows.length - i)).findIdx (fun x => decide (x.id_ > r.id_)) : Nat) : Int) := ⟨_, rfl⟩
    have hS0 : S 0 = (rows.length : Int) := by rw [hS]; simp
    have := ev_seq S rows.length (fun n N i (s : Int) => spec_RowPut.loop6 n (fun xy5 xy6 xy7 xy8 => (cutB 0 xy5 xy8.length (roomB (([] : List TRow).length + ((xy8.take xy5.toNat).drop 0).length) 32 ((spec_l6Copy n (TRow.mk xy6 xy7)).bind fun xr9 => (roomB ((([] : List TRow) ++ ((xy8.take xy5.toNat).drop 0)).length + ([xr9] : List TRow).length) 32 (cutB xy5 (xy8.length : Int) xy8.length (roomB (((([] : List TRow) ++ ((xy8.take xy5.toNat).drop 0)) ++ ([xr9] : List TRow)).length + ((xy8.take ((xy8.length : Int).toNat)).drop xy5.toNat).length) 32 (some (((([] : List TRow) ++ ((xy8.take xy5.toNat).drop 0)) ++ ([xr9] : List TRow)) ++ ((xy8.take ((xy8.length : Int).toNat)).drop xy5.toNat)))))))))) N s (((rows.length - i : Nat) : Int) - 1) r.id_ r.cells rows) (rows.take (putPos rows r.id_) ++ [r] ++ rows.drop (putPos rows r.id_)) (fun i hi F hF => ?_) ?_
    · rw [hS0] at this
      rw [W_dn ht]
      simpa using this
    · obtain ⟨j, hj⟩ : ∃ j, j = rows.length - i - 1 := ⟨_, rfl⟩
      have hji : rows.length - i = j + 1 := by omega
      have hji2 : rows.length - (i + 1) = j := by omega
      have hjl : j < rows.length := by omega
      have hstep := idx_down rows (fun x => decide (x.id_ > r.id_)) hjl
      have s1 : S i = ((j + 1 + (rows.drop (j + 1)).findIdx (fun x => decide (x.id_ > r.id_)) : Nat) : Int) := by rw [hS]; simp only [hji]
      have s2 : S (i + 1) = ((j + (rows.drop j).findIdx (fun x => decide (x.id_ > r.id_)) : Nat) : Int) := by rw [hS]; simp only [hji2]
      have ei : ((rows.length - i : Nat) : Int) - 1 = (j : Int) := by omega
      have ei2 : W ((j : Int) - 1) = ((rows.length - (i + 1) : Nat) : Int) - 1 := by rw [W_dn (by omega), hji2]
      rw [s2, hstep] at hF
      rw [ei, s1]
      simp only [spec_RowPut.turn6, spec_RowPut.step6, ev_cond, ev_inB, Int.toNat_natCast, ei2]
      refine ⟨fun _ => ⟨by omega, fun hc => ?_, fun hc => ?_⟩, fun h => by simp at h⟩
      · rw [hc] at hF; exact hF
      · rw [hc] at hF; exact hF
    · have s1 : S rows.length = (putPos rows r.id_ : Int) := by rw [hS]; simp [putPos]
      have hpl : putPos rows r.id_ ≤ rows.length := List.findIdx_le_length
      rw [s1]
      simp only [spec_RowPut.turn6, spec_RowPut.step6, Nat.sub_self, e0]
      rw [show decide (((0 : Nat) : Int) - 1 ≥ 0) = false from by simp]
      simp only [cond_false, ev_cutB, ev_roomB, l6Copy_b hr, ev_some, Int.toNat_natCast, List.length_nil, List.nil_append, List.drop_zero]
      refine ⟨by omega, by simp; omega, by simp; omega, by omega, by simp; omega, ?_⟩
      rw [List.take_length]
theorem impl_RowPut_ev {rows : List TRow} {r : TRow} (h : lenR capR rows) (hr : r.cells.length ≤ capR) : Ev (fun n _ => impl_RowPut n rows r) (FRowPut rows r) := by
  refine ev_succ ?_
  have hl := h.1
  simp only [capR] at hl
  have ht : rows.length ≤ topN := by simp only [topN]; omega
  have hA : ∀ (x : TRow), Ev (fun n _ => impl_RowPut_f1 n x r.id_ r.cells) (decide (x.id_ > r.id_)) := fun x => ev_succ (by simp only [impl_RowPut_f1, ev_some])
  have hI : Ev (fun n _ => slices_IndexFunc_Row_impl_RowPut_f1 n rows r.id_ r.cells) (if putPos rows r.id_ < rows.length then ((putPos rows r.id_ : Nat) : Int) else -1) := by
    refine ev_succ ?_
    unfold putPos
    rw [← foldFrom_idx TRow.dflt]
    simp only [slices_IndexFunc_Row_impl_RowPut_f1]
    refine ev_fold (fun n N i => slices_IndexFunc_Row_impl_RowPut_f1.loop3 n (some (-1)) N rows r.id_ r.cells (rows.length : Int) (i : Int)) _ (fun i u hi ih => ?_) ?_
    · simp only [slices_IndexFunc_Row_impl_RowPut_f1.turn3, slices_IndexFunc_Row_impl_RowPut_f1.step3, Int.toNat_natCast, W_up hi ht, ev_cond, ev_inB, ev_bind (hA _), ev_some, ev_iff ih, lt_up hi, in_up hi]
      clear ih
      grind
    · simp only [slices_IndexFunc_Row_impl_RowPut_f1.turn3, slices_IndexFunc_Row_impl_RowPut_f1.step3, lt_end, cond_false, ev_some]
  have hp : putPos rows r.id_ ≤ rows.length := List.findIdx_le_length
  have hN : ∀ i : Nat, i ≤ rows.length → Ev (fun n _ => slices_Insert_Row n rows (i : Int) [r]) (rows.take i ++ [r] ++ rows.drop i) := fun i hi => by
    refine ev_succ ?_
    simp only [slices_Insert_Row, nInsert, ev_cond, ev_some, ev_none, Int.toNat_natCast]
    simp; omega
  simp only [impl_RowPut, ev_bind (copyRows_ev h), ev_bind (impl_RowAt_ev (rows := rows) (id := r.id_) ht), ev_cond, copyRow_b hr, ev_inB, ev_some, ev_bind hI]
  unfold FRowPut
  rcases atCases rows r.id_ with ⟨p, hpl, e1, e2⟩ | ⟨e1, e2⟩
  · rw [e1]
    refine ⟨fun hc => ⟨by omega, ?_⟩, fun h => by simp at h⟩
    rw [hc, cond_true]
  · rw [e1]
    refine ⟨fun h => by simp at h, fun hc => ?_⟩
    rw [hc, cond_false]
    by_cases hlt : putPos rows r.id_ < rows.length
    · rw [if_pos hlt]
      refine ⟨fun h => by simp at h; omega, fun _ => ?_⟩
      simp only [ev_bind (hN _ hp), ev_some]
    · have e : putPos rows r.id_ = rows.length := by omega
      rw [if_neg hlt]
      refine ⟨fun _ => ?_, fun h => by simp at h⟩
      simp only [ev_bind (hN rows.length (Nat.le_refl _)), ev_some]
      rw [e]
end Go.Pi
end
section
set_option linter.unusedVariables false
set_option maxRecDepth 100000
set_option linter.unusedSimpArgs false
namespace Go.Pi
def lenC (c : Nat) (x : TChange) : Prop := x.old.cells.length ≤ c ∧ x.new.cells.length ≤ c
theorem lenR.upto {c d : Nat} {r : List TRow} (h : lenR c r) (hc : c ≤ d) : lenR d r := ⟨Nat.le_trans h.1 hc, fun x hx => Nat.le_trans (h.2 x hx) hc⟩
theorem lenSt.upto {c d : Nat} {s : TStore} (h : lenSt c s) (hc : c ≤ d) : lenSt d s := ⟨Nat.le_trans h.1 hc, Nat.le_trans h.2.1 hc, fun x hx => (h.2.2 x hx).upto hc⟩
theorem FDrop_len {c : Nat} {rows : List TRow} {id : Int} (h : lenR c rows) : lenR c (FDrop rows id) := by
  unfold FDrop
  exact ⟨Nat.le_trans (List.length_eraseIdx_le _ _) h.1, fun x hx => h.2 x (List.mem_of_mem_eraseIdx hx)⟩
theorem FRowPut_len {c : Nat} {rows : List TRow} {r : TRow} (h : lenR c rows) (hr : r.cells.length ≤ c) : lenR (c + 1) (FRowPut rows r) := by
  unfold FRowPut
  have h1 := h.1
  cases decide (FRowAt rows r.id_ ≥ 0) <;> simp only [cond_true, cond_false]
  · refine ⟨by simp; omega, fun x hx => ?_⟩
    rcases List.mem_append.1 hx with hx | hx
    · rcases List.mem_append.1 hx with hx | hx
      · exact Nat.le_succ_of_le (h.2 x (List.mem_of_mem_take hx))
      · rw [List.mem_singleton.1 hx]; omega
    · exact Nat.le_succ_of_le (h.2 x (List.mem_of_mem_drop hx))
  · refine ⟨by simp; omega, fun x hx => ?_⟩
    rcases List.mem_or_eq_of_mem_set hx with hx | rfl
    · exact Nat.le_succ_of_le (h.2 x hx)
    · omega
def noStore : TStore := ⟨⟨[]⟩, 0, []⟩
def tab (s : TStore) (t : Int) : List TRow := s.tables.getD t.toNat []
def FNo (r : TRow) : Bool := (r.id_ == 0) && ((r.cells.length : Int) == 0)
def FIs (rows : List TRow) (r : TRow) : Bool := decide (FRowAt rows r.id_ ≥ 0) && FRow2 (rows.getD (FRowAt rows r.id_).toNat TRow.dflt) r
def inT (s : TStore) (t : Int) : Bool := inn t 0 (W ((s.tables.length : Int) - 1))
def rows1 (s : TStore) (c : TChange) : List TRow := cond c.had (FDrop (tab s c.table) c.old.id_) (tab s c.table)
def rows2 (s : TStore) (c : TChange) : List TRow := cond c.has (FRowPut (rows1 s c) c.new) (rows1 s c)
def turned (s : TStore) (c : TChange) : TStore := ⟨s.schema, s.version, s.tables.set c.table.toNat (rows2 s c)⟩
def okTurn (s : TStore) (c : TChange) : Bool := inT s c.table && ((!c.had || FIs (tab s c.table) c.old) && !(c.has && decide (FRowAt (rows1 s c) c.new.id_ ≥ 0)))
def FTurn (s : TStore) (c : TChange) : TStore × Bool := cond (okTurn s c) (turned s c, true) (s, false)
theorem inT_in {s : TStore} {t : Int} (hl : s.tables.length ≤ topN) (h : inT s t = true) : 0 ≤ t ∧ t < (s.tables.length : Int) := by
  have e := W_dn hl
  have := inn_true h
  omega
theorem set_self {s : TStore} {t : Int} (h : 0 ≤ t ∧ t < (s.tables.length : Int)) : s.tables.set t.toNat (s.tables.getD t.toNat []) = s.tables := by
  have : t.toNat < s.tables.length := by omega
  rw [List.getD_eq_getElem?_getD, List.getElem?_eq_getElem this]
  exact List.set_getElem_self this
section
variable {β : Type} {s : TStore} {t : Int} {r : TRow} {g : Nat → Nat → Bool → Option β} {v : β}
theorem l7There_b (h : lenSt topN s) : Ev (fun n N => (spec_l7There n s t r).bind (g n N)) v ↔ Ev (fun n N => g n N (inT s t && FIs (tab s t) r)) v := by
  refine ev_bind (ev_succ ?_)
  have hr : lenR topN (s.tables.getD t.toNat []) := getD_rows h.2.2 t.toNat
  simp only [spec_l7There, l1In_b, ev_cond, ev_inB, ev_some, ev_bind (spec_RowAt_ev (rows := s.tables.getD t.toNat []) (id := r.id_) hr.1)]
  cases hi : inn t 0 (W ((s.tables.length : Int) - 1)) with
  | false => simp [inT, hi]
  | true =>
    have hb := inT_in (s := s) h.2.1 hi
    have hI : inT s t = true := hi
    rw [hI]
    refine ⟨fun h => (by cases h), fun _ => ⟨hb, ?_⟩⟩
    unfold FIs tab
    rcases atCases (s.tables.getD t.toNat []) r.id_ with ⟨p, hp, e1, e2⟩ | ⟨e1, e2⟩
    · rw [e1]
      simp only [Int.toNat_natCast, ev_bind (spec_RowSame_ev (a := (s.tables.getD t.toNat []).getD p TRow.dflt) (b := r) (getD_cells hr p)), ev_some]
      exact ⟨fun h => ⟨hb, by omega, by rw [h]; rfl⟩, fun h => by simp at h⟩
    · rw [e1]
      exact ⟨fun h => by simp at h, fun h => by rw [h]; rfl⟩
theorem noRow_b : Ev (fun n N => (impl_noRow n r).bind (g n N)) v ↔ Ev (fun n N => g n N (FNo r)) v :=
  ev_bind (ev_succ (by simp only [impl_noRow, ev_cond, ev_some, FNo]; cases (r.id_ == 0) <;> simp))
theorem l8Zero_b : Ev (fun n N => (spec_l8Zero n r).bind (g n N)) v ↔ Ev (fun n N => g n N (FNo r)) v :=
  ev_bind (ev_succ (by simp only [spec_l8Zero, ev_cond, ev_some, FNo]; cases (r.id_ == 0) <;> simp))
end
theorem rows1_len {c : Nat} {s : TStore} {x : TChange} (h : lenSt c s) : lenR c (rows1 s x) := by
  have h0 : lenR c (tab s x.table) := getD_rows h.2.2 x.table.toNat
  unfold rows1
  cases x.had <;> simp only [cond_true, cond_false]
  · exact h0
  · exact FDrop_len h0
theorem turned_len {c : Nat} {s : TStore} {x : TChange} (h : lenSt c s) (hx : lenC c x) : lenSt (c + 1) (turned s x) := by
  refine ⟨Nat.le_succ_of_le h.1, by simp only [turned, List.length_set]; exact Nat.le_succ_of_le h.2.1, fun y hy => ?_⟩
  simp only [turned] at hy
  rcases List.mem_or_eq_of_mem_set hy with hy | rfl
  · exact (h.2.2 y hy).upto (by omega)
  · unfold rows2
    cases x.has <;> simp only [cond_true, cond_false]
    · exact (rows1_len h).upto (by omega)
    · exact FRowPut_len (rows1_len h) hx.2
theorem topR {c : Nat} {r : List TRow} (h : lenR c r) (hc : c ≤ capR) : lenR topN r := h.upto (by simp only [capR] at hc; simp only [topN]; omega)
theorem spec_l7Turn_ev {c : Nat} {s : TStore} {x : TChange} (h : lenSt c s) (hx : lenC c x) (hc : c ≤ capR) : Ev (fun n _ => spec_l7Turn n s x) (FTurn s x) := by
  refine ev_succ ?_
  have hS : lenSt topN s := h.upto (by simp only [capR] at hc; simp only [topN]; omega)
  have hR := h.upto hc
  have h0 : lenR capR (s.tables.getD x.table.toNat []) := getD_rows hR.2.2 x.table.toNat
  have hd := FDrop_len (id := x.old.id_) h0
  have hr : x.new.cells.length ≤ capR := by have := hx.2; omega
  have t0 := (topR h0 (Nat.le_refl _)).1
  have t1 := (topR hd (Nat.le_refl _)).1
  simp only [spec_l7Turn, l1In_b, ev_cond, l7There_b hS, ev_inB, ev_bind (spec_RowDrop_ev (id := x.old.id_) h0), ev_bind (spec_RowAt_ev (id := x.new.id_) t0), ev_bind (spec_RowAt_ev (id := x.new.id_) t1), ev_bind (spec_RowPut_ev h0 hr), ev_bind (spec_RowPut_ev hd hr), ev_some]
  unfold FTurn okTurn turned rows2 rows1 tab
  cases hi : inn x.table 0 (W ((s.tables.length : Int) - 1)) with
  | false => simp [inT, hi]
  | true =>
    have hI : inT s x.table = true := hi
    have hb := inT_in (s := s) hS.2.1 hi
    rw [hI]
    cases h2 : x.had <;> cases h3 : x.has <;> cases h4 : FIs (s.tables.getD x.table.toNat []) x.old <;> simp [h2, h3, h4, hb]
    all_goals exact ⟨fun hq => by simp [hq], fun hq => by simp [Int.not_le.2 hq]⟩
end Go.Pi
end
section
set_option linter.unusedVariables false
set_option maxRecDepth 100000
set_option linter.unusedSimpArgs false
namespace Go.Pi
theorem allN_iff {p : Nat → Bool} {len : Nat} : allN p len = true ↔ ∀ i, i < len → p i = true := by
  have key : ∀ d i, d + i = len → (allFrom p d i = true ↔ ∀ k, i ≤ k → k < len → p k = true) := by
    intro d
    induction d with
    | zero => intro i hi; simp only [allFrom, true_iff]; intro k h1 h2; omega
    | succ d ih =>
      intro i hi
      simp only [allFrom, Bool.and_eq_true, ih (i + 1) (by omega)]
      constructor
      · rintro ⟨h1, h2⟩ k h3 h4
        by_cases e : k = i
        · subst e; exact h1
        · exact h2 k (by omega) h4
      · exact fun h => ⟨h i (Nat.le_refl _) (by omega), fun k h1 h2 => h k (by omega) h2⟩
  have := key len 0 (by omega)
  unfold allN
  rw [this]
  exact ⟨fun h i hi => h i (Nat.zero_le _) hi, fun h i _ hi => h i hi⟩
theorem FInts2_eq {a b : List Int} (h : FInts2 a b = true) : a = b := by
  unfold FInts2 at h
  simp only [Bool.and_eq_true, decide_eq_true_eq, allN_iff] at h
  refine List.ext_getElem h.1 fun i h1 h2 => ?_
  have := h.2 i h1
  rw [List.getD_eq_getElem?_getD, List.getD_eq_getElem?_getD, List.getElem?_eq_getElem h1, List.getElem?_eq_getElem h2] at this
  simpa using this
theorem FRow2_eq {a b : TRow} (h : FRow2 a b = true) : a = b := by
  unfold FRow2 at h
  simp only [Bool.and_eq_true, beq_iff_eq] at h
  cases a; cases b
  simp only at h
  rw [h.1, FInts2_eq h.2]
/-! what a store that is right bears -/
theorem FStore_parts {s : TStore} (h : FStore s = true) : FSchema s.schema = true ∧ (0 ≤ s.version ∧ s.version ≤ 100000) ∧ s.tables.length = s.schema.cols.length ∧ ∀ i, i < s.tables.length → FRowsOk s.schema (i : Int) (s.tables.getD i []) = true := by
  unfold FStore at h
  simp only [Bool.and_eq_true, decide_eq_true_eq, FTables, allN_iff, inn_iff] at h
  exact ⟨h.1, h.2.1, h.2.2.1, h.2.2.2⟩
theorem FStore_mk {s : TStore} (h1 : FSchema s.schema = true) (h2 : 0 ≤ s.version ∧ s.version ≤ 100000) (h3 : s.tables.length = s.schema.cols.length) (h4 : ∀ i, i < s.tables.length → FRowsOk s.schema (i : Int) (s.tables.getD i []) = true) : FStore s = true := by
  unfold FStore
  simp only [Bool.and_eq_true, decide_eq_true_eq, FTables, allN_iff, inn_iff]
  exact ⟨h1, h2, h3, h4⟩
theorem FSchema_parts {s : TSchema} (h : FSchema s = true) : s.cols.length ≤ 3 ∧ ∀ i, i < s.cols.length → 1 ≤ s.cols.getD i 0 ∧ s.cols.getD i 0 ≤ 4 := by
  unfold FSchema at h
  simp only [Bool.and_eq_true, allN_iff, inn_iff] at h
  exact ⟨by have := h.2.2; omega, fun i hi => h.1 i hi⟩
theorem FRowsOk_parts {s : TSchema} {t : Int} {rows : List TRow} (h : FRowsOk s t rows = true) : rows.length ≤ 24 ∧ ∀ i, i < rows.length → FRow s t (rows.getD i TRow.dflt) = true := by
  unfold FRowsOk at h
  simp only [Bool.and_eq_true, decide_eq_true_eq, allN_iff] at h
  exact ⟨by have := h.2.2.2; omega, fun i hi => (h.1 i hi).1⟩
theorem FRow_mem {s : TSchema} {t : Int} {rows : List TRow} (h : FRowsOk s t rows = true) {r : TRow} (hr : r ∈ rows) : FRow s t r = true := by
  obtain ⟨i, hi, rfl⟩ := List.getElem_of_mem hr
  have := (FRowsOk_parts h).2 i hi
  rwa [List.getD_eq_getElem?_getD, List.getElem?_eq_getElem hi] at this
theorem FRow_len {s : TSchema} {t : Int} {r : TRow} (h : FRow s t r = true) : r.cells.length ≤ 4 := by
  unfold FRow at h
  simp only [Bool.and_eq_true, decide_eq_true_eq] at h
  obtain ⟨h1, h2, h3, h4, h5⟩ := h
  have hp := FSchema_parts h1
  have := inn_true h2
  have e : W ((s.cols.length : Int) - 1) = (s.cols.length : Int) - 1 := W_dn (by simp only [topN]; omega)
  have := hp.2 t.toNat (by omega)
  omega
theorem FStore_len {s : TStore} (h : FStore s = true) : lenSt 24 s := by
  obtain ⟨h1, h2, h3, h4⟩ := FStore_parts h
  have hp := FSchema_parts h1
  refine ⟨by omega, by omega, fun x hx => ?_⟩
  obtain ⟨i, hi, rfl⟩ := List.getElem_of_mem hx
  have hr := h4 i hi
  rw [List.getD_eq_getElem?_getD, List.getElem?_eq_getElem hi, Option.getD_some] at hr
  exact ⟨(FRowsOk_parts hr).1, fun r hm => by have := FRow_len (FRow_mem hr hm); omega⟩
def FFits (s : TSchema) (c : TChange) : Bool :=
  (c.had || c.has) && (inn c.table 0 (W ((s.cols.length : Int) - 1)) && (cond c.had (FRow s c.table c.old) (FNo c.old) && cond c.has (FRow s c.table c.new) (FNo c.new)))
theorem changeFits_b {β : Type} {s : TSchema} {c : TChange} (hs : s.cols.length ≤ topN) (hc : lenC topN c) {g : Nat → Nat → Bool → Option β} {v : β} : Ev (fun n N => (impl_changeFits n s c).bind (g n N)) v ↔ Ev (fun n N => g n N (FFits s c)) v := by
  refine ev_bind (ev_succ ?_)
  simp only [impl_changeFits, ev_cond, ev_bind (impl_RowOk_ev (s := s) (t := c.table) hs hc.1), ev_bind (impl_RowOk_ev (s := s) (t := c.table) hs hc.2), noRow_b, hasTable_b, ev_some]
  unfold FFits
  cases h1 : c.had <;> cases h2 : c.has <;> cases h3 : FRow s c.table c.old <;> cases h4 : FRow s c.table c.new <;> cases h5 : FNo c.old <;> cases h6 : FNo c.new <;> cases h7 : inn c.table 0 (W ((s.cols.length : Int) - 1)) <;> simp
def FSwap (s : TStore) (c : TChange) : TStore × Bool := cond (okTurn s c) (turned s c, FStore (turned s c)) (noStore, false)
theorem swapped_ev {k : Nat} {s : TStore} {x : TChange} (h : lenSt k s) (hx : lenC k x) (hk : k + 1 ≤ capR) (he : s.tables.length = s.schema.cols.length) : Ev (fun n _ => impl_swapped n s x.table x.had x.old x.has x.new) (FSwap s x) := by
  refine ev_succ ?_
  have hS : lenSt topN s := h.upto (by simp only [capR] at hk; simp only [topN]; omega)
  have hR := h.upto (show k ≤ capR by omega)
  have h0 : lenR capR (s.tables.getD x.table.toNat []) := getD_rows hR.2.2 x.table.toNat
  have hd := FDrop_len (id := x.old.id_) h0
  have hr : x.new.cells.length ≤ capR := by have := hx.2; omega
  have t00 := topR h0 (Nat.le_refl _)
  have t0 := t00.1
  have t1 := (topR hd (Nat.le_refl _)).1
  have hT : lenSt topN (turned s x) := (turned_len h hx).upto (by simp only [capR] at hk; simp only [topN]; omega)
  have hso : Ev (fun n _ => impl_StoreOk n (turned s x)) (FStore (turned s x)) := impl_StoreOk_ev hT
  simp only [impl_swapped, ev_bind (copyStore_ev hR), hasTable_b, ev_cond, ev_inB, ev_bind (impl_RowAt_ev (id := x.old.id_) t0), ev_bind (impl_RowDrop_ev (id := x.old.id_) h0), ev_bind (impl_RowAt_ev (id := x.new.id_) t0), ev_bind (impl_RowAt_ev (id := x.new.id_) t1), ev_bind (impl_RowPut_ev h0 hr), ev_bind (impl_RowPut_ev hd hr), ev_some, Nat.beq_refl]
  rw [← he]
  cases hi : inn x.table 0 (W ((s.tables.length : Int) - 1)) with
  | false =>
    refine ⟨fun _ => ?_, fun h => (by cases h)⟩
    unfold FSwap okTurn; simp [inT, hi]; rfl
  | true =>
    have hI : inT s x.table = true := hi
    have hb := inT_in (s := s) hS.2.1 hi
    have hset := set_self hb
    refine ⟨fun h => (by cases h), fun _ => ⟨hb, ?_⟩⟩
    unfold FSwap okTurn
    rw [hI]
    cases h2 : x.had <;> cases h3 : x.has
    · have e : turned s x = s := by simp only [turned, rows2, rows1, tab, h2, h3, cond_false, hset]
      rw [e] at hso ⊢
      simp only [ev_bind hso, ev_some]
      simp [hb]
    · have e : turned s x = ⟨s.schema, s.version, s.tables.set x.table.toNat (FRowPut (s.tables.getD x.table.toNat []) x.new)⟩ := by simp only [turned, rows2, rows1, tab, h2, h3, cond_true, cond_false]
      rw [e] at hso ⊢
      simp only [ev_bind hso, ev_some, rows1, tab, h2, cond_false]
      refine ⟨fun h => (by cases h), fun _ => ⟨fun _ => ⟨fun hq => ?_, fun hq => ⟨hb, ?_⟩⟩, fun h => (by cases h)⟩⟩
      · rw [hq]; rfl
      · rw [hq]; rfl
    · have e : turned s x = ⟨s.schema, s.version, s.tables.set x.table.toNat (FDrop (s.tables.getD x.table.toNat []) x.old.id_)⟩ := by simp only [turned, rows2, rows1, tab, h2, h3, cond_true, cond_false]
      rw [e] at hso ⊢
      simp only [ev_bind hso, ev_some, tab]
      refine ⟨fun _ => ?_, fun h => (by cases h)⟩
      unfold FIs
      rcases atCases (s.tables.getD x.table.toNat []) x.old.id_ with ⟨p, hp, e1, e2⟩ | ⟨e1, e2⟩
      · rw [e1]
        simp only [Int.toNat_natCast, ev_bind (impl_RowSame_ev (a := (s.tables.getD x.table.toNat []).getD p TRow.dflt) (b := x.old) (getD_cells t00 p)), ev_cond, ev_inB, ev_bind (impl_RowDrop_ev (id := x.old.id_) h0), ev_bind (impl_RowAt_ev (id := x.new.id_) t1), ev_bind (impl_RowPut_ev hd hr), ev_bind hso, ev_some]
        refine ⟨fun h => by simp at h; omega, fun _ => ⟨by omega, fun hq => ?_, fun hq => ⟨fun h => (by cases h), fun _ => ⟨hb, ?_⟩⟩⟩⟩
        · simp only [Bool.not_eq_true'] at hq; rw [hq]; simp; rfl
        · simp only [Bool.not_eq_false'] at hq; rw [hq]; simp
      · rw [e1]
        exact ⟨fun _ => by simp; rfl, fun h => by simp at h⟩
    · have e : turned s x = ⟨s.schema, s.version, s.tables.set x.table.toNat (FRowPut (FDrop (s.tables.getD x.table.toNat []) x.old.id_) x.new)⟩ := by simp only [turned, rows2, rows1, tab, h2, h3, cond_true, cond_false]
      rw [e] at hso ⊢
      simp only [ev_bind hso, ev_some, rows1, tab, h2, cond_true]
      refine ⟨fun _ => ?_, fun h => (by cases h)⟩
      unfold FIs
      rcases atCases (s.tables.getD x.table.toNat []) x.old.id_ with ⟨p, hp, e1, e2⟩ | ⟨e1, e2⟩
      · rw [e1]
        simp only [Int.toNat_natCast, ev_bind (impl_RowSame_ev (a := (s.tables.getD x.table.toNat []).getD p TRow.dflt) (b := x.old) (getD_cells t00 p)), ev_cond, ev_inB, ev_bind (impl_RowDrop_ev (id := x.old.id_) h0), ev_bind (impl_RowAt_ev (id := x.new.id_) t1), ev_bind (impl_RowPut_ev hd hr), ev_bind hso, ev_some]
        refine ⟨fun h => by simp at h; omega, fun _ => ⟨by omega, fun hq => ?_, fun hq => ⟨fun hr => ?_, fun hr => ⟨hb, ?_⟩⟩⟩⟩
        · simp only [Bool.not_eq_true'] at hq; rw [hq]; simp; rfl
        · simp only [Bool.not_eq_false'] at hq; rw [hq, hr]; simp; rfl
        · simp only [Bool.not_eq_false'] at hq; rw [hq, hr]; simp
      · rw [e1]
        exact ⟨fun _ => by simp; rfl, fun h => by simp at h⟩
end Go.Pi
end
section
set_option linter.unusedVariables false
set_option maxRecDepth 100000
set_option linter.unusedSimpArgs false
namespace Go.Pi
def okC (c : TChange) : Bool := (c.had || (c.has && FNo c.old)) && (c.has || FNo c.new)
def stepS (c : TChange) (s : TStore) : Option TStore := cond (okC c && (okTurn s c && FStore (turned s c))) (some (turned s c)) none
theorem inT_eq {s : TStore} (h : s.tables.length = s.schema.cols.length) (t : Int) : inT s t = inn t 0 (W ((s.schema.cols.length : Int) - 1)) := by unfold inT; rw [h]
theorem FIs_mem {rows : List TRow} {r : TRow} (h : FIs rows r = true) : r ∈ rows := by
  unfold FIs at h
  simp only [Bool.and_eq_true, decide_eq_true_eq] at h
  rcases atCases rows r.id_ with ⟨p, hp, e1, e2⟩ | ⟨e1, e2⟩
  · rw [e1, Int.toNat_natCast] at h
    have := FRow2_eq h.2
    rw [← this]
    exact getD_mem _ hp
  · rw [e1] at h; exact absurd h.1 (by decide)
theorem FRowPut_mem {rows : List TRow} {r : TRow} (h : ¬ FRowAt rows r.id_ ≥ 0) : r ∈ FRowPut rows r := by
  unfold FRowPut
  rw [decide_eq_false h, cond_false]
  simp
theorem fits_eq {s : TStore} {c : TChange} (hs : FStore s = true) (ht : okTurn s c = true) (hn : FStore (turned s c) = true) : FFits s.schema c = okC c := by
  obtain ⟨h1, h2, h3, h4⟩ := FStore_parts hs
  have hlen := FStore_len hs
  have hl : s.tables.length ≤ topN := by have := hlen.2.1; simp only [topN]; omega
  unfold okTurn at ht
  simp only [Bool.and_eq_true] at ht
  obtain ⟨hT, hA, hB⟩ := ht
  have hb := inT_in hl hT
  have hti : c.table.toNat < s.tables.length := by omega
  have hcast : ((c.table.toNat : Nat) : Int) = c.table := by omega
  rw [inT_eq h3] at hT
  have A : c.had = true → FRow s.schema c.table c.old = true := fun hh => by
    rw [hh] at hA
    have hm := FIs_mem (show FIs (tab s c.table) c.old = true by simpa using hA)
    have := h4 _ hti
    rw [hcast] at this
    exact FRow_mem this hm
  have B : c.has = true → FRow s.schema c.table c.new = true := fun hh => by
    rw [hh] at hB
    have hz : ¬ FRowAt (rows1 s c) c.new.id_ ≥ 0 := by simpa using hB
    obtain ⟨g1, g2, g3, g4⟩ := FStore_parts hn
    have := g4 c.table.toNat (by simp only [turned, List.length_set]; exact hti)
    rw [hcast] at this
    have e : (turned s c).tables.getD c.table.toNat [] = rows2 s c := by simp only [turned]; exact getD_put [] hti _
    rw [e] at this
    refine FRow_mem this ?_
    unfold rows2
    rw [hh, cond_true]
    exact FRowPut_mem hz
  unfold FFits okC
  rw [hT]
  cases h5 : c.had <;> cases h6 : c.has <;> cases FNo c.old <;> cases FNo c.new <;> simp_all
theorem stepI_eq {s : TStore} {c : TChange} (hs : FStore s = true) : cond (FFits s.schema c && (okTurn s c && FStore (turned s c))) (some (turned s c)) none = stepS c s := by
  unfold stepS
  cases h1 : okTurn s c with
  | false => simp
  | true =>
    cases h2 : FStore (turned s c) with
    | false => simp
    | true => rw [fits_eq hs h1 h2]
theorem stepS_some {s s' : TStore} {c : TChange} (h : stepS c s = some s') : FStore s' = true ∧ s'.schema = s.schema ∧ s'.version = s.version := by
  unfold stepS at h
  cases hc : (okC c && (okTurn s c && FStore (turned s c))) with
  | false => rw [hc] at h; cases h
  | true =>
    rw [hc, cond_true, Option.some.injEq] at h
    subst h
    simp only [Bool.and_eq_true] at hc
    exact ⟨hc.2.2, rfl, rfl⟩
def scanL {α σ : Type} (f : α → σ → Option σ) : List α → σ → Option σ
  | [], s => some s
  | c :: l, s => (f c s).bind (scanL f l)
theorem ev_scanL {σ α γ : Type} (d : α) (f : α → σ → Option σ) (I : σ → Prop) (l : List α) (L : Nat → Nat → Nat → σ → Option γ) (bad : γ) (fin : σ → γ)
    (hs : ∀ i s, i < l.length → I s → (f (l.getD i d) s = none → Ev (fun n N => L n (N + 1) i s) bad) ∧ ∀ s', f (l.getD i d) s = some s' → I s' ∧ ∀ F, Ev (fun n N => L n N (i + 1) s') F → Ev (fun n N => L n (N + 1) i s) F)
    (he : ∀ s, I s → Ev (fun n N => L n (N + 1) l.length s) (fin s)) (s : σ) (hI : I s) : Ev (fun n _ => L n n 0 s) (match scanL f l s with | none => bad | some s' => fin s') := by
  have key : ∀ j i, j + i = l.length → ∀ s, I s → Ev (fun n N => L n N i s) (match scanL f (l.drop i) s with | none => bad | some s' => fin s') := by
    intro j
    induction j with
    | zero =>
      intro i hi s hI
      have : i = l.length := by omega
      subst this
      rw [List.drop_length]
      exact ev_round (he s hI)
    | succ j ih =>
      intro i hi s hI
      rw [drop_step d (show i < l.length by omega)]
      obtain ⟨a, b⟩ := hs i s (by omega) hI
      simp only [scanL]
      cases hf : f (l.getD i d) s with
      | none => exact ev_round (a hf)
      | some s' =>
        obtain ⟨b1, b2⟩ := b s' hf
        exact ev_round (b2 _ (ih (i + 1) (by omega) s' b1))
  have := key l.length 0 (by omega) s hI
  rw [List.drop_zero] at this
  exact ev_diag (f := fun n N => L n N 0 s) this
theorem scanS_some {l : List TChange} : ∀ {s s' : TStore}, FStore s = true → scanL stepS l s = some s' → FStore s' = true ∧ s'.schema = s.schema ∧ s'.version = s.version := by
  induction l with
  | nil => intro s s' hs h; simp only [scanL, Option.some.injEq] at h; subst h; exact ⟨hs, rfl, rfl⟩
  | cons c l ih =>
    intro s s' hs h
    simp only [scanL] at h
    cases hf : stepS c s with
    | none => rw [hf] at h; cases h
    | some t =>
      rw [hf] at h
      obtain ⟨a1, a2, a3⟩ := stepS_some hf
      obtain ⟨b1, b2, b3⟩ := ih a1 h
      exact ⟨b1, b2.trans a2, b3.trans a3⟩
def FFwd (s : TStore) (l : List TChange) : TStore × Bool :=
  cond (FStore s && (inn l.length 1 5 && !(s.version == 100000))) (match scanL stepS l s with
    | none => (noStore, false)
    | some t => (⟨t.schema, W (s.version + 1), t.tables⟩, true)) (noStore, false)
theorem FFwd_ok {s t : TStore} {l : List TChange} (h : FFwd s l = (t, true)) : FStore s = true ∧ FStore t = true := by
  unfold FFwd at h
  cases hc : (FStore s && (inn l.length 1 5 && !(s.version == 100000))) with
  | false => rw [hc] at h; simp at h
  | true =>
    rw [hc, cond_true] at h
    simp only [Bool.and_eq_true, Bool.not_eq_true', beq_eq_false_iff_ne] at hc
    cases hk : scanL stepS l s with
    | none => rw [hk] at h; simp at h
    | some u =>
      rw [hk] at h
      simp only [Prod.mk.injEq, and_true] at h
      subst h
      obtain ⟨a1, a2, a3⟩ := scanS_some hc.1 hk
      obtain ⟨b1, b2, b3, b4⟩ := FStore_parts a1
      have hv := (FStore_parts hc.1).2.1
      exact ⟨hc.1, FStore_mk b1 (by show 0 ≤ W (s.version + 1) ∧ W (s.version + 1) ≤ 100000; rw [W_id (by omega) (by omega)]; have := hc.2.2; omega) b3 b4⟩
end Go.Pi
end
section
set_option linter.unusedVariables false
set_option maxRecDepth 100000
set_option linter.unusedSimpArgs false
namespace Go.Pi
theorem store_eta (s : TStore) : TStore.mk (TSchema.mk s.schema.cols) s.version s.tables = s := rfl
theorem change_eta (c : TChange) : TChange.mk c.table c.had c.has c.old c.new = c := rfl
theorem lenC.upto {c d : Nat} {x : TChange} (h : lenC c x) (hc : c ≤ d) : lenC d x := ⟨Nat.le_trans h.1 hc, Nat.le_trans h.2 hc⟩
theorem cap_topN {s : TStore} {c : Nat} (h : lenSt c s) (hc : c ≤ capR) : lenSt topN s := h.upto (by simp only [capR] at hc; simp only [topN]; omega)
section
variable {s : TStore} {l : List TChange} (h : lenSt cap s) (hl : l.length ≤ cap) (hx : ∀ x ∈ l, lenC cap x)
include h hl hx
theorem spec_Forward_ev : Ev (fun n _ => spec_Forward n s l) (FFwd s l) := by
  refine ev_succ ?_
  have hl' := hl
  simp only [cap] at hl'
  have ht : l.length ≤ topN := by simp only [topN]; omega
  have hS := cap_topN h (by decide)
  simp only [spec_Forward, ev_bind (spec_StoreOk_ev hS), ev_cond, l1In_b, ev_some]
  unfold FFwd
  cases hF : FStore s with
  | false => simp; rfl
  | true =>
    cases hI : inn (l.length : Int) 1 5 with
    | false => simp; rfl
    | true =>
      refine ⟨fun h => (by cases h), fun _ => ⟨fun h => (by cases h), fun _ => ?_⟩⟩
      simp only [ev_bind (l7Copy_ev (h.upto (show cap ≤ capR by decide)))]
      have hv := (FStore_parts hF).2.1
      have hW : W (s.version + 1) = s.version + 1 := W_id (by omega) (by omega)
      refine ev_congr (ev_scanL TChange.dflt stepS (fun t => FStore t = true ∧ t.version = s.version) l (fun n N i t => spec_Forward.loop7 n (fun xy15 xy16 xy17 xy18 xy19 xy20 xy21 => ((spec_StoreOk n (TStore.mk (TSchema.mk xy20) (W (xy16 + 1)) xy21)).bind fun xr22 => (cond (!xr22) (some ((TStore.mk (TSchema.mk ([] : List Int)) 0 ([] : List (List TRow))), false)) (some ((TStore.mk (TSchema.mk xy20) (W (xy16 + 1)) xy21), true))))) N l (i : Int) s.schema.cols s.version s.tables 0 t.version t.schema.cols t.tables) (noStore, false)
        (fun t => cond (FStore ⟨t.schema, W (s.version + 1), t.tables⟩) (⟨t.schema, W (s.version + 1), t.tables⟩, true) (noStore, false)) (fun i t hi hI => ?_) (fun t hI => ?_) s ⟨hF, rfl⟩) ?_
      · obtain ⟨c, hc⟩ : ∃ c, c = l.getD i TChange.dflt := ⟨_, rfl⟩
        have hxc : lenC cap c := by rw [hc]; exact hx _ (getD_mem _ hi)
        have hlt := (FStore_len hI.1).upto (show 24 ≤ cap by decide)
        have hT := spec_l7Turn_ev hlt hxc (show cap ≤ capR by decide)
        have hO := spec_StoreOk_ev (s := turned t c) (cap_topN (turned_len hlt hxc) (show cap + 1 ≤ capR by decide))
        rw [← hc]
        simp only [spec_Forward.turn7, spec_Forward.step7, Int.toNat_natCast, W_up hi ht, ev_cond, ev_inB, lt_up hi, in_up hi, ← hc, l8Zero_b, store_eta, change_eta, ev_bind hT, ev_some]
        unfold stepS okC FTurn
        cases h1 : c.had <;> cases h2 : c.has <;> cases h3 : FNo c.old <;> cases h4 : FNo c.new <;> cases h5 : okTurn t c <;> cases h6 : FStore (turned t c) <;> simp only [Bool.false_or, Bool.true_or, Bool.or_false, Bool.or_true, Bool.and_true, Bool.true_and, Bool.false_and, Bool.and_false, Bool.not_true, Bool.not_false, cond_true, cond_false, ev_bind hO, h6, ev_cond, ev_some]
        all_goals (refine ⟨fun hn => ?_, fun t' hs => ⟨?_, fun F hF => ?_⟩⟩)
        all_goals (first | (cases hn; done) | (cases hs; done) | skip)
        all_goals (try obtain rfl := Option.some.inj hs)
        all_goals (first | exact ⟨h6, hI.2⟩ | skip)
        all_goals (repeat' (first | apply And.intro | intro _))
        all_goals (first | contradiction | trivial | rfl | exact hF)
      · have e : W (t.version + 1) = W (s.version + 1) := by rw [hI.2]
        have hlt := (FStore_len hI.1).upto (show 24 ≤ topN by decide)
        have hO := spec_StoreOk_ev (s := TStore.mk (TSchema.mk t.schema.cols) (W (s.version + 1)) t.tables) hlt
        simp only [spec_Forward.turn7, spec_Forward.step7, lt_end, cond_false, ev_bind hO, ev_cond, ev_some]
        show _ ∧ _
        cases hf : FStore (TStore.mk (TSchema.mk t.schema.cols) (W (s.version + 1)) t.tables)
        · exact ⟨fun _ => rfl, fun h => (by cases h)⟩
        · exact ⟨fun h => (by cases h), fun _ => rfl⟩
      · simp only [Bool.true_and]
        cases hk : scanL stepS l s with
        | none => cases (!(s.version == 100000)) <;> rfl
        | some t =>
          obtain ⟨a1, a2, a3⟩ := scanS_some hF hk
          obtain ⟨b1, b2, b3, b4⟩ := FStore_parts a1
          show cond (FStore ⟨t.schema, W (s.version + 1), t.tables⟩) _ _ = _
          by_cases hm : s.version = 100000
          · have : FStore ⟨t.schema, W (s.version + 1), t.tables⟩ = false := by
              rw [Bool.eq_false_iff]
              intro hq
              have := (FStore_parts hq).2.1
              simp only [hW] at this
              omega
            rw [this, hm]; rfl
          · have : FStore ⟨t.schema, W (s.version + 1), t.tables⟩ = true := FStore_mk b1 (by show 0 ≤ W (s.version + 1) ∧ W (s.version + 1) ≤ 100000; rw [hW]; omega) b3 b4
            rw [this, show (!(s.version == 100000)) = true by simp [hm]]
theorem impl_Forward_ev : Ev (fun n _ => impl_Forward n s l) (FFwd s l) := by
  refine ev_succ ?_
  have hl' := hl
  simp only [cap] at hl'
  have ht : l.length ≤ topN := by simp only [topN]; omega
  have hS := cap_topN h (by decide)
  simp only [impl_Forward, ev_bind (impl_StoreOk_ev hS), ev_cond, within_b, ev_some]
  unfold FFwd
  cases hF : FStore s with
  | false => simp; rfl
  | true =>
    cases hI : inn (l.length : Int) 1 5 with
    | false => simp; rfl
    | true =>
      refine ⟨fun h => (by cases h), fun _ => ⟨fun h => (by cases h), fun _ => ?_⟩⟩
      cases hm : (s.version == 100000) with
      | true => exact ⟨fun _ => rfl, fun h => by cases h⟩
      | false =>
      refine ⟨fun h => (by cases h), fun _ => ?_⟩
      simp only [ev_bind (copyStore_ev (h.upto (show cap ≤ capR by decide)))]
      refine ev_congr (ev_scanL TChange.dflt stepS (fun t => FStore t = true ∧ t.schema = s.schema ∧ t.version = s.version) l (fun n N i t => impl_Forward.loop7 n (fun xy6 xy7 xy8 xy9 => (some ((TStore.mk (TSchema.mk xy8) (W (xy7 + 1)) xy9), true))) N l (l.length : Int) (i : Int) s.schema.cols s.version s.tables 0 t.version t.schema.cols t.tables) (noStore, false)
        (fun t => (⟨t.schema, W (s.version + 1), t.tables⟩, true)) (fun i t hi hI => ?_) (fun t hI => ?_) s ⟨hF, rfl, rfl⟩) ?_
      · obtain ⟨c, hc⟩ : ∃ c, c = l.getD i TChange.dflt := ⟨_, rfl⟩
        have hxc : lenC cap c := by rw [hc]; exact hx _ (getD_mem _ hi)
        have hlt := (FStore_len hI.1).upto (show 24 ≤ cap by decide)
        have hT := swapped_ev hlt hxc (show cap + 1 ≤ capR by decide) (FStore_parts hI.1).2.2.1
        have hxt : lenC topN c := hxc.upto (by decide)
        have hE := stepI_eq (s := t) (c := c) hI.1
        rw [hI.2.1] at hE
        rw [← hc, ← hE]
        have hFt := fun (g : Nat → Nat → Bool → Option (TStore × Bool)) (v : TStore × Bool) => changeFits_b (s := s.schema) (c := c) (g := g) (v := v) hS.1 hxt
        simp only [impl_Forward.turn7, impl_Forward.step7, Int.toNat_natCast, W_up hi ht, ev_cond, ev_inB, lt_up hi, in_up hi, ← hc, store_eta, schema_eta, change_eta, hFt, ev_bind hT, ev_some]
        unfold FSwap
        cases h4 : FFits s.schema c <;> cases h5 : okTurn t c <;> cases h6 : FStore (turned t c) <;> simp only [Bool.false_or, Bool.true_or, Bool.or_false, Bool.or_true, Bool.and_true, Bool.true_and, Bool.false_and, Bool.and_false, Bool.not_true, Bool.not_false, cond_true, cond_false, h6, ev_cond, ev_some]
        all_goals (refine ⟨fun hn => ?_, fun t' hs => ⟨?_, fun F hF => ?_⟩⟩)
        all_goals (first | (cases hn; done) | (cases hs; done) | skip)
        all_goals (try obtain rfl := Option.some.inj hs)
        all_goals (first | exact ⟨h6, hI.2.1, hI.2.2⟩ | skip)
        all_goals (repeat' (first | apply And.intro | intro _))
        all_goals (first | contradiction | trivial | rfl | exact hF)
      · have e : W (t.version + 1) = W (s.version + 1) := by rw [hI.2.2]
        simp only [impl_Forward.turn7, impl_Forward.step7, lt_end, cond_false, ev_some, e]
      · cases scanL stepS l s <;> rfl
end
end Go.Pi
end
section
set_option linter.unusedVariables false
set_option maxRecDepth 100000
set_option linter.unusedSimpArgs false
namespace Go.Pi
def fwdStep (l : List TChange) (s : TStore) : Option TStore := cond (FFwd s l).2 (some (FFwd s l).1) none
def FRec (r : TRecord) : Bool := decide ((r.steps.length : Int) ≤ 40) && (FStore r.first && (scanL fwdStep r.steps r.first).isSome)
def lenRec (c : Nat) (r : TRecord) : Prop := lenSt c r.first ∧ r.steps.length ≤ c ∧ ∀ l ∈ r.steps, l.length ≤ c ∧ ∀ x ∈ l, lenC c x
theorem fwdStep_some {l : List TChange} {s t : TStore} (h : fwdStep l s = some t) : FStore s = true ∧ FStore t = true ∧ FFwd s l = (t, true) := by
  unfold fwdStep at h
  cases hc : (FFwd s l).2 with
  | false => rw [hc] at h; cases h
  | true =>
    rw [hc, cond_true, Option.some.injEq] at h
    have e : FFwd s l = (t, true) := by rw [← h, ← hc]
    exact ⟨(FFwd_ok e).1, (FFwd_ok e).2, e⟩
theorem fwdStep_none {l : List TChange} {s : TStore} (h : fwdStep l s = none) : (FFwd s l).2 = false := by
  unfold fwdStep at h
  cases hc : (FFwd s l).2 with
  | false => rfl
  | true => rw [hc] at h; cases h
theorem scanF_some : ∀ {l : List (List TChange)} {s t : TStore}, scanL fwdStep l s = some t → l ≠ [] → FStore s = true ∧ FStore t = true
  | [], s, t, h, hn => absurd rfl hn
  | [c], s, t, h, _ => by
    simp only [scanL] at h
    cases hf : fwdStep c s with
    | none => rw [hf] at h; cases h
    | some u => rw [hf] at h; have := fwdStep_some hf; simp only [Option.bind_some, Option.some.injEq] at h; subst h; exact ⟨this.1, this.2.1⟩
  | c :: d :: l, s, t, h, _ => by
    rw [scanL] at h
    cases hf : fwdStep c s with
    | none => rw [hf] at h; cases h
    | some u =>
      rw [hf] at h
      exact ⟨(fwdStep_some hf).1, (scanF_some (l := d :: l) h (by simp)).2⟩
section
variable {r : TRecord} (h : lenRec cap r)
include h
theorem steps_at {i : Nat} (hi : i < r.steps.length) : (r.steps.getD i []).length ≤ cap ∧ ∀ x ∈ r.steps.getD i [], lenC cap x := h.2.2 _ (getD_mem [] hi)
theorem spec_RecordOk_ev : Ev (fun n _ => spec_RecordOk n r) (FRec r) := by
  refine ev_succ ?_
  have hl := h.2.1
  simp only [cap] at hl
  have ht : r.steps.length ≤ topN := by simp only [topN]; omega
  simp only [spec_RecordOk]
  refine ev_congr (ev_scanL [] fwdStep (fun t => lenSt cap t) r.steps (fun n N i t => spec_RecordOk.loop4 n (fun xy2 xy3 xy4 xy5 xy6 xy7 xy8 => ((spec_StoreOk n (TStore.mk (TSchema.mk xy6) xy7 xy8)).bind fun xr9 => (cond xr9 (some (decide ((xy5.length : Int) ≤ 40))) (some false)))) N (i : Int) r.first.schema.cols r.first.version r.first.tables r.steps t.schema.cols t.version t.tables) false
    (fun t => cond (FStore t) (decide ((r.steps.length : Int) ≤ 40)) false) (fun i t hi hI => ?_) (fun t hI => ?_) r.first h.1) ?_
  · obtain ⟨q1, q2⟩ := steps_at h hi
    have hF := spec_Forward_ev hI q1 q2
    simp only [spec_RecordOk.turn4, spec_RecordOk.step4, Int.toNat_natCast, W_up hi ht, ev_cond, ev_inB, lt_up hi, in_up hi, store_eta, ev_bind hF, ev_some]
    refine ⟨fun hn => ?_, fun t' hs => ⟨?_, fun F hF => ?_⟩⟩
    · have := fwdStep_none hn
      exact ⟨fun _ => ⟨trivial, fun _ => trivial, fun hq => by rw [this] at hq; cases hq⟩, fun h => (by cases h)⟩
    · exact (FStore_len (fwdStep_some hs).2.1).upto (by decide)
    · rw [(fwdStep_some hs).2.2]
      exact ⟨fun _ => ⟨trivial, fun h => (by cases h), fun _ => hF⟩, fun h => (by cases h)⟩
  · simp only [spec_RecordOk.turn4, spec_RecordOk.step4, lt_end, cond_false, store_eta, ev_bind (spec_StoreOk_ev (cap_topN hI (by decide))), ev_cond, ev_some]
    cases FStore t <;> simp
  · unfold FRec
    cases hk : scanL fwdStep r.steps r.first with
    | none => simp
    | some t =>
      by_cases hn : r.steps = []
      · rw [hn] at hk
        simp only [scanL, Option.some.injEq] at hk
        subst hk
        rw [hn]
        cases hq : FStore r.first <;> simp [hq, scanL]
      · obtain ⟨a, b⟩ := scanF_some hk hn
        show cond (FStore t) _ _ = _
        rw [a, b]
        simp
theorem impl_after_ev : Ev (fun n _ => impl_after n r (r.steps.length : Int)) (match (if FStore r.first = true then scanL fwdStep r.steps r.first else none) with | none => (noStore, false) | some t => (t, true)) := by
  refine ev_succ ?_
  have hl := h.2.1
  simp only [cap] at hl
  have ht : r.steps.length ≤ topN := by simp only [topN]; omega
  simp only [impl_after, ev_bind (copyStore_ev (h.1.upto (show cap ≤ capR by decide))), ev_bind (impl_StoreOk_ev (cap_topN h.1 (by decide))), ev_cond, ev_cutB, ev_some, Int.toNat_natCast, List.take_length, List.drop_zero]
  cases hF : FStore r.first with
  | false => exact ⟨fun _ => rfl, fun h => (by cases h)⟩
  | true =>
    refine ⟨fun h => (by cases h), fun _ => ⟨by omega, ?_⟩⟩
    rw [if_pos rfl]
    refine ev_congr (ev_scanL [] fwdStep (fun t => lenSt cap t) r.steps (fun n N i t => impl_after.loop7 n (fun xy4 xy5 xy6 xy7 => (some ((TStore.mk (TSchema.mk xy6) xy5 xy7), true))) N r.steps (r.steps.length : Int) (i : Int) 0 t.version t.schema.cols t.tables) (noStore, false)
      (fun t => (t, true)) (fun i t hi hI => ?_) (fun t hI => ?_) r.first h.1) ?_
    · obtain ⟨q1, q2⟩ := steps_at h hi
      have hF := impl_Forward_ev hI q1 q2
      simp only [impl_after.turn7, impl_after.step7, Int.toNat_natCast, W_up hi ht, ev_cond, ev_inB, lt_up hi, in_up hi, store_eta, ev_bind hF, ev_some]
      refine ⟨fun hn => ?_, fun t' hs => ⟨?_, fun F hF => ?_⟩⟩
      · have := fwdStep_none hn
        exact ⟨fun _ => ⟨trivial, fun _ => rfl, fun hq => by rw [this] at hq; cases hq⟩, fun h => (by cases h)⟩
      · exact (FStore_len (fwdStep_some hs).2.1).upto (by decide)
      · rw [(fwdStep_some hs).2.2]
        exact ⟨fun _ => ⟨trivial, fun h => (by cases h), fun _ => hF⟩, fun h => (by cases h)⟩
    · simp only [impl_after.turn7, impl_after.step7, lt_end, cond_false, store_eta, ev_some]
    · cases scanL fwdStep r.steps r.first <;> rfl
theorem impl_RecordOk_ev : Ev (fun n _ => impl_RecordOk n r) (FRec r) := by
  refine ev_succ ?_
  simp only [impl_RecordOk, ev_bind (impl_after_ev h), ev_cond, ev_some]
  unfold FRec
  by_cases hc : (r.steps.length : Int) ≤ 40
  · refine ⟨fun h => by have := of_decide_eq_true h; omega, fun _ => ?_⟩
    rw [decide_eq_true hc]
    cases hF : FStore r.first with
    | false => rfl
    | true =>
      rw [if_pos rfl]
      cases scanL fwdStep r.steps r.first <;> rfl
  · refine ⟨fun _ => by rw [decide_eq_false hc]; rfl, fun h => by have := of_decide_eq_false h; omega⟩
def FLast (r : TRecord) : Int := cond (FRec r) (W (r.first.version + (r.steps.length : Int))) (-1)
theorem spec_Last_ev : Ev (fun n _ => spec_Last n r) (FLast r) := by
  refine ev_succ ?_
  simp only [spec_Last, ev_bind (spec_RecordOk_ev h), ev_cond, ev_some, FLast]
  cases FRec r <;> simp
theorem impl_Last_ev : Ev (fun n _ => impl_Last n r) (FLast r) := by
  refine ev_succ ?_
  simp only [impl_Last, ev_bind (impl_RecordOk_ev h), ev_cond, ev_some, FLast]
  cases FRec r <;> simp
end
end Go.Pi
end
section
set_option linter.unusedVariables false
set_option maxRecDepth 100000
set_option linter.unusedSimpArgs false
namespace Go.Pi
section
variable {a0 b0 : Int} {t o f kt kc t' o' f' kt' kc' : Int} {wh wh' : List TCond} {sh sh' : List Int} {d ks d' ks' v : Bool} {rows rows' : List TRow} {kids kids' : List TKid}
theorem spec_ViewSame_loop6 {k : Nat → spec_ViewSame.K6} (hr : lenR topN rows) (hl : rows.length = rows'.length) (hk : Ev (fun n N => k n t wh o d f sh ks kt kc rows kids t' wh' o' d' f' sh' ks' kt' kc' rows' kids') v) :
    Ev (fun n _ => spec_ViewSame.loop6 n (k n) n 0 t wh o d f sh ks kt kc rows kids t' wh' o' d' f' sh' ks' kt' kc' rows' kids') (allN (fun i => FRow2 (rows.getD i TRow.dflt) (rows'.getD i TRow.dflt)) rows.length && v) := by
  refine ev_all (fun n N i => spec_ViewSame.loop6 n (k n) N (i : Int) t wh o d f sh ks kt kc rows kids t' wh' o' d' f' sh' ks' kt' kc' rows' kids') _ (fun i u hi ih => ?_) ?_
  · have h2 : i < rows'.length := by omega
    simp only [spec_ViewSame.turn6, spec_ViewSame.step6, Int.toNat_natCast, W_up hi hr.1, ev_cond, ev_inB, ev_bind (spec_RowSame_ev (getD_cells hr i)), ev_some, ev_iff ih, lt_up hi, in_up hi, in_up h2]
    clear ih hk
    generalize FRow2 (rows.getD i TRow.dflt) (rows'.getD i TRow.dflt) = c
    cases c <;> simp
  · simp only [spec_ViewSame.turn6, spec_ViewSame.step6, lt_end, cond_false]
    exact hk
theorem spec_ViewSame_loop14 (hr : kids.length ≤ topN) (hl : kids.length = kids'.length) :
    Ev (fun n _ => spec_ViewSame.loop14 n (some true) n 0 t wh o d f sh ks kt kc rows kids t' wh' o' d' f' sh' ks' kt' kc' rows' kids') (FKids2 kids kids') := by
  refine ev_congr (ev_all (fun n N i => spec_ViewSame.loop14 n (some true) N (i : Int) t wh o d f sh ks kt kc rows kids t' wh' o' d' f' sh' ks' kt' kc' rows' kids') (fun i => (cond ((kids.getD i TKid.dflt).id_ == (kids'.getD i TKid.dflt).id_) (cond ((kids.getD i TKid.dflt).n_ == (kids'.getD i TKid.dflt).n_) true false) false)) (len := kids.length) (v := true) (fun i u hi ih => ?_) ?_) (by simp [FKids2, hl])
  · have h2 : i < kids'.length := by omega
    simp only [spec_ViewSame.turn14, spec_ViewSame.step14, Int.toNat_natCast, W_up hi hr, ev_cond, ev_inB, ev_some, ev_iff ih, lt_up hi, in_up hi, in_up h2]
    clear ih
    generalize (cond ((kids.getD i TKid.dflt).id_ == (kids'.getD i TKid.dflt).id_) (cond ((kids.getD i TKid.dflt).n_ == (kids'.getD i TKid.dflt).n_) true false) false) = c
    cases c <;> simp
  · simp only [spec_ViewSame.turn14, spec_ViewSame.step14, lt_end, cond_false, ev_some]
end
theorem spec_ViewSame_ev {a b : TView} (ha : lenV topN a) : Ev (fun n _ => spec_ViewSame n a b) (FView2 a b) := by
  refine ev_succ ?_
  simp only [spec_ViewSame, ev_bind (spec_QuerySame_ev ha.1), ev_cond, ev_some]
  refine ⟨fun h => by simp at h; simp [FView2, h], fun h1 => ⟨fun h => ?_, fun h2 => ⟨fun h => ?_, fun h3 => ?_⟩⟩⟩
  · simp only [bne_iff_ne, ne_eq] at h; have : ¬ a.rows.length = b.rows.length := by omega
    simp [FView2, FRows2, this]
  · simp only [bne_iff_ne, ne_eq] at h; have : ¬ a.kids.length = b.kids.length := by omega
    simp [FView2, FKids2, this]
  · simp only [bne_eq_false_iff_eq, Bool.not_eq_false'] at h1 h2 h3
    have hr : a.rows.length = b.rows.length := by omega
    have hk : a.kids.length = b.kids.length := by omega
    refine ev_congr (spec_ViewSame_loop6 (k := fun n => _) ha.2.1 hr (spec_ViewSame_loop14 ha.2.2 hk)) ?_
    simp [FView2, FRows2, h1, hr]
theorem inv_comm {p q : Nat → Bool} {n m : Nat} (h : ∀ i, p i = q i) : (decide (n = m) && allN p n) = (decide (m = n) && allN q m) := by
  by_cases e : n = m
  · subst e; rw [show p = q from funext h]
  · simp [e, Ne.symm e]
theorem FInts2_comm (a b : List Int) : FInts2 a b = FInts2 b a := inv_comm fun i => by rw [Bool.beq_comm]
theorem FConds2_comm (a b : List TCond) : FConds2 a b = FConds2 b a := inv_comm fun i => by
  unfold sameC
  rw [Bool.beq_comm (a := (a.getD i TCond.dflt).col), Bool.beq_comm (a := (a.getD i TCond.dflt).op), Bool.beq_comm (a := (a.getD i TCond.dflt).v)]
theorem FQuery2_comm (a b : TQuery) : FQuery2 a b = FQuery2 b a := by
  unfold FQuery2
  rw [FInts2_comm a.show_, FConds2_comm a.where_, Bool.beq_comm (a := a.table), Bool.beq_comm (a := a.order), Bool.beq_comm (a := a.down), Bool.beq_comm (a := a.first), Bool.beq_comm (a := a.kids), Bool.beq_comm (a := a.kidTable), Bool.beq_comm (a := a.kidCol)]
def FSess (s : TSchema) (x : TSess) : Bool := FView s x.view && (inn x.version 0 100000 && cond x.began (FView s x.last && (FQuery2 x.last.q x.view.q && inn x.lastVersion 0 x.version)) ((x.lastVersion == 0) && FView2 x.last (TView.mk (TQuery.mk 0 [] 0 false 0 [] false 0 0) [] [])))
theorem spec_SessOk_ev {s : TSchema} {x : TSess} (hs : s.cols.length ≤ topN) (hx : lenS topN x) : Ev (fun n _ => spec_SessOk n s x) (FSess s x) := by
  refine ev_succ ?_
  simp only [spec_SessOk, ev_bind (spec_ViewOk_ev hs hx.1), ev_bind (spec_ViewOk_ev hs hx.2), l1In_b, ev_bind (spec_ViewSame_ev hx.2), ev_bind (spec_QuerySame_ev hx.2.1), ev_cond, ev_some, FSess]
  generalize FView s x.view = a
  generalize FView s x.last = b
  generalize FQuery2 x.last.q x.view.q = c
  generalize FView2 x.last (TView.mk (TQuery.mk 0 [] 0 false 0 [] false 0 0) [] []) = d
  generalize inn x.version 0 100000 = e
  generalize inn x.lastVersion 0 x.version = g
  cases a <;> cases b <;> cases c <;> cases d <;> cases e <;> cases g <;> cases x.began <;> simp
theorem impl_SessOk_ev {s : TSchema} {x : TSess} (hs : s.cols.length ≤ topN) (hx : lenS topN x) : Ev (fun n _ => impl_SessOk n s x) (FSess s x) := by
  refine ev_succ ?_
  simp only [impl_SessOk, ev_bind (impl_ViewOk_ev hs hx.1), ev_bind (impl_ViewOk_ev hs hx.2), within_b, isVersion_b, ev_bind (impl_ViewSame_ev hx.2), ev_bind (impl_QuerySame_ev (b := x.last.q) hx.1.1), FQuery2_comm x.view.q, ev_cond, ev_some, FSess]
  generalize FView s x.view = a
  generalize FView s x.last = b
  generalize FQuery2 x.last.q x.view.q = c
  generalize FView2 x.last (TView.mk (TQuery.mk 0 [] 0 false 0 [] false 0 0) [] []) = d
  generalize inn x.version 0 100000 = e
  generalize inn x.lastVersion 0 x.version = g
  cases a <;> cases b <;> cases c <;> cases d <;> cases e <;> cases g <;> cases x.began <;> simp
theorem lenS.up {x : TSess} (h : lenS cap x) : lenS topN x := by
  have e : cap ≤ topN := by decide
  have hq : ∀ {q}, lenQ cap q → lenQ topN q := fun h => ⟨Nat.le_trans h.1 e, Nat.le_trans h.2 e⟩
  have hr : ∀ {q}, lenR cap q → lenR topN q := fun h => ⟨Nat.le_trans h.1 e, fun x hx => Nat.le_trans (h.2 x hx) e⟩
  exact ⟨⟨hq h.1.1, hr h.1.2.1, Nat.le_trans h.1.2.2 e⟩, ⟨hq h.2.1, hr h.2.2.1, Nat.le_trans h.2.2.2 e⟩⟩
end Go.Pi
end
section
set_option linter.unusedVariables false
set_option maxRecDepth 100000
set_option linter.unusedSimpArgs false
namespace Go.Pi
def TSchema.size (s : TSchema) : Nat := (sizeL szI) s.cols
def TSchema.len (s : TSchema) : Prop := (lenL lenI) s.cols
def TRow.size (s : TRow) : Nat := (sizeL szI) s.cells
def TRow.len (s : TRow) : Prop := (lenL lenI) s.cells
def TStore.size (s : TStore) : Nat := TSchema.size s.schema + (sizeL (sizeL TRow.size)) s.tables
def TStore.len (s : TStore) : Prop := TSchema.len s.schema ∧ (lenL (lenL TRow.len)) s.tables
def TChange.size (s : TChange) : Nat := TRow.size s.old + TRow.size s.new
def TChange.len (s : TChange) : Prop := TRow.len s.old ∧ TRow.len s.new
def TRecord.size (s : TRecord) : Nat := TStore.size s.first + (sizeL (sizeL TChange.size)) s.steps
def TRecord.len (s : TRecord) : Prop := TStore.len s.first ∧ (lenL (lenL TChange.len)) s.steps
def TCond.size (s : TCond) : Nat := 0
def TCond.len (s : TCond) : Prop := True
def TQuery.size (s : TQuery) : Nat := (sizeL TCond.size) s.where_ + (sizeL szI) s.show_
def TQuery.len (s : TQuery) : Prop := (lenL TCond.len) s.where_ ∧ (lenL lenI) s.show_
def TKid.size (s : TKid) : Nat := 0
def TKid.len (s : TKid) : Prop := True
def TView.size (s : TView) : Nat := TQuery.size s.q + (sizeL TRow.size) s.rows + (sizeL TKid.size) s.kids
def TView.len (s : TView) : Prop := TQuery.len s.q ∧ (lenL TRow.len) s.rows ∧ (lenL TKid.len) s.kids
def TSess.size (s : TSess) : Nat := TView.size s.view + TView.size s.last
def TSess.len (s : TSess) : Prop := TView.len s.view ∧ TView.len s.last
def TLine.size (s : TLine) : Nat := szB s.wait
def TLine.len (s : TLine) : Prop := lenB s.wait
def TSeat.size (s : TSeat) : Nat := TSess.size s.sess + TLine.size s.line + szB s.sent + szB s.came
def TSeat.len (s : TSeat) : Prop := TSess.len s.sess ∧ TLine.len s.line ∧ lenB s.sent ∧ lenB s.came
def TServer.size (s : TServer) : Nat := TRecord.size s.record + (sizeL TSeat.size) s.seats
def TServer.len (s : TServer) : Prop := TRecord.len s.record ∧ (lenL TSeat.len) s.seats
theorem szIntS_ev {a : List Int} {l : Int} (ha : (lenL lenI) a) (h0 : 0 ≤ l) (h1 : l ≤ 1048576) : Ev (fun n _ => laws_szIntS n a l) (subS l ((sizeL szI) a)) := by
  refine ev_succ ?_
  rw [show (sizeL szI) a = a.length from by unfold sizeL; rw [sumL_zero szI (fun _ => rfl)]; rfl]
  exact ev_szI h0 h1 ha.1
theorem szSchema_ev {a : TSchema} {l : Int} (ha : TSchema.len a) (h0 : 0 ≤ l) (h1 : l ≤ 1048576) : Ev (fun n _ => laws_szSchema n a l) (subS l (TSchema.size a)) := by
  refine ev_succ ?_
  have e : TSchema.size a = (sizeL szI) a.cols + (0) := by simp only [TSchema.size]; omega
  rw [e]; clear e
  have h0_0 := h0; have h0_1 := h1
  exact ev_sz h0_0 h0_1 (szIntS_ev (ha) h0_0 h0_1) fun r1 h1_0 h1_1 => ev_szE h1_0
theorem szRow_ev {a : TRow} {l : Int} (ha : TRow.len a) (h0 : 0 ≤ l) (h1 : l ≤ 1048576) : Ev (fun n _ => laws_szRow n a l) (subS l (TRow.size a)) := by
  refine ev_succ ?_
  have e : TRow.size a = (sizeL szI) a.cells + (0) := by simp only [TRow.size]; omega
  rw [e]; clear e
  have h0_0 := h0; have h0_1 := h1
  exact ev_sz h0_0 h0_1 (szIntS_ev (ha) h0_0 h0_1) fun r1 h1_0 h1_1 => ev_szE h1_0
theorem szRowS_ev {a : List TRow} {l : Int} (ha : (lenL TRow.len) a) (h0 : 0 ≤ l) (h1 : l ≤ 1048576) : Ev (fun n _ => laws_szRowS n a l) (subS l ((sizeL TRow.size) a)) := by
  refine ev_succ ?_
  refine ev_szL (g := fun n N x => laws_szRowS.loop7 n (fun xy2 => (some xy2)) (n) a x 0) h0 h1 ha.1 fun l h0 h1 => sz_list TRow.dflt TRow.size (fun n N l i => laws_szRowS.loop7 n (fun xy2 => (some xy2)) (N) a l (i : Int)) a (fun i l hi h0 h1 t kk => ?_) (fun l => ?_) l h0 h1
  · show Ev (fun n N => laws_szRowS.step7 n (fun xy2 => (some xy2)) (laws_szRowS.loop7 n (fun xy2 => (some xy2)) N) a l (i : Int)) _
    simp only [laws_szRowS.step7, ev_cond, ev_inB, Int.toNat_natCast, W_up hi ha.1]
    refine ⟨fun _ => ?_, fun h => absurd hi (by simpa using h)⟩
    refine ⟨⟨by omega, by omega⟩, ?_⟩
    have := ev_sz (t := t) (g := fun n N x => laws_szRowS.loop7 n (fun xy2 => (some xy2)) (N) a x ((i + 1 : Nat) : Int)) h0 h1 (szRow_ev (ha.2 _ (getD_mem TRow.dflt hi)) h0 h1) kk
    simpa only [ev_cond, ev_some] using this
  · show Ev (fun n N => laws_szRowS.step7 n (fun xy2 => (some xy2)) (laws_szRowS.loop7 n (fun xy2 => (some xy2)) N) a l (a.length : Int)) _
    simp only [laws_szRowS.step7, ev_cond, ev_some]
    exact ⟨fun h => absurd (of_decide_eq_true h) (by omega), fun _ => trivial⟩
theorem szRowSS_ev {a : List (List TRow)} {l : Int} (ha : (lenL (lenL TRow.len)) a) (h0 : 0 ≤ l) (h1 : l ≤ 1048576) : Ev (fun n _ => laws_szRowSS n a l) (subS l ((sizeL (sizeL TRow.size)) a)) := by
  refine ev_succ ?_
  refine ev_szL (g := fun n N x => laws_szRowSS.loop7 n (fun xy2 => (some xy2)) (n) a x 0) h0 h1 ha.1 fun l h0 h1 => sz_list [] (sizeL TRow.size) (fun n N l i => laws_szRowSS.loop7 n (fun xy2 => (some xy2)) (N) a l (i : Int)) a (fun i l hi h0 h1 t kk => ?_) (fun l => ?_) l h0 h1
  · show Ev (fun n N => laws_szRowSS.step7 n (fun xy2 => (some xy2)) (laws_szRowSS.loop7 n (fun xy2 => (some xy2)) N) a l (i : Int)) _
    simp only [laws_szRowSS.step7, ev_cond, ev_inB, Int.toNat_natCast, W_up hi ha.1]
    refine ⟨fun _ => ?_, fun h => absurd hi (by simpa using h)⟩
    refine ⟨⟨by omega, by omega⟩, ?_⟩
    have := ev_sz (t := t) (g := fun n N x => laws_szRowSS.loop7 n (fun xy2 => (some xy2)) (N) a x ((i + 1 : Nat) : Int)) h0 h1 (szRowS_ev (ha.2 _ (getD_mem [] hi)) h0 h1) kk
    simpa only [ev_cond, ev_some] using this
  · show Ev (fun n N => laws_szRowSS.step7 n (fun xy2 => (some xy2)) (laws_szRowSS.loop7 n (fun xy2 => (some xy2)) N) a l (a.length : Int)) _
    simp only [laws_szRowSS.step7, ev_cond, ev_some]
    exact ⟨fun h => absurd (of_decide_eq_true h) (by omega), fun _ => trivial⟩
theorem szStore_ev {a : TStore} {l : Int} (ha : TStore.len a) (h0 : 0 ≤ l) (h1 : l ≤ 1048576) : Ev (fun n _ => laws_szStore n a l) (subS l (TStore.size a)) := by
  refine ev_succ ?_
  have e : TStore.size a = TSchema.size a.schema + ((sizeL (sizeL TRow.size)) a.tables + (0)) := by simp only [TStore.size]; omega
  rw [e]; clear e
  have h0_0 := h0; have h0_1 := h1
  exact ev_sz h0_0 h0_1 (szSchema_ev (ha.1) h0_0 h0_1) fun r1 h1_0 h1_1 => ev_sz h1_0 h1_1 (szRowSS_ev (ha.2) h1_0 h1_1) fun r2 h2_0 h2_1 => ev_szE h2_0
theorem szChange_ev {a : TChange} {l : Int} (ha : TChange.len a) (h0 : 0 ≤ l) (h1 : l ≤ 1048576) : Ev (fun n _ => laws_szChange n a l) (subS l (TChange.size a)) := by
  refine ev_succ ?_
  have e : TChange.size a = TRow.size a.old + (TRow.size a.new + (0)) := by simp only [TChange.size]; omega
  rw [e]; clear e
  have h0_0 := h0; have h0_1 := h1
  exact ev_sz h0_0 h0_1 (szRow_ev (ha.1) h0_0 h0_1) fun r1 h1_0 h1_1 => ev_sz h1_0 h1_1 (szRow_ev (ha.2) h1_0 h1_1) fun r2 h2_0 h2_1 => ev_szE h2_0
theorem szChangeS_ev {a : List TChange} {l : Int} (ha : (lenL TChange.len) a) (h0 : 0 ≤ l) (h1 : l ≤ 1048576) : Ev (fun n _ => laws_szChangeS n a l) (subS l ((sizeL TChange.size) a)) := by
  refine ev_succ ?_
  refine ev_szL (g := fun n N x => laws_szChangeS.loop7 n (fun xy2 => (some xy2)) (n) a x 0) h0 h1 ha.1 fun l h0 h1 => sz_list TChange.dflt TChange.size (fun n N l i => laws_szChangeS.loop7 n (fun xy2 => (some xy2)) (N) a l (i : Int)) a (fun i l hi h0 h1 t kk => ?_) (fun l => ?_) l h0 h1
  · show Ev (fun n N => laws_szChangeS.step7 n (fun xy2 => (some xy2)) (laws_szChangeS.loop7 n (fun xy2 => (some xy2)) N) a l (i : Int)) _
    simp only [laws_szChangeS.step7, ev_cond, ev_inB, Int.toNat_natCast, W_up hi ha.1]
    refine ⟨fun _ => ?_, fun h => absurd hi (by simpa using h)⟩
    refine ⟨⟨by omega, by omega⟩, ?_⟩
    have := ev_sz (t := t) (g := fun n N x => laws_szChangeS.loop7 n (fun xy2 => (some xy2)) (N) a x ((i + 1 : Nat) : Int)) h0 h1 (szChange_ev (ha.2 _ (getD_mem TChange.dflt hi)) h0 h1) kk
    simpa only [ev_cond, ev_some] using this
  · show Ev (fun n N => laws_szChangeS.step7 n (fun xy2 => (some xy2)) (laws_szChangeS.loop7 n (fun xy2 => (some xy2)) N) a l (a.length : Int)) _
    simp only [laws_szChangeS.step7, ev_cond, ev_some]
    exact ⟨fun h => absurd (of_decide_eq_true h) (by omega), fun _ => trivial⟩
theorem szChangeSS_ev {a : List (List TChange)} {l : Int} (ha : (lenL (lenL TChange.len)) a) (h0 : 0 ≤ l) (h1 : l ≤ 1048576) : Ev (fun n _ => laws_szChangeSS n a l) (subS l ((sizeL (sizeL TChange.size)) a)) := by
  refine ev_succ ?_
  refine ev_szL (g := fun n N x => laws_szChangeSS.loop7 n (fun xy2 => (some xy2)) (n) a x 0) h0 h1 ha.1 fun l h0 h1 => sz_list [] (sizeL TChange.size) (fun n N l i => laws_szChangeSS.loop7 n (fun xy2 => (some xy2)) (N) a l (i : Int)) a (fun i l hi h0 h1 t kk => ?_) (fun l => ?_) l h0 h1
  · show Ev (fun n N => laws_szChangeSS.step7 n (fun xy2 => (some xy2)) (laws_szChangeSS.loop7 n (fun xy2 => (some xy2)) N) a l (i : Int)) _
    simp only [laws_szChangeSS.step7, ev_cond, ev_inB, Int.toNat_natCast, W_up hi ha.1]
    refine ⟨fun _ => ?_, fun h => absurd hi (by simpa using h)⟩
    refine ⟨⟨by omega, by omega⟩, ?_⟩
    have := ev_sz (t := t) (g := fun n N x => laws_szChangeSS.loop7 n (fun xy2 => (some xy2)) (N) a x ((i + 1 : Nat) : Int)) h0 h1 (szChangeS_ev (ha.2 _ (getD_mem [] hi)) h0 h1) kk
    simpa only [ev_cond, ev_some] using this
  · show Ev (fun n N => laws_szChangeSS.step7 n (fun xy2 => (some xy2)) (laws_szChangeSS.loop7 n (fun xy2 => (some xy2)) N) a l (a.length : Int)) _
    simp only [laws_szChangeSS.step7, ev_cond, ev_some]
    exact ⟨fun h => absurd (of_decide_eq_true h) (by omega), fun _ => trivial⟩
theorem szRecord_ev {a : TRecord} {l : Int} (ha : TRecord.len a) (h0 : 0 ≤ l) (h1 : l ≤ 1048576) : Ev (fun n _ => laws_szRecord n a l) (subS l (TRecord.size a)) := by
  refine ev_succ ?_
  have e : TRecord.size a = TStore.size a.first + ((sizeL (sizeL TChange.size)) a.steps + (0)) := by simp only [TRecord.size]; omega
  rw [e]; clear e
  have h0_0 := h0; have h0_1 := h1
  exact ev_sz h0_0 h0_1 (szStore_ev (ha.1) h0_0 h0_1) fun r1 h1_0 h1_1 => ev_sz h1_0 h1_1 (szChangeSS_ev (ha.2) h1_0 h1_1) fun r2 h2_0 h2_1 => ev_szE h2_0
theorem szCondS_ev {a : List TCond} {l : Int} (ha : (lenL TCond.len) a) (h0 : 0 ≤ l) (h1 : l ≤ 1048576) : Ev (fun n _ => laws_szCondS n a l) (subS l ((sizeL TCond.size) a)) := by
  refine ev_succ ?_
  rw [show (sizeL TCond.size) a = a.length from by unfold sizeL; rw [sumL_zero TCond.size (fun _ => rfl)]; rfl]
  exact ev_szI h0 h1 ha.1
theorem szQuery_ev {a : TQuery} {l : Int} (ha : TQuery.len a) (h0 : 0 ≤ l) (h1 : l ≤ 1048576) : Ev (fun n _ => laws_szQuery n a l) (subS l (TQuery.size a)) := by
  refine ev_succ ?_
  have e : TQuery.size a = (sizeL TCond.size) a.where_ + ((sizeL szI) a.show_ + (0)) := by simp only [TQuery.size]; omega
  rw [e]; clear e
  have h0_0 := h0; have h0_1 := h1
  exact ev_sz h0_0 h0_1 (szCondS_ev (ha.1) h0_0 h0_1) fun r1 h1_0 h1_1 => ev_sz h1_0 h1_1 (szIntS_ev (ha.2) h1_0 h1_1) fun r2 h2_0 h2_1 => ev_szE h2_0
theorem szKidS_ev {a : List TKid} {l : Int} (ha : (lenL TKid.len) a) (h0 : 0 ≤ l) (h1 : l ≤ 1048576) : Ev (fun n _ => laws_szKidS n a l) (subS l ((sizeL TKid.size) a)) := by
  refine ev_succ ?_
  rw [show (sizeL TKid.size) a = a.length from by unfold sizeL; rw [sumL_zero TKid.size (fun _ => rfl)]; rfl]
  exact ev_szI h0 h1 ha.1
theorem szView_ev {a : TView} {l : Int} (ha : TView.len a) (h0 : 0 ≤ l) (h1 : l ≤ 1048576) : Ev (fun n _ => laws_szView n a l) (subS l (TView.size a)) := by
  refine ev_succ ?_
  have e : TView.size a = TQuery.size a.q + ((sizeL TRow.size) a.rows + ((sizeL TKid.size) a.kids + (0))) := by simp only [TView.size]; omega
  rw [e]; clear e
  have h0_0 := h0; have h0_1 := h1
  exact ev_sz h0_0 h0_1 (szQuery_ev (ha.1) h0_0 h0_1) fun r1 h1_0 h1_1 => ev_sz h1_0 h1_1 (szRowS_ev (ha.2.1) h1_0 h1_1) fun r2 h2_0 h2_1 => ev_sz h2_0 h2_1 (szKidS_ev (ha.2.2) h2_0 h2_1) fun r3 h3_0 h3_1 => ev_szE h3_0
theorem szSess_ev {a : TSess} {l : Int} (ha : TSess.len a) (h0 : 0 ≤ l) (h1 : l ≤ 1048576) : Ev (fun n _ => laws_szSess n a l) (subS l (TSess.size a)) := by
  refine ev_succ ?_
  have e : TSess.size a = TView.size a.view + (TView.size a.last + (0)) := by simp only [TSess.size]; omega
  rw [e]; clear e
  have h0_0 := h0; have h0_1 := h1
  exact ev_sz h0_0 h0_1 (szView_ev (ha.1) h0_0 h0_1) fun r1 h1_0 h1_1 => ev_sz h1_0 h1_1 (szView_ev (ha.2) h1_0 h1_1) fun r2 h2_0 h2_1 => ev_szE h2_0
theorem szLine_ev {a : TLine} {l : Int} (ha : TLine.len a) (h0 : 0 ≤ l) (h1 : l ≤ 1048576) : Ev (fun n _ => laws_szLine n a l) (subS l (TLine.size a)) := by
  refine ev_succ ?_
  have e : TLine.size a = a.wait.length + (0) := by simp only [TLine.size, szB]; omega
  rw [e]; clear e
  have h0_0 := h0; have h0_1 := h1
  exact ev_szL h0_0 h0_1 (ha) fun r1 h1_0 h1_1 => ev_szE h1_0
theorem szSeat_ev {a : TSeat} {l : Int} (ha : TSeat.len a) (h0 : 0 ≤ l) (h1 : l ≤ 1048576) : Ev (fun n _ => laws_szSeat n a l) (subS l (TSeat.size a)) := by
  refine ev_succ ?_
  have e : TSeat.size a = TSess.size a.sess + (TLine.size a.line + (a.sent.length + (a.came.length + (0)))) := by simp only [TSeat.size, szB]; omega
  rw [e]; clear e
  have h0_0 := h0; have h0_1 := h1
  exact ev_sz h0_0 h0_1 (szSess_ev (ha.1) h0_0 h0_1) fun r1 h1_0 h1_1 => ev_sz h1_0 h1_1 (szLine_ev (ha.2.1) h1_0 h1_1) fun r2 h2_0 h2_1 => ev_szL h2_0 h2_1 (ha.2.2.1) fun r3 h3_0 h3_1 => ev_szL h3_0 h3_1 (ha.2.2.2) fun r4 h4_0 h4_1 => ev_szE h4_0
theorem szSeatS_ev {a : List TSeat} {l : Int} (ha : (lenL TSeat.len) a) (h0 : 0 ≤ l) (h1 : l ≤ 1048576) : Ev (fun n _ => laws_szSeatS n a l) (subS l ((sizeL TSeat.size) a)) := by
  refine ev_succ ?_
  refine ev_szL (g := fun n N x => laws_szSeatS.loop7 n (fun xy2 => (some xy2)) (n) a x 0) h0 h1 ha.1 fun l h0 h1 => sz_list TSeat.dflt TSeat.size (fun n N l i => laws_szSeatS.loop7 n (fun xy2 => (some xy2)) (N) a l (i : Int)) a (fun i l hi h0 h1 t kk => ?_) (fun l => ?_) l h0 h1
  · show Ev (fun n N => laws_szSeatS.step7 n (fun xy2 => (some xy2)) (laws_szSeatS.loop7 n (fun xy2 => (some xy2)) N) a l (i : Int)) _
    simp only [laws_szSeatS.step7, ev_cond, ev_inB, Int.toNat_natCast, W_up hi ha.1]
    refine ⟨fun _ => ?_, fun h => absurd hi (by simpa using h)⟩
    refine ⟨⟨by omega, by omega⟩, ?_⟩
    have := ev_sz (t := t) (g := fun n N x => laws_szSeatS.loop7 n (fun xy2 => (some xy2)) (N) a x ((i + 1 : Nat) : Int)) h0 h1 (szSeat_ev (ha.2 _ (getD_mem TSeat.dflt hi)) h0 h1) kk
    simpa only [ev_cond, ev_some] using this
  · show Ev (fun n N => laws_szSeatS.step7 n (fun xy2 => (some xy2)) (laws_szSeatS.loop7 n (fun xy2 => (some xy2)) N) a l (a.length : Int)) _
    simp only [laws_szSeatS.step7, ev_cond, ev_some]
    exact ⟨fun h => absurd (of_decide_eq_true h) (by omega), fun _ => trivial⟩
theorem szServer_ev {a : TServer} {l : Int} (ha : TServer.len a) (h0 : 0 ≤ l) (h1 : l ≤ 1048576) : Ev (fun n _ => laws_szServer n a l) (subS l (TServer.size a)) := by
  refine ev_succ ?_
  have e : TServer.size a = TRecord.size a.record + ((sizeL TSeat.size) a.seats + (0)) := by simp only [TServer.size]; omega
  rw [e]; clear e
  have h0_0 := h0; have h0_1 := h1
  exact ev_sz h0_0 h0_1 (szRecord_ev (ha.1) h0_0 h0_1) fun r1 h1_0 h1_1 => ev_sz h1_0 h1_1 (szSeatS_ev (ha.2) h1_0 h1_1) fun r2 h2_0 h2_1 => ev_szE h2_0
theorem toIntS_ev {a : List Int} (ha : (sizeL szI) a ≤ cap) : Ev (fun n _ => laws_toIntS n a) a := by
  refine ev_succ ?_
  have hl := sizeL_len szI a
  simp only [cap] at ha
  simp only [laws_toIntS, ev_cond, ev_none, decide_eq_true_eq, decide_eq_false_iff_not, not_true_eq_false]
  refine ⟨fun _ => ⟨fun _ => ⟨fun _ => ?_, fun h => absurd h (by omega)⟩, fun h => absurd h (by omega)⟩, fun h => h⟩
  refine ev_copy 0 a (fun n N i s => laws_toIntS.loop4 n (fun xy2 => (some xy2)) N a (i : Int) s) (fun i s hi hs k => ?_) ?_ _ (by simp)
  · show Ev (fun n N => laws_toIntS.step4 n (fun xy2 => (some xy2)) (laws_toIntS.loop4 n (fun xy2 => (some xy2)) N) a (i : Int) s) a
    simp only [laws_toIntS.step4, Int.toNat_natCast, ev_cond, ev_inB, W_up hi (show a.length ≤ topN by simp only [topN]; omega)]
    exact ⟨fun _ => ⟨⟨by omega, by omega⟩, ⟨by omega, by omega⟩, k⟩, fun h => absurd hi (by simpa using h)⟩
  · show Ev (fun n N => laws_toIntS.step4 n (fun xy2 => (some xy2)) (laws_toIntS.loop4 n (fun xy2 => (some xy2)) N) a (a.length : Int) a) a
    simp only [laws_toIntS.step4, ev_cond, ev_some]
    exact ⟨fun h => absurd (of_decide_eq_true h) (by omega), fun _ => trivial⟩
theorem toSchema_ev {a : TSchema} (ha : TSchema.size a ≤ cap) : Ev (fun n _ => laws_toSchema n a) a := by
  refine ev_succ ?_
  simp only [TSchema.size] at ha
  have h0 := toIntS_ev (a := a.cols) (by omega)
  simp only [laws_toSchema, ev_bind h0, ev_some]
theorem toRow_ev {a : TRow} (ha : TRow.size a ≤ cap) : Ev (fun n _ => laws_toRow n a) a := by
  refine ev_succ ?_
  simp only [TRow.size] at ha
  have h0 := toIntS_ev (a := a.cells) (by omega)
  simp only [laws_toRow, ev_bind h0, ev_some]
theorem toRowS_ev {a : List TRow} (ha : (sizeL TRow.size) a ≤ cap) : Ev (fun n _ => laws_toRowS n a) a := by
  refine ev_succ ?_
  have hl := sizeL_len TRow.size a
  simp only [cap] at ha
  simp only [laws_toRowS, ev_cond, ev_none, decide_eq_true_eq, decide_eq_false_iff_not, not_true_eq_false]
  refine ⟨fun _ => ⟨fun _ => ⟨fun _ => ?_, fun h => absurd h (by omega)⟩, fun h => absurd h (by omega)⟩, fun h => h⟩
  refine ev_copy TRow.dflt a (fun n N i s => laws_toRowS.loop4 n (fun xy3 => (some xy3)) N a (i : Int) s) (fun i s hi hs k => ?_) ?_ _ (by simp)
  · show Ev (fun n N => laws_toRowS.step4 n (fun xy3 => (some xy3)) (laws_toRowS.loop4 n (fun xy3 => (some xy3)) N) a (i : Int) s) a
    simp only [laws_toRowS.step4, Int.toNat_natCast, ev_cond, ev_inB, ev_bind (toRow_ev (a := a.getD i TRow.dflt) (by have := sizeL_le TRow.size (getD_mem TRow.dflt hi); simp only [cap]; omega)), W_up hi (show a.length ≤ topN by simp only [topN]; omega)]
    exact ⟨fun _ => ⟨⟨by omega, by omega⟩, ⟨by omega, by omega⟩, k⟩, fun h => absurd hi (by simpa using h)⟩
  · show Ev (fun n N => laws_toRowS.step4 n (fun xy3 => (some xy3)) (laws_toRowS.loop4 n (fun xy3 => (some xy3)) N) a (a.length : Int) a) a
    simp only [laws_toRowS.step4, ev_cond, ev_some]
    exact ⟨fun h => absurd (of_decide_eq_true h) (by omega), fun _ => trivial⟩
theorem toRowSS_ev {a : List (List TRow)} (ha : (sizeL (sizeL TRow.size)) a ≤ cap) : Ev (fun n _ => laws_toRowSS n a) a := by
  refine ev_succ ?_
  have hl := sizeL_len (sizeL TRow.size) a
  simp only [cap] at ha
  simp only [laws_toRowSS, ev_cond, ev_none, decide_eq_true_eq, decide_eq_false_iff_not, not_true_eq_false]
  refine ⟨fun _ => ⟨fun _ => ⟨fun _ => ?_, fun h => absurd h (by omega)⟩, fun h => absurd h (by omega)⟩, fun h => h⟩
  refine ev_copy [] a (fun n N i s => laws_toRowSS.loop4 n (fun xy3 => (some xy3)) N a (i : Int) s) (fun i s hi hs k => ?_) ?_ _ (by simp)
  · show Ev (fun n N => laws_toRowSS.step4 n (fun xy3 => (some xy3)) (laws_toRowSS.loop4 n (fun xy3 => (some xy3)) N) a (i : Int) s) a
    simp only [laws_toRowSS.step4, Int.toNat_natCast, ev_cond, ev_inB, ev_bind (toRowS_ev (a := a.getD i []) (by have := sizeL_le (sizeL TRow.size) (getD_mem [] hi); simp only [cap]; omega)), W_up hi (show a.length ≤ topN by simp only [topN]; omega)]
    exact ⟨fun _ => ⟨⟨by omega, by omega⟩, ⟨by omega, by omega⟩, k⟩, fun h => absurd hi (by simpa using h)⟩
  · show Ev (fun n N => laws_toRowSS.step4 n (fun xy3 => (some xy3)) (laws_toRowSS.loop4 n (fun xy3 => (some xy3)) N) a (a.length : Int) a) a
    simp only [laws_toRowSS.step4, ev_cond, ev_some]
    exact ⟨fun h => absurd (of_decide_eq_true h) (by omega), fun _ => trivial⟩
theorem toStore_ev {a : TStore} (ha : TStore.size a ≤ cap) : Ev (fun n _ => laws_toStore n a) a := by
  refine ev_succ ?_
  simp only [TStore.size] at ha
  have h0 := toSchema_ev (a := a.schema) (by omega)
  have h1 := toRowSS_ev (a := a.tables) (by omega)
  simp only [laws_toStore, ev_bind h0, ev_bind h1, ev_some]
theorem toChange_ev {a : TChange} (ha : TChange.size a ≤ cap) : Ev (fun n _ => laws_toChange n a) a := by
  refine ev_succ ?_
  simp only [TChange.size] at ha
  have h0 := toRow_ev (a := a.old) (by omega)
  have h1 := toRow_ev (a := a.new) (by omega)
  simp only [laws_toChange, ev_bind h0, ev_bind h1, ev_some]
theorem toChangeS_ev {a : List TChange} (ha : (sizeL TChange.size) a ≤ cap) : Ev (fun n _ => laws_toChangeS n a) a := by
  refine ev_succ ?_
  have hl := sizeL_len TChange.size a
  simp only [cap] at ha
  simp only [laws_toChangeS, ev_cond, ev_none, decide_eq_true_eq, decide_eq_false_iff_not, not_true_eq_false]
  refine ⟨fun _ => ⟨fun _ => ⟨fun _ => ?_, fun h => absurd h (by omega)⟩, fun h => absurd h (by omega)⟩, fun h => h⟩
  refine ev_copy TChange.dflt a (fun n N i s => laws_toChangeS.loop4 n (fun xy3 => (some xy3)) N a (i : Int) s) (fun i s hi hs k => ?_) ?_ _ (by simp)
  · show Ev (fun n N => laws_toChangeS.step4 n (fun xy3 => (some xy3)) (laws_toChangeS.loop4 n (fun xy3 => (some xy3)) N) a (i : Int) s) a
    simp only [laws_toChangeS.step4, Int.toNat_natCast, ev_cond, ev_inB, ev_bind (toChange_ev (a := a.getD i TChange.dflt) (by have := sizeL_le TChange.size (getD_mem TChange.dflt hi); simp only [cap]; omega)), W_up hi (show a.length ≤ topN by simp only [topN]; omega)]
    exact ⟨fun _ => ⟨⟨by omega, by omega⟩, ⟨by omega, by omega⟩, k⟩, fun h => absurd hi (by simpa using h)⟩
  · show Ev (fun n N => laws_toChangeS.step4 n (fun xy3 => (some xy3)) (laws_toChangeS.loop4 n (fun xy3 => (some xy3)) N) a (a.length : Int) a) a
    simp only [laws_toChangeS.step4, ev_cond, ev_some]
    exact ⟨fun h => absurd (of_decide_eq_true h) (by omega), fun _ => trivial⟩
theorem toChangeSS_ev {a : List (List TChange)} (ha : (sizeL (sizeL TChange.size)) a ≤ cap) : Ev (fun n _ => laws_toChangeSS n a) a := by
  refine ev_succ ?_
  have hl := sizeL_len (sizeL TChange.size) a
  simp only [cap] at ha
  simp only [laws_toChangeSS, ev_cond, ev_none, decide_eq_true_eq, decide_eq_false_iff_not, not_true_eq_false]
  refine ⟨fun _ => ⟨fun _ => ⟨fun _ => ?_, fun h => absurd h (by omega)⟩, fun h => absurd h (by omega)⟩, fun h => h⟩
  refine ev_copy [] a (fun n N i s => laws_toChangeSS.loop4 n (fun xy3 => (some xy3)) N a (i : Int) s) (fun i s hi hs k => ?_) ?_ _ (by simp)
  · show Ev (fun n N => laws_toChangeSS.step4 n (fun xy3 => (some xy3)) (laws_toChangeSS.loop4 n (fun xy3 => (some xy3)) N) a (i : Int) s) a
    simp only [laws_toChangeSS.step4, Int.toNat_natCast, ev_cond, ev_inB, ev_bind (toChangeS_ev (a := a.getD i []) (by have := sizeL_le (sizeL TChange.size) (getD_mem [] hi); simp only [cap]; omega)), W_up hi (show a.length ≤ topN by simp only [topN]; omega)]
    exact ⟨fun _ => ⟨⟨by omega, by omega⟩, ⟨by omega, by omega⟩, k⟩, fun h => absurd hi (by simpa using h)⟩
  · show Ev (fun n N => laws_toChangeSS.step4 n (fun xy3 => (some xy3)) (laws_toChangeSS.loop4 n (fun xy3 => (some xy3)) N) a (a.length : Int) a) a
    simp only [laws_toChangeSS.step4, ev_cond, ev_some]
    exact ⟨fun h => absurd (of_decide_eq_true h) (by omega), fun _ => trivial⟩
theorem toRecord_ev {a : TRecord} (ha : TRecord.size a ≤ cap) : Ev (fun n _ => laws_toRecord n a) a := by
  refine ev_succ ?_
  simp only [TRecord.size] at ha
  have h0 := toStore_ev (a := a.first) (by omega)
  have h1 := toChangeSS_ev (a := a.steps) (by omega)
  simp only [laws_toRecord, ev_bind h0, ev_bind h1, ev_some]
theorem toCond_ev {a : TCond} (ha : TCond.size a ≤ cap) : Ev (fun n _ => laws_toCond n a) a := by
  refine ev_succ ?_
  simp only [laws_toCond, ev_some]
theorem toCondS_ev {a : List TCond} (ha : (sizeL TCond.size) a ≤ cap) : Ev (fun n _ => laws_toCondS n a) a := by
  refine ev_succ ?_
  have hl := sizeL_len TCond.size a
  simp only [cap] at ha
  simp only [laws_toCondS, ev_cond, ev_none, decide_eq_true_eq, decide_eq_false_iff_not, not_true_eq_false]
  refine ⟨fun _ => ⟨fun _ => ⟨fun _ => ?_, fun h => absurd h (by omega)⟩, fun h => absurd h (by omega)⟩, fun h => h⟩
  refine ev_copy TCond.dflt a (fun n N i s => laws_toCondS.loop4 n (fun xy3 => (some xy3)) N a (i : Int) s) (fun i s hi hs k => ?_) ?_ _ (by simp)
  · show Ev (fun n N => laws_toCondS.step4 n (fun xy3 => (some xy3)) (laws_toCondS.loop4 n (fun xy3 => (some xy3)) N) a (i : Int) s) a
    simp only [laws_toCondS.step4, Int.toNat_natCast, ev_cond, ev_inB, ev_bind (toCond_ev (a := a.getD i TCond.dflt) (by have := sizeL_le TCond.size (getD_mem TCond.dflt hi); simp only [cap]; omega)), W_up hi (show a.length ≤ topN by simp only [topN]; omega)]
    exact ⟨fun _ => ⟨⟨by omega, by omega⟩, ⟨by omega, by omega⟩, k⟩, fun h => absurd hi (by simpa using h)⟩
  · show Ev (fun n N => laws_toCondS.step4 n (fun xy3 => (some xy3)) (laws_toCondS.loop4 n (fun xy3 => (some xy3)) N) a (a.length : Int) a) a
    simp only [laws_toCondS.step4, ev_cond, ev_some]
    exact ⟨fun h => absurd (of_decide_eq_true h) (by omega), fun _ => trivial⟩
theorem toQuery_ev {a : TQuery} (ha : TQuery.size a ≤ cap) : Ev (fun n _ => laws_toQuery n a) a := by
  refine ev_succ ?_
  simp only [TQuery.size] at ha
  have h0 := toCondS_ev (a := a.where_) (by omega)
  have h1 := toIntS_ev (a := a.show_) (by omega)
  simp only [laws_toQuery, ev_bind h0, ev_bind h1, ev_some]
theorem toKid_ev {a : TKid} (ha : TKid.size a ≤ cap) : Ev (fun n _ => laws_toKid n a) a := by
  refine ev_succ ?_
  simp only [laws_toKid, ev_some]
theorem toKidS_ev {a : List TKid} (ha : (sizeL TKid.size) a ≤ cap) : Ev (fun n _ => laws_toKidS n a) a := by
  refine ev_succ ?_
  have hl := sizeL_len TKid.size a
  simp only [cap] at ha
  simp only [laws_toKidS, ev_cond, ev_none, decide_eq_true_eq, decide_eq_false_iff_not, not_true_eq_false]
  refine ⟨fun _ => ⟨fun _ => ⟨fun _ => ?_, fun h => absurd h (by omega)⟩, fun h => absurd h (by omega)⟩, fun h => h⟩
  refine ev_copy TKid.dflt a (fun n N i s => laws_toKidS.loop4 n (fun xy3 => (some xy3)) N a (i : Int) s) (fun i s hi hs k => ?_) ?_ _ (by simp)
  · show Ev (fun n N => laws_toKidS.step4 n (fun xy3 => (some xy3)) (laws_toKidS.loop4 n (fun xy3 => (some xy3)) N) a (i : Int) s) a
    simp only [laws_toKidS.step4, Int.toNat_natCast, ev_cond, ev_inB, ev_bind (toKid_ev (a := a.getD i TKid.dflt) (by have := sizeL_le TKid.size (getD_mem TKid.dflt hi); simp only [cap]; omega)), W_up hi (show a.length ≤ topN by simp only [topN]; omega)]
    exact ⟨fun _ => ⟨⟨by omega, by omega⟩, ⟨by omega, by omega⟩, k⟩, fun h => absurd hi (by simpa using h)⟩
  · show Ev (fun n N => laws_toKidS.step4 n (fun xy3 => (some xy3)) (laws_toKidS.loop4 n (fun xy3 => (some xy3)) N) a (a.length : Int) a) a
    simp only [laws_toKidS.step4, ev_cond, ev_some]
    exact ⟨fun h => absurd (of_decide_eq_true h) (by omega), fun _ => trivial⟩
theorem toView_ev {a : TView} (ha : TView.size a ≤ cap) : Ev (fun n _ => laws_toView n a) a := by
  refine ev_succ ?_
  simp only [TView.size] at ha
  have h0 := toQuery_ev (a := a.q) (by omega)
  have h1 := toRowS_ev (a := a.rows) (by omega)
  have h2 := toKidS_ev (a := a.kids) (by omega)
  simp only [laws_toView, ev_bind h0, ev_bind h1, ev_bind h2, ev_some]
theorem toSess_ev {a : TSess} (ha : TSess.size a ≤ cap) : Ev (fun n _ => laws_toSess n a) a := by
  refine ev_succ ?_
  simp only [TSess.size] at ha
  have h0 := toView_ev (a := a.view) (by omega)
  have h1 := toView_ev (a := a.last) (by omega)
  simp only [laws_toSess, ev_bind h0, ev_bind h1, ev_some]
theorem toLine_ev {a : TLine} (ha : TLine.size a ≤ cap) : Ev (fun n _ => laws_toLine n a) a := by
  refine ev_succ ?_
  simp only [laws_toLine, ev_some]
theorem toSeat_ev {a : TSeat} (ha : TSeat.size a ≤ cap) : Ev (fun n _ => laws_toSeat n a) a := by
  refine ev_succ ?_
  simp only [TSeat.size] at ha
  have h0 := toSess_ev (a := a.sess) (by omega)
  have h1 := toLine_ev (a := a.line) (by omega)
  simp only [laws_toSeat, ev_bind h0, ev_bind h1, ev_some]
theorem toSeatS_ev {a : List TSeat} (ha : (sizeL TSeat.size) a ≤ cap) : Ev (fun n _ => laws_toSeatS n a) a := by
  refine ev_succ ?_
  have hl := sizeL_len TSeat.size a
  simp only [cap] at ha
  simp only [laws_toSeatS, ev_cond, ev_none, decide_eq_true_eq, decide_eq_false_iff_not, not_true_eq_false]
  refine ⟨fun _ => ⟨fun _ => ⟨fun _ => ?_, fun h => absurd h (by omega)⟩, fun h => absurd h (by omega)⟩, fun h => h⟩
  refine ev_copy TSeat.dflt a (fun n N i s => laws_toSeatS.loop4 n (fun xy3 => (some xy3)) N a (i : Int) s) (fun i s hi hs k => ?_) ?_ _ (by simp)
  · show Ev (fun n N => laws_toSeatS.step4 n (fun xy3 => (some xy3)) (laws_toSeatS.loop4 n (fun xy3 => (some xy3)) N) a (i : Int) s) a
    simp only [laws_toSeatS.step4, Int.toNat_natCast, ev_cond, ev_inB, ev_bind (toSeat_ev (a := a.getD i TSeat.dflt) (by have := sizeL_le TSeat.size (getD_mem TSeat.dflt hi); simp only [cap]; omega)), W_up hi (show a.length ≤ topN by simp only [topN]; omega)]
    exact ⟨fun _ => ⟨⟨by omega, by omega⟩, ⟨by omega, by omega⟩, k⟩, fun h => absurd hi (by simpa using h)⟩
  · show Ev (fun n N => laws_toSeatS.step4 n (fun xy3 => (some xy3)) (laws_toSeatS.loop4 n (fun xy3 => (some xy3)) N) a (a.length : Int) a) a
    simp only [laws_toSeatS.step4, ev_cond, ev_some]
    exact ⟨fun h => absurd (of_decide_eq_true h) (by omega), fun _ => trivial⟩
theorem toServer_ev {a : TServer} (ha : TServer.size a ≤ cap) : Ev (fun n _ => laws_toServer n a) a := by
  refine ev_succ ?_
  simp only [TServer.size] at ha
  have h0 := toRecord_ev (a := a.record) (by omega)
  have h1 := toSeatS_ev (a := a.seats) (by omega)
  simp only [laws_toServer, ev_bind h0, ev_bind h1, ev_some]
theorem eqIntS_ev {a : List Int} (ha : (sizeL szI) a ≤ topN) : Ev (fun n _ => laws_eqIntS n a a) true := by
  refine ev_succ ?_
  have hl := sizeL_len szI a
  simp only [laws_eqIntS, ev_cond, bne_self_eq_false]
  refine ⟨fun h => (by cases h), fun _ => ?_⟩
  refine ev_up1 (fun n N i => laws_eqIntS.loop6 n (some true) N a a (i : Int)) (fun _ => true) a.length fun i hi k => ?_
  show Ev (fun n N => laws_eqIntS.step6 n (some true) (laws_eqIntS.loop6 n (some true) N) a a (i : Int)) true
  by_cases h : i < a.length
  · simp only [laws_eqIntS.step6, Int.toNat_natCast, ev_cond, ev_inB, bne_self_eq_false, beq_self_eq_true, Bool.not_true, W_up h (show a.length ≤ topN by omega)]
    exact ⟨fun _ => ⟨⟨by omega, by omega⟩, ⟨by omega, by omega⟩, fun h => (by cases h), fun _ => k h⟩, fun h' => absurd h (by simpa using h')⟩
  · simp only [laws_eqIntS.step6, ev_cond, ev_some]
    exact ⟨fun h' => absurd (of_decide_eq_true h') (by omega), fun _ => trivial⟩
theorem eqSchema_ev {a : TSchema} (ha : TSchema.size a ≤ topN) : Ev (fun n _ => laws_eqSchema n a a) true := by
  refine ev_succ ?_
  simp only [TSchema.size] at ha
  have h0 := eqIntS_ev (a := a.cols) (by omega)
  simp only [laws_eqSchema, ev_bind h0, bne_self_eq_false, beq_self_eq_true, Bool.not_true, cond_false, ev_some]
theorem eqRow_ev {a : TRow} (ha : TRow.size a ≤ topN) : Ev (fun n _ => laws_eqRow n a a) true := by
  refine ev_succ ?_
  simp only [TRow.size] at ha
  have h0 := eqIntS_ev (a := a.cells) (by omega)
  simp only [laws_eqRow, ev_bind h0, bne_self_eq_false, beq_self_eq_true, Bool.not_true, cond_false, ev_some]
theorem eqRowS_ev {a : List TRow} (ha : (sizeL TRow.size) a ≤ topN) : Ev (fun n _ => laws_eqRowS n a a) true := by
  refine ev_succ ?_
  have hl := sizeL_len TRow.size a
  simp only [laws_eqRowS, ev_cond, bne_self_eq_false]
  refine ⟨fun h => (by cases h), fun _ => ?_⟩
  refine ev_up1 (fun n N i => laws_eqRowS.loop6 n (some true) N a a (i : Int)) (fun _ => true) a.length fun i hi k => ?_
  show Ev (fun n N => laws_eqRowS.step6 n (some true) (laws_eqRowS.loop6 n (some true) N) a a (i : Int)) true
  by_cases h : i < a.length
  · simp only [laws_eqRowS.step6, Int.toNat_natCast, ev_cond, ev_inB, ev_bind (eqRow_ev (a := a.getD i TRow.dflt) (by have := sizeL_le TRow.size (getD_mem TRow.dflt h); omega)), bne_self_eq_false, beq_self_eq_true, Bool.not_true, W_up h (show a.length ≤ topN by omega)]
    exact ⟨fun _ => ⟨⟨by omega, by omega⟩, ⟨by omega, by omega⟩, fun h => (by cases h), fun _ => k h⟩, fun h' => absurd h (by simpa using h')⟩
  · simp only [laws_eqRowS.step6, ev_cond, ev_some]
    exact ⟨fun h' => absurd (of_decide_eq_true h') (by omega), fun _ => trivial⟩
theorem eqRowSS_ev {a : List (List TRow)} (ha : (sizeL (sizeL TRow.size)) a ≤ topN) : Ev (fun n _ => laws_eqRowSS n a a) true := by
  refine ev_succ ?_
  have hl := sizeL_len (sizeL TRow.size) a
  simp only [laws_eqRowSS, ev_cond, bne_self_eq_false]
  refine ⟨fun h => (by cases h), fun _ => ?_⟩
  refine ev_up1 (fun n N i => laws_eqRowSS.loop6 n (some true) N a a (i : Int)) (fun _ => true) a.length fun i hi k => ?_
  show Ev (fun n N => laws_eqRowSS.step6 n (some true) (laws_eqRowSS.loop6 n (some true) N) a a (i : Int)) true
  by_cases h : i < a.length
  · simp only [laws_eqRowSS.step6, Int.toNat_natCast, ev_cond, ev_inB, ev_bind (eqRowS_ev (a := a.getD i []) (by have := sizeL_le (sizeL TRow.size) (getD_mem [] h); omega)), bne_self_eq_false, beq_self_eq_true, Bool.not_true, W_up h (show a.length ≤ topN by omega)]
    exact ⟨fun _ => ⟨⟨by omega, by omega⟩, ⟨by omega, by omega⟩, fun h => (by cases h), fun _ => k h⟩, fun h' => absurd h (by simpa using h')⟩
  · simp only [laws_eqRowSS.step6, ev_cond, ev_some]
    exact ⟨fun h' => absurd (of_decide_eq_true h') (by omega), fun _ => trivial⟩
theorem eqStore_ev {a : TStore} (ha : TStore.size a ≤ topN) : Ev (fun n _ => laws_eqStore n a a) true := by
  refine ev_succ ?_
  simp only [TStore.size] at ha
  have h0 := eqSchema_ev (a := a.schema) (by omega)
  have h1 := eqRowSS_ev (a := a.tables) (by omega)
  simp only [laws_eqStore, ev_bind h0, ev_bind h1, bne_self_eq_false, beq_self_eq_true, Bool.not_true, cond_false, ev_some]
theorem eqChange_ev {a : TChange} (ha : TChange.size a ≤ topN) : Ev (fun n _ => laws_eqChange n a a) true := by
  refine ev_succ ?_
  simp only [TChange.size] at ha
  have h0 := eqRow_ev (a := a.old) (by omega)
  have h1 := eqRow_ev (a := a.new) (by omega)
  simp only [laws_eqChange, ev_bind h0, ev_bind h1, bne_self_eq_false, beq_self_eq_true, Bool.not_true, cond_false, ev_some]
theorem eqChangeS_ev {a : List TChange} (ha : (sizeL TChange.size) a ≤ topN) : Ev (fun n _ => laws_eqChangeS n a a) true := by
  refine ev_succ ?_
  have hl := sizeL_len TChange.size a
  simp only [laws_eqChangeS, ev_cond, bne_self_eq_false]
  refine ⟨fun h => (by cases h), fun _ => ?_⟩
  refine ev_up1 (fun n N i => laws_eqChangeS.loop6 n (some true) N a a (i : Int)) (fun _ => true) a.length fun i hi k => ?_
  show Ev (fun n N => laws_eqChangeS.step6 n (some true) (laws_eqChangeS.loop6 n (some true) N) a a (i : Int)) true
  by_cases h : i < a.length
  · simp only [laws_eqChangeS.step6, Int.toNat_natCast, ev_cond, ev_inB, ev_bind (eqChange_ev (a := a.getD i TChange.dflt) (by have := sizeL_le TChange.size (getD_mem TChange.dflt h); omega)), bne_self_eq_false, beq_self_eq_true, Bool.not_true, W_up h (show a.length ≤ topN by omega)]
    exact ⟨fun _ => ⟨⟨by omega, by omega⟩, ⟨by omega, by omega⟩, fun h => (by cases h), fun _ => k h⟩, fun h' => absurd h (by simpa using h')⟩
  · simp only [laws_eqChangeS.step6, ev_cond, ev_some]
    exact ⟨fun h' => absurd (of_decide_eq_true h') (by omega), fun _ => trivial⟩
theorem eqChangeSS_ev {a : List (List TChange)} (ha : (sizeL (sizeL TChange.size)) a ≤ topN) : Ev (fun n _ => laws_eqChangeSS n a a) true := by
  refine ev_succ ?_
  have hl := sizeL_len (sizeL TChange.size) a
  simp only [laws_eqChangeSS, ev_cond, bne_self_eq_false]
  refine ⟨fun h => (by cases h), fun _ => ?_⟩
  refine ev_up1 (fun n N i => laws_eqChangeSS.loop6 n (some true) N a a (i : Int)) (fun _ => true) a.length fun i hi k => ?_
  show Ev (fun n N => laws_eqChangeSS.step6 n (some true) (laws_eqChangeSS.loop6 n (some true) N) a a (i : Int)) true
  by_cases h : i < a.length
  · simp only [laws_eqChangeSS.step6, Int.toNat_natCast, ev_cond, ev_inB, ev_bind (eqChangeS_ev (a := a.getD i []) (by have := sizeL_le (sizeL TChange.size) (getD_mem [] h); omega)), bne_self_eq_false, beq_self_eq_true, Bool.not_true, W_up h (show a.length ≤ topN by omega)]
    exact ⟨fun _ => ⟨⟨by omega, by omega⟩, ⟨by omega, by omega⟩, fun h => (by cases h), fun _ => k h⟩, fun h' => absurd h (by simpa using h')⟩
  · simp only [laws_eqChangeSS.step6, ev_cond, ev_some]
    exact ⟨fun h' => absurd (of_decide_eq_true h') (by omega), fun _ => trivial⟩
theorem eqRecord_ev {a : TRecord} (ha : TRecord.size a ≤ topN) : Ev (fun n _ => laws_eqRecord n a a) true := by
  refine ev_succ ?_
  simp only [TRecord.size] at ha
  have h0 := eqStore_ev (a := a.first) (by omega)
  have h1 := eqChangeSS_ev (a := a.steps) (by omega)
  simp only [laws_eqRecord, ev_bind h0, ev_bind h1, bne_self_eq_false, beq_self_eq_true, Bool.not_true, cond_false, ev_some]
theorem eqCond_ev {a : TCond} (ha : TCond.size a ≤ topN) : Ev (fun n _ => laws_eqCond n a a) true := by
  refine ev_succ ?_
  simp only [laws_eqCond, bne_self_eq_false, beq_self_eq_true, Bool.not_true, cond_false, ev_some]
theorem eqCondS_ev {a : List TCond} (ha : (sizeL TCond.size) a ≤ topN) : Ev (fun n _ => laws_eqCondS n a a) true := by
  refine ev_succ ?_
  have hl := sizeL_len TCond.size a
  simp only [laws_eqCondS, ev_cond, bne_self_eq_false]
  refine ⟨fun h => (by cases h), fun _ => ?_⟩
  refine ev_up1 (fun n N i => laws_eqCondS.loop6 n (some true) N a a (i : Int)) (fun _ => true) a.length fun i hi k => ?_
  show Ev (fun n N => laws_eqCondS.step6 n (some true) (laws_eqCondS.loop6 n (some true) N) a a (i : Int)) true
  by_cases h : i < a.length
  · simp only [laws_eqCondS.step6, Int.toNat_natCast, ev_cond, ev_inB, ev_bind (eqCond_ev (a := a.getD i TCond.dflt) (by have := sizeL_le TCond.size (getD_mem TCond.dflt h); omega)), bne_self_eq_false, beq_self_eq_true, Bool.not_true, W_up h (show a.length ≤ topN by omega)]
    exact ⟨fun _ => ⟨⟨by omega, by omega⟩, ⟨by omega, by omega⟩, fun h => (by cases h), fun _ => k h⟩, fun h' => absurd h (by simpa using h')⟩
  · simp only [laws_eqCondS.step6, ev_cond, ev_some]
    exact ⟨fun h' => absurd (of_decide_eq_true h') (by omega), fun _ => trivial⟩
theorem eqQuery_ev {a : TQuery} (ha : TQuery.size a ≤ topN) : Ev (fun n _ => laws_eqQuery n a a) true := by
  refine ev_succ ?_
  simp only [TQuery.size] at ha
  have h0 := eqCondS_ev (a := a.where_) (by omega)
  have h1 := eqIntS_ev (a := a.show_) (by omega)
  simp only [laws_eqQuery, ev_bind h0, ev_bind h1, bne_self_eq_false, beq_self_eq_true, Bool.not_true, cond_false, ev_some]
theorem eqKid_ev {a : TKid} (ha : TKid.size a ≤ topN) : Ev (fun n _ => laws_eqKid n a a) true := by
  refine ev_succ ?_
  simp only [laws_eqKid, bne_self_eq_false, beq_self_eq_true, Bool.not_true, cond_false, ev_some]
theorem eqKidS_ev {a : List TKid} (ha : (sizeL TKid.size) a ≤ topN) : Ev (fun n _ => laws_eqKidS n a a) true := by
  refine ev_succ ?_
  have hl := sizeL_len TKid.size a
  simp only [laws_eqKidS, ev_cond, bne_self_eq_false]
  refine ⟨fun h => (by cases h), fun _ => ?_⟩
  refine ev_up1 (fun n N i => laws_eqKidS.loop6 n (some true) N a a (i : Int)) (fun _ => true) a.length fun i hi k => ?_
  show Ev (fun n N => laws_eqKidS.step6 n (some true) (laws_eqKidS.loop6 n (some true) N) a a (i : Int)) true
  by_cases h : i < a.length
  · simp only [laws_eqKidS.step6, Int.toNat_natCast, ev_cond, ev_inB, ev_bind (eqKid_ev (a := a.getD i TKid.dflt) (by have := sizeL_le TKid.size (getD_mem TKid.dflt h); omega)), bne_self_eq_false, beq_self_eq_true, Bool.not_true, W_up h (show a.length ≤ topN by omega)]
    exact ⟨fun _ => ⟨⟨by omega, by omega⟩, ⟨by omega, by omega⟩, fun h => (by cases h), fun _ => k h⟩, fun h' => absurd h (by simpa using h')⟩
  · simp only [laws_eqKidS.step6, ev_cond, ev_some]
    exact ⟨fun h' => absurd (of_decide_eq_true h') (by omega), fun _ => trivial⟩
theorem eqView_ev {a : TView} (ha : TView.size a ≤ topN) : Ev (fun n _ => laws_eqView n a a) true := by
  refine ev_succ ?_
  simp only [TView.size] at ha
  have h0 := eqQuery_ev (a := a.q) (by omega)
  have h1 := eqRowS_ev (a := a.rows) (by omega)
  have h2 := eqKidS_ev (a := a.kids) (by omega)
  simp only [laws_eqView, ev_bind h0, ev_bind h1, ev_bind h2, bne_self_eq_false, beq_self_eq_true, Bool.not_true, cond_false, ev_some]
theorem eqSess_ev {a : TSess} (ha : TSess.size a ≤ topN) : Ev (fun n _ => laws_eqSess n a a) true := by
  refine ev_succ ?_
  simp only [TSess.size] at ha
  have h0 := eqView_ev (a := a.view) (by omega)
  have h1 := eqView_ev (a := a.last) (by omega)
  simp only [laws_eqSess, ev_bind h0, ev_bind h1, bne_self_eq_false, beq_self_eq_true, Bool.not_true, cond_false, ev_some]
theorem eqLine_ev {a : TLine} (ha : TLine.size a ≤ topN) : Ev (fun n _ => laws_eqLine n a a) true := by
  refine ev_succ ?_
  simp only [laws_eqLine, bne_self_eq_false, beq_self_eq_true, Bool.not_true, cond_false, ev_some]
theorem eqSeat_ev {a : TSeat} (ha : TSeat.size a ≤ topN) : Ev (fun n _ => laws_eqSeat n a a) true := by
  refine ev_succ ?_
  simp only [TSeat.size] at ha
  have h0 := eqSess_ev (a := a.sess) (by omega)
  have h1 := eqLine_ev (a := a.line) (by omega)
  simp only [laws_eqSeat, ev_bind h0, ev_bind h1, bne_self_eq_false, beq_self_eq_true, Bool.not_true, cond_false, ev_some]
theorem eqSeatS_ev {a : List TSeat} (ha : (sizeL TSeat.size) a ≤ topN) : Ev (fun n _ => laws_eqSeatS n a a) true := by
  refine ev_succ ?_
  have hl := sizeL_len TSeat.size a
  simp only [laws_eqSeatS, ev_cond, bne_self_eq_false]
  refine ⟨fun h => (by cases h), fun _ => ?_⟩
  refine ev_up1 (fun n N i => laws_eqSeatS.loop6 n (some true) N a a (i : Int)) (fun _ => true) a.length fun i hi k => ?_
  show Ev (fun n N => laws_eqSeatS.step6 n (some true) (laws_eqSeatS.loop6 n (some true) N) a a (i : Int)) true
  by_cases h : i < a.length
  · simp only [laws_eqSeatS.step6, Int.toNat_natCast, ev_cond, ev_inB, ev_bind (eqSeat_ev (a := a.getD i TSeat.dflt) (by have := sizeL_le TSeat.size (getD_mem TSeat.dflt h); omega)), bne_self_eq_false, beq_self_eq_true, Bool.not_true, W_up h (show a.length ≤ topN by omega)]
    exact ⟨fun _ => ⟨⟨by omega, by omega⟩, ⟨by omega, by omega⟩, fun h => (by cases h), fun _ => k h⟩, fun h' => absurd h (by simpa using h')⟩
  · simp only [laws_eqSeatS.step6, ev_cond, ev_some]
    exact ⟨fun h' => absurd (of_decide_eq_true h') (by omega), fun _ => trivial⟩
theorem eqServer_ev {a : TServer} (ha : TServer.size a ≤ topN) : Ev (fun n _ => laws_eqServer n a a) true := by
  refine ev_succ ?_
  simp only [TServer.size] at ha
  have h0 := eqRecord_ev (a := a.record) (by omega)
  have h1 := eqSeatS_ev (a := a.seats) (by omega)
  simp only [laws_eqServer, ev_bind h0, ev_bind h1, bne_self_eq_false, beq_self_eq_true, Bool.not_true, cond_false, ev_some]
end Go.Pi
end
section
set_option linter.unusedVariables false
namespace Go.Pi
/-! the lengths, out of what an argument was read to be -/
theorem good_sl {t : TC} {xs : List (El t)} (h : Good (.sl .v t xs)) : xs.length ≤ topN ∧ ∀ x ∈ xs, ∀ c ∈ Coding.enc .v t x, Good c := by
  cases h with
  | sl t xs h1 h2 => exact ⟨h1, h2⟩
end Go.Pi
end
section
set_option linter.unusedVariables false
namespace Go.Pi
theorem good_str {l : Bs} (h : Good (.s l)) : lenB l := by
  cases h with
  | s l h => exact h
theorem TSchema.good {x : TSchema} (h : ∀ c ∈ ([.sl .v .int x.cols] : List AV), Good c) : TSchema.len x := ⟨(good_sl (t := .int) (h _ (.head _))).1, fun x0 hx0 => trivial⟩
theorem TRow.good {x : TRow} (h : ∀ c ∈ ([.i .i64 x.id_, .sl .v .int x.cells] : List AV), Good c) : TRow.len x := ⟨(good_sl (t := .int) (h _ (.tail _ (.head _)))).1, fun x0 hx0 => trivial⟩
theorem TStore.good {x : TStore} (h : ∀ c ∈ ([.sl .v .int x.schema.cols, .i .i64 x.version, .sl .v .s_lRow x.tables] : List AV), Good c) : TStore.len x := ⟨⟨(good_sl (t := .int) (h _ (.head _))).1, fun x0 hx0 => trivial⟩, ⟨(good_sl (t := .s_lRow) (h _ (.tail _ (.tail _ (.head _))))).1, fun x0 hx0 => ⟨(good_sl (t := .lRow) ((good_sl (t := .s_lRow) (h _ (.tail _ (.tail _ (.head _))))).2 x0 hx0 _ (.head _))).1, fun x1 hx1 => TRow.good ((good_sl (t := .lRow) ((good_sl (t := .s_lRow) (h _ (.tail _ (.tail _ (.head _))))).2 x0 hx0 _ (.head _))).2 x1 hx1)⟩⟩⟩
theorem TChange.good {x : TChange} (h : ∀ c ∈ ([.i .i64 x.table, .b x.had, .b x.has, .i .i64 x.old.id_, .sl .v .int x.old.cells, .i .i64 x.new.id_, .sl .v .int x.new.cells] : List AV), Good c) : TChange.len x := ⟨⟨(good_sl (t := .int) (h _ (.tail _ (.tail _ (.tail _ (.tail _ (.head _))))))).1, fun x0 hx0 => trivial⟩, ⟨(good_sl (t := .int) (h _ (.tail _ (.tail _ (.tail _ (.tail _ (.tail _ (.tail _ (.head _))))))))).1, fun x0 hx0 => trivial⟩⟩
theorem TRecord.good {x : TRecord} (h : ∀ c ∈ ([.sl .v .int x.first.schema.cols, .i .i64 x.first.version, .sl .v .s_lRow x.first.tables, .sl .v .s_lChange x.steps] : List AV), Good c) : TRecord.len x := ⟨⟨⟨(good_sl (t := .int) (h _ (.head _))).1, fun x0 hx0 => trivial⟩, ⟨(good_sl (t := .s_lRow) (h _ (.tail _ (.tail _ (.head _))))).1, fun x0 hx0 => ⟨(good_sl (t := .lRow) ((good_sl (t := .s_lRow) (h _ (.tail _ (.tail _ (.head _))))).2 x0 hx0 _ (.head _))).1, fun x1 hx1 => TRow.good ((good_sl (t := .lRow) ((good_sl (t := .s_lRow) (h _ (.tail _ (.tail _ (.head _))))).2 x0 hx0 _ (.head _))).2 x1 hx1)⟩⟩⟩, ⟨(good_sl (t := .s_lChange) (h _ (.tail _ (.tail _ (.tail _ (.head _)))))).1, fun x0 hx0 => ⟨(good_sl (t := .lChange) ((good_sl (t := .s_lChange) (h _ (.tail _ (.tail _ (.tail _ (.head _)))))).2 x0 hx0 _ (.head _))).1, fun x1 hx1 => TChange.good ((good_sl (t := .lChange) ((good_sl (t := .s_lChange) (h _ (.tail _ (.tail _ (.tail _ (.head _)))))).2 x0 hx0 _ (.head _))).2 x1 hx1)⟩⟩⟩
theorem TCond.good {x : TCond} (h : ∀ c ∈ ([.i .i64 x.col, .i .i64 x.op, .i .i64 x.v] : List AV), Good c) : TCond.len x := trivial
theorem TQuery.good {x : TQuery} (h : ∀ c ∈ ([.i .i64 x.table, .sl .v .lCond x.where_, .i .i64 x.order, .b x.down, .i .i64 x.first, .sl .v .int x.show_, .b x.kids, .i .i64 x.kidTable, .i .i64 x.kidCol] : List AV), Good c) : TQuery.len x := ⟨⟨(good_sl (t := .lCond) (h _ (.tail _ (.head _)))).1, fun x0 hx0 => TCond.good ((good_sl (t := .lCond) (h _ (.tail _ (.head _)))).2 x0 hx0)⟩, ⟨(good_sl (t := .int) (h _ (.tail _ (.tail _ (.tail _ (.tail _ (.tail _ (.head _)))))))).1, fun x0 hx0 => trivial⟩⟩
theorem TKid.good {x : TKid} (h : ∀ c ∈ ([.i .i64 x.id_, .i .i64 x.n_] : List AV), Good c) : TKid.len x := trivial
theorem TView.good {x : TView} (h : ∀ c ∈ ([.i .i64 x.q.table, .sl .v .lCond x.q.where_, .i .i64 x.q.order, .b x.q.down, .i .i64 x.q.first, .sl .v .int x.q.show_, .b x.q.kids, .i .i64 x.q.kidTable, .i .i64 x.q.kidCol, .sl .v .lRow x.rows, .sl .v .lKid x.kids] : List AV), Good c) : TView.len x := ⟨⟨⟨(good_sl (t := .lCond) (h _ (.tail _ (.head _)))).1, fun x0 hx0 => TCond.good ((good_sl (t := .lCond) (h _ (.tail _ (.head _)))).2 x0 hx0)⟩, ⟨(good_sl (t := .int) (h _ (.tail _ (.tail _ (.tail _ (.tail _ (.tail _ (.head _)))))))).1, fun x0 hx0 => trivial⟩⟩, ⟨(good_sl (t := .lRow) (h _ (.tail _ (.tail _ (.tail _ (.tail _ (.tail _ (.tail _ (.tail _ (.tail _ (.tail _ (.head _)))))))))))).1, fun x0 hx0 => TRow.good ((good_sl (t := .lRow) (h _ (.tail _ (.tail _ (.tail _ (.tail _ (.tail _ (.tail _ (.tail _ (.tail _ (.tail _ (.head _)))))))))))).2 x0 hx0)⟩, ⟨(good_sl (t := .lKid) (h _ (.tail _ (.tail _ (.tail _ (.tail _ (.tail _ (.tail _ (.tail _ (.tail _ (.tail _ (.tail _ (.head _))))))))))))).1, fun x0 hx0 => TKid.good ((good_sl (t := .lKid) (h _ (.tail _ (.tail _ (.tail _ (.tail _ (.tail _ (.tail _ (.tail _ (.tail _ (.tail _ (.tail _ (.head _))))))))))))).2 x0 hx0)⟩⟩
theorem TSess.good {x : TSess} (h : ∀ c ∈ ([.i .i64 x.view.q.table, .sl .v .lCond x.view.q.where_, .i .i64 x.view.q.order, .b x.view.q.down, .i .i64 x.view.q.first, .sl .v .int x.view.q.show_, .b x.view.q.kids, .i .i64 x.view.q.kidTable, .i .i64 x.view.q.kidCol, .sl .v .lRow x.view.rows, .sl .v .lKid x.view.kids, .i .i64 x.version, .i .i64 x.last.q.table, .sl .v .lCond x.last.q.where_, .i .i64 x.last.q.order, .b x.last.q.down, .i .i64 x.last.q.first, .sl .v .int x.last.q.show_, .b x.last.q.kids, .i .i64 x.last.q.kidTable, .i .i64 x.last.q.kidCol, .sl .v .lRow x.last.rows, .sl .v .lKid x.last.kids, .i .i64 x.lastVersion, .b x.began] : List AV), Good c) : TSess.len x := ⟨⟨⟨⟨(good_sl (t := .lCond) (h _ (.tail _ (.head _)))).1, fun x0 hx0 => TCond.good ((good_sl (t := .lCond) (h _ (.tail _ (.head _)))).2 x0 hx0)⟩, ⟨(good_sl (t := .int) (h _ (.tail _ (.tail _ (.tail _ (.tail _ (.tail _ (.head _)))))))).1, fun x0 hx0 => trivial⟩⟩, ⟨(good_sl (t := .lRow) (h _ (.tail _ (.tail _ (.tail _ (.tail _ (.tail _ (.tail _ (.tail _ (.tail _ (.tail _ (.head _)))))))))))).1, fun x0 hx0 => TRow.good ((good_sl (t := .lRow) (h _ (.tail _ (.tail _ (.tail _ (.tail _ (.tail _ (.tail _ (.tail _ (.tail _ (.tail _ (.head _)))))))))))).2 x0 hx0)⟩, ⟨(good_sl (t := .lKid) (h _ (.tail _ (.tail _ (.tail _ (.tail _ (.tail _ (.tail _ (.tail _ (.tail _ (.tail _ (.tail _ (.head _))))))))))))).1, fun x0 hx0 => TKid.good ((good_sl (t := .lKid) (h _ (.tail _ (.tail _ (.tail _ (.tail _ (.tail _ (.tail _ (.tail _ (.tail _ (.tail _ (.tail _ (.head _))))))))))))).2 x0 hx0)⟩⟩, ⟨⟨⟨(good_sl (t := .lCond) (h _ (.tail _ (.tail _ (.tail _ (.tail _ (.tail _ (.tail _ (.tail _ (.tail _ (.tail _ (.tail _ (.tail _ (.tail _ (.tail _ (.head _)))))))))))))))).1, fun x0 hx0 => TCond.good ((good_sl (t := .lCond) (h _ (.tail _ (.tail _ (.tail _ (.tail _ (.tail _ (.tail _ (.tail _ (.tail _ (.tail _ (.tail _ (.tail _ (.tail _ (.tail _ (.head _)))))))))))))))).2 x0 hx0)⟩, ⟨(good_sl (t := .int) (h _ (.tail _ (.tail _ (.tail _ (.tail _ (.tail _ (.tail _ (.tail _ (.tail _ (.tail _ (.tail _ (.tail _ (.tail _ (.tail _ (.tail _ (.tail _ (.tail _ (.tail _ (.head _)))))))))))))))))))).1, fun x0 hx0 => trivial⟩⟩, ⟨(good_sl (t := .lRow) (h _ (.tail _ (.tail _ (.tail _ (.tail _ (.tail _ (.tail _ (.tail _ (.tail _ (.tail _ (.tail _ (.tail _ (.tail _ (.tail _ (.tail _ (.tail _ (.tail _ (.tail _ (.tail _ (.tail _ (.tail _ (.tail _ (.head _)))))))))))))))))))))))).1, fun x0 hx0 => TRow.good ((good_sl (t := .lRow) (h _ (.tail _ (.tail _ (.tail _ (.tail _ (.tail _ (.tail _ (.tail _ (.tail _ (.tail _ (.tail _ (.tail _ (.tail _ (.tail _ (.tail _ (.tail _ (.tail _ (.tail _ (.tail _ (.tail _ (.tail _ (.tail _ (.head _)))))))))))))))))))))))).2 x0 hx0)⟩, ⟨(good_sl (t := .lKid) (h _ (.tail _ (.tail _ (.tail _ (.tail _ (.tail _ (.tail _ (.tail _ (.tail _ (.tail _ (.tail _ (.tail _ (.tail _ (.tail _ (.tail _ (.tail _ (.tail _ (.tail _ (.tail _ (.tail _ (.tail _ (.tail _ (.tail _ (.head _))))))))))))))))))))))))).1, fun x0 hx0 => TKid.good ((good_sl (t := .lKid) (h _ (.tail _ (.tail _ (.tail _ (.tail _ (.tail _ (.tail _ (.tail _ (.tail _ (.tail _ (.tail _ (.tail _ (.tail _ (.tail _ (.tail _ (.tail _ (.tail _ (.tail _ (.tail _ (.tail _ (.tail _ (.tail _ (.tail _ (.head _))))))))))))))))))))))))).2 x0 hx0)⟩⟩⟩
theorem TLine.good {x : TLine} (h : ∀ c ∈ ([.s x.wait, .i .i64 x.gone] : List AV), Good c) : TLine.len x := (good_str (h _ (.head _)))
theorem TSeat.good {x : TSeat} (h : ∀ c ∈ ([.i .i64 x.sess.view.q.table, .sl .v .lCond x.sess.view.q.where_, .i .i64 x.sess.view.q.order, .b x.sess.view.q.down, .i .i64 x.sess.view.q.first, .sl .v .int x.sess.view.q.show_, .b x.sess.view.q.kids, .i .i64 x.sess.view.q.kidTable, .i .i64 x.sess.view.q.kidCol, .sl .v .lRow x.sess.view.rows, .sl .v .lKid x.sess.view.kids, .i .i64 x.sess.version, .i .i64 x.sess.last.q.table, .sl .v .lCond x.sess.last.q.where_, .i .i64 x.sess.last.q.order, .b x.sess.last.q.down, .i .i64 x.sess.last.q.first, .sl .v .int x.sess.last.q.show_, .b x.sess.last.q.kids, .i .i64 x.sess.last.q.kidTable, .i .i64 x.sess.last.q.kidCol, .sl .v .lRow x.sess.last.rows, .sl .v .lKid x.sess.last.kids, .i .i64 x.sess.lastVersion, .b x.sess.began, .s x.line.wait, .i .i64 x.line.gone, .s x.sent, .s x.came, .b x.gone] : List AV), Good c) : TSeat.len x := ⟨⟨⟨⟨⟨(good_sl (t := .lCond) (h _ (.tail _ (.head _)))).1, fun x0 hx0 => TCond.good ((good_sl (t := .lCond) (h _ (.tail _ (.head _)))).2 x0 hx0)⟩, ⟨(good_sl (t := .int) (h _ (.tail _ (.tail _ (.tail _ (.tail _ (.tail _ (.head _)))))))).1, fun x0 hx0 => trivial⟩⟩, ⟨(good_sl (t := .lRow) (h _ (.tail _ (.tail _ (.tail _ (.tail _ (.tail _ (.tail _ (.tail _ (.tail _ (.tail _ (.head _)))))))))))).1, fun x0 hx0 => TRow.good ((good_sl (t := .lRow) (h _ (.tail _ (.tail _ (.tail _ (.tail _ (.tail _ (.tail _ (.tail _ (.tail _ (.tail _ (.head _)))))))))))).2 x0 hx0)⟩, ⟨(good_sl (t := .lKid) (h _ (.tail _ (.tail _ (.tail _ (.tail _ (.tail _ (.tail _ (.tail _ (.tail _ (.tail _ (.tail _ (.head _))))))))))))).1, fun x0 hx0 => TKid.good ((good_sl (t := .lKid) (h _ (.tail _ (.tail _ (.tail _ (.tail _ (.tail _ (.tail _ (.tail _ (.tail _ (.tail _ (.tail _ (.head _))))))))))))).2 x0 hx0)⟩⟩, ⟨⟨⟨(good_sl (t := .lCond) (h _ (.tail _ (.tail _ (.tail _ (.tail _ (.tail _ (.tail _ (.tail _ (.tail _ (.tail _ (.tail _ (.tail _ (.tail _ (.tail _ (.head _)))))))))))))))).1, fun x0 hx0 => TCond.good ((good_sl (t := .lCond) (h _ (.tail _ (.tail _ (.tail _ (.tail _ (.tail _ (.tail _ (.tail _ (.tail _ (.tail _ (.tail _ (.tail _ (.tail _ (.tail _ (.head _)))))))))))))))).2 x0 hx0)⟩, ⟨(good_sl (t := .int) (h _ (.tail _ (.tail _ (.tail _ (.tail _ (.tail _ (.tail _ (.tail _ (.tail _ (.tail _ (.tail _ (.tail _ (.tail _ (.tail _ (.tail _ (.tail _ (.tail _ (.tail _ (.head _)))))))))))))))))))).1, fun x0 hx0 => trivial⟩⟩, ⟨(good_sl (t := .lRow) (h _ (.tail _ (.tail _ (.tail _ (.tail _ (.tail _ (.tail _ (.tail _ (.tail _ (.tail _ (.tail _ (.tail _ (.tail _ (.tail _ (.tail _ (.tail _ (.tail _ (.tail _ (.tail _ (.tail _ (.tail _ (.tail _ (.head _)))))))))))))))))))))))).1, fun x0 hx0 => TRow.good ((good_sl (t := .lRow) (h _ (.tail _ (.tail _ (.tail _ (.tail _ (.tail _ (.tail _ (.tail _ (.tail _ (.tail _ (.tail _ (.tail _ (.tail _ (.tail _ (.tail _ (.tail _ (.tail _ (.tail _ (.tail _ (.tail _ (.tail _ (.tail _ (.head _)))))))))))))))))))))))).2 x0 hx0)⟩, ⟨(good_sl (t := .lKid) (h _ (.tail _ (.tail _ (.tail _ (.tail _ (.tail _ (.tail _ (.tail _ (.tail _ (.tail _ (.tail _ (.tail _ (.tail _ (.tail _ (.tail _ (.tail _ (.tail _ (.tail _ (.tail _ (.tail _ (.tail _ (.tail _ (.tail _ (.head _))))))))))))))))))))))))).1, fun x0 hx0 => TKid.good ((good_sl (t := .lKid) (h _ (.tail _ (.tail _ (.tail _ (.tail _ (.tail _ (.tail _ (.tail _ (.tail _ (.tail _ (.tail _ (.tail _ (.tail _ (.tail _ (.tail _ (.tail _ (.tail _ (.tail _ (.tail _ (.tail _ (.tail _ (.tail _ (.tail _ (.head _))))))))))))))))))))))))).2 x0 hx0)⟩⟩⟩, (good_str (h _ (.tail _ (.tail _ (.tail _ (.tail _ (.tail _ (.tail _ (.tail _ (.tail _ (.tail _ (.tail _ (.tail _ (.tail _ (.tail _ (.tail _ (.tail _ (.tail _ (.tail _ (.tail _ (.tail _ (.tail _ (.tail _ (.tail _ (.tail _ (.tail _ (.tail _ (.head _)))))))))))))))))))))))))))), (good_str (h _ (.tail _ (.tail _ (.tail _ (.tail _ (.tail _ (.tail _ (.tail _ (.tail _ (.tail _ (.tail _ (.tail _ (.tail _ (.tail _ (.tail _ (.tail _ (.tail _ (.tail _ (.tail _ (.tail _ (.tail _ (.tail _ (.tail _ (.tail _ (.tail _ (.tail _ (.tail _ (.tail _ (.head _)))))))))))))))))))))))))))))), (good_str (h _ (.tail _ (.tail _ (.tail _ (.tail _ (.tail _ (.tail _ (.tail _ (.tail _ (.tail _ (.tail _ (.tail _ (.tail _ (.tail _ (.tail _ (.tail _ (.tail _ (.tail _ (.tail _ (.tail _ (.tail _ (.tail _ (.tail _ (.tail _ (.tail _ (.tail _ (.tail _ (.tail _ (.tail _ (.head _)))))))))))))))))))))))))))))))⟩
theorem TServer.good {x : TServer} (h : ∀ c ∈ ([.sl .v .int x.record.first.schema.cols, .i .i64 x.record.first.version, .sl .v .s_lRow x.record.first.tables, .sl .v .s_lChange x.record.steps, .sl .v .lSeat x.seats] : List AV), Good c) : TServer.len x := ⟨⟨⟨⟨(good_sl (t := .int) (h _ (.head _))).1, fun x0 hx0 => trivial⟩, ⟨(good_sl (t := .s_lRow) (h _ (.tail _ (.tail _ (.head _))))).1, fun x0 hx0 => ⟨(good_sl (t := .lRow) ((good_sl (t := .s_lRow) (h _ (.tail _ (.tail _ (.head _))))).2 x0 hx0 _ (.head _))).1, fun x1 hx1 => TRow.good ((good_sl (t := .lRow) ((good_sl (t := .s_lRow) (h _ (.tail _ (.tail _ (.head _))))).2 x0 hx0 _ (.head _))).2 x1 hx1)⟩⟩⟩, ⟨(good_sl (t := .s_lChange) (h _ (.tail _ (.tail _ (.tail _ (.head _)))))).1, fun x0 hx0 => ⟨(good_sl (t := .lChange) ((good_sl (t := .s_lChange) (h _ (.tail _ (.tail _ (.tail _ (.head _)))))).2 x0 hx0 _ (.head _))).1, fun x1 hx1 => TChange.good ((good_sl (t := .lChange) ((good_sl (t := .s_lChange) (h _ (.tail _ (.tail _ (.tail _ (.head _)))))).2 x0 hx0 _ (.head _))).2 x1 hx1)⟩⟩⟩, ⟨(good_sl (t := .lSeat) (h _ (.tail _ (.tail _ (.tail _ (.tail _ (.head _))))))).1, fun x0 hx0 => TSeat.good ((good_sl (t := .lSeat) (h _ (.tail _ (.tail _ (.tail _ (.tail _ (.head _))))))).2 x0 hx0)⟩⟩
end Go.Pi
end
section
set_option linter.unusedVariables false
set_option maxRecDepth 100000
set_option linter.unusedSimpArgs false
namespace Go.Pi
def FSeat (r : TRecord) (x : TSeat) : Bool :=
  FSess r.first.schema x.sess && (inn x.sess.version r.first.version (FLast r) && ((x.sent == x.came ++ x.line.wait) && (decide ((x.line.wait.length : Int) ≤ 13000) && (x.line.gone == (x.came.length : Int)))))
def FServer (v : TServer) : Bool := FRec v.record && (decide ((v.seats.length : Int) ≤ 4) && allN (fun i => FSeat v.record (v.seats.getD i TSeat.dflt)) v.seats.length)
def lenSeat (c : Nat) (x : TSeat) : Prop := lenS c x.sess ∧ x.line.wait.length ≤ c ∧ x.came.length ≤ c
def lenServer (c : Nat) (v : TServer) : Prop := lenRec c v.record ∧ v.seats.length ≤ c ∧ ∀ x ∈ v.seats, lenSeat c x
theorem seat_eta (x : TSeat) : TSeat.mk (TSess.mk (TView.mk x.sess.view.q x.sess.view.rows x.sess.view.kids) x.sess.version (TView.mk x.sess.last.q x.sess.last.rows x.sess.last.kids) x.sess.lastVersion x.sess.began) (TLine.mk x.line.wait x.line.gone) x.sent x.came x.gone = x := rfl
theorem sess_eta (x : TSess) : TSess.mk (TView.mk x.view.q x.view.rows x.view.kids) x.version (TView.mk x.last.q x.last.rows x.last.kids) x.lastVersion x.began = x := rfl
theorem rec_eta (r : TRecord) : TRecord.mk (TStore.mk (TSchema.mk r.first.schema.cols) r.first.version r.first.tables) r.steps = r := rfl
section
variable {v : TServer} (h : lenServer cap v)
include h
theorem spec_ServerOk_ev : Ev (fun n _ => spec_ServerOk n v) (FServer v) := by
  refine ev_succ ?_
  have hl := h.2.1
  simp only [cap] at hl
  have ht : v.seats.length ≤ topN := by simp only [topN]; omega
  have hs : v.record.first.schema.cols.length ≤ topN := Nat.le_trans h.1.1.1 (by decide)
  simp only [spec_ServerOk, ev_bind (spec_RecordOk_ev h.1), ev_cond, ev_some]
  unfold FServer
  cases hR : FRec v.record with
  | false => simp
  | true =>
    have hall : Ev (fun n _ => spec_ServerOk.loop6 n (some true) n 0 v.record.first.schema.cols v.record.first.version v.record.first.tables v.record.steps v.seats) (allN (fun i => FSeat v.record (v.seats.getD i TSeat.dflt)) v.seats.length && true) := by
      refine ev_all (fun n N i => spec_ServerOk.loop6 n (some true) N (i : Int) v.record.first.schema.cols v.record.first.version v.record.first.tables v.record.steps v.seats) _ (fun i u hi ih => ?_) ?_
      · obtain ⟨x, hx⟩ : ∃ x, x = v.seats.getD i TSeat.dflt := ⟨_, rfl⟩
        have hX : lenSeat cap x := by rw [hx]; exact h.2.2 _ (getD_mem _ hi)
        have hq1 := hX.2.1
        have hq2 := hX.2.2
        simp only [cap] at hq1 hq2
        simp only [spec_ServerOk.turn6, spec_ServerOk.step6, Int.toNat_natCast, W_up hi ht, ev_cond, ev_inB, lt_up hi, in_up hi, ← hx, sess_eta, rec_eta, schema_eta, ev_bind (spec_SessOk_ev (s := v.record.first.schema) hs hX.1.up), ev_bind (spec_Last_ev h.1), l1In_b, ev_some, ev_none, ev_iff ih]
        unfold FSeat
        have e1 : x.came.length + x.line.wait.length ≤ 9223372036854775807 := by omega
        cases h1 : FSess v.record.first.schema x.sess <;> cases h2 : inn x.sess.version v.record.first.version (FLast v.record) <;> cases h3 : (x.sent == x.came ++ x.line.wait) <;> cases h4 : (x.line.gone == (x.came.length : Int)) <;> by_cases h5 : (x.line.wait.length : Int) ≤ 13000 <;> simp_all <;> (intro hq; omega)
      · simp only [spec_ServerOk.turn6, spec_ServerOk.step6, lt_end, cond_false, ev_some]
    rw [Bool.and_true] at hall
    simp only [ev_iff hall]
    by_cases hc : (v.seats.length : Int) ≤ 4
    · simp [hc]; intro hq; omega
    · simp [hc]
theorem seatOk_ev {x : TSeat} (hX : lenSeat cap x) (hR : FRec v.record = true) : Ev (fun n _ => impl_seatOk n v.record x) (FSeat v.record x) := by
  refine ev_succ ?_
  have hs : v.record.first.schema.cols.length ≤ topN := Nat.le_trans h.1.1.1 (by decide)
  have hq1 := hX.2.1
  have hq2 := hX.2.2
  simp only [cap] at hq1 hq2
  have e1 : x.came.length + x.line.wait.length ≤ 9223372036854775807 := by omega
  have hL : FLast v.record = W (v.record.first.version + (v.record.steps.length : Int)) := by unfold FLast; rw [hR]; rfl
  simp only [impl_seatOk, within_b, ev_cond, ev_bind (impl_SessOk_ev (s := v.record.first.schema) hs hX.1.up), ev_some, ev_none]
  unfold FSeat
  rw [hL]
  cases h1 : FSess v.record.first.schema x.sess <;> cases h2 : inn x.sess.version v.record.first.version (W (v.record.first.version + (v.record.steps.length : Int))) <;> cases h3 : (x.sent == x.came ++ x.line.wait) <;> cases h4 : (x.line.gone == (x.came.length : Int)) <;> by_cases h5 : (x.line.wait.length : Int) ≤ 13000 <;> simp_all
theorem impl_ServerOk_ev : Ev (fun n _ => impl_ServerOk n v) (FServer v) := by
  refine ev_succ ?_
  have hl := h.2.1
  simp only [cap] at hl
  have ht : v.seats.length ≤ topN := by simp only [topN]; omega
  simp only [impl_ServerOk, ev_bind (impl_RecordOk_ev h.1), ev_cond, ev_some]
  unfold FServer
  cases hR : FRec v.record with
  | false => simp
  | true =>
    have hall : Ev (fun n _ => impl_ServerOk.loop6 n (some true) n v.seats (v.seats.length : Int) 0 v.record.first.schema.cols v.record.first.version v.record.first.tables v.record.steps v.seats) (allN (fun i => FSeat v.record (v.seats.getD i TSeat.dflt)) v.seats.length && true) := by
      refine ev_all (fun n N i => impl_ServerOk.loop6 n (some true) N v.seats (v.seats.length : Int) (i : Int) v.record.first.schema.cols v.record.first.version v.record.first.tables v.record.steps v.seats) _ (fun i u hi ih => ?_) ?_
      · obtain ⟨x, hx⟩ : ∃ x, x = v.seats.getD i TSeat.dflt := ⟨_, rfl⟩
        have hX : lenSeat cap x := by rw [hx]; exact h.2.2 _ (getD_mem _ hi)
        have hS := seatOk_ev h hX hR
        simp only [impl_ServerOk.turn6, impl_ServerOk.step6, Int.toNat_natCast, W_up hi ht, ev_cond, ev_inB, lt_up hi, in_up hi, ← hx, seat_eta, rec_eta, schema_eta, ev_bind hS, ev_some, ev_iff ih]
        cases FSeat v.record x <;> simp
      · simp only [impl_ServerOk.turn6, impl_ServerOk.step6, lt_end, cond_false, ev_some]
    rw [Bool.and_true] at hall
    simp only [ev_iff hall]
    by_cases hc : (v.seats.length : Int) ≤ 4
    · simp [hc]; intro hq; omega
    · simp [hc]
def FBehind (v : TServer) (k : Int) : Int := cond (FServer v && inn k 0 (W ((v.seats.length : Int) - 1))) (W (FLast v.record - (v.seats.getD k.toNat TSeat.dflt).sess.version)) (-1)
theorem spec_Behind_ev {k : Int} : Ev (fun n _ => spec_Behind n v k) (FBehind v k) := by
  refine ev_succ ?_
  have hl := h.2.1
  simp only [cap] at hl
  have e := W_dn (i := v.seats.length) (by simp only [topN]; omega)
  simp only [spec_Behind, ev_bind (spec_ServerOk_ev h), l1In_b, ev_cond, ev_bind (spec_Last_ev h.1), ev_inB, ev_some]
  unfold FBehind
  cases FServer v <;> cases hi : inn k 0 (W ((v.seats.length : Int) - 1)) <;> simp
  have := inn_true hi
  omega
theorem impl_Behind_ev {k : Int} : Ev (fun n _ => impl_Behind n v k) (FBehind v k) := by
  refine ev_succ ?_
  have hl := h.2.1
  simp only [cap] at hl
  have e := W_dn (i := v.seats.length) (by simp only [topN]; omega)
  simp only [impl_Behind, ev_bind (impl_ServerOk_ev h), within_b, ev_cond, ev_bind (impl_Last_ev h.1), ev_inB, ev_some]
  unfold FBehind
  cases FServer v <;> cases hi : inn k 0 (W ((v.seats.length : Int) - 1)) <;> simp
  have := inn_true hi
  omega
end
theorem lenQ_of {c : Nat} {q : TQuery} (h : TQuery.size q ≤ c) : lenQ c q := by
  have h1 := sizeL_len TCond.size q.where_
  have h2 := sizeL_len szI q.show_
  simp only [TQuery.size] at h
  exact ⟨by omega, by omega⟩
theorem lenRow_of {r : TRow} : r.cells.length ≤ TRow.size r := sizeL_len szI r.cells
theorem lenR_of {c : Nat} {rows : List TRow} (h : sizeL TRow.size rows ≤ c) : lenR c rows := by
  have h1 := sizeL_len TRow.size rows
  exact ⟨by omega, fun x hx => by have := sizeL_le TRow.size hx; have := lenRow_of (r := x); omega⟩
theorem lenV_of {c : Nat} {v : TView} (h : TView.size v ≤ c) : lenV c v := by
  have h3 := sizeL_len TKid.size v.kids
  simp only [TView.size] at h
  exact ⟨lenQ_of (by omega), lenR_of (by omega), by omega⟩
theorem lenS_of {c : Nat} {x : TSess} (h : TSess.size x ≤ c) : lenS c x := by
  simp only [TSess.size] at h
  exact ⟨lenV_of (by omega), lenV_of (by omega)⟩
theorem lenC_of {c : Nat} {l : List TChange} (h : sizeL TChange.size l ≤ c) : ∀ x ∈ l, lenC c x := fun x hx => by
  have := sizeL_le TChange.size hx
  have h1 := lenRow_of (r := x.old)
  have h2 := lenRow_of (r := x.new)
  simp only [TChange.size] at this
  exact ⟨by omega, by omega⟩
theorem lenSt_of {c : Nat} {s : TStore} (h : TStore.size s ≤ c) : lenSt c s := by
  simp only [TStore.size, TSchema.size] at h
  have h1 := sizeL_len szI s.schema.cols
  have h2 := sizeL_len (sizeL TRow.size) s.tables
  exact ⟨by omega, by omega, fun x hx => lenR_of (by have := sizeL_le (sizeL TRow.size) hx; omega)⟩
theorem lenRec_of {c : Nat} {r : TRecord} (h : TRecord.size r ≤ c) : lenRec c r := by
  simp only [TRecord.size] at h
  have h2 := sizeL_len (sizeL TChange.size) r.steps
  refine ⟨lenSt_of (by omega), by omega, fun l hl => ?_⟩
  have := sizeL_le (sizeL TChange.size) hl
  have h3 := sizeL_len TChange.size l
  exact ⟨by omega, lenC_of (by omega)⟩
theorem lenServer_of {c : Nat} {v : TServer} (h : TServer.size v ≤ c) : lenServer c v := by
  simp only [TServer.size] at h
  have h2 := sizeL_len TSeat.size v.seats
  refine ⟨lenRec_of (by omega), by omega, fun x hx => ?_⟩
  have := sizeL_le TSeat.size hx
  simp only [TSeat.size, TLine.size, szB] at this
  exact ⟨lenS_of (by omega), by omega, by omega⟩
theorem Behind_law {v : TServer} {k : Int} (hv : TServer.len v) : ∃ n, laws_FnExactBehind n v k = some true := by
  refine ev_ex (ev_succ ?_)
  simp only [laws_FnExactBehind, ev_bind (szServer_ev (a := v) (l := 1048576) hv (by omega) (by omega)), ev_cond, ev_some]
  refine ⟨fun _ => trivial, fun h => ?_⟩
  have hz := subS_ok (of_decide_eq_false h)
  have k1 : TServer.size v ≤ cap := by simp only [cap]; omega
  have t1 : TServer.size v ≤ topN := by simp only [topN]; omega
  have hL := lenServer_of k1
  simp only [ev_bind (toServer_ev k1), ev_bind (spec_Behind_ev hL), ev_bind (impl_Behind_ev hL), ev_bind (eqServer_ev t1), bne_self_eq_false, Bool.not_true, cond_false, ev_cond, ev_some]
end Go.Pi
end
section
set_option linter.unusedVariables false
namespace Go.Pi
open Go.Proofs Go.Proofs.YtbddnebkegaaaaaGreat
namespace laws_FnExactBehind
theorem pure_law : Pure := fun v k h0 h1 => Behind_law (TServer.good h0)
theorem proved : Rows.FnExactBehindSaid := over pure_law
end laws_FnExactBehind
end Go.Pi
end
namespace Go.Proofs.YtbddnebkegaaaaaGreat
theorem fnExactBehind_holds : Rows.FnExactBehindSaid := Go.Pi.laws_FnExactBehind.proved
#print axioms fnExactBehind_holds
end Go.Proofs.YtbddnebkegaaaaaGreat
