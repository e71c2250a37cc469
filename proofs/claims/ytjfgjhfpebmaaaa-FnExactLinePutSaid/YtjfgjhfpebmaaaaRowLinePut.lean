/- The program's LinePut tells what the reference's tells, for all arguments. No condition. -/
import Derived.Test.YtjfgjhfpebmaaaaRows
import Derived.Test.YtjfgjhfpebmaaaaPutWalk
import Derived.WalkKit
import Derived.ProofKit
import Derived.OpenShut
import Derived.ShutString
import Derived.ChangeOld
import Derived.ChangeSame
import Derived.Below
import Derived.SizedLaws
import Derived.Test.YtjfgjhfpebmaaaaWSized
namespace Go.Proofs.Ytjfgjhfpebmaaaa.linePut
open Go.ChangeShapes Go.WideShapes Go.ChangeAt Go.RowKit
open Go.ChangeMaps (open_string shut_string)
open Go.Proofs.Ytjfgjhfpebmaaaa.PutWalk Go.Proofs.YtjfgjhfpebmaaaaW.PrintWords Go.Proofs.YtjfgjhfpebmaaaaW.PrintLast Go.Proofs.YtjfgjhfpebmaaaaW.PrintMore
set_option linter.unusedVariables false
set_option linter.unusedSimpArgs false

theorem own : ownKnob Try.prog.godebug = none := by kernel_rfl
theorem laidOut : laidOutB Try.prog = true := by kernel_rfl
theorem under23 : Try.prog.underlying 23 = some (.struct #[{ name := "Wait", type := 9, offset := 0, embedded := false, tag := "", pkgPath := "", byteOffset := 0 }, { name := "Gone", type := 3, offset := 1, embedded := false, tag := "", pkgPath := "", byteOffset := 16 }]) := by kernel_rfl
theorem cells23 : Try.prog.cellsOf 23 = 2 := by kernel_rfl
theorem cells9 : Try.prog.cellsOf 9 = 1 := by kernel_rfl
theorem cells3 : Try.prog.cellsOf 3 = 1 := by kernel_rfl

/-- A line that comes in is a text and a number. -/
theorem open_line {H : Type} {enc : TypeId × Value → H} {W : World} {r : Reach} {b0 base : Nat} {sp : Nat → Bool} {held : Bool} {v : Value} {d : DataW H} {p : List MemPlace}
    (hval : Value.okWide Try.prog W r b0 23 v) (h : DataW.Trod enc Try.prog W base sp held 23 v d p) :
    ∃ (s : ByteArray) (g : Int), v = .agg #[.string s, .int .i64 g] ∧ d = .agg [.lit (.string s.data.toList), .lit (.int .i64 g)] ∧ p = [] ∧ s.size ≤ maxLen ∧ (Lit.int .i64 g).wf = true := by
  obtain ⟨cs, rfl, hsz⟩ := okWide_struct under23 hval
  obtain ⟨fuel, hf⟩ := h
  obtain ⟨y0, y1, n, hx, hlen, h0, h1⟩ := trod_struct2 under23 hf
  rw [cells23] at hsz hlen
  obtain ⟨c0, c1, rfl⟩ : ∃ c0 c1, cs = #[c0, c1] := by
    match cs, hsz with
    | ⟨[c0, c1]⟩, _ => exact ⟨c0, c1, rfl⟩
  rw [cells9] at h0
  rw [cells3] at h1
  obtain ⟨s, e0, hx0, hs⟩ := DataW.trod_string Try.underlying9 h0
  obtain ⟨g, e1, hx1, hg⟩ := DataW.trod_int Try.underlying3 h1
  simp [Value.cells] at e0 e1
  subst e0 e1 hx0 hx1
  simp only [Prod.mk.injEq] at hx
  exact ⟨s, g, rfl, hx.1, by simpa using hx.2, hs, hg⟩

theorem shut_line {H : Type} {enc : TypeId × Value → H} {W : World} {base : Nat} {sp : Nat → Bool} {held : Bool} {s : ByteArray} {g : Int} (hs : s.size ≤ maxLen) (hg : (Lit.int .i64 g).wf = true) :
    DataW.Trod enc Try.prog W base sp held 23 (.agg #[.string s, .int .i64 g]) (.agg [.lit (.string s.data.toList), .lit (.int .i64 g)]) [] :=
  ⟨2, by
    have := trod_struct2_mk (enc := enc) (w := W) (base := base) (spare := sp) (held := held) (n := 1) (cs := [.string s, .int .i64 g]) (y0 := (.lit (.string s.data.toList), [])) (y1 := (.lit (.int .i64 g), [])) under23
      (by rw [cells23]; rfl) (by rw [cells9]; simp [DataW.trod, Try.underlying9, hs]) (by rw [cells3]; simp [DataW.trod, Try.underlying3, hg])
    simpa [Value.cells] using this⟩

theorem tells (s : ByteArray) (g : Int) (t : ByteArray) (hs : s.size ≤ maxLen) : laws_FnExactLinePut.f s g t = some true := by
  unfold laws_FnExactLinePut.f laws_szLine.f laws_toLine.f spec_LinePut.f impl_LinePut.f laws_eqLine.f
  by_cases ht : (t.size : Int) > 1048576
  · rw [if_pos ht]
  rw [if_neg ht]
  by_cases h : wrap64 (1048576 - (s.size : Int)) < 0
  · rw [if_pos h, Option.bind_some, if_pos (by decide)]
  · rw [if_neg h, Option.bind_some, if_neg h, Option.bind_some]
    by_cases hc : wrap64 ((s.size : Int) + (t.size : Int)) > 13000
    · rw [if_pos hc, Option.bind_some, Option.bind_some, if_pos hc, Option.bind_some, if_pos rfl, if_pos rfl, Option.bind_some, if_pos rfl, if_neg (by simp)]
    · have hb : s.size + t.size ≤ 9223372036854775807 := by
        have hm : maxLen = 9223372036854775807 := rfl
        have h' : ¬ wrap64 (1048576 - (s.size : Int)) < 0 := h
        clear hc
        unfold wrap64 at h'
        omega
      rw [if_neg hc, if_pos hb, Option.bind_some, Option.bind_some, if_neg hc, if_pos hb, Option.bind_some, if_pos rfl, if_pos rfl, Option.bind_some, if_pos rfl, if_neg (by simp)]

set_option maxRecDepth 100000 in
theorem lifted (os : Os) (started : os.Started) (H : Type) (enc : TypeId × Value → H) :
    ReturnsInHanded {} Try.checked os 4 .any (Rows.fnExactLinePutSpec.pre6 enc Try.prog Try.f4 Rows.fnExactLinePutRow.domain false) (Rows.fnExactLinePutSpec.post enc Try.prog Try.f4 false true false false) := by
  refine returnsInHanded_of_change_sized (C := Try.checked) own started (by kernel_rfl) Try.func4
    (ChangeSpec.witness6 (enc := enc) (C := Try.checked) false ⟨#[], #[.agg #[.string ByteArray.empty, .int .i64 0], .string ByteArray.empty], []⟩ 8 (by kernel_rfl) (by kernel_rfl) (by kernel_rfl) (by kernel_rfl)) ?_
  intro W base args ds gs before hval0 hW hcnd hsz0 _
  have hval : ∀ (j : Nat) t v, Try.f4.params[j]? = some t → args[j]? = some v → Value.okWide Try.prog W .any base t v := hval0
  have hW' := hW
  obtain ⟨p, q, hA0, hV, rfl, hfz, hnd⟩ := hW
  have hA : DataW.TrodAll enc Try.prog W 0 (fun _ => true) true Try.f4.params.toList args.toList ds p := hA0
  rw [Try.params4] at hA hval
  obtain ⟨v0, vs0, d0, ds0, p0, q0, hargs, rfl, rfl, h0, r0⟩ := trodAll_cons hA
  obtain ⟨v1, vs1, d1, ds1, p1, q1, rfl, rfl, rfl, h1, r1⟩ := trodAll_cons r0
  obtain ⟨rfl, rfl, rfl⟩ := trodAll_nil r1
  obtain rfl : args = #[v0, v1] := by cases args; simp_all
  obtain ⟨rfl, rfl⟩ := trodVars_none hV
  obtain ⟨a0, g0, rfl, rfl, rfl, y0, y1⟩ := open_line (hval 0 23 v0 rfl rfl) h0
  obtain ⟨n, rfl, rfl, rfl, y2⟩ := open_string Try.underlying9 (hval 1 9 v1 rfl rfl) h1
  clear hA0 hval0 hsz0
  refine (PutWalk.laws_FnExactLinePut.calls a0 g0 n true W (tells a0 g0 n y0)).mono fun e W' ⟨he, bel⟩ => ?_
  subst he
  exact ⟨_, rfl, _, _, _, [], _, [], hW', trodAll_mk1 (shut_bool Try.underlying4 _), (trodAll_cons_mk (shut_line y0 y1) (trodAll_cons_mk (shut_string Try.underlying9 y2) trodAll_mk0)), rfl, bel.frame _, fun h => by cases h⟩

theorem over : Rows.fnExactLinePutRow.holds Try.pinned (OpenSpec.ofChange Rows.fnExactLinePutSpec) :=
  OpenClaim.holds_of_wide 4 Try.f4 rfl rfl rfl rfl rfl rfl rfl ⟨rfl, rfl, rfl, rfl, rfl⟩ rfl rfl rfl rfl rfl (by kernel_rfl) Try.func4 (by kernel_rfl)
    (of_decide_eq_true (by kernel_rfl)) (by unfold Func.isWrapper; first | (rw [if_pos (by decide +kernel)]; kernel_rfl) | (rw [if_neg (by decide +kernel)]; exact ⟨rfl, rfl⟩))
    (fun os started H enc _ => lifted os started H enc)
theorem proved : Rows.FnExactLinePutSaid := over
#print axioms proved
end Go.Proofs.Ytjfgjhfpebmaaaa.linePut
namespace Go.Proofs.Ytjfgjhfpebmaaaa
/-- The row, under a short name, for the claim. -/
theorem linePut_holds : Rows.FnExactLinePutSaid := linePut.proved
end Go.Proofs.Ytjfgjhfpebmaaaa
