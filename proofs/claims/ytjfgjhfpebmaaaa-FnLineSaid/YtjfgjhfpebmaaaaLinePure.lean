/- The pure side of FnLine: of a drawn line that is put and taken, what goes is what was put; what is free fits. -/
import Derived.Test.YtjfgjhfpebmaaaaLineD
namespace Go.Proofs.Ytjfgjhfpebmaaaa.LinePure
open Go.RowKit Go.Proofs.Ytjfgjhfpebmaaaa.PFnLine Go.Proofs.YtjfgjhfpebmaaaaW.PrintWords Go.Proofs.YtjfgjhfpebmaaaaW.PrintLast Go.Proofs.YtjfgjhfpebmaaaaW.PrintMore
set_option linter.unusedVariables false
set_option linter.unusedSimpArgs false

theorem wrap_small {x : Int} (h0 : 0 ≤ x) (h : x ≤ 1099511627776) : wrap64 x = x := by
  unfold wrap64; omega

theorem wrap_mid {x : Int} (h0 : -1099511627776 ≤ x) (h : x ≤ 1099511627776) : wrap64 x = x := by
  unfold wrap64; omega

theorem max_is (a b : Int) : spec_l1Max.f a b = some (mx a b) := by
  unfold spec_l1Max.f mx; split <;> split <;> first | rfl | (congr 1; omega)

theorem min_is (a b : Int) : spec_l1Min.f a b = some (mn a b) := by
  unfold spec_l1Min.f mn; split <;> split <;> first | rfl | (congr 1; omega)

theorem tmod_low {b n : Int} (hn : 0 < n) : -n < b.tmod n := by
  have h := Int.tmod_lt_of_pos (-b) hn
  rw [Int.neg_tmod] at h
  omega

theorem step_at {a : Int} {m : Nat} (h0 : 0 ≤ a) (h1 : a < (m : Int)) (hm : m ≤ 1048576) : 0 ≤ wrap64 (a + 1) ∧ wrap64 (a + 1) ≤ (m : Int) := by
  have e : wrap64 (a + 1) = a + 1 := wrap_small (by omega) (by omega)
  rw [e]
  exact ⟨by clear e; omega, by clear e; omega⟩

theorem byte_is (l : List Int) (hl : l.length ≤ 1048576) (a h : Int) (h0 : 0 ≤ a) (h1 : a ≤ (l.length : Int)) :
    ∃ b a' h', spec_l1Byte.f l a h = some (b, a', h') ∧ 0 ≤ a' ∧ a' ≤ (l.length : Int) := by
  unfold spec_l1Byte.f
  by_cases hc : a < (l.length : Int)
  · rw [if_pos hc, if_pos h0]
    exact ⟨_, _, _, rfl, (step_at h0 hc hl).1, (step_at h0 hc hl).2⟩
  · rw [if_neg hc]
    exact ⟨_, _, _, rfl, h0, h1⟩

theorem below_is (l : List Int) (hl : l.length ≤ 1048576) (a h : Int) (h0 : 0 ≤ a) (h1 : a ≤ (l.length : Int)) (n : Int) (hn0 : 0 < n) (hn : n ≤ 256) :
    ∃ r a' h', spec_l1Below.f l a h n = some (r, a', h') ∧ r < n ∧ -n < r ∧ 0 ≤ a' ∧ a' ≤ (l.length : Int) := by
  obtain ⟨b, a', h', e, e0, e1⟩ := byte_is l hl a h h0 h1
  unfold spec_l1Below.f
  rw [if_neg (by omega), if_pos hn, e, Option.bind_some, if_neg (by omega)]
  exact ⟨_, _, _, rfl, Int.tmod_lt_of_pos b hn0, tmod_low hn0, e0, e1⟩

theorem new_goes (l : List Int) (d : Nat) :
    ∀ (k : Nat) (h : Int) (i : Nat), 4000 ≤ i + d → d < k → ∃ h', spec_l1New.l0 k l h i = some (l, 0, h') := by
  induction d with
  | zero =>
    intro k h i hi hk
    obtain ⟨k, rfl⟩ : ∃ m, k = m + 1 := ⟨k - 1, by omega⟩
    simp only [spec_l1New.l0]
    by_cases hc : (i : Int) < (l.length : Int)
    · rw [if_pos hc, if_neg (by omega)]; exact ⟨_, rfl⟩
    · rw [if_neg hc]; exact ⟨_, rfl⟩
  | succ d ih =>
    intro k h i hi hk
    obtain ⟨k, rfl⟩ : ∃ m, k = m + 1 := ⟨k - 1, by omega⟩
    simp only [spec_l1New.l0]
    by_cases hc : (i : Int) < (l.length : Int)
    · by_cases hd : (i : Int) < 4000
      · have e3 : wrap64 ((i : Int) + 1) = ((i + 1 : Nat) : Int) := wrap_small (x := ((i + 1 : Nat) : Int)) (by omega) (by omega)
        rw [if_pos hc, if_pos hd, if_pos (by clear e3; omega), e3]
        exact ih k _ (i + 1) (by omega) (by omega)
      · rw [if_pos hc, if_neg hd]; exact ⟨_, rfl⟩
    · rw [if_neg hc]; exact ⟨_, rfl⟩

theorem new_is (l : List Int) (k : Nat) (hk : 4000 < k) : ∃ h', spec_l1New.f k l = some (l, 0, h') :=
  new_goes l 4000 k _ 0 (by omega) hk

theorem text_goes (l : List Int) (hl : l.length ≤ 1048576) (d : Nat) :
    ∀ (k : Nat) (t : List Int) (i : Nat) (a h : Int), 60 ≤ i + d → d < k → t.length = i → i ≤ 60 → 0 ≤ a → a ≤ (l.length : Int) →
      ∃ t' a' h', spec_l1DrawText.l0 k t i l a h = some (t', a', h') ∧ t'.length ≤ 60 ∧ 0 ≤ a' ∧ a' ≤ (l.length : Int) := by
  induction d with
  | zero =>
    intro k t i a h hi hk ht hi2 h0 h1
    obtain ⟨k, rfl⟩ : ∃ m, k = m + 1 := ⟨k - 1, by omega⟩
    obtain ⟨r, a', h', e, r1, r0, e0, e1⟩ := below_is l hl a h h0 h1 60 (by omega) (by omega)
    simp only [spec_l1DrawText.l0]
    rw [e, Option.bind_some, if_neg (show ¬ (i : Int) < r by omega)]
    exact ⟨_, _, _, rfl, by omega, e0, e1⟩
  | succ d ih =>
    intro k t i a h hi hk ht hi2 h0 h1
    obtain ⟨k, rfl⟩ : ∃ m, k = m + 1 := ⟨k - 1, by omega⟩
    obtain ⟨r, a', h', e, r1, r0, e0, e1⟩ := below_is l hl a h h0 h1 60 (by omega) (by omega)
    simp only [spec_l1DrawText.l0]
    rw [e, Option.bind_some]
    by_cases hc : (i : Int) < r
    · obtain ⟨q, a2, h2, f, _, _, f0, f1⟩ := below_is l hl a' h' e0 e1 5 (by omega) (by omega)
      have hi3 : i + 1 ≤ 60 := by omega
      have e3 : wrap64 ((i : Int) + 1) = ((i + 1 : Nat) : Int) := wrap_small (x := ((i + 1 : Nat) : Int)) (by omega) (by omega)
      rw [if_pos hc, f, Option.bind_some, if_pos (show t.length < 140737488355328 by clear e3; omega), e3]
      exact ih k _ (i + 1) a2 h2 (by clear e3; omega) (by clear e3; omega) (by simp [ht]) hi3 f0 f1
    · rw [if_neg hc]
      exact ⟨_, _, _, rfl, by omega, e0, e1⟩

theorem text_is (l : List Int) (hl : l.length ≤ 1048576) (k : Nat) (hk : 60 < k) (a h : Int) (h0 : 0 ≤ a) (h1 : a ≤ (l.length : Int)) :
    ∃ t' a' h', spec_l1DrawText.f k l a h = some (t', a', h') ∧ t'.length ≤ 60 ∧ 0 ≤ a' ∧ a' ≤ (l.length : Int) :=
  text_goes l hl 60 k [] 0 a h (by omega) hk rfl (by omega) h0 h1

theorem once_is (l : List Int) (hl : l.length ≤ 1048576) (a h : Int) (h0 : 0 ≤ a) (h1 : a ≤ (l.length : Int)) (n : Int) (hn0 : 0 < n) (hn : n ≤ 256) :
    ∃ r a' h', spec_l1Once.f l a h n = some (r, a', h') ∧ 0 ≤ a' ∧ a' ≤ (l.length : Int) := by
  obtain ⟨r, a', h', e, _, _, e0, e1⟩ := below_is l hl a h h0 h1 n hn0 hn
  unfold spec_l1Once.f
  rw [e, Option.bind_some]
  exact ⟨_, _, _, rfl, e0, e1⟩

theorem size_nums (xs : List Int) : (strOfNums xs).size = xs.length := by
  show ((xs.map fun n => UInt8.ofNat n.toNat).toArray).size = _
  simp

theorem draw_goes (l : List Int) (hl : l.length ≤ 1048576) (g : Int) (d : Nat) :
    ∀ (k : Nat) (a h : Int) (x : ByteArray), 13020 ≤ x.size + d → x.size ≤ 14000 → d < k → 0 ≤ a → a ≤ (l.length : Int) →
      ∃ x' a' h', spec_l20Draw.l0 k l a h x g = some (x', g, a', h') ∧ x'.size ≤ 14000 ∧ 0 ≤ a' ∧ a' ≤ (l.length : Int) := by
  induction d with
  | zero =>
    intro k a h x hx hx2 hk h0 h1
    obtain ⟨k, rfl⟩ : ∃ m, k = m + 1 := ⟨k - 1, by omega⟩
    obtain ⟨r, a', h', e, r1, r0, e0, e1⟩ := below_is l hl a h h0 h1 40 (by omega) (by omega)
    have hw : ¬ (x.size : Int) < 12980 + r := by omega
    simp only [spec_l20Draw.l0]
    rw [e, Option.bind_some, wrap_mid (by omega) (by omega), if_neg hw]
    exact ⟨_, _, _, rfl, hx2, e0, e1⟩
  | succ d ih =>
    intro k a h x hx hx2 hk h0 h1
    obtain ⟨k, rfl⟩ : ∃ m, k = m + 1 := ⟨k - 1, by omega⟩
    obtain ⟨r, a', h', e, r1, r0, e0, e1⟩ := below_is l hl a h h0 h1 40 (by omega) (by omega)
    simp only [spec_l20Draw.l0]
    rw [e, Option.bind_some, wrap_mid (by omega) (by omega)]
    by_cases hw : (x.size : Int) < 12980 + r
    · rw [if_pos hw, if_pos (by omega)]
      have hs : (x ++ (⟨#[48, 49, 50, 51, 52, 53, 54, 55, 56, 57]⟩ : ByteArray)).size = x.size + 10 := by rw [ByteArray.size_append]; rfl
      exact ih k a' h' _ (by rw [hs]; omega) (by rw [hs]; omega) (by omega) e0 e1
    · rw [if_neg hw]
      exact ⟨_, _, _, rfl, hx2, e0, e1⟩

theorem draw_is (l : List Int) (hl : l.length ≤ 1048576) (k : Nat) (hk : 13020 < k) (a h : Int) (h0 : 0 ≤ a) (h1 : a ≤ (l.length : Int)) :
    ∃ x g a' h', spec_l20Draw.f k l a h = some (x, g, a', h') ∧ x.size ≤ 14000 ∧ 0 ≤ a' ∧ a' ≤ (l.length : Int) := by
  obtain ⟨t, a1, b1, e1, tl, e10, e11⟩ := text_is l hl k (by omega) a h h0 h1
  obtain ⟨g, a2, b2, e2, _, _, e20, e21⟩ := below_is l hl a1 b1 e10 e11 100 (by omega) (by omega)
  obtain ⟨o, a3, b3, e3, e30, e31⟩ := once_is l hl a2 b2 e20 e21 20 (by omega) (by omega)
  have hs := size_nums t
  unfold spec_l20Draw.f
  rw [e1, Option.bind_some]
  dsimp only
  rw [e2, Option.bind_some]
  dsimp only
  rw [e3, Option.bind_some]
  dsimp only
  by_cases ho : o = true
  · rw [if_pos ho]
    obtain ⟨x, a4, b4, e4, xs, e40, e41⟩ := draw_goes l hl g 13020 k a3 b3 (strOfNums t) (by omega) (by omega) hk e30 e31
    exact ⟨x, g, a4, b4, e4, xs, e40, e41⟩
  · rw [if_neg ho]
    exact ⟨_, _, _, _, rfl, by show (strOfNums t).size ≤ 14000; omega, e30, e31⟩

theorem put_drawn (l : List Int) (hl : l.length ≤ 1048576) (k : Nat) (hk : 13020 < k) :
    ∃ x g t, spec_DrawLinePut.f k l = some (x, g, t) ∧ x.size ≤ 14000 ∧ t.size ≤ 60 := by
  obtain ⟨h, e0⟩ := new_is l k (by omega)
  obtain ⟨x, g, a1, b1, e1, xs, e10, e11⟩ := draw_is l hl k hk 0 h (by omega) (by omega)
  obtain ⟨t, a2, b2, e2, ts, _, _⟩ := text_is l hl k (by omega) a1 b1 e10 e11
  have hs := size_nums t
  unfold spec_DrawLinePut.f
  rw [e0, Option.bind_some]
  dsimp only
  rw [e1, Option.bind_some]
  dsimp only
  rw [e2, Option.bind_some]
  exact ⟨_, _, _, rfl, xs, by show (strOfNums t).size ≤ 60; omega⟩

theorem take_drawn (l : List Int) (hl : l.length ≤ 1048576) (k : Nat) (hk : 13020 < k) :
    ∃ x g n, spec_DrawLineTake.f k l = some (x, g, n) ∧ x.size ≤ 14000 := by
  obtain ⟨h, e0⟩ := new_is l k (by omega)
  obtain ⟨x, g, a1, b1, e1, xs, e10, e11⟩ := draw_is l hl k hk 0 h (by omega) (by omega)
  obtain ⟨r, a2, b2, e2, _⟩ := below_is l hl a1 b1 e10 e11 70 (by omega) (by omega)
  unfold spec_DrawLineTake.f
  rw [e0, Option.bind_some]
  dsimp only
  rw [e1, Option.bind_some]
  dsimp only
  rw [e2, Option.bind_some]
  exact ⟨_, _, _, rfl, xs⟩

/-- What is taken of a line: its first m letters. -/
theorem take_is (w : ByteArray) (g n : Int) :
    ∃ m : Nat, m ≤ w.size ∧ (0 ≤ n → (m : Int) ≤ n) ∧ ((w.size : Int) ≤ n → m = w.size) ∧
      impl_LineTake.f w g n = some (w.extract m w.size, wrap64 (g + m), w.extract 0 m) ∧ spec_LineTake.f w g n = some (w.extract m w.size, wrap64 (g + m), w.extract 0 m) := by
  obtain ⟨m, hm⟩ : ∃ m : Nat, mn (mx n 0) (w.size : Int) = m := ⟨(mn (mx n 0) (w.size : Int)).toNat, by
    unfold mn mx; repeat' split
    all_goals omega⟩
  have h1 : m ≤ w.size := by
    have : (m : Int) ≤ w.size := by rw [← hm]; unfold mn; split <;> omega
    omega
  refine ⟨m, h1, ?_, ?_, ?_, ?_⟩
  · intro h; rw [← hm]; unfold mn mx; repeat' split
    all_goals omega
  · intro h
    have : (m : Int) = w.size := by
      rw [← hm]; unfold mn mx; repeat' split
      all_goals omega
    omega
  · unfold impl_LineTake.f
    rw [hm, if_pos (by omega), if_pos (by omega)]
    rfl
  · unfold spec_LineTake.f
    rw [max_is, Option.bind_some, min_is, hm, Option.bind_some, if_pos (by omega), if_pos (by omega)]
    rfl

theorem at_is (l : List Int) (hw : ∀ x ∈ l, (Lit.int .u8 x).wf = true) : ∃ n, laws_at.f l 1 = some n ∧ 0 ≤ n := by
  unfold laws_at.f
  by_cases hc : (1 : Int) < (l.length : Int)
  · rw [if_pos hc, if_pos (by omega)]
    refine ⟨_, rfl, ?_⟩
    have hlt : 1 < l.length := by omega
    have hm : rd l 1 ∈ l := by
      unfold rd
      rw [show ((1 : Int)).toNat = 1 from rfl, List.getD_eq_getElem?_getD, List.getElem?_eq_getElem hlt]
      exact List.getElem_mem hlt
    have hb := hw _ hm
    simp only [Lit.wf, IntKind.min, IntKind.max, IntKind.signed, IntKind.bits, Bool.and_eq_true, decide_eq_true_eq] at hb
    have h0 : 0 ≤ rd l 1 ∧ rd l 1 ≤ 255 := by simpa using hb
    rw [wrap_small h0.1 (by omega)]
    exact h0.1
  · rw [if_neg hc]
    refine ⟨_, rfl, ?_⟩
    rw [wrap_small (x := 1 * 7) (by omega) (by omega), wrap_small (by omega) (by omega)]
    exact Int.tmod_nonneg _ (by omega)

theorem ext_all (w : ByteArray) : w.extract 0 w.size = w := by simp

theorem ext_split (w : ByteArray) (m : Nat) (h : m ≤ w.size) : w.extract 0 m ++ w.extract m w.size = w := by
  apply ByteArray.ext
  simp only [ByteArray.data_append, ByteArray.data_extract]
  apply Array.toList_inj.1
  have hw : w.data.toList.length = w.size := by simp
  simp
  rw [Nat.max_eq_right h, ← hw, List.take_length]

theorem ext_none (w : ByteArray) : (w.extract w.size w.size).toList = [] := by
  rw [ByteArray.toList_eq]
  simp

theorem ext_len (s : ByteArray) (a b : Nat) (h : b ≤ s.size) : (s.extract a b).size = b - a := by
  rw [ByteArray.size_extract]; omega

theorem FnLine : laws_FnLine.Pure := by
  intro l hm _ hw
  obtain ⟨k, hk⟩ : ∃ k : Nat, 20000 ≤ k := ⟨_, Nat.le_refl _⟩
  refine ⟨k, ?_⟩
  unfold laws_FnLine.f laws_big.f
  rw [Option.bind_some]
  by_cases hl : (l.length : Int) > 1048576
  · rw [if_pos (decide_eq_true hl)]
  rw [if_neg (by rw [decide_eq_false hl]; decide)]
  have hl' : l.length ≤ 1048576 := by omega
  obtain ⟨x, g, t, e1, xs, ts⟩ := put_drawn l hl' k (by omega)
  have hsum : wrap64 ((x.size : Int) + (t.size : Int)) = (x.size : Int) + (t.size : Int) := wrap_small (by omega) (by omega)
  have hfree : wrap64 (13000 - (x.size : Int)) = 13000 - (x.size : Int) := wrap_mid (by clear hsum; omega) (by clear hsum; omega)
  rw [e1, Option.bind_some]
  dsimp only
  unfold impl_LinePut.f spec_LinePut.f impl_LineFree.f spec_LineFree.f
  rw [hsum, hfree]
  clear hsum hfree
  obtain ⟨k, rfl⟩ : ∃ m, k = m + 1 := ⟨k - 1, by omega⟩
  by_cases hc : (x.size : Int) + (t.size : Int) > 13000
  · rw [if_pos hc, Option.bind_some, Option.bind_some, Option.bind_some]
    dsimp only
    rw [if_neg (by decide), max_is, Option.bind_some, Option.bind_some, if_pos rfl]
    by_cases hx : (x.size : Int) ≤ 13000
    · rw [if_neg]
      · simp only [laws_FnLine.j0]
        rw [if_neg (by decide), if_neg (by decide)]
        simp
      · have : ¬ (t.size : Int) ≤ mx (13000 - (x.size : Int)) 0 := by unfold mx; split <;> omega
        rw [decide_eq_false this]; decide
    · by_cases hq : (false != decide ((t.size : Int) ≤ mx (13000 - (x.size : Int)) 0)) = true
      · rw [if_pos hq, decide_eq_false hx]
        simp only [laws_FnLine.j0]
        rw [if_neg (by decide), if_neg (by decide)]
        simp
      · rw [if_neg hq]
        simp only [laws_FnLine.j0]
        rw [if_neg (by decide), if_neg (by decide)]
        simp
  · rw [if_neg hc, if_pos (by omega), Option.bind_some, Option.bind_some, Option.bind_some]
    dsimp only
    rw [if_neg (by decide), max_is, Option.bind_some, Option.bind_some, if_pos rfl]
    rw [if_neg]
    · simp only [laws_FnLine.j0]
      rw [if_neg (by decide), if_pos trivial]
      obtain ⟨n, en, n0⟩ := at_is l hw
      have hxt : (x ++ t).size = x.size + t.size := ByteArray.size_append
      obtain ⟨m, m1, m2, _, mi, _⟩ := take_is (x ++ t) g n
      obtain ⟨m', m1', _, m3', mi', _⟩ := take_is ((x ++ t).extract m (x ++ t).size) (wrap64 (g + m)) ((x ++ t).size : Int)
      obtain ⟨y, gy, ny, ey, _⟩ := take_drawn l hl' k (by omega)
      obtain ⟨q, q1, _, _, qi, qs⟩ := take_is y gy ny
      have hlen := ext_len (x ++ t) m (x ++ t).size (Nat.le_refl _)
      have hm' : m' = ((x ++ t).extract m (x ++ t).size).size := m3' (by omega)
      rw [en, Option.bind_some, mi, Option.bind_some]
      dsimp only
      rw [mi', Option.bind_some]
      dsimp only
      rw [ey, Option.bind_some]
      dsimp only
      rw [qi, Option.bind_some, qs, Option.bind_some]
      dsimp only
      rw [hm', ext_all]
      have hlen0 := ext_len (x ++ t) 0 m m1
      rw [if_pos (by omega), if_pos (by omega), ext_split _ _ m1, if_pos rfl, if_pos (by rw [hlen0]; simpa using m2 n0), if_pos (ext_none _)]
      rw [if_pos, if_pos (by simp)]
      · simp
      · rw [hlen, hxt]
        have a1 : ((x.size + t.size - m : Nat) : Int) = (x.size : Int) + t.size - m := by omega
        rw [a1]
        unfold wrap64
        omega
    · have : (t.size : Int) ≤ mx (13000 - (x.size : Int)) 0 := by unfold mx; split <;> omega
      rw [decide_eq_true this]; decide

end Go.Proofs.Ytjfgjhfpebmaaaa.LinePure
