/- The program's Pieces cuts a text into the same pieces as the reference's, for all arguments, and keeps no part of what it tells. No condition. -/
import Derived.Test.YtjfgjhfpebmaaaaPFnExactPiecesx3
namespace Go.Proofs.Ytjfgjhfpebmaaaa.Pure
open Go.RowKit Go.Proofs.Ytjfgjhfpebmaaaa.PFnExactPieces Go.Proofs.YtjfgjhfpebmaaaaW.PrintWords Go.Proofs.YtjfgjhfpebmaaaaW.PrintLast Go.Proofs.YtjfgjhfpebmaaaaW.PrintMore
set_option linter.unusedVariables false
set_option linter.unusedSimpArgs false

theorem wrap_small {x : Int} (h0 : 0 ≤ x) (h : x ≤ 1099511627776) : wrap64 x = x := by
  unfold wrap64; omega

theorem max_is (a b : Int) : spec_l1Max.f a b = some (mx a b) := by
  unfold spec_l1Max.f mx; split <;> split <;> first | rfl | (congr 1; omega)

theorem min_is (a b : Int) : spec_l1Min.f a b = some (mn a b) := by
  unfold spec_l1Min.f mn; split <;> split <;> first | rfl | (congr 1; omega)

theorem ext_len (s : ByteArray) (a b : Nat) (h : b ≤ s.size) : (s.extract a b).size = b - a := by
  rw [ByteArray.size_extract]; omega

theorem ext_ext (s : ByteArray) (a n : Nat) (h : a + n ≤ s.size) : (s.extract a s.size).extract 0 n = s.extract a (a + n) := by
  apply ByteArray.ext
  simp only [ByteArray.data_extract, Array.extract_extract]
  congr 1
  omega

theorem ext_drop (s : ByteArray) (a n : Nat) (h : a + n ≤ s.size) : (s.extract a s.size).extract n (s.extract a s.size).size = s.extract (a + n) s.size := by
  rw [ext_len _ _ _ (Nat.le_refl _)]
  apply ByteArray.ext
  simp only [ByteArray.data_extract, Array.extract_extract]
  congr 1
  omega

theorem ext_nil (s : ByteArray) (a : Nat) (h : a ≤ s.size) : (s.extract a s.size).toList = [] ↔ ¬ a < s.size := by
  constructor
  · intro e hlt
    have : (s.extract a s.size).size = 0 := by
      have := congrArg List.length e
      rw [ByteArray.toList_eq] at this
      simpa using this
    rw [ext_len _ _ _ (Nat.le_refl _)] at this
    omega
  · intro h1
    have h2 : (s.extract a s.size).size = 0 := by rw [ext_len _ _ _ (Nat.le_refl _)]; omega
    rw [ByteArray.toList_eq]
    exact List.eq_nil_of_length_eq_zero (by simpa using h2)

theorem pieces_same (s : ByteArray) (l : List Int) (hs : s.size ≤ 1048576) (hl : l.length ≤ 1048576) (d : Nat) :
    ∀ (k : Nat) (acc : List ByteArray) (a i : Nat), i + d = l.length → a ≤ s.size → d < k → acc.length ≤ i →
    ∃ r, spec_Pieces.l0 k s l acc a i = some r ∧ impl_Pieces.l0 k (s.extract a s.size) acc l (l.length : Int) i = some r ∧ r.length ≤ l.length + 1 := by
  induction d with
  | zero =>
    intro k acc a i hi ha hk hacc
    obtain ⟨k, rfl⟩ : ∃ m, k = m + 1 := ⟨k - 1, by omega⟩
    by_cases h : a < s.size
    · refine ⟨acc ++ [s.extract a s.size], ?_, ?_, by simp; omega⟩
      · simp only [spec_Pieces.l0]
        rw [if_neg (by omega), if_pos (by omega), if_pos (by omega), if_pos (by omega), if_pos (by omega)]
        rfl
      · simp only [impl_Pieces.l0]
        rw [if_neg (by omega), if_neg (fun e => (ext_nil s a ha).1 e h), if_pos (by omega)]
    · refine ⟨acc, ?_, ?_, by omega⟩
      · simp only [spec_Pieces.l0]
        rw [if_neg (by omega), if_neg (by omega)]
      · simp only [impl_Pieces.l0]
        rw [if_neg (by omega), if_pos ((ext_nil s a ha).2 h)]
  | succ d ih =>
    intro k acc a i hi ha hk hacc
    obtain ⟨k, rfl⟩ : ∃ m, k = m + 1 := ⟨k - 1, by omega⟩
    obtain ⟨n, hn⟩ : ∃ n : Nat, mn (mx (rd l i) 0) ((s.size : Int) - a) = n := ⟨(mn (mx (rd l i) 0) ((s.size : Int) - a)).toNat, by
      unfold mn mx; repeat' split
      all_goals omega⟩
    have hna : a + n ≤ s.size := by
      have : (n : Int) ≤ (s.size : Int) - a := by rw [← hn]; unfold mn; split <;> omega
      omega
    obtain ⟨r, h1, h2, h3⟩ := ih k (acc ++ [s.extract a (a + n)]) (a + n) (i + 1) (by omega) hna (by omega) (by simp; omega)
    have c1 : (i : Int) < (l.length : Int) := by omega
    have c2 : (0 : Int) ≤ i := by omega
    have c3 : (0 : Int) ≤ a := by omega
    have c4 : (a : Int) ≤ ((a + n : Nat) : Int) := by omega
    have c5 : ((a + n : Nat) : Int) ≤ s.size := by omega
    have c6 : acc.length < 8796093022208 := by omega
    have c7 : (0 : Int) ≤ n := by omega
    have c8 : (n : Int) ≤ (s.size : Int) - a := by omega
    have e1 : wrap64 ((s.size : Int) - a) = (s.size : Int) - a := wrap_small (by omega) (by omega)
    have e2 : wrap64 ((a : Int) + n) = ((a + n : Nat) : Int) := wrap_small (x := ((a + n : Nat) : Int)) (by clear e1; omega) (by clear e1; omega)
    have e3 : wrap64 ((i : Int) + 1) = ((i + 1 : Nat) : Int) := wrap_small (x := ((i + 1 : Nat) : Int)) (by clear e1 e2; omega) (by clear e1 e2; omega)
    have e4 : ((s.extract a s.size).size : Int) = (s.size : Int) - a := by clear e1 e2 e3; rw [ext_len _ _ _ (Nat.le_refl _)]; omega
    refine ⟨r, ?_, ?_, h3⟩
    · simp only [spec_Pieces.l0]
      rw [if_pos c1, if_pos c2, max_is, Option.bind_some, min_is, e1, hn, Option.bind_some]
      rw [e2, if_pos c3, if_pos c4, if_pos c5, if_pos c6, e3]
      exact h1
    · simp only [impl_Pieces.l0]
      rw [if_pos c1, if_pos c2, if_pos c1, e4, hn, if_pos c7, if_pos c8, if_pos c6, e3]
      rw [show ((n : Int)).toNat = n from rfl, ext_drop s a n hna, ext_ext s a n hna]
      exact h2

/-- The list from place i on is copied. -/
theorem copy_goes (l : List Int) (hl : l.length ≤ 1048576) (d : Nat) :
    ∀ (k : Nat) (m : List Int) (i : Nat), i + d = l.length → d < k → m.length = l.length → m.take i = l.take i →
    laws_toIntS.l0 k l m i = some l := by
  induction d with
  | zero =>
    intro k m i hi hk hm ht
    obtain ⟨k, rfl⟩ : ∃ m, k = m + 1 := ⟨k - 1, by omega⟩
    simp only [laws_toIntS.l0]
    rw [if_neg (by omega)]
    rw [List.take_of_length_le (by omega), List.take_of_length_le (by omega)] at ht
    rw [ht]
  | succ d ih =>
    intro k m i hi hk hm ht
    obtain ⟨k, rfl⟩ : ∃ m, k = m + 1 := ⟨k - 1, by omega⟩
    have e3 : wrap64 ((i : Int) + 1) = ((i + 1 : Nat) : Int) := wrap_small (x := ((i + 1 : Nat) : Int)) (by omega) (by omega)
    simp only [laws_toIntS.l0]
    rw [if_pos (by omega), if_pos (by omega), if_pos (by omega), e3]
    apply ih k _ (i + 1) (by omega) (by omega) (by simpa using hm)
    rw [show ((i : Int)).toNat = i from rfl]
    have hil : i < l.length := by omega
    have him : i < m.length := by omega
    rw [List.take_add_one, List.take_add_one, List.take_set_of_le (Nat.le_refl _), ht]
    congr 1
    rw [List.getElem?_set_self him]
    unfold rd
    rw [show ((i : Int)).toNat = i from rfl, List.getD_eq_getElem?_getD, List.getElem?_eq_getElem hil]
    rfl

theorem copy_is (l : List Int) (hl : l.length ≤ 1048576) (k : Nat) (hk : l.length < k) : laws_toIntS.f k l = some l := by
  unfold laws_toIntS.f
  rw [if_pos (by omega), if_pos (by omega)]
  exact copy_goes l hl l.length k _ 0 (by omega) hk (by simp) (by simp)

theorem eqS_goes (l : List ByteArray) (hl : l.length ≤ 2097152) (d : Nat) :
    ∀ (k : Nat) (i : Nat), i + d = l.length → d < k → laws_eqStringS.l0 k l l i = some true := by
  induction d with
  | zero =>
    intro k i hi hk
    obtain ⟨k, rfl⟩ : ∃ m, k = m + 1 := ⟨k - 1, by omega⟩
    simp only [laws_eqStringS.l0]
    rw [if_neg (by omega)]
  | succ d ih =>
    intro k i hi hk
    obtain ⟨k, rfl⟩ : ∃ m, k = m + 1 := ⟨k - 1, by omega⟩
    have e3 : wrap64 ((i : Int) + 1) = ((i + 1 : Nat) : Int) := wrap_small (x := ((i + 1 : Nat) : Int)) (by omega) (by omega)
    simp only [laws_eqStringS.l0]
    rw [if_pos (by omega), if_pos (by omega), if_pos (by omega), if_pos (by trivial), e3]
    exact ih k (i + 1) (by omega) (by omega)

theorem eqS_is (l : List ByteArray) (hl : l.length ≤ 2097152) (k : Nat) (hk : l.length < k) : laws_eqStringS.f k l l = some true := by
  unfold laws_eqStringS.f
  rw [if_pos rfl]
  exact eqS_goes l hl l.length k 0 (by omega) hk

theorem eqI_goes (l : List Int) (hl : l.length ≤ 2097152) (d : Nat) :
    ∀ (k : Nat) (i : Nat), i + d = l.length → d < k → laws_eqIntS.l0 k l l i = some true := by
  induction d with
  | zero =>
    intro k i hi hk
    obtain ⟨k, rfl⟩ : ∃ m, k = m + 1 := ⟨k - 1, by omega⟩
    simp only [laws_eqIntS.l0]
    rw [if_neg (by omega)]
  | succ d ih =>
    intro k i hi hk
    obtain ⟨k, rfl⟩ : ∃ m, k = m + 1 := ⟨k - 1, by omega⟩
    have e3 : wrap64 ((i : Int) + 1) = ((i + 1 : Nat) : Int) := wrap_small (x := ((i + 1 : Nat) : Int)) (by omega) (by omega)
    simp only [laws_eqIntS.l0]
    rw [if_pos (by omega), if_pos (by omega), if_pos (by omega), if_pos (by trivial), e3]
    exact ih k (i + 1) (by omega) (by omega)

theorem eqI_is (l : List Int) (hl : l.length ≤ 2097152) (k : Nat) (hk : l.length < k) : laws_eqIntS.f k l l = some true := by
  unfold laws_eqIntS.f
  rw [if_pos rfl]
  exact eqI_goes l hl l.length k 0 (by omega) hk

theorem markI_goes (d : Nat) :
    ∀ (k : Nat) (l : List Int) (x i : Nat), l.length ≤ 2097152 → x ≤ 4194304 + i → i + d = l.length → d < k →
      ∃ r, laws_markIntS.l0 k l x i = some (((x + d : Nat) : Int), r) := by
  induction d with
  | zero =>
    intro k l x i hl hx hi hk
    obtain ⟨k, rfl⟩ : ∃ m, k = m + 1 := ⟨k - 1, by omega⟩
    simp only [laws_markIntS.l0]
    rw [if_neg (by omega)]
    exact ⟨_, rfl⟩
  | succ d ih =>
    intro k l x i hl hx hi hk
    obtain ⟨k, rfl⟩ : ∃ m, k = m + 1 := ⟨k - 1, by omega⟩
    have e3 : wrap64 ((i : Int) + 1) = ((i + 1 : Nat) : Int) := wrap_small (x := ((i + 1 : Nat) : Int)) (by omega) (by omega)
    have e4 : wrap64 ((x : Int) + 1) = ((x + 1 : Nat) : Int) := wrap_small (x := ((x + 1 : Nat) : Int)) (by clear e3; omega) (by clear e3; omega)
    simp only [laws_markIntS.l0]
    rw [if_pos (by omega), if_pos (by omega), e3, e4]
    obtain ⟨r, h⟩ := ih k (l.set (i : Int).toNat x) (x + 1) (i + 1) (by simpa using hl) (by omega) (by simp; omega) (by omega)
    exact ⟨r, by rw [h]; congr 2; omega⟩

theorem text_goes (d : Nat) : ∀ (k x : Nat) (t : ByteArray), x ≤ d → d < k → t.size + d ≤ 1099511627776 → ∃ r, laws_markText.l0 k x t = some r := by
  induction d with
  | zero =>
    intro k x t hx hk ht
    obtain ⟨k, rfl⟩ : ∃ m, k = m + 1 := ⟨k - 1, by omega⟩
    simp only [laws_markText.l0]
    rw [if_neg (by omega), if_pos (by omega)]
    exact ⟨_, rfl⟩
  | succ d ih =>
    intro k x t hx hk ht
    obtain ⟨k, rfl⟩ : ∃ m, k = m + 1 := ⟨k - 1, by omega⟩
    simp only [laws_markText.l0]
    by_cases h : (x : Int) > 0
    · rw [if_pos h]
      simp only [Option.bind_some]
      have hs : ∀ n : Int, (strOfNums [n]).size = 1 := fun n => rfl
      have e : wrap64 (Int.tdiv (x : Int) 10) = ((x / 10 : Nat) : Int) := by
        rw [show Int.tdiv (x : Int) 10 = ((x / 10 : Nat) : Int) from by
          rw [Int.tdiv_eq_ediv_of_nonneg (by omega)]; omega]
        exact wrap_small (by omega) (by omega)
      rw [if_pos (by rw [hs]; omega), e]
      apply ih k (x / 10) _ (by omega) (by omega)
      rw [ByteArray.size_append, hs]; omega
    · rw [if_neg h, if_pos (by omega)]
      exact ⟨_, rfl⟩

theorem text_is (k x : Nat) (hx : x ≤ 4194304) (hk : 4194304 < k) : ∃ r, laws_markText.f k x = some r := by
  unfold laws_markText.f
  split
  · exact ⟨_, rfl⟩
  · exact text_goes 4194304 k x _ hx hk (by
      show 0 + 4194304 ≤ _
      omega)

/-- What is written over a list is what is held by it then. -/
theorem marks_goes (d : Nat) :
    ∀ (k : Nat) (l : List ByteArray) (x i : Nat), l.length ≤ 1048577 → x ≤ 1 + i → i + d = l.length → 4194304 + d < k →
      ∃ r, laws_markStringS.l0 k l x i = some (((x + d : Nat) : Int), r) ∧ r.length = l.length ∧ r.take i = l.take i ∧
        ∀ j, j < d → laws_markText.f k ((x + j : Nat) : Int) = some (r.getD (i + j) ByteArray.empty) := by
  induction d with
  | zero =>
    intro k l x i hl hx hi hk
    obtain ⟨k, rfl⟩ : ∃ m, k = m + 1 := ⟨k - 1, by omega⟩
    simp only [laws_markStringS.l0]
    rw [if_neg (by omega)]
    exact ⟨_, rfl, rfl, rfl, fun j hj => by omega⟩
  | succ d ih =>
    intro k l x i hl hx hi hk
    obtain ⟨k, rfl⟩ : ∃ m, k = m + 1 := ⟨k - 1, by omega⟩
    have e3 : wrap64 ((i : Int) + 1) = ((i + 1 : Nat) : Int) := wrap_small (x := ((i + 1 : Nat) : Int)) (by omega) (by omega)
    have e4 : wrap64 ((x : Int) + 1) = ((x + 1 : Nat) : Int) := wrap_small (x := ((x + 1 : Nat) : Int)) (by clear e3; omega) (by clear e3; omega)
    simp only [laws_markStringS.l0]
    obtain ⟨t, ht⟩ := text_is k x (by omega) (by omega)
    rw [if_pos (by omega), ht]
    simp only [Option.bind_some]
    rw [if_pos (by omega), e3, e4]
    obtain ⟨r, h, hlen, htake, hall⟩ := ih k (l.set (i : Int).toNat t) (x + 1) (i + 1) (by simpa using hl) (by omega) (by simp; omega) (by omega)
    have up : ∀ (y : Int) (z : ByteArray), laws_markText.f k y = some z → laws_markText.f (k + 1) y = some z := fun y z e => laws_markText.mono _ _ _ e
    refine ⟨r, by rw [h]; congr 2; omega, by rw [hlen]; simp, ?_, ?_⟩
    · have := congrArg (List.take i) htake
      rw [List.take_take, List.take_take, Nat.min_eq_left (by omega), show ((i : Int)).toNat = i from rfl, List.take_set_of_le (Nat.le_refl _)] at this
      exact this
    · intro j hj
      cases j with
      | zero =>
        have hir : i < r.length := by rw [hlen]; simp; omega
        have hrt : r.getD i ByteArray.empty = t := by
          have h1 : (r.take (i + 1))[i]? = ((l.set (i : Int).toNat t).take (i + 1))[i]? := by rw [htake]
          rw [List.getElem?_take_of_lt (by omega), List.getElem?_take_of_lt (by omega), show ((i : Int)).toNat = i from rfl, List.getElem?_set_self (by omega)] at h1
          rw [List.getD_eq_getElem?_getD, h1]; rfl
        show laws_markText.f (k + 1) x = some (r.getD i _)
        rw [hrt]; exact up _ _ ht
      | succ j =>
        have := hall j (by omega)
        rw [show x + 1 + j = x + (j + 1) by omega, show i + 1 + j = i + (j + 1) by omega] at this
        exact up _ _ this

theorem held_goes (r : List ByteArray) (hr : r.length ≤ 1048577) (d : Nat) :
    ∀ (k : Nat) (x i : Nat), x ≤ 1 + i → i + d = r.length → 4194304 + d < k →
      (∀ j, j < d → laws_markText.f k ((x + j : Nat) : Int) = some (r.getD (i + j) ByteArray.empty)) →
      laws_heldStringS.l0 k r x i = some ((x + d : Nat) : Int) := by
  induction d with
  | zero =>
    intro k x i hx hi hk hall
    obtain ⟨k, rfl⟩ : ∃ m, k = m + 1 := ⟨k - 1, by omega⟩
    simp only [laws_heldStringS.l0]
    rw [if_neg (by omega)]
    rfl
  | succ d ih =>
    intro k x i hx hi hk hall
    obtain ⟨k, rfl⟩ : ∃ m, k = m + 1 := ⟨k - 1, by omega⟩
    have e3 : wrap64 ((i : Int) + 1) = ((i + 1 : Nat) : Int) := wrap_small (x := ((i + 1 : Nat) : Int)) (by omega) (by omega)
    have e4 : wrap64 ((x : Int) + 1) = ((x + 1 : Nat) : Int) := wrap_small (x := ((x + 1 : Nat) : Int)) (by clear e3; omega) (by clear e3; omega)
    have down : ∀ (y : Nat) (z : ByteArray), y ≤ 4194304 → laws_markText.f (k + 1) y = some z → laws_markText.f k y = some z := by
      intro y z hy e
      obtain ⟨u, hu⟩ := text_is k y hy (by omega)
      have := laws_markText.mono _ _ _ hu
      rw [e] at this
      rw [hu, ← this]
    have h0 := down x _ (by omega) (hall 0 (by omega))
    simp only [laws_heldStringS.l0]
    rw [if_pos (by omega), if_pos (by omega), h0]
    simp only [Option.bind_some]
    rw [if_pos (by show (r.getD i _).toList = _; rfl), e3, e4, ih k (x + 1) (i + 1) (by omega) (by omega) (by omega)]
    · congr 2; omega
    · intro j hj
      have := hall (j + 1) (by omega)
      rw [show x + (j + 1) = x + 1 + j by omega, show i + (j + 1) = i + 1 + j by omega] at this
      exact down _ _ (by omega) this

theorem FnExactPieces : laws_FnExactPieces.Pure := by
  intro a0 l1 _ _ _ _
  obtain ⟨k, hk⟩ : ∃ k : Nat, 8388608 ≤ k := ⟨_, Nat.le_refl _⟩
  refine ⟨k, ?_⟩
  unfold laws_FnExactPieces.f
  by_cases hs : (a0.size : Int) > 1048576
  · rw [if_pos hs]
  rw [if_neg hs]
  by_cases hl : (l1.length : Int) > 1048576
  · rw [if_pos hl]
  rw [if_neg hl]
  obtain ⟨r, h1, h2, h3⟩ := pieces_same a0 l1 (by omega) (by omega) l1.length k [] 0 0 (by omega) (by omega) (by omega) (by simp)
  have hc := copy_is l1 (by omega) k (by omega)
  have hsp : spec_Pieces.f k a0 l1 = some r := h1
  have him : impl_Pieces.f k a0 l1 = some r := by
    have e : a0.extract 0 a0.size = a0 := by simp
    rw [e] at h2; exact h2
  obtain ⟨m, hm⟩ := markI_goes l1.length k l1 1 0 (by omega) (by omega) (by omega) (by omega)
  have hmi : laws_markIntS.f k l1 1 = some (((1 + l1.length : Nat) : Int), m) := hm
  have hes := eqS_is r (by omega) k (by omega)
  have hei := eqI_is l1 (by omega) k (by omega)
  rw [hc]; simp only [Option.bind_some]
  rw [hsp]; simp only [Option.bind_some]
  rw [him]; simp only [Option.bind_some]
  rw [hes]; simp only [Option.bind_some, if_true]
  rw [hei]; simp only [Option.bind_some, if_true]
  rw [hmi]; simp only [Option.bind_some]
  rw [if_neg (by omega)]
  obtain ⟨k, rfl⟩ : ∃ m, k = m + 1 := ⟨k - 1, by omega⟩
  simp only [Bool.not_true, laws_FnExactPieces.j0, Bool.false_eq_true, if_false]
  obtain ⟨q, q1, q2, _, q4⟩ := marks_goes r.length k r 1 0 (by omega) (by omega) (by omega) (by omega)
  have hq : laws_markStringS.f k r 1 = some (((1 + r.length : Nat) : Int), q) := q1
  have hh : laws_heldStringS.f k q 1 = some ((1 + r.length : Nat) : Int) := held_goes q (by omega) r.length k 1 0 (by omega) (by omega) (by omega) q4
  have hc := copy_is l1 (by omega) k (by omega)
  obtain ⟨r', h1', h2', _⟩ := pieces_same a0 l1 (by omega) (by omega) l1.length k [] 0 0 (by omega) (by omega) (by omega) (by simp)
  have e : r' = r := by
    have := spec_Pieces.mono _ _ _ _ (show spec_Pieces.f k a0 l1 = some r' from h1')
    rw [hsp] at this
    exact (Option.some.inj this).symm
  subst e
  have him : impl_Pieces.f k a0 l1 = some r' := by
    have e : a0.extract 0 a0.size = a0 := by simp
    rw [e] at h2'; exact h2'
  have hes := eqS_is r' (by omega) k (by omega)
  rw [hq]; simp only [Option.bind_some]
  rw [hh]; simp only [Option.bind_some]
  rw [if_neg (by omega), if_pos trivial, hc]; simp only [Option.bind_some]
  rw [him]; simp only [Option.bind_some]
  rw [hes]; simp only [Option.bind_some, if_true]
  rw [if_neg (by omega)]

end Go.Proofs.Ytjfgjhfpebmaaaa.Pure
