/- EventRead of the program returns what EventRead of the reference returns, for all arguments. Text 6 of 6. -/
import Derived.Test.YtccdklkcfjmchaaGreatDoorErE
section
set_option linter.unusedVariables false
set_option maxRecDepth 100000
set_option linter.unusedSimpArgs false
namespace Go.Pi
def pfx (p s : Bs) : Bool := p.isPrefixOf s
theorem kA_ {a c : UInt8} (h : c ≠ a) (p t : Bs) : pfx (a :: p) (c :: t) = false := by
  have e : (a == c) = false := beq_eq_false_iff_ne.2 fun e => h e.symm
  show (a == c && List.isPrefixOf p t) = false
  rw [e]; rfl
theorem pfx_nil (a : UInt8) (p : Bs) : pfx (a :: p) [] = false := rfl
theorem gc_ (p t : Bs) : pfx p (p ++ t) = true := List.isPrefixOf_iff_prefix.2 (List.prefix_append p t)
theorem gb_ {p t : Bs} (h : pfx p t = true) : p.length ≤ t.length := (List.isPrefixOf_iff_prefix.1 h).length_le
theorem hI_ (p s : Bs) : pfx p s = ((s.take p.length).drop 0 == p) := by
  rw [List.drop_zero]
  refine Bool.eq_iff_iff.2 ?_
  rw [beq_iff_eq]
  exact ⟨fun h => (List.prefix_iff_eq_take.1 (List.isPrefixOf_iff_prefix.1 h)).symm, fun h => List.isPrefixOf_iff_prefix.2 (List.prefix_iff_eq_take.2 h.symm)⟩
section
variable {β : Type} {g : Nat → Nat → Bool → Option β} {v : β}
theorem fF_ {s p : Bs} : Ev (fun n _ => aw_ n s p) (pfx p s) := by
  refine aS_ ?_
  simp only [aw_, aM_, dI_, an_, Int.toNat_natCast]
  refine ⟨fun h => ?_, fun h => ?_⟩
  · have h := of_decide_eq_true h
    exact ⟨⟨by omega, by omega, by omega⟩, (hI_ p s).symm⟩
  · have h := of_decide_eq_false h
    cases e : pfx p s with
    | false => rfl
    | true => have := gb_ e; omega
theorem ev_ {s p : Bs} : Ev (fun n _ => bi_ n s p) (cond (pfx p s) (s.drop p.length, true) (s, false)) := by
  have : Ev (fun n _ => aB_ n s p) (cond (pfx p s) (s.drop p.length, true) (s, false)) := by
    refine aS_ ?_
    simp only [aB_, ae_ fF_, aM_, dI_, an_, Int.toNat_natCast, List.take_length]
    cases e : pfx p s with
    | false => exact ⟨fun _ => rfl, fun h => (by cases h)⟩
    | true => exact ⟨fun h => (by cases h), fun _ => ⟨⟨by omega, by have := gb_ e; omega, by omega⟩, rfl⟩⟩
  exact aS_ (by simp only [bi_, ae_ this, an_])
theorem e4_ {s p : Bs} : Ev (fun n _ => bg_ n s p) (cond (pfx p s) (s.drop p.length) s) := by
  have : Ev (fun n _ => az_ n s p) (cond (pfx p s) (s.drop p.length) s) := by
    refine aS_ ?_
    simp only [az_, ae_ fF_, aM_, dI_, an_, Int.toNat_natCast, List.take_length]
    cases e : pfx p s with
    | false => exact ⟨fun h => (by cases h), fun _ => rfl⟩
    | true => exact ⟨fun _ => ⟨⟨by omega, by have := gb_ e; omega, by omega⟩, rfl⟩, fun h => (by cases h)⟩
  exact aS_ (by simp only [bg_, ae_ this, an_])
end
def dd_ (r : aC_) (p : Bs) : Bool × aC_ := cond (pfx p r.text) (!r.bad, ⟨r.text.drop p.length, r.bad⟩) (false, ⟨r.text, r.bad⟩)
def iD_ (r : aC_) (p : Bs) : aC_ := cond (pfx p r.text) ⟨r.text.drop p.length, r.bad⟩ ⟨r.text, true⟩
theorem li_ {r : aC_} {p : Bs} : Ev (fun n _ => a0_ n r p) (dd_ r p) := by
  refine aS_ ?_
  simp only [a0_, ae_ ev_, aM_, an_, dd_]
  cases pfx p r.text <;> simp
theorem want_ev {r : aC_} {p : Bs} : Ev (fun n _ => bd_ n r p) (iD_ r p) := by
  refine aS_ ?_
  simp only [bd_, ae_ li_, aM_, an_, dd_, iD_]
  cases pfx p r.text <;> cases r.bad <;> simp
theorem eO_ (r : aC_) (p : Bs) : (dd_ r p).2.text.length ≤ r.text.length := by
  unfold dd_
  cases pfx p r.text <;> simp
theorem take_less {r : aC_} {p : Bs} (h : (dd_ r p).1 = true) : (dd_ r p).2.text.length + p.length ≤ r.text.length := by
  unfold dd_ at h ⊢
  cases e : pfx p r.text with
  | false => rw [e] at h; cases h
  | true => have := gb_ e; simp; omega
theorem lg_ (r : aC_) (p : Bs) : (iD_ r p).text.length ≤ r.text.length := by
  unfold iD_
  cases pfx p r.text <;> simp
section
variable {β : Type} {Q : β → Prop} {v : β}
theorem l3_ {r : aC_} {p : Bs} {g : Nat → Nat → Bool × aC_ → Option β} : Ans (fun n N => (a0_ n r p).bind (g n N)) Q ↔ Ans (fun n N => g n N (dd_ r p)) Q := bI_ li_
theorem want_a {r : aC_} {p : Bs} {g : Nat → Nat → aC_ → Option β} : Ans (fun n N => (bd_ n r p).bind (g n N)) Q ↔ Ans (fun n N => g n N (iD_ r p)) Q := bI_ want_ev
theorem dB_ {r : aC_} {p : Bs} {g : Nat → Nat → Bool × aC_ → Option β} : Ev (fun n N => (a0_ n r p).bind (g n N)) v ↔ Ev (fun n N => g n N (dd_ r p)) v := ae_ li_
theorem lX_ {r : aC_} {p : Bs} {g : Nat → Nat → aC_ → Option β} : Ev (fun n N => (bd_ n r p).bind (g n N)) v ↔ Ev (fun n N => g n N (iD_ r p)) v := ae_ want_ev
end
theorem eX_ {s p : Bs} : Ev (fun n _ => bk_ n s p) (pfx p s) := aS_ (by simp only [bk_, ae_ fF_, an_])
theorem d5_ (p t : Bs) : dd_ ⟨p ++ t, false⟩ p = (true, ⟨t, false⟩) := by
  unfold dd_; rw [gc_, List.drop_left]; rfl
theorem ct_ {a c : UInt8} (h : c ≠ a) (p t : Bs) (b : Bool) : dd_ ⟨c :: t, b⟩ (a :: p) = (false, ⟨c :: t, b⟩) := by
  unfold dd_; rw [kA_ h]; rfl
theorem take_nil (a : UInt8) (p : Bs) (b : Bool) : dd_ ⟨[], b⟩ (a :: p) = (false, ⟨[], b⟩) := rfl
theorem hH_ (p t : Bs) : iD_ ⟨p ++ t, false⟩ p = ⟨t, false⟩ := by
  unfold iD_; rw [gc_, List.drop_left]; rfl
theorem i2_ {r : aC_} (hr : r.text.length ≤ 1048576) : Ans (fun n _ => ai_ n r) fun x => x.2.text.length ≤ r.text.length ∧ x.1.length ≤ r.text.length := by
  refine cS_ ?_
  simp only [ai_, want_a]
  have hw := lg_ r [34]
  generalize iD_ r [34] = q at hw ⊢
  refine eu_ (σ := Bs × Bool × List Int) (fun n N s => ai_.loop4 n (fun xy4 xy5 => (some ([], (aC_.mk xy4 xy5)))) N s.1 s.2.1 s.2.2) (fun s => s.1.length) (fun s => s.1.length + s.2.2.length ≤ r.text.length) _ (fun s hI ih => ?_) (q.text, q.bad, []) (by simp; omega)
  obtain ⟨t, b, o⟩ := s
  simp only at hI ih ⊢
  simp only [ai_.turn4, ai_.step4, l3_, cp_, ch_, hk_, ek_, mO_, Int.toNat_natCast, List.take_length]
  have h1 := eO_ ⟨t, b⟩ [34]
  have h2 := eO_ (dd_ ⟨t, b⟩ [34]).2 [92]
  simp only at h1
  generalize dd_ ⟨t, b⟩ [34] = x at h1 h2 ⊢
  generalize dd_ x.2 [92] = y at h2 ⊢
  refine ⟨fun _ => ⟨fun _ => ⟨by omega, by simp; omega⟩, fun _ => ⟨fun _ => ⟨by omega, by simp⟩, fun hc => ?_⟩⟩, fun _ => ⟨by omega, by simp⟩⟩
  have hne : 1 ≤ y.2.text.length := by
    cases he : y.2.text with
    | nil => rw [he] at hc; cases hc
    | cons _ _ => simp
  refine ⟨by omega, by simp; omega, ⟨by omega, by omega, by omega⟩, ?_⟩
  exact ih (y.2.text.drop 1, y.2.bad, o ++ [((y.2.text.getD 0 0).toNat : Int)]) (by simp; omega) (by simp; omega)
theorem j3_ (o : Bs) (c : UInt8) : bi o ++ [((c.toNat : Nat) : Int)] = bi (o ++ [c]) := by simp [bi]
theorem g7_ {s r : Bs} (hl : (cD_ s ++ r).length ≤ 1000000000000) : Ev (fun n _ => ai_ n ⟨cD_ s ++ r, false⟩) (s, ⟨r, false⟩) := by
  have hq := ea_ s
  have hsl : s.length ≤ (cD_ s).length := by
    have : ∀ s : Bs, s.length ≤ (s.flatMap dR_).length := by
      intro s
      induction s with
      | nil => exact Nat.le_refl _
      | cons c s ih => rw [List.flatMap_cons, List.length_append, List.length_cons]; have : 1 ≤ (dR_ c).length := by unfold dR_; split <;> simp
                       omega
    have := this s
    simp only [cD_, List.cons_append, List.length_cons, List.length_append]; omega
  simp only [List.length_append] at hl
  have e : cD_ s ++ r = [34] ++ (s.flatMap dR_ ++ 34 :: r) := by simp [cD_]
  refine aS_ ?_
  simp only [ai_, lX_, e, hH_]
  have := er_ (fun i => ((s.drop i).flatMap dR_ ++ 34 :: r, bi (s.take i))) s.length (fun n N i (q : Bs × List Int) => ai_.loop4 n (fun xy4 xy5 => (some ([], (aC_.mk xy4 xy5)))) N q.1 false q.2) (s, ⟨r, false⟩) (fun i hi F hF => ?_) ?_
  · exact this
  · have hd := eg_ 0 hi
    have ht := cA_ 0 hi
    rw [ht] at hF
    simp only [hd, List.flatMap_cons, List.append_assoc]
    have hbl := hy_ (s.take i)
    rw [List.length_take] at hbl
    generalize (s.drop (i + 1)).flatMap dR_ ++ 34 :: r = T at hF ⊢
    generalize s.getD i 0 = c at hF ⊢
    rw [← j3_] at hF
    generalize bi (s.take i) = o at hF hbl ⊢
    simp only [ai_.turn4, ai_.step4, Bool.not_false, cond_true, dB_]
    by_cases hc : c = 34 ∨ c = 92
    · have e1 : dR_ c = [92, c] := if_pos hc
      have e2 : dR_ c ++ T = 92 :: c :: T := by rw [e1]; rfl
      have e3 : dd_ ⟨92 :: c :: T, false⟩ [92] = (true, ⟨c :: T, false⟩) := d5_ [92] (c :: T)
      simp only [e2, dB_, ct_ (show (92 : UInt8) ≠ 34 by decide), e3, cond_false, aM_, bT_, cf_, dI_, Int.toNat_natCast, List.take_length, List.getD_cons_zero, List.drop_succ_cons, List.drop_zero]
      repeat' (first | exact hF | apply And.intro | intro _)
      all_goals (first | contradiction | omega | (simp; done) | (simp; omega) | trace_state)
    · have e1 : dR_ c = [c] := if_neg hc
      have e2 : dR_ c ++ T = c :: T := by rw [e1]; rfl
      simp only [e2, dB_, ct_ (show c ≠ 34 from fun e => hc (.inl e)), ct_ (show c ≠ 92 from fun e => hc (.inr e)), cond_false, aM_, bT_, cf_, dI_, Int.toNat_natCast, List.take_length, List.getD_cons_zero, List.drop_succ_cons, List.drop_zero]
      repeat' (first | exact hF | apply And.intro | intro _)
      all_goals (first | contradiction | omega | (simp; done) | (simp; omega) | trace_state)
  · have e3 : dd_ ⟨34 :: r, false⟩ [34] = (true, ⟨r, false⟩) := d5_ [34] r
    simp only [List.drop_length, List.take_length, List.flatMap_nil, List.nil_append, ai_.turn4, ai_.step4, Bool.not_false, cond_true, dB_, e3, g0_, an_]
theorem iH_ {s : Bs} (h : s.length ≤ 281474976710656) : Ev (fun n _ => bH_ n s) (endOf s (Lib.atoiAll s)) :=
  aS_ (by simp only [bH_, nAtoi, decide_eq_true h, cond_true, an_])
theorem m2_ {r : aC_} (hr : r.text.length ≤ 1048576) : Ans (fun n _ => ag_ n r) fun x => x.2.text.length ≤ r.text.length ∧ x.1.s = [] ∧ x.1.list = [] ∧ x.1.names = [] := by
  refine cS_ ?_
  simp only [ag_]
  obtain ⟨t, b⟩ := r
  simp only at hr ⊢
  have key : ∀ (K : Nat → ag_.K3) (Q : aa_ × aC_ → Prop), (∀ i, i ≤ t.length → Ans (fun n _ => K n ((i : Nat) : Int) t b 0 0 []) Q) → Ans (fun n _ => ag_.loop3 n (K n) n 0 t b 0 0 []) Q := by
    intro K Q hK
    refine eu_ (σ := Nat) (fun n N i => ag_.loop3 n (K n) N (i : Int) t b 0 0 []) (fun i => t.length - i) (fun i => i ≤ t.length) _ (fun i hI ih => ?_) 0 (Nat.zero_le _)
    have hend := hK i hI
    simp only [ag_.turn3, ag_.step3, Int.toNat_natCast]
    by_cases hi : i < t.length
    · have ihn := ih (i + 1) hi (by omega)
      have hW := W_up hi (show t.length ≤ cv_ by simp only [cv_]; omega)
      simp only [hW, cO_ hi, cond_true, hk_, cz_ hi, true_and, bI_ kc_, cp_]
      exact ⟨fun _ => ihn, fun _ => ⟨fun _ => ⟨by omega, fun _ => ihn, fun _ => hend⟩, fun _ => hend⟩⟩
    · have e : i = t.length := by omega
      subst e
      simp only [cL_, cond_false]
      exact hend
  refine key _ _ fun i hi => ?_
  have hA := iH_ (s := (t.take i).drop 0) (by simp; omega)
  simp only [Int.toNat_natCast, List.take_length, mO_, bI_ hA, cp_, ch_]
  exact ⟨by omega, fun _ => ⟨by omega, by simp⟩, fun _ => ⟨by omega, by simp⟩⟩
theorem itoa_at (n : Int) {i : Nat} (hi : i < (Lib.itoa n).length) : dH_ ((Lib.itoa n).getD i 0) ∨ (i = 0 ∧ (Lib.itoa n).getD i 0 = 45) := by
  unfold Lib.itoa at hi ⊢
  by_cases h : n < 0
  · rw [if_pos h] at hi ⊢
    cases i with
    | zero => exact .inr ⟨rfl, rfl⟩
    | succ i =>
      left
      rw [List.getD_cons_succ]
      exact fB_ n.natAbs _ (cx_ 0 (by simpa using hi))
  · rw [if_neg h] at hi ⊢
    exact .inl (fB_ n.toNat _ (cx_ 0 hi))
theorem kS_ {a b : Bs} {i : Nat} (h : i < a.length) : (a ++ b).getD i 0 = a.getD i 0 := by
  rw [List.getD_eq_getElem?_getD, List.getElem?_append_left h, ← List.getD_eq_getElem?_getD]
theorem ni_ {a b : Bs} {c : UInt8} : (a ++ c :: b).getD a.length 0 = c := by
  rw [List.getD_eq_getElem?_getD, List.getElem?_append_right (Nat.le_refl _)]; simp
theorem inn_dig {c : UInt8} (h : dH_ c) : inn (c.toNat : Int) 48 57 = true := by
  unfold dH_ at h
  exact inn_iff.2 (by omega)
theorem inn_not {c : UInt8} (h : ¬ dH_ c) : inn (c.toNat : Int) 48 57 = false := by
  cases e : inn (c.toNat : Int) 48 57 with
  | false => rfl
  | true => exact absurd (by unfold dH_; have := fL_ e; omega) h
theorem m1_ {n : Int} {r : Bs} (h0 : -1000000000 ≤ n) (h1 : n ≤ 1000000000) (hs : Stop r) (hl : (Lib.itoa n ++ r).length ≤ 1000000000000) : Ev (fun m _ => ag_ m ⟨Lib.itoa n ++ r, false⟩) (aa_.mk 2 n [] [] [], ⟨r, false⟩) := by
  have hA := iH_ (s := Lib.itoa n) (by simp only [List.length_append] at hl; omega)
  rw [k6_ h0 h1] at hA
  obtain ⟨c0, t0, e0, _⟩ := fp_ n
  have hp : 1 ≤ (Lib.itoa n).length := by rw [e0]; simp
  have hat := fun i => itoa_at n (i := i)
  generalize Lib.itoa n = t at hl hA hp hat ⊢
  simp only [List.length_append] at hl
  refine aS_ ?_
  simp only [ag_]
  have key : ∀ (K : Nat → ag_.K3) (F : aa_ × aC_), Ev (fun n _ => K n (t.length : Int) (t ++ r) false 0 0 []) F → Ev (fun n _ => ag_.loop3 n (K n) n 0 (t ++ r) false 0 0 []) F := by
    intro K F hK
    refine er_ (fun _ => ()) t.length (fun n N i (_ : Unit) => ag_.loop3 n (K n) N (i : Int) (t ++ r) false 0 0 []) F (fun i hi F hF => ?_) ?_
    · have hi2 : i < (t ++ r).length := by simp; omega
      have hW := W_up hi2 (by simp only [cv_, List.length_append]; omega)
      simp only [ag_.turn3, ag_.step3, Int.toNat_natCast, hW, cO_ hi2, cond_true, bT_, cz_ hi2, true_and, ep_, mN_, kS_ hi, aM_]
      rcases hat i hi with hd | ⟨rfl, hd⟩
      · rw [inn_dig hd]
        exact ⟨fun _ => hF, fun h => (by cases h)⟩
      · simp only [kS_ hi, hd]
        exact ⟨fun _ => hF, fun _ => ⟨fun _ => ⟨by omega, fun _ => hF, fun h => absurd h (by decide)⟩, fun h => (by cases h)⟩⟩
    · simp only [ag_.turn3, ag_.step3, Int.toNat_natCast]
      cases r with
      | nil =>
        rw [List.append_nil] at hK ⊢
        simp only [cL_, cond_false]
        exact hK
      | cons c r =>
        have hi2 : t.length < (t ++ c :: r).length := by simp
        have hz : (((t.length : Nat) : Int) == 0) = false := beq_eq_false_iff_ne.2 (by omega)
        simp only [cO_ hi2, cond_true, bT_, cz_ hi2, true_and, ep_, mN_, ni_, inn_not (hs c r rfl), hz, cond_false]
        exact hK
  refine key _ _ ?_
  have e1 : ((t ++ r).take t.length).drop 0 = t := by simp
  simp only [Int.toNat_natCast, e1, List.take_length, List.drop_left, dI_, ae_ hA, endOf, Bool.not_true, cond_false, an_]
  exact ⟨by simp; omega, by simp; omega, trivial⟩
end Go.Pi
end
section
set_option linter.unusedVariables false
set_option maxRecDepth 100000
set_option linter.unusedSimpArgs false
namespace Go.Pi
def nt_ (L d : Nat) (x : aa_ × aC_) : Prop := x.2.text.length ≤ L ∧ e8_ d x.1
theorem dm_ {d : Nat} {k n : Int} : e8_ d (aa_.mk k n [] [] []) := by
  cases d with
  | zero => trivial
  | succ d => exact ⟨⟨Nat.zero_le _, Nat.zero_le _, fun x h => (by cases h)⟩, Nat.zero_le _, fun x h => (by cases h)⟩
theorem kJ_ {d : Nat} {k n : Int} {s : Bs} (h : s.length ≤ cv_) : e8_ d (aa_.mk k n s [] []) := by
  cases d with
  | zero => trivial
  | succ d => exact ⟨⟨h, Nat.zero_le _, fun x h => (by cases h)⟩, Nat.zero_le _, fun x h => (by cases h)⟩
theorem nt_.mono {L M d : Nat} {x : aa_ × aC_} (h : nt_ L d x) (hl : L ≤ M) : nt_ M d x := ⟨Nat.le_trans h.1 hl, h.2⟩
theorem parts_any {d : Nat} (hd : d ≤ 1000) (ih : ∀ r : aC_, r.text.length ≤ 1048576 → Ans (fun n _ => aF_ n r (d : Int)) (nt_ r.text.length d))
    {r : aC_} (hr : r.text.length ≤ 1048576) (kind : Int) (end_ : Bs) : Ans (fun n _ => af_ n r kind end_ ((d + 1 : Nat) : Int)) (nt_ r.text.length (d + 1)) := by
  refine cS_ ?_
  have hW : W (((d + 1 : Nat) : Int) - 1) = (d : Int) := by rw [W_id (by omega) (by omega)]; omega
  simp only [af_, l3_, cp_, ch_]
  have ht := eO_ r end_
  generalize dd_ r end_ = x at ht ⊢
  refine ⟨fun _ => ⟨ht, dm_⟩, fun _ => ?_⟩
  obtain ⟨x1, t0, b0⟩ := x
  simp only at ht ⊢
  have key : ∀ (K : Nat → af_.K7_1) (Q : aa_ × aC_ → Prop), (∀ t b l ns, t.length ≤ t0.length → l.length ≤ 1048577 → (∀ y ∈ l, e8_ d y) → ns.length ≤ l.length → (∀ y ∈ ns, y.length ≤ 1048576) → Ans (fun n _ => K n end_ t b 0 0 [] kind 0 [] l ns) Q) →
      Ans (fun n _ => af_.loop7 n (aF_ n) (K n) n kind end_ ((d + 1 : Nat) : Int) true t0 b0 0 0 [] kind 0 [] [] []) Q := by
    intro K Q hK
    refine eu_ (σ := Bool × Bs × Bool × List aa_ × List Bs) (fun n N s => af_.loop7 n (aF_ n) (K n) N kind end_ ((d + 1 : Nat) : Int) s.1 s.2.1 s.2.2.1 0 0 [] kind 0 [] s.2.2.2.1 s.2.2.2.2)
      (fun s => s.2.1.length + cond s.1 1 0) (fun s => s.2.1.length ≤ t0.length ∧ s.2.2.2.1.length + s.2.1.length ≤ t0.length + cond s.1 0 1 ∧ (∀ y ∈ s.2.2.2.1, e8_ d y) ∧ s.2.2.2.2.length ≤ s.2.2.2.1.length ∧ (∀ y ∈ s.2.2.2.2, y.length ≤ 1048576)) _ (fun s hI ihl => ?_) (true, t0, b0, [], []) (by simp)
    obtain ⟨more, t, b, l, ns⟩ := s
    simp only at hI ihl ⊢
    obtain ⟨h1, h2, h3, h4, h5⟩ := hI
    have hll : l.length ≤ 1048577 := by cases more <;> simp at h2 <;> omega
    have hend := hK t b l ns h1 hll h3 h4 h5
    simp only [af_.turn7, af_.step7, hW, br_, cp_]
    refine ⟨fun hm => ⟨fun _ => ?_, fun _ => hend⟩, fun _ => hend⟩
    subst hm
    simp only [cond_true, Nat.add_zero] at h2 ihl
    -- what stands behind a part
    have step : ∀ (q : aC_) (ns' : List Bs), q.text.length ≤ t.length → ns'.length ≤ l.length + 1 → (∀ y ∈ ns', y.length ≤ 1048576) →
        Ans (fun n N => (aF_ n q (d : Int)).bind fun xr4 => ci_ (l.length + [xr4.1].length) 80 ((a0_ n xr4.2 [44]).bind fun xr5 => af_.loop7 n (aF_ n) (K n) N kind end_ ((d + 1 : Nat) : Int) xr5.1 xr5.2.text xr5.2.bad 0 0 [] kind 0 [] (l ++ [xr4.1]) ns')) Q := by
      intro q ns' hq hn hb
      refine cG_ (ih q (by omega)) fun v hv => ?_
      simp only [ek_, l3_]
      have g1 := eO_ v.2 [44]
      have g2 := take_less (r := v.2) (p := [44])
      generalize dd_ v.2 [44] = x at g1 g2 ⊢
      obtain ⟨m', t', b'⟩ := x
      simp only [List.length_cons, List.length_nil] at g1 g2 ⊢
      have hv1 := hv.1
      refine ⟨by omega, ihl (m', t', b', l ++ [v.1], ns') ⟨by simp only; omega, ?_, ?_, by simpa using hn, hb⟩ ?_⟩
      · cases m' with
        | true => have := g2 rfl; simp; omega
        | false => simp; omega
      · intro y hy
        rcases List.mem_append.1 hy with hy | hy
        · exact h3 y hy
        · obtain rfl := List.mem_singleton.1 hy; exact hv.2
      · cases m' with
        | true => have := g2 rfl; simp; omega
        | false => simp; omega
    refine ⟨fun _ => ?_, fun _ => step ⟨t, b⟩ ns (Nat.le_refl _) (by omega) h5⟩
    refine cG_ (i2_ (r := ⟨t, b⟩) (by simp only; omega)) fun v hv => ?_
    simp only at hv
    simp only [want_a, ek_]
    have hw := lg_ v.2 [58]
    refine ⟨by simp; omega, step (iD_ v.2 [58]) (ns ++ [v.1]) (by omega) (by simp; omega) fun y hy => ?_⟩
    rcases List.mem_append.1 hy with hy | hy
    · exact h5 y hy
    · obtain rfl := List.mem_singleton.1 hy; omega
  refine key _ _ fun t b l ns h1 h2 h3 h4 h5 => ?_
  simp only [want_a, ch_]
  have hw := lg_ ⟨t, b⟩ end_
  simp only at hw
  exact ⟨by simp only; omega, ⟨Nat.zero_le _, by show ns.length ≤ cv_; simp only [cv_]; omega, fun y hy => by have := h5 y hy; simp only [cv_]; omega⟩, by show l.length ≤ cv_; simp only [cv_]; omega, h3⟩
theorem kg_ : ∀ (d : Nat), d ≤ 1000 → ∀ r : aC_, r.text.length ≤ 1048576 → Ans (fun n _ => aF_ n r (d : Int)) (nt_ r.text.length d)
  | 0, _, r, hr => by
    refine cS_ ?_
    simp only [aF_, cp_, ch_]
    exact ⟨fun _ => ⟨Nat.le_refl _, trivial⟩, fun h => by simp at h⟩
  | d + 1, hd, r, hr => by
    have ih := fun (r : aC_) hr => parts_any (d := d) (by omega) (kg_ d (by omega)) (r := r) hr
    refine cS_ ?_
    simp only [aF_, br_, cp_, ch_, l3_, bI_ eX_]
    refine ⟨fun h => by have := of_decide_eq_true h; omega, fun _ => ⟨fun _ => ⟨Nat.le_refl _, dm_⟩, fun _ => ?_⟩⟩
    have h1 := eO_ r [110, 117, 108, 108]
    generalize dd_ r [110, 117, 108, 108] = x1 at h1 ⊢
    have h2 := eO_ x1.2 [102, 97, 108, 115, 101]
    generalize dd_ x1.2 [102, 97, 108, 115, 101] = x2 at h2 ⊢
    have h3 := eO_ x2.2 [116, 114, 117, 101]
    generalize dd_ x2.2 [116, 114, 117, 101] = x3 at h3 ⊢
    have h4 := eO_ x3.2 [91]
    generalize dd_ x3.2 [91] = x4 at h4 ⊢
    have h5 := eO_ x4.2 [123]
    generalize dd_ x4.2 [123] = x5 at h5 ⊢
    refine ⟨fun _ => ⟨h1, dm_⟩, fun _ => ⟨fun _ => ⟨by simp only; omega, dm_⟩, fun _ => ⟨fun _ => ⟨by simp only; omega, dm_⟩, fun _ => ⟨fun _ => ?_, fun _ => ⟨fun _ => ?_, fun _ => ⟨fun _ => ?_, fun _ => ?_⟩⟩⟩⟩⟩⟩
    · refine cG_ (i2_ (r := x3.2) (by omega)) fun v hv => ?_
      simp only [ch_]
      exact ⟨by simp only; omega, kJ_ (by simp only [cv_]; omega)⟩
    · refine cG_ (ih x4.2 (by omega) 4 [93]) fun v hv => ?_
      simp only [ch_]
      exact hv.mono (by omega)
    · refine cG_ (ih x5.2 (by omega) 5 [125]) fun v hv => ?_
      simp only [ch_]
      exact hv.mono (by omega)
    · refine cG_ (m2_ (r := x5.2) (by omega)) fun v hv => ?_
      simp only [ch_]
      obtain ⟨⟨k, nn, s, l, ns⟩, q⟩ := v
      obtain ⟨e1, e2, e3, e4⟩ := hv
      simp only at e1 e2 e3 e4
      subst e2 e3 e4
      exact ⟨by simp only; omega, dm_⟩
theorem k2_ (enc : aa_ → Bs) (j : aa_) (k i : Nat) : cR_ enc j (k + 1) (i + 1) = 44 :: (cP_ enc j (i + 1) ++ cR_ enc j k (i + 2)) := by
  rw [cR_, if_neg (by omega)]; rfl
theorem km_ (enc : aa_ → Bs) (j : aa_) (k i : Nat) {c : UInt8} (h : ¬ dH_ c) (r : Bs) : Stop (cR_ enc j k (i + 1) ++ c :: r) := by
  cases k with
  | zero => exact hS_ h
  | succ k => rw [k2_]; exact hS_ (by unfold dH_; decide)
theorem lE_ {kind : Int} {c : UInt8} (h : c.toNat = 93 ∨ c.toNat = 125) : ¬ dH_ c := by unfold dH_; omega
theorem kB_ {d : Nat} (hd : d ≤ 1000) {j : aa_} (h : bw_ (d + 1) j ≤ 400) (hk : j.kind = 4 ∨ j.kind = 5)
    (ih : ∀ x, bw_ d x ≤ 400 → ∀ r, Stop r → (FEnc d x ++ r).length ≤ 1000000000000 → Ev (fun n _ => aF_ n ⟨FEnc d x ++ r, false⟩ (d : Int)) (x, ⟨r, false⟩))
    (c : UInt8) (hc : c.toNat = 93 ∨ c.toNat = 125) (r : Bs) (hl : (cY_ (FEnc d) j j.list.length ++ c :: r).length ≤ 1000000000000) :
    Ev (fun n _ => af_ n ⟨cY_ (FEnc d) j j.list.length ++ c :: r, false⟩ j.kind [c] ((d + 1 : Nat) : Int)) (aa_.mk j.kind 0 [] j.list j.names, ⟨r, false⟩) := by
  have hW : W (((d + 1 : Nat) : Int) - 1) = (d : Int) := by rw [W_id (by omega) (by omega)]; omega
  have hll := df_ h
  have hnl := dT_ h
  have hT : dd_ ⟨c :: r, false⟩ [c] = (true, ⟨r, false⟩) := d5_ [c] r
  have hWa : iD_ ⟨c :: r, false⟩ [c] = ⟨r, false⟩ := hH_ [c] r
  have ho := (cU_ h).1
  have ho2 := dy_ (dl_ h)
  rw [iF_] at hl ⊢
  refine aS_ ?_
  cases hm : j.list.length with
  | zero =>
    have e1 : j.list = [] := List.eq_nil_of_length_eq_zero hm
    have e2 : j.names = [] := by
      rcases hk with hk | hk
      · exact ho2.ns0 (by omega)
      · exact List.eq_nil_of_length_eq_zero (by rw [(ho.obj hk).1, hm])
    simp only [af_, dB_, cR_, List.nil_append, hT, cond_true, an_, e1, e2]
  | succ m =>
    obtain ⟨a, p0, ep, hp1, hp2, hp3⟩ := js_ h (i := 0) (by omega)
    have e0 : cR_ (FEnc d) j (m + 1) 0 = cP_ (FEnc d) j 0 ++ cR_ (FEnc d) j m 1 := by rw [cR_, if_pos rfl]; rfl
    have hac : a ≠ c := fun e => by subst e; omega
    have e3 : cP_ (FEnc d) j 0 ++ cR_ (FEnc d) j m 1 ++ c :: r = a :: (p0 ++ cR_ (FEnc d) j m 1 ++ c :: r) := by rw [ep]; rfl
    have e4 : dd_ ⟨cP_ (FEnc d) j 0 ++ cR_ (FEnc d) j m 1 ++ c :: r, false⟩ [c] = (false, ⟨cP_ (FEnc d) j 0 ++ cR_ (FEnc d) j m 1 ++ c :: r, false⟩) := by rw [e3]; exact ct_ hac [] _ false
    simp only [af_, dB_, e0, e4, cond_false]
    rw [hm, e0] at hl
    have key : ∀ (K : Nat → af_.K7_1) (F : aa_ × aC_), Ev (fun n _ => K n [c] (c :: r) false 0 0 [] j.kind 0 [] j.list j.names) F →
        ∀ k i, i + 1 + k = j.list.length → (cP_ (FEnc d) j i ++ cR_ (FEnc d) j k (i + 1) ++ c :: r).length ≤ 1000000000000 →
        Ev (fun n N => af_.loop7 n (aF_ n) (K n) N j.kind [c] ((d + 1 : Nat) : Int) true (cP_ (FEnc d) j i ++ cR_ (FEnc d) j k (i + 1) ++ c :: r) false 0 0 [] j.kind 0 [] (j.list.take i) (j.names.take i)) F := by
      intro K F hK k
      induction k with
      | zero =>
        intro i hi hlen
        have hp := dF_ h (i := i) (by omega)
        have hx := ih _ hp.size (c :: r) (hS_ (lE_ (kind := 0) hc))
        have hcm : dd_ ⟨c :: r, false⟩ [44] = (false, ⟨c :: r, false⟩) := ct_ (by intro e; subst e; revert hc; decide) [] _ false
        have hlast : ∀ F, Ev (fun n _ => K n [c] (c :: r) false 0 0 [] j.kind 0 [] j.list j.names) F → Ev (fun n N => af_.loop7 n (aF_ n) (K n) N j.kind [c] ((d + 1 : Nat) : Int) false (c :: r) false 0 0 [] j.kind 0 [] j.list j.names) F := fun F hF => bv_ (by
          simp only [af_.turn7, af_.step7, cond_false]; exact hF)
        have el : j.list.take i ++ [j.list.getD i aa_.dflt] = j.list := by rw [← cA_ aa_.dflt (by omega)]; exact List.take_of_length_le (by omega)
        refine bv_ ?_
        simp only [cR_, List.append_nil]
        simp only [cR_, List.append_nil] at hlen
        rcases hk with hk | hk
        · have h5 : (j.kind == 5) = false := by rw [hk]; rfl
          have en : j.names = [] := ho2.ns0 (by omega)
          unfold cP_ at hlen ⊢
          rw [h5, cond_false] at hlen ⊢
          simp only [af_.turn7, af_.step7, br_, hW, h5, Bool.not_false, cond_true, cond_false, ae_ (hx hlen), cf_, dB_, hcm, el, en, List.take_nil]
          refine ⟨by simp; omega, ?_⟩
          have := hlast F hK
          rw [en] at this
          exact this
        · have h5 : (j.kind == 5) = true := by rw [hk]; rfl
          obtain ⟨o1, o2⟩ := ho.obj hk
          have en : j.names.take i ++ [j.names.getD i []] = j.names := by rw [← cA_ [] (by omega)]; exact List.take_of_length_le (by omega)
          unfold cP_ at hlen ⊢
          rw [h5, cond_true] at hlen ⊢
          simp only [List.append_assoc] at hlen ⊢
          have hq := g7_ hlen
          simp only [List.length_append] at hlen
          have hx := hx (by simp only [List.length_append]; simp at hlen ⊢; omega)
          simp only [af_.turn7, af_.step7, br_, hW, h5, Bool.not_false, cond_true, cond_false, ae_ hq, lX_, hH_, ae_ hx, cf_, dB_, hcm, el, en]
          exact ⟨by simp; omega, by simp; omega, hlast F hK⟩
      | succ k ihk =>
        intro i hi hlen
        have hp := dF_ h (i := i) (by omega)
        have hx := ih _ hp.size (cR_ (FEnc d) j (k + 1) (i + 1) ++ c :: r) (km_ _ _ _ _ (lE_ (kind := 0) hc) r)
        have e5 : cR_ (FEnc d) j (k + 1) (i + 1) ++ c :: r = [44] ++ (cP_ (FEnc d) j (i + 1) ++ cR_ (FEnc d) j k (i + 2) ++ c :: r) := by rw [k2_]; simp
        have hcm : dd_ ⟨cR_ (FEnc d) j (k + 1) (i + 1) ++ c :: r, false⟩ [44] = (true, ⟨cP_ (FEnc d) j (i + 1) ++ cR_ (FEnc d) j k (i + 2) ++ c :: r, false⟩) := by rw [e5]; exact d5_ _ _
        have hlen2 : (cP_ (FEnc d) j (i + 1) ++ cR_ (FEnc d) j k (i + 2) ++ c :: r).length ≤ 1000000000000 := by
          have := congrArg List.length e5
          simp only [List.length_append, List.length_cons, List.length_nil] at this hlen ⊢
          omega
        have hnext := ihk (i + 1) (by omega) hlen2
        rw [cA_ aa_.dflt (show i < j.list.length by omega)] at hnext
        refine bv_ ?_
        rw [List.append_assoc] at hlen ⊢
        generalize cR_ (FEnc d) j (k + 1) (i + 1) ++ c :: r = T at hx hcm hlen ⊢
        rcases hk with hk | hk
        · have h5 : (j.kind == 5) = false := by rw [hk]; rfl
          have en : j.names = [] := ho2.ns0 (by omega)
          have ef : cP_ (FEnc d) j i = FEnc d (j.list.getD i aa_.dflt) := by unfold cP_; rw [h5]; rfl
          rw [ef] at hlen ⊢
          rw [en, List.take_nil] at hnext
          simp only [af_.turn7, af_.step7, br_, hW, h5, Bool.not_false, cond_true, cond_false, ae_ (hx hlen), cf_, dB_, hcm, en, List.take_nil]
          exact ⟨by simp; omega, hnext⟩
        · have h5 : (j.kind == 5) = true := by rw [hk]; rfl
          obtain ⟨o1, o2⟩ := ho.obj hk
          rw [cA_ [] (show i < j.names.length by omega)] at hnext
          have ef : cP_ (FEnc d) j i = cD_ (j.names.getD i []) ++ ([58] ++ FEnc d (j.list.getD i aa_.dflt)) := by unfold cP_; rw [h5]; rfl
          rw [ef] at hlen ⊢
          simp only [List.append_assoc] at hlen ⊢
          have hq := g7_ hlen
          have hx := hx (by simp only [List.length_append] at hlen ⊢; simp at hlen ⊢; omega)
          simp only [af_.turn7, af_.step7, br_, hW, h5, Bool.not_false, cond_true, cond_false, ae_ hq, lX_, hH_, ae_ hx, cf_, dB_, hcm]
          exact ⟨by simp; omega, by simp; omega, hnext⟩
    have := key (fun n => fun xy8 xy9 xy10 xy11 xy12 xy13 xy14 xy15 xy16 xy17 xy18 => ((bd_ n (aC_.mk xy9 xy10) xy8).bind fun xr19 => (some ((aa_.mk xy14 xy15 xy16 xy17 xy18), xr19)))) (aa_.mk j.kind 0 [] j.list j.names, ⟨r, false⟩) (by simp only [lX_, hWa, an_]) m 0 (by omega) hl
    exact cE_ (f := fun n N => af_.loop7 n (aF_ n) (fun xy8 xy9 xy10 xy11 xy12 xy13 xy14 xy15 xy16 xy17 xy18 => ((bd_ n (aC_.mk xy9 xy10) xy8).bind fun xr19 => (some ((aa_.mk xy14 xy15 xy16 xy17 xy18), xr19)))) N j.kind [c] ((d + 1 : Nat) : Int) true (cP_ (FEnc d) j 0 ++ cR_ (FEnc d) j m 1 ++ c :: r) false 0 0 [] j.kind 0 [] [] []) this
theorem jR_ {d : Nat} {j : aa_} (h : bw_ (d + 1) j ≤ 400) (hk : j.kind = 4 ∨ j.kind = 5) : aa_.mk j.kind 0 [] j.list j.names = j := by
  have ho2 := dy_ (dl_ h)
  have e1 := ho2.n0 (by omega) (by omega)
  have e2 := ho2.s0 (by omega)
  obtain ⟨k, n, s, l, ns⟩ := j
  simp only at e1 e2 ⊢
  subst e1 e2; rfl
theorem kf_ : ∀ (d : Nat), d ≤ 1000 → ∀ j, bw_ d j ≤ 400 → ∀ r, Stop r → (FEnc d j ++ r).length ≤ 1000000000000 → Ev (fun n _ => aF_ n ⟨FEnc d j ++ r, false⟩ (d : Int)) (j, ⟨r, false⟩)
  | 0, _, j, h, r, _, _ => by simp only [bw_] at h; omega
  | d + 1, hd, j, h, r, hs, hl => by
    have ih := kf_ d (by omega)
    have ho := (cU_ h).1
    have ho2 := dy_ (dl_ h)
    have hd1 : decide (((d + 1 : Nat) : Int) < 1) = false := decide_eq_false (by omega)
    refine aS_ ?_
    simp only [aF_, br_, hd1, cond_false, dB_, ae_ eX_]
    rcases ho.kind with hk | hk | hk | hk | hk | hk
    · have e : FEnc (d + 1) j = [110, 117, 108, 108] := by simp only [FEnc, hk, Int.reduceBEq, cond_true]
      have ej : j = aa_.mk 0 0 [] [] [] := by
        have e1 := ho2.n0 (by omega) (by omega)
        have e2 := ho2.s0 (by omega)
        have e3 := ho.list (by omega) (by omega)
        have e4 := ho2.ns0 (by omega)
        obtain ⟨k, n, s, l, ns⟩ := j
        simp only at e1 e2 e3 e4 hk
        subst e1 e2 e3 e4 hk; rfl
      rw [e]
      simp only [d5_, cond_true, an_]
      rw [ej]
    · have hb := ho.bool hk
      have e2 := ho2.s0 (by omega)
      have e3 := ho.list (by omega) (by omega)
      have e4 := ho2.ns0 (by omega)
      obtain ⟨k, n, s, l, ns⟩ := j
      simp only at e2 e3 e4 hk hb
      subst e2 e3 e4 hk
      have : n = 0 ∨ n = 1 := by omega
      rcases this with rfl | rfl
      · have e : FEnc (d + 1) (aa_.mk 1 0 [] [] []) ++ r = 102 :: ([97, 108, 115, 101] ++ r) := rfl
        have e5 : dd_ ⟨102 :: ([97, 108, 115, 101] ++ r), false⟩ [102, 97, 108, 115, 101] = (true, ⟨r, false⟩) := d5_ [102, 97, 108, 115, 101] r
        rw [e]
        simp only [dB_, ae_ eX_, ct_ (show (102 : UInt8) ≠ 110 by decide), e5, cond_false, cond_true, an_]
      · have e : FEnc (d + 1) (aa_.mk 1 1 [] [] []) ++ r = 116 :: ([114, 117, 101] ++ r) := rfl
        have e5 : dd_ ⟨116 :: ([114, 117, 101] ++ r), false⟩ [116, 114, 117, 101] = (true, ⟨r, false⟩) := d5_ [116, 114, 117, 101] r
        rw [e]
        simp only [dB_, ae_ eX_, ct_ (show (116 : UInt8) ≠ 110 by decide), ct_ (show (116 : UInt8) ≠ 102 by decide), e5, cond_false, cond_true, an_]
    · have hn := ho.num hk
      have e : FEnc (d + 1) j = Lib.itoa j.n_ := by simp only [FEnc, hk, Int.reduceBEq, cond_true, cond_false]
      rw [e] at hl ⊢
      have hN := m1_ hn.1 hn.2 hs hl
      have ej : aa_.mk 2 j.n_ [] [] [] = j := by
        have e2 := ho2.s0 (by omega)
        have e3 := ho.list (by omega) (by omega)
        have e4 := ho2.ns0 (by omega)
        obtain ⟨k, n, s, l, ns⟩ := j
        simp only at e2 e3 e4 hk
        subst e2 e3 e4 hk; rfl
      rw [ej] at hN
      obtain ⟨c, t, ec, hc⟩ := fp_ j.n_
      rw [ec] at hN ⊢
      have ne : ∀ x : UInt8, (x.toNat < 45 ∨ x.toNat = 46 ∨ 57 < x.toNat) → c ≠ x := by
        rintro x hx rfl
        rcases hc with rfl | hc
        · revert hx; decide
        · unfold dH_ at hc; omega
      rw [List.cons_append] at hN ⊢
      simp only [dB_, ae_ eX_, ct_ (ne 110 (by decide)), ct_ (ne 102 (by decide)), ct_ (ne 116 (by decide)), ct_ (ne 91 (by decide)), ct_ (ne 123 (by decide)), kA_ (ne 34 (by decide)), cond_false, ae_ hN, an_]
    · have ht := ho2.text hk
      have e : FEnc (d + 1) j = cD_ j.s := by simp only [FEnc, hk, Int.reduceBEq, cond_true, cond_false]
      rw [e] at hl ⊢
      have hq := g7_ hl
      have ej : aa_.mk 3 0 j.s [] [] = j := by
        have e2 := ho2.n0 (by omega) (by omega)
        have e3 := ho.list (by omega) (by omega)
        have e4 := ho2.ns0 (by omega)
        obtain ⟨k, n, s, l, ns⟩ := j
        simp only at e2 e3 e4 hk
        subst e2 e3 e4 hk; rfl
      have ec : cD_ j.s ++ r = 34 :: (j.s.flatMap dR_ ++ [34] ++ r) := by simp [cD_]
      rw [ec] at hq ⊢
      have hpx : pfx [34] (34 :: (j.s.flatMap dR_ ++ [34] ++ r)) = true := gc_ [34] _
      simp only [dB_, ae_ eX_, ct_ (show (34 : UInt8) ≠ 110 by decide), ct_ (show (34 : UInt8) ≠ 102 by decide), ct_ (show (34 : UInt8) ≠ 116 by decide), hpx, cond_false, cond_true, ae_ hq, an_, ej]
    · have e : FEnc (d + 1) j = [91] ++ cY_ (FEnc d) j j.list.length ++ [93] := by simp only [FEnc, hk, Int.reduceBEq, cond_true, cond_false]
      have e1 : FEnc (d + 1) j ++ r = 91 :: (cY_ (FEnc d) j j.list.length ++ 93 :: r) := by rw [e]; simp
      rw [e1] at hl ⊢
      have hP := kB_ (by omega) h (.inl hk) ih 93 (.inl rfl) r (by simp only [List.length_cons] at hl; omega)
      rw [jR_ h (.inl hk), hk] at hP
      have e5 : dd_ ⟨91 :: (cY_ (FEnc d) j j.list.length ++ 93 :: r), false⟩ [91] = (true, ⟨cY_ (FEnc d) j j.list.length ++ 93 :: r, false⟩) := d5_ [91] _
      simp only [dB_, ae_ eX_, ct_ (show (91 : UInt8) ≠ 110 by decide), ct_ (show (91 : UInt8) ≠ 102 by decide), ct_ (show (91 : UInt8) ≠ 116 by decide), kA_ (show (91 : UInt8) ≠ 34 by decide), e5, cond_false, cond_true, ae_ hP, an_]
    · have e : FEnc (d + 1) j = [123] ++ cY_ (FEnc d) j j.list.length ++ [125] := by simp only [FEnc, hk, Int.reduceBEq, cond_true, cond_false]
      have e1 : FEnc (d + 1) j ++ r = 123 :: (cY_ (FEnc d) j j.list.length ++ 125 :: r) := by rw [e]; simp
      rw [e1] at hl ⊢
      have hP := kB_ (by omega) h (.inr hk) ih 125 (.inr rfl) r (by simp only [List.length_cons] at hl; omega)
      rw [jR_ h (.inr hk), hk] at hP
      have e5 : dd_ ⟨123 :: (cY_ (FEnc d) j j.list.length ++ 125 :: r), false⟩ [123] = (true, ⟨cY_ (FEnc d) j j.list.length ++ 125 :: r, false⟩) := d5_ [123] _
      simp only [dB_, ae_ eX_, ct_ (show (123 : UInt8) ≠ 110 by decide), ct_ (show (123 : UInt8) ≠ 102 by decide), ct_ (show (123 : UInt8) ≠ 116 by decide), ct_ (show (123 : UInt8) ≠ 91 by decide), kA_ (show (123 : UInt8) ≠ 34 by decide), e5, cond_false, cond_true, ae_ hP, an_]
end Go.Pi
end
section
set_option linter.unusedVariables false
set_option maxRecDepth 100000
set_option linter.unusedSimpArgs false
namespace Go.Pi
abbrev gR_ : Nat := 1048576
structure At (s : Bs) (p : Nat) (x : Bs) : Prop where
  le : p ≤ s.length
  eq : s.drop p = x
theorem At.next {s a b : Bs} {p : Nat} (h : At s p (a ++ b)) : At s (p + a.length) b := by
  have h1 := congrArg List.length h.eq
  simp only [List.length_drop, List.length_append] at h1
  have h2 := h.le
  exact ⟨by omega, by rw [← List.drop_drop, h.eq, List.drop_left]⟩
theorem At.next1 {s t : Bs} {c : UInt8} {p : Nat} (h : At s p (c :: t)) : At s (p + 1) t := At.next (a := [c]) h
theorem At.lt {s t : Bs} {c : UInt8} {p : Nat} (h : At s p (c :: t)) : p < s.length ∧ s.getD p 0 = c := by
  have h1 := congrArg List.length h.eq
  simp only [List.length_drop, List.length_cons] at h1
  have hp : p < s.length := by omega
  refine ⟨hp, ?_⟩
  have := eg_ 0 hp
  rw [h.eq] at this
  exact (List.cons.inj this).1.symm
theorem At.end_ {s : Bs} {p : Nat} (h : At s p []) : p = s.length := by
  have h1 := congrArg List.length h.eq
  simp only [List.length_drop, List.length_nil] at h1
  have := h.le; omega
def fH_ (s : Bs) (p : Nat) : Int := cond (decide (p < s.length)) ((s.getD p 0).toNat : Int) 0
theorem c6_ {s : Bs} {p : Nat} {ok : Bool} {left : Int} : Ev (fun n _ => bG_ n ⟨s, (p : Int), ok, left⟩) (fH_ s p, ⟨s, (p : Int), ok, left⟩) := by
  refine aS_ ?_
  simp only [bG_, aM_, bT_, an_, Int.toNat_natCast, fH_]
  by_cases h : p < s.length
  · rw [decide_eq_true h]
    exact ⟨fun hc => by have := of_decide_eq_true hc; omega, fun _ => ⟨by omega, rfl⟩⟩
  · rw [decide_eq_false h]
    exact ⟨fun _ => rfl, fun hc => by have := of_decide_eq_false hc; omega⟩
theorem c7_ {s t : Bs} {c : UInt8} {p : Nat} (h : At s p (c :: t)) : fH_ s p = (c.toNat : Int) := by
  obtain ⟨h1, h2⟩ := h.lt
  unfold fH_; rw [decide_eq_true h1, h2]; rfl
theorem peek_end {s : Bs} {p : Nat} (h : At s p []) : fH_ s p = 0 := by
  unfold fH_; rw [decide_eq_false (by have := h.end_; omega)]; rfl
theorem jG_ {s : Bs} {p : Nat} (h : fH_ s p ≠ 0) : p < s.length := by
  unfold fH_ at h
  by_cases hp : p < s.length
  · exact hp
  · rw [decide_eq_false hp] at h; exact absurd rfl h
def FTk (s : Bs) (p : Nat) (ok : Bool) (left : Int) (w : Bs) : a3_ := cond (pfx w (s.drop p)) ⟨s, ((p + w.length : Nat) : Int), ok, left⟩ ⟨s, (p : Int), false, left⟩
theorem gp_ {s w : Bs} {p : Nat} {ok : Bool} {left : Int} (hs : s.length ≤ gR_) (hw : w.length ≤ 100) (hp : p ≤ s.length) : Ev (fun n _ => bj_ n ⟨s, (p : Int), ok, left⟩ w) (FTk s p ok left w) := by
  refine aS_ ?_
  simp only [gR_] at hs
  have e1 : W ((s.length : Int) - (p : Int)) = (s.length : Int) - p := W_id (by omega) (by omega)
  have e2 : W ((p : Int) + (w.length : Int)) = ((p + w.length : Nat) : Int) := by rw [W_id (by omega) (by omega)]; omega
  simp only [bj_, e1, e2, aM_, dI_, an_, Int.toNat_natCast, FTk]
  have e3 : pfx w (s.drop p) = (((s.take (p + w.length)).drop p) == w) := by
    rw [hI_, List.drop_zero, List.drop_take, show p + w.length - p = w.length by omega]
  refine ⟨fun h => ?_, fun h => ?_⟩
  · have h := of_decide_eq_true h
    cases e : pfx w (s.drop p) with
    | false => rfl
    | true => have := gb_ e; simp only [List.length_drop] at this; omega
  · have h := of_decide_eq_false h
    refine ⟨by omega, ?_⟩
    rw [e3]
    cases ((s.take (p + w.length)).drop p == w) <;> simp
theorem ki_ {s w t : Bs} {p : Nat} {ok : Bool} {left : Int} (h : At s p (w ++ t)) : FTk s p ok left w = ⟨s, ((p + w.length : Nat) : Int), ok, left⟩ := by
  unfold FTk; rw [h.eq, gc_]; rfl
theorem g1_ {s w : Bs} {p : Nat} {ok : Bool} {left : Int} (hp : p ≤ s.length) : ∃ p' ok', FTk s p ok left w = ⟨s, ((p' : Nat) : Int), ok', left⟩ ∧ p ≤ p' ∧ p' ≤ s.length ∧ (ok' = true → ok = true) := by
  unfold FTk
  cases e : pfx w (s.drop p) with
  | false => exact ⟨p, false, rfl, by omega, hp, fun h => (by cases h)⟩
  | true => have := gb_ e; simp only [List.length_drop] at this; exact ⟨p + w.length, ok, rfl, by omega, by omega, id⟩
theorem hq_ {s : Bs} {p : Nat} {ok : Bool} {left : Int} (hs : s.length ≤ gR_) (hp : p ≤ s.length) :
    Ans (fun n _ => ay_ n ⟨s, (p : Int), ok, left⟩) fun x => ∃ p' ok', x.2 = ⟨s, ((p' : Nat) : Int), ok', left⟩ ∧ p' ≤ s.length ∧ x.1.length ≤ gR_ ∧ (ok' = true → ok = true) := by
  refine cS_ ?_
  simp only [ay_, bI_ (gp_ (w := [34]) hs (by simp) hp)]
  obtain ⟨p0, ok0, e0, _, hp0, hk0⟩ := g1_ (w := [34]) (ok := ok) (left := left) hp
  rw [e0]
  have hs' := hs
  simp only [gR_] at hs
  have key : ∀ (K : Nat → ay_.K4) (Q : Bs × a3_ → Prop), (∀ (q : Nat) b o, q ≤ s.length → o.length ≤ gR_ → (b = true → ok0 = true) → Ans (fun n _ => K n s (q : Int) b left o) Q) → Ans (fun n _ => ay_.loop4 n (K n) n s (p0 : Int) ok0 left []) Q := by
    intro K Q hK
    refine eu_ (σ := Nat × Bool × List Int) (fun n N st => ay_.loop4 n (K n) N s (st.1 : Int) st.2.1 left st.2.2) (fun st => s.length - st.1) (fun st => st.1 ≤ s.length ∧ st.2.2.length ≤ st.1 ∧ (st.2.1 = true → ok0 = true)) _ (fun st hI ih => ?_) (p0, ok0, []) ⟨hp0, Nat.zero_le _, id⟩
    obtain ⟨q, b, o⟩ := st
    simp only at hI ih ⊢
    have hend := hK q b o hI.1 (by simp only [gR_]; omega) hI.2.2
    have hW : W ((q : Int) + 1) = ((q + 1 : Nat) : Int) := by rw [W_id (by omega) (by omega)]; omega
    have hW2 : W (((q + 1 : Nat) : Int) + 1) = ((q + 1 + 1 : Nat) : Int) := by rw [W_id (by omega) (by omega)]; omega
    simp only [ay_.turn4, ay_.step4, cp_, bI_ c6_, hW, hW2, hk_, ek_, Int.toNat_natCast]
    refine ⟨fun hb => ⟨fun _ => ⟨fun h92 => ?_, fun _ => ⟨fun hc => hK q false o hI.1 (by simp only [gR_]; omega) (fun h => (by cases h)), fun hc => ?_⟩⟩, fun _ => hend⟩, fun _ => hend⟩
    · have hlt : q < s.length := jG_ (fun e => by rw [e] at h92; revert h92; decide)
      refine ⟨fun hc => hK (q + 1) false o (by omega) (by simp only [gR_]; omega) (fun h => (by cases h)), fun hc => ?_⟩
      have hc := of_decide_eq_false hc
      exact ⟨by omega, by simp; omega, ih (q + 1 + 1, b, _) ⟨by simp only; omega, by simp; omega, hI.2.2⟩ (by simp only; omega)⟩
    · have hc := of_decide_eq_false hc
      exact ⟨by omega, by simp; omega, ih (q + 1, b, _) ⟨by simp only; omega, by simp; omega, hI.2.2⟩ (by simp only; omega)⟩
  refine key _ _ fun q b o hq ho hb => ?_
  simp only [bI_ (gp_ (w := [34]) hs' (by simp) hq), ch_]
  obtain ⟨p1, ok1, e1, h2, h3, h4⟩ := g1_ (w := [34]) (ok := b) (left := left) hq
  exact ⟨p1, ok1, e1, h3, by simpa using ho, fun h => hk0 (hb (h4 h))⟩
theorem hp_ {s t r : Bs} {p : Nat} {left : Int} (hs : s.length ≤ gR_) (h : At s p (cD_ t ++ r)) :
    Ev (fun n _ => ay_ n ⟨s, (p : Int), true, left⟩) (t, ⟨s, ((p + (cD_ t).length : Nat) : Int), true, left⟩) := by
  have e : cD_ t ++ r = [34] ++ (t.flatMap dR_ ++ 34 :: r) := by simp [cD_]
  have eq : (cD_ t).length = 1 + (t.flatMap dR_).length + 1 := by simp [cD_]; omega
  rw [e] at h
  have h1 : At s (p + 1) (t.flatMap dR_ ++ 34 :: r) := h.next
  refine aS_ ?_
  simp only [ay_, ae_ (gp_ (w := [34]) hs (by simp) h.le), ki_ h]
  have hs' := hs
  simp only [gR_] at hs
  have key : ∀ (K : Nat → ay_.K4) (F : Bs × a3_), Ev (fun n _ => K n s ((p + 1 + (t.flatMap dR_).length : Nat) : Int) true left (bi t)) F →
      ∀ (u v : Bs) (q : Nat), v ++ u = t → q = p + 1 + (v.flatMap dR_).length → At s q (u.flatMap dR_ ++ 34 :: r) → Ev (fun n N => ay_.loop4 n (K n) N s (q : Int) true left (bi v)) F := by
    intro K F hK u
    induction u with
    | nil =>
      intro v q hv hq ha
      rw [List.append_nil] at hv
      subst hv hq
      refine bv_ ?_
      have ha : At s (p + 1 + (v.flatMap dR_).length) (34 :: r) := ha
      simp only [ay_.turn4, ay_.step4, cond_true, ae_ c6_, c7_ ha]
      exact hK
    | cons c u ih =>
      intro v q hv hq ha
      have hnext := ih (v ++ [c]) (q + (dR_ c).length) (by rw [← hv]; simp) (by rw [hq]; simp; omega) (by
        rw [List.flatMap_cons, List.append_assoc] at ha; exact ha.next)
      rw [← j3_] at hnext
      have hvl : v.length ≤ (v.flatMap dR_).length := by
        clear hv hq hnext
        induction v with
        | nil => exact Nat.le_refl _
        | cons c v ih => rw [List.flatMap_cons, List.length_append, List.length_cons]; have : 1 ≤ (dR_ c).length := by unfold dR_; split <;> simp
                         omega
      have hbl := hy_ v
      rw [List.flatMap_cons, List.append_assoc] at ha
      generalize bi v = o at hnext hbl ⊢
      refine bv_ ?_
      by_cases hc : c = 34 ∨ c = 92
      · have e1 : dR_ c = [92, c] := if_pos hc
        rw [e1] at ha hnext
        have ha : At s q (92 :: c :: (u.flatMap dR_ ++ 34 :: r)) := ha
        have hl := ha.next1.lt
        have hW : W ((q : Int) + 1) = ((q + 1 : Nat) : Int) := by rw [W_id (by omega) (by omega)]; omega
        have hW2 : W (((q + 1 : Nat) : Int) + 1) = ((q + 1 + 1 : Nat) : Int) := by rw [W_id (by omega) (by omega)]; omega
        have hge : decide (((q + 1 : Nat) : Int) ≥ (s.length : Int)) = false := decide_eq_false (by omega)
        have hp1 : (((92 : UInt8).toNat : Int) != 34) = true := rfl
        have hp2 : (((92 : UInt8).toNat : Int) == 92) = true := rfl
        simp only [ay_.turn4, ay_.step4, cond_true, cond_false, ae_ c6_, c7_ ha, hp1, hp2, hW, hW2, hge, bT_, cf_, Int.toNat_natCast, hl.2]
        exact ⟨by omega, by simp; omega, hnext⟩
      · have e1 : dR_ c = [c] := if_neg hc
        rw [e1] at ha hnext
        have ha : At s q (c :: (u.flatMap dR_ ++ 34 :: r)) := ha
        have hl := ha.lt
        have hW : W ((q : Int) + 1) = ((q + 1 : Nat) : Int) := by rw [W_id (by omega) (by omega)]; omega
        have hge : decide ((q : Int) ≥ (s.length : Int)) = false := decide_eq_false (by omega)
        have hp1 : ((c.toNat : Int) != 34) = true := by
          show (!((c.toNat : Int) == 34)) = true
          rw [byte34, decide_eq_false fun e => hc (.inl e)]; rfl
        have hp2 : ((c.toNat : Int) == 92) = false := by rw [byte92, decide_eq_false fun e => hc (.inr e)]
        simp only [ay_.turn4, ay_.step4, cond_true, cond_false, ae_ c6_, c7_ ha, hp1, hp2, hW, hge, bT_, cf_, Int.toNat_natCast, hl.2]
        exact ⟨by omega, by simp; omega, hnext⟩
  have h2 : At s (p + 1 + (t.flatMap dR_).length) (34 :: r) := h1.next
  have := key (fun n => fun xy4 xy5 xy6 xy7 xy8 => ((bj_ n (a3_.mk xy4 xy5 xy6 xy7) [34]).bind fun xr9 => (some ((eN_ xy8), xr9)))) (t, ⟨s, ((p + (cD_ t).length : Nat) : Int), true, left⟩) (by
    simp only [ae_ (gp_ (w := [34]) hs' (by simp) h2.le), ki_ (w := [34]) h2, an_, g0_]
    show (t, a3_.mk s ((p + 1 + (t.flatMap dR_).length + 1 : Nat) : Int) true left) = _
    rw [show p + 1 + (t.flatMap dR_).length + 1 = p + (cD_ t).length by omega]) t [] (p + 1) rfl rfl h1
  exact cE_ (f := fun n N => ay_.loop4 n (fun xy4 xy5 xy6 xy7 xy8 => ((bj_ n (a3_.mk xy4 xy5 xy6 xy7) [34]).bind fun xr9 => (some ((eN_ xy8), xr9)))) N s ((p + 1 : Nat) : Int) true left []) this
theorem hs_ {s : Bs} {p : Nat} {ok : Bool} {left : Int} (hs : s.length ≤ gR_) (hp : p ≤ s.length) :
    Ans (fun n _ => ax_ n ⟨s, (p : Int), ok, left⟩) fun x => ∃ p' ok', x.2 = ⟨s, ((p' : Nat) : Int), ok', left⟩ ∧ p' ≤ s.length ∧ (ok' = true → ok = true) ∧ -9223372036854775808 ≤ x.1 ∧ x.1 ≤ 9223372036854775807 := by
  have hWr : ∀ x : Int, -9223372036854775808 ≤ W x ∧ W x ≤ 9223372036854775807 := by
    intro x
    show -9223372036854775808 ≤ IntKind.i64.wrap x ∧ IntKind.i64.wrap x ≤ 9223372036854775807
    rw [IntKind.wrap_i64]; omega
  simp only [gR_] at hs
  have key : ∀ (K : Nat → ax_.K7) (Q : Int × a3_ → Prop) (t3 : Bool) (t4 : Int) (p0 : Nat), p0 ≤ s.length → (∀ (q : Nat) (x : Int), q ≤ s.length → -9223372036854775808 ≤ x → x ≤ 9223372036854775807 → Ans (fun n _ => K n t3 t4 x s (q : Int) ok left) Q) → Ans (fun n _ => ax_.loop7 n (K n) n t3 t4 0 s (p0 : Int) ok left) Q := by
    intro K Q t3 t4 p0 hp0 hK
    refine eu_ (σ := Nat × Int) (fun n N st => ax_.loop7 n (K n) N t3 t4 st.2 s (st.1 : Int) ok left) (fun st => s.length - st.1) (fun st => st.1 ≤ s.length ∧ -9223372036854775808 ≤ st.2 ∧ st.2 ≤ 9223372036854775807) _ (fun st hI ih => ?_) (p0, 0) ⟨hp0, by simp, by simp⟩
    obtain ⟨q, x⟩ := st
    simp only at hI ih ⊢
    have hend := hK q x hI.1 hI.2.1 hI.2.2
    have hW : W ((q : Int) + 1) = ((q + 1 : Nat) : Int) := by rw [W_id (by omega) (by omega)]; omega
    simp only [ax_.turn7, ax_.step7, cp_, bI_ c6_, hW]
    refine ⟨fun h48 => ⟨fun _ => ⟨fun _ => ?_, fun _ => hend⟩, fun _ => hend⟩, fun _ => hend⟩
    have h48 := of_decide_eq_true h48
    have hlt : q < s.length := jG_ (fun e => by omega)
    exact ih (q + 1, _) ⟨by simp only; omega, hWr _⟩ (by simp only; omega)
  refine cS_ ?_
  simp only [ax_, bI_ c6_, cp_]
  refine ⟨fun h45 => ?_, fun _ => ?_⟩
  · have hlt : p < s.length := jG_ (fun e => by rw [e] at h45; revert h45; decide)
    have hW : W ((p : Int) + 1) = ((p + 1 : Nat) : Int) := by rw [W_id (by omega) (by omega)]; omega
    rw [hW]
    refine key _ _ _ _ (p + 1) (by omega) fun q x hq hx0 hx1 => ?_
    simp only [cp_, ch_]
    exact ⟨fun _ => ⟨fun _ => ⟨q, false, rfl, hq, fun h => (by cases h), hWr _⟩, fun _ => ⟨q, false, rfl, hq, fun h => (by cases h), hx0, hx1⟩⟩, fun _ => ⟨fun _ => ⟨q, ok, rfl, hq, id, hWr _⟩, fun _ => ⟨q, ok, rfl, hq, id, hx0, hx1⟩⟩⟩
  · refine key _ _ _ _ p hp fun q x hq hx0 hx1 => ?_
    simp only [cp_, ch_]
    exact ⟨fun _ => ⟨fun _ => ⟨q, false, rfl, hq, fun h => (by cases h), hWr _⟩, fun _ => ⟨q, false, rfl, hq, fun h => (by cases h), hx0, hx1⟩⟩, fun _ => ⟨fun _ => ⟨q, ok, rfl, hq, id, hWr _⟩, fun _ => ⟨q, ok, rfl, hq, id, hx0, hx1⟩⟩⟩
theorem hr_ {s r : Bs} {p : Nat} {left : Int} {n : Int} (hs : s.length ≤ gR_) (h0 : -1000000000 ≤ n) (h1 : n ≤ 1000000000) (hst : Stop r) (h : At s p (Lib.itoa n ++ r)) :
    Ev (fun m _ => ax_ m ⟨s, (p : Int), true, left⟩) (n, ⟨s, ((p + (Lib.itoa n).length : Nat) : Int), true, left⟩) := by
  simp only [gR_] at hs
  have key : ∀ (K : Nat → ax_.K7) (F : Int × a3_) (t3 : Bool) (f : Nat) (D : Bs), (∀ c ∈ D, dH_ c) → ∀ (q x : Nat), f ≤ q → q + D.length ≤ f + 10 → gY_ x D ≤ 1000000000 → At s q (D ++ r) →
      Ev (fun n _ => K n t3 (f : Int) (gY_ x D : Int) s ((q + D.length : Nat) : Int) true left) F → Ev (fun n N => ax_.loop7 n (K n) N t3 (f : Int) (x : Int) s (q : Int) true left) F := by
    intro K F t3 f D
    induction D with
    | nil =>
      intro _ q x hf hl hv ha hK
      refine bv_ ?_
      have hK : Ev (fun n _ => K n t3 (f : Int) (x : Int) s (q : Int) true left) F := hK
      have ha : At s q r := ha
      simp only [ax_.turn7, ax_.step7, ae_ c6_, aM_]
      have hnd : ¬ (48 ≤ fH_ s q ∧ fH_ s q ≤ 57) := by
        cases r with
        | nil => rw [peek_end ha]; omega
        | cons c r => rw [c7_ ha]; have := hst c r rfl; unfold dH_ at this; omega
      exact ⟨fun a => ⟨fun b => absurd ⟨of_decide_eq_true a, of_decide_eq_true b⟩ hnd, fun _ => hK⟩, fun _ => hK⟩
    | cons c D ih =>
      intro hd q x hf hl hv ha hK
      have hc := hd c (List.mem_cons_self ..)
      unfold dH_ at hc
      rw [go_] at hv hK
      have hle := val_le (10 * x + (c.toNat - 48)) D
      have ha : At s q (c :: (D ++ r)) := ha
      have hlt := ha.lt
      simp only [List.length_cons] at hl
      have hn := ih (fun c hc => hd c (List.mem_cons_of_mem _ hc)) (q + 1) (10 * x + (c.toNat - 48)) (by omega) (by omega) hv ha.next1 (by
        rw [show q + 1 + D.length = q + (c :: D).length by simp; omega]; exact hK)
      have hW : W ((q : Int) + 1) = ((q + 1 : Nat) : Int) := by rw [W_id (by omega) (by omega)]; omega
      have hW2 : W ((q : Int) - (f : Int)) = (q : Int) - f := W_id (by omega) (by omega)
      have hW3 : W (10 * (x : Int)) = ((10 * x : Nat) : Int) := by rw [W_id (by omega) (by omega)]; omega
      have hW4 : W (((10 * x : Nat) : Int) + (c.toNat : Int)) = ((10 * x + c.toNat : Nat) : Int) := by rw [W_id (by omega) (by omega)]; omega
      have hW5 : W (((10 * x + c.toNat : Nat) : Int) - 48) = ((10 * x + (c.toNat - 48) : Nat) : Int) := by rw [W_id (by omega) (by omega)]; omega
      refine bv_ ?_
      simp only [ax_.turn7, ax_.step7, ae_ c6_, c7_ ha, mN_, hW, hW2, hW3, hW4, hW5, aM_]
      exact ⟨fun _ => ⟨fun _ => ⟨fun _ => hn, fun hx => by have := of_decide_eq_false hx; omega⟩, fun hx => by have := of_decide_eq_false hx; omega⟩, fun hx => by have := of_decide_eq_false hx; omega⟩
  refine aS_ ?_
  by_cases hn : n < 0
  · have e : Lib.itoa n = 45 :: Lib.decDigits n.natAbs := by unfold Lib.itoa; rw [if_pos hn]
    rw [e] at h ⊢
    have hdp := iq_ n.natAbs
    have hdl := lG_ 9 n.natAbs (by omega)
    have hdd := fB_ n.natAbs
    have hdv := jv_ n.natAbs
    generalize Lib.decDigits n.natAbs = D at h hdp hdl hdd hdv ⊢
    have h : At s p (45 :: (D ++ r)) := h
    have hlt := h.lt
    have hW : W ((p : Int) + 1) = ((p + 1 : Nat) : Int) := by rw [W_id (by omega) (by omega)]; omega
    have hW0 : W (0 - ((n.natAbs : Nat) : Int)) = n := by rw [W_id (by omega) (by omega)]; omega
    have h45 : (((45 : UInt8).toNat : Int) == 45) = true := rfl
    simp only [ax_, ae_ c6_, c7_ h, h45, cond_true, hW]
    have hne : (((p + 1 + D.length : Nat) : Int) == ((p + 1 : Nat) : Int)) = false := beq_eq_false_iff_ne.2 (by omega)
    have := key (fun n => fun xy5 xy6 xy7 xy8 xy9 xy10 xy11 => (cond (xy9 == xy6) (cond xy5 (some ((W (0 - xy7)), (a3_.mk xy8 xy9 false xy11))) (some (xy7, (a3_.mk xy8 xy9 false xy11)))) (cond xy5 (some ((W (0 - xy7)), (a3_.mk xy8 xy9 xy10 xy11))) (some (xy7, (a3_.mk xy8 xy9 xy10 xy11)))))) (n, ⟨s, ((p + (45 :: D).length : Nat) : Int), true, left⟩) true (p + 1) D hdd (p + 1) 0 (Nat.le_refl _) (by omega) (by omega) h.next1 (by
      simp only [hne, cond_false, cond_true, hdv, hW0, an_, List.length_cons]; congr 3; omega)
    exact cE_ (f := fun n N => ax_.loop7 n (fun xy5 xy6 xy7 xy8 xy9 xy10 xy11 => (cond (xy9 == xy6) (cond xy5 (some ((W (0 - xy7)), (a3_.mk xy8 xy9 false xy11))) (some (xy7, (a3_.mk xy8 xy9 false xy11)))) (cond xy5 (some ((W (0 - xy7)), (a3_.mk xy8 xy9 xy10 xy11))) (some (xy7, (a3_.mk xy8 xy9 xy10 xy11)))))) N true ((p + 1 : Nat) : Int) 0 s ((p + 1 : Nat) : Int) true left) this
  · have e : Lib.itoa n = Lib.decDigits n.toNat := by unfold Lib.itoa; rw [if_neg hn]
    rw [e] at h ⊢
    have hdp := iq_ n.toNat
    have hdl := lG_ 9 n.toNat (by omega)
    have hdd := fB_ n.toNat
    have hdv := jv_ n.toNat
    generalize Lib.decDigits n.toNat = D at h hdp hdl hdd hdv ⊢
    have h45 : (fH_ s p == 45) = false := by
      cases D with
      | nil => simp at hdp
      | cons c D =>
        have h : At s p (c :: (D ++ r)) := h
        have hc := hdd c (List.mem_cons_self ..)
        unfold dH_ at hc
        rw [c7_ h]; exact beq_eq_false_iff_ne.2 (by omega)
    have hN : ((n.toNat : Nat) : Int) = n := by omega
    simp only [ax_, ae_ c6_, h45, cond_false]
    have hne : (((p + D.length : Nat) : Int) == (p : Int)) = false := beq_eq_false_iff_ne.2 (by omega)
    have := key (fun n => fun xy12 xy13 xy14 xy15 xy16 xy17 xy18 => (cond (xy16 == xy13) (cond xy12 (some ((W (0 - xy14)), (a3_.mk xy15 xy16 false xy18))) (some (xy14, (a3_.mk xy15 xy16 false xy18)))) (cond xy12 (some ((W (0 - xy14)), (a3_.mk xy15 xy16 xy17 xy18))) (some (xy14, (a3_.mk xy15 xy16 xy17 xy18)))))) (n, ⟨s, ((p + D.length : Nat) : Int), true, left⟩) false p D hdd p 0 (Nat.le_refl _) (by omega) (by omega) h (by
      simp only [hne, cond_false, hdv, hN, an_])
    exact cE_ (f := fun n N => ax_.loop7 n (fun xy12 xy13 xy14 xy15 xy16 xy17 xy18 => (cond (xy16 == xy13) (cond xy12 (some ((W (0 - xy14)), (a3_.mk xy15 xy16 false xy18))) (some (xy14, (a3_.mk xy15 xy16 false xy18)))) (cond xy12 (some ((W (0 - xy14)), (a3_.mk xy15 xy16 xy17 xy18))) (some (xy14, (a3_.mk xy15 xy16 xy17 xy18)))))) N false (p : Int) 0 s (p : Int) true left) this
end Go.Pi
end
section
set_option linter.unusedVariables false
set_option maxRecDepth 100000
set_option linter.unusedSimpArgs false
namespace Go.Pi
def lU_ (s : Bs) (left : Int) (d : Nat) (x : aa_ × a3_) : Prop :=
  ∃ (p' : Nat) (ok' : Bool) (left' : Int), x.2 = ⟨s, (p' : Int), ok', left'⟩ ∧ p' ≤ s.length ∧ -1 ≤ left' ∧ left' < left ∧ (ok' = true → 0 ≤ left') ∧ e8_ d x.1
theorem many_any {s : Bs} (hs : s.length ≤ gR_) {d : Nat} (hd : d ≤ 1000) (ih : ∀ (p : Nat) (ok : Bool) (left : Int), p ≤ s.length → 0 ≤ left → left ≤ 400 → Ans (fun n _ => ba_ n ⟨s, (p : Int), ok, left⟩ (d : Int)) (lU_ s left d))
    (p : Nat) (left : Int) (hp : p < s.length) (h0 : 0 ≤ left) (h1 : left ≤ 400) : Ans (fun n _ => aL_ n ⟨s, (p : Int), true, left⟩ ((d + 1 : Nat) : Int)) (lU_ s (left + 1) (d + 1)) := by
  have hW : W (((d + 1 : Nat) : Int) - 1) = (d : Int) := by rw [W_id (by omega) (by omega)]; omega
  have hs' := hs
  simp only [gR_] at hs
  have hWp : W ((p : Int) + 1) = ((p + 1 : Nat) : Int) := by rw [W_id (by omega) (by omega)]; omega
  have key : ∀ (K : Nat → aL_.K8_1) (Q : aa_ × a3_ → Prop) (kind : Int) (e : UInt8), (∀ (q : Nat) b (l : Int) js ns, q ≤ s.length → -1 ≤ l → l ≤ left → (b = true → 0 ≤ l) → js.length ≤ 402 → (∀ y ∈ js, e8_ d y) → ns.length ≤ 402 → (∀ y ∈ ns, y.length ≤ gR_) → Ans (fun n _ => K n [e] s (q : Int) b l 0 0 [] kind 0 [] js ns) Q) →
      Ans (fun n _ => aL_.loop8 n (ba_ n) (K n) n ((d + 1 : Nat) : Int) [e] s ((p + 1 : Nat) : Int) true left 0 0 [] kind 0 [] [] []) Q := by
    intro K Q kind e hK
    refine eu_ (σ := Nat × Bool × Int × List aa_ × List Bs) (fun n N st => aL_.loop8 n (ba_ n) (K n) N ((d + 1 : Nat) : Int) [e] s (st.1 : Int) st.2.1 st.2.2.1 0 0 [] kind 0 [] st.2.2.2.1 st.2.2.2.2)
      (fun st => (st.2.2.1 + 1).toNat) (fun st => st.1 ≤ s.length ∧ -1 ≤ st.2.2.1 ∧ st.2.2.1 + st.2.2.2.1.length ≤ left ∧ (st.2.1 = true → 0 ≤ st.2.2.1) ∧ (∀ y ∈ st.2.2.2.1, e8_ d y) ∧ st.2.2.2.2.length ≤ st.2.2.2.1.length ∧ (∀ y ∈ st.2.2.2.2, y.length ≤ gR_)) _ (fun st hI ihl => ?_) (p + 1, true, left, [], []) ⟨hp, by simp only; omega, by simp, fun _ => h0, fun y h => (by cases h), Nat.le_refl _, fun y h => (by cases h)⟩
    obtain ⟨q, b, l, js, ns⟩ := st
    simp only at hI ihl ⊢
    obtain ⟨i1, i2, i3, i4, i5, i6, i7⟩ := hI
    have hend := hK q b l js ns i1 i2 (by omega) i4 (by omega) i5 (by omega) i7
    simp only [aL_.turn8, aL_.step8, br_, hW, cp_, bI_ c6_, hk_, List.length_cons, List.length_nil]
    refine ⟨fun hb => ⟨by omega, fun _ => ?_, fun _ => hend⟩, fun _ => hend⟩
    subst hb
    have l0 := i4 rfl
    have step : ∀ (q : Nat) (b : Bool) (ns' : List Bs), q ≤ s.length → ns'.length ≤ js.length + 1 → (∀ y ∈ ns', y.length ≤ gR_) →
        Ans (fun n N => (ba_ n ⟨s, (q : Int), b, l⟩ (d : Int)).bind fun xr6 => ci_ (js.length + (0 + 1)) 80 (aL_.loop8 n (ba_ n) (K n) N ((d + 1 : Nat) : Int) [e] xr6.2.s xr6.2.at_ xr6.2.ok xr6.2.left 0 0 [] kind 0 [] (js ++ [xr6.1]) ns')) Q := by
      intro q b ns' hq hn hnb
      refine cG_ (ih q b l hq l0 (by omega)) fun v hv => ?_
      obtain ⟨j, c⟩ := v
      obtain ⟨p', ok', left', e1, e2, e3, e4, e5, e6⟩ := hv
      simp only at e1 e6
      subst e1
      simp only [ek_]
      refine ⟨by omega, ihl (p', ok', left', js ++ [j], ns') ⟨e2, e3, by simp; omega, e5, ?_, by simpa using hn, hnb⟩ (by simp only; omega)⟩
      intro y hy
      rcases List.mem_append.1 hy with hy | hy
      · exact i5 y hy
      · obtain rfl := List.mem_singleton.1 hy; exact e6
    have named : ∀ (q : Nat) (b : Bool), q ≤ s.length →
        Ans (fun n N => (ay_ n ⟨s, (q : Int), b, l⟩).bind fun xr4 => ci_ (ns.length + (0 + 1)) 16 ((bj_ n xr4.2 [58]).bind fun xr5 => (ba_ n xr5 (d : Int)).bind fun xr6 => ci_ (js.length + (0 + 1)) 80 (aL_.loop8 n (ba_ n) (K n) N ((d + 1 : Nat) : Int) [e] xr6.2.s xr6.2.at_ xr6.2.ok xr6.2.left 0 0 [] kind 0 [] (js ++ [xr6.1]) (ns ++ [xr4.1])))) Q := by
      intro q b hq
      refine cG_ (hq_ (ok := b) (left := l) hs' hq) fun v hv => ?_
      obtain ⟨t, c⟩ := v
      obtain ⟨p', ok', e1, e2, e3, e4⟩ := hv
      simp only at e1 e3
      subst e1
      obtain ⟨p2, ok2, g1, g2, g3, g4⟩ := g1_ (w := [58]) (ok := ok') (left := l) e2
      simp only [ek_, bI_ (gp_ (w := [58]) hs' (by simp) e2), g1]
      refine ⟨by omega, step p2 ok2 (ns ++ [t]) g3 (by simp; omega) fun y hy => ?_⟩
      rcases List.mem_append.1 hy with hy | hy
      · exact i7 y hy
      · obtain rfl := List.mem_singleton.1 hy; exact e3
    refine ⟨fun _ => ?_, fun _ => ⟨fun _ => named q true i1, fun _ => step q true ns i1 (by omega) i7⟩⟩
    obtain ⟨p2, ok2, g1, g2, g3, g4⟩ := g1_ (w := [44]) (ok := true) (left := l) i1
    simp only [bI_ (gp_ (w := [44]) hs' (by simp) i1), g1, cp_]
    exact ⟨fun _ => named p2 ok2 g3, fun _ => step p2 ok2 ns g3 (by omega) i7⟩
  have fin : ∀ (e : UInt8) (kind : Int) (q : Nat) (b : Bool) (l : Int) (js : List aa_) (ns : List Bs), q ≤ s.length → -1 ≤ l → l ≤ left → (b = true → 0 ≤ l) → js.length ≤ 402 → (∀ y ∈ js, e8_ d y) → ns.length ≤ 402 → (∀ y ∈ ns, y.length ≤ gR_) →
      Ans (fun n (_ : Nat) => (bj_ n (a3_.mk s (q : Int) b l) [e]).bind fun xr25 => some ((aa_.mk kind 0 [] js ns), xr25)) (lU_ s (left + 1) (d + 1)) := by
    intro e kind q b l js ns a1 a2 a3 a4 a5 a6 a7 a8
    obtain ⟨p2, ok2, g1, g2, g3, g4⟩ := g1_ (w := [e]) (ok := b) (left := l) a1
    simp only [bI_ (gp_ (w := [e]) hs' (by simp) a1), g1, ch_]
    refine ⟨p2, ok2, l, rfl, g3, a2, by omega, fun h => a4 (g4 h), ⟨Nat.zero_le _, ?_, fun y hy => ?_⟩, ?_, a6⟩
    · show ns.length ≤ cv_; simp only [cv_]; omega
    · have := a8 y hy; simp only [gR_] at this; simp only [cv_]; omega
    · show js.length ≤ cv_; simp only [cv_]; omega
  refine cS_ ?_
  simp only [aL_, bI_ c6_, cp_, hWp]
  exact ⟨fun _ => key _ _ 5 125 fun q b l js ns a1 a2 a3 a4 a5 a6 a7 a8 => fin 125 5 q b l js ns a1 a2 a3 a4 a5 a6 a7 a8, fun _ => key _ _ 4 93 fun q b l js ns a1 a2 a3 a4 a5 a6 a7 a8 => fin 93 4 q b l js ns a1 a2 a3 a4 a5 a6 a7 a8⟩
theorem ig_ {s : Bs} (hs : s.length ≤ gR_) : ∀ (d : Nat), d ≤ 1000 → ∀ (p : Nat) (ok : Bool) (left : Int), p ≤ s.length → 0 ≤ left → left ≤ 400 → Ans (fun n _ => ba_ n ⟨s, (p : Int), ok, left⟩ (d : Int)) (lU_ s left d)
  | 0, _, p, ok, left, hp, h0, h1 => by
    have hl : W (left - 1) = left - 1 := W_id (by omega) (by omega)
    refine cS_ ?_
    simp only [ba_, cp_, ch_, hl]
    exact ⟨fun _ => ⟨p, false, _, rfl, hp, by omega, by omega, fun h => (by cases h), trivial⟩, fun h => by simp at h⟩
  | d + 1, hd, p, ok, left, hp, h0, h1 => by
    have ihm := many_any hs (d := d) (by omega) (ig_ hs d (by omega))
    have hl : W (left - 1) = left - 1 := W_id (by omega) (by omega)
    refine cS_ ?_
    simp only [ba_, br_, cp_, ch_, hl, bI_ c6_]
    refine ⟨fun h => by simp at h; omega, fun _ => ⟨fun _ => ⟨p, false, _, rfl, hp, by omega, by omega, fun h => (by cases h), dm_⟩, fun hc => ?_⟩⟩
    have hc := of_decide_eq_false hc
    refine ⟨fun _ => ⟨p, ok, _, rfl, hp, by omega, by omega, fun h => by omega, dm_⟩, fun hok => ?_⟩
    have hok : ok = true := by simpa using hok
    subst hok
    have lit : ∀ (w : Bs) (k n : Int), w.length ≤ 100 → Ans (fun m (_ : Nat) => (bj_ m ⟨s, (p : Int), true, left - 1⟩ w).bind fun xr => some (aa_.mk k n [] [] [], xr)) (lU_ s left (d + 1)) := by
      intro w k n hw
      obtain ⟨p2, ok2, g1, g2, g3, g4⟩ := g1_ (w := w) (ok := true) (left := left - 1) hp
      simp only [bI_ (gp_ (w := w) hs hw hp), g1, ch_]
      exact ⟨p2, ok2, _, rfl, g3, by omega, by omega, fun _ => by omega, dm_⟩
    have num : Ans (fun m (_ : Nat) => (ax_ m ⟨s, (p : Int), true, left - 1⟩).bind fun xr => some (aa_.mk 2 xr.1 [] [] [], xr.2)) (lU_ s left (d + 1)) := by
      refine cG_ (hs_ (ok := true) (left := left - 1) hs hp) fun v hv => ?_
      obtain ⟨x, c⟩ := v
      obtain ⟨p', ok', e1, e2, e3, _⟩ := hv
      simp only at e1
      subst e1
      simp only [ch_]
      exact ⟨p', ok', _, rfl, e2, by omega, by omega, fun _ => by omega, dm_⟩
    have many : (fH_ s p == 91) = true ∨ (fH_ s p == 123) = true → Ans (fun n (_ : Nat) => (aL_ n ⟨s, (p : Int), true, left - 1⟩ ((d + 1 : Nat) : Int)).bind fun xr8 => some (xr8.1, xr8.2)) (lU_ s left (d + 1)) := by
      intro hpk
      have hlt : p < s.length := jG_ (fun e => by rw [e] at hpk; revert hpk; decide)
      refine cG_ (ihm p (left - 1) hlt (by omega) (by omega)) fun v hv => ?_
      simp only [ch_]
      obtain ⟨p', ok', left', e1, e2, e3, e4, e5, e6⟩ := hv
      exact ⟨p', ok', left', e1, e2, e3, by omega, e5, e6⟩
    refine ⟨fun _ => lit _ 0 0 (by simp), fun _ => ⟨fun _ => lit _ 1 1 (by simp), fun _ => ⟨fun _ => lit _ 1 0 (by simp), fun _ => ⟨fun _ => ?_, fun _ => ⟨fun h => ⟨fun _ => many (.inl h), fun _ => num⟩, fun _ => ⟨fun h => many (.inr h), fun _ => num⟩⟩⟩⟩⟩⟩
    refine cG_ (hq_ (ok := true) (left := left - 1) hs hp) fun v hv => ?_
    obtain ⟨t, c⟩ := v
    obtain ⟨p', ok', e1, e2, e3, e4⟩ := hv
    simp only at e1 e3
    subst e1
    simp only [ch_]
    exact ⟨p', ok', _, rfl, e2, by omega, by omega, fun _ => by omega, kJ_ (by simp only [gR_] at e3; simp only [cv_]; omega)⟩
end Go.Pi
end
section
set_option linter.unusedVariables false
set_option maxRecDepth 100000
set_option linter.unusedSimpArgs false
namespace Go.Pi
theorem mk_ {s : Bs} (hs : s.length ≤ gR_) {d : Nat} (hd : d ≤ 1000) {j : aa_} (h : bw_ (d + 1) j ≤ 400) (hk : j.kind = 4 ∨ j.kind = 5)
    (ih : ∀ x, bw_ d x ≤ 400 → ∀ (p : Nat) (r : Bs) (left : Int), Stop r → (bw_ d x : Int) ≤ left → left ≤ 400 → At s p (FEnc d x ++ r) → Ev (fun n _ => ba_ n ⟨s, (p : Int), true, left⟩ (d : Int)) (x, ⟨s, ((p + (FEnc d x).length : Nat) : Int), true, left - bw_ d x⟩))
    (o c : UInt8) (hoc : (j.kind = 4 → o = 91 ∧ c = 93) ∧ (j.kind = 5 → o = 123 ∧ c = 125)) (r : Bs) (p : Nat) (left : Int) (hl : (ds_ (bw_ d) j.list : Int) ≤ left) (hl2 : left ≤ 400) (ha : At s p (o :: (cY_ (FEnc d) j j.list.length ++ c :: r))) :
    Ev (fun n _ => aL_ n ⟨s, (p : Int), true, left⟩ ((d + 1 : Nat) : Int)) (aa_.mk j.kind 0 [] j.list j.names, ⟨s, ((p + 1 + (cY_ (FEnc d) j j.list.length).length + 1 : Nat) : Int), true, left - ds_ (bw_ d) j.list⟩) := by
  have hW : W (((d + 1 : Nat) : Int) - 1) = (d : Int) := by rw [W_id (by omega) (by omega)]; omega
  have hs' := hs
  simp only [gR_] at hs
  have hll := df_ h
  have hnl := dT_ h
  have ho := (cU_ h).1
  have ho2 := dy_ (dl_ h)
  have hlt := ha.lt
  have hWp : W ((p : Int) + 1) = ((p + 1 : Nat) : Int) := by rw [W_id (by omega) (by omega)]; omega
  have hc : c.toNat = 93 ∨ c.toNat = 125 := by
    rcases hk with hk | hk
    · rw [(hoc.1 hk).2]; exact .inl rfl
    · rw [(hoc.2 hk).2]; exact .inr rfl
  have hcd : ¬ dH_ c := lE_ (kind := 0) hc
  have key : ∀ (K : Nat → aL_.K8_1) (F : aa_ × a3_) (k i q : Nat) (left : Int), i + k = j.list.length → (ds_ (bw_ d) (j.list.drop i) : Int) ≤ left → left ≤ 400 → At s q (cR_ (FEnc d) j k i ++ c :: r) →
      Ev (fun n _ => K n [c] s ((q + (cR_ (FEnc d) j k i).length : Nat) : Int) true (left - ds_ (bw_ d) (j.list.drop i)) 0 0 [] j.kind 0 [] j.list j.names) F →
      Ev (fun n N => aL_.loop8 n (ba_ n) (K n) N ((d + 1 : Nat) : Int) [c] s (q : Int) true left 0 0 [] j.kind 0 [] (j.list.take i) (j.names.take i)) F := by
    intro K F k
    induction k with
    | zero =>
      intro i q left hi hl _ ha hK
      have ei : i = j.list.length := by omega
      subst ei
      have en : j.names.take j.list.length = j.names := by
        rcases hk with hk | hk
        · rw [ho2.ns0 (by omega)]; simp
        · exact List.take_of_length_le (by rw [(ho.obj hk).1]; exact Nat.le_refl _)
      have ha : At s q (c :: r) := ha
      have hK : Ev (fun n _ => K n [c] s (q : Int) true left 0 0 [] j.kind 0 [] j.list j.names) F := by
        simpa [cR_, ds_] using hK
      refine bv_ ?_
      have hne : ((c.toNat : Int) != (([c] : Bs).getD 0 0).toNat) = false := by simp
      simp only [aL_.turn8, aL_.step8, List.take_length, en, cond_true, ae_ c6_, c7_ ha, hne, cond_false, bT_]
      exact ⟨by simp, hK⟩
    | succ k ihk =>
      intro i q left hi hl hl2 ha hK
      have hlti : i < j.list.length := by omega
      have hp := dF_ h (i := i) (by omega)
      rw [gs_ (bw_ d) aa_.dflt hlti] at hl hK
      have hnext := ihk (i + 1)
      rw [cA_ aa_.dflt hlti] at hnext
      have hx := ih _ hp.size
      have hst : Stop (cR_ (FEnc d) j k (i + 1) ++ c :: r) := km_ _ _ _ _ hcd r
      have etl : (j.list.take i).length = i := by simp; omega
      -- behind the comma
      have ff_ : ∀ (q' : Nat), At s q' (cP_ (FEnc d) j i ++ (cR_ (FEnc d) j k (i + 1) ++ c :: r)) → q' + (cP_ (FEnc d) j i).length + (cR_ (FEnc d) j k (i + 1)).length = q + (cR_ (FEnc d) j (k + 1) i).length →
          Ev (fun n N => cond (j.kind == 5) ((ay_ n ⟨s, (q' : Int), true, left⟩).bind fun xr4 => ci_ ((j.names.take i).length + [xr4.1].length) 16 ((bj_ n xr4.2 [58]).bind fun xr5 => (ba_ n xr5 (d : Int)).bind fun xr6 => ci_ ((j.list.take i).length + [xr6.1].length) 80 (aL_.loop8 n (ba_ n) (K n) N ((d + 1 : Nat) : Int) [c] xr6.2.s xr6.2.at_ xr6.2.ok xr6.2.left 0 0 [] j.kind 0 [] (j.list.take i ++ [xr6.1]) (j.names.take i ++ [xr4.1]))))
            ((ba_ n ⟨s, (q' : Int), true, left⟩ (d : Int)).bind fun xr6 => ci_ ((j.list.take i).length + [xr6.1].length) 80 (aL_.loop8 n (ba_ n) (K n) N ((d + 1 : Nat) : Int) [c] xr6.2.s xr6.2.at_ xr6.2.ok xr6.2.left 0 0 [] j.kind 0 [] (j.list.take i ++ [xr6.1]) (j.names.take i)))) F := by
        intro q' ha' hq'
        rcases hk with hk | hk
        · have h5 : (j.kind == 5) = false := by rw [hk]; rfl
          have en : j.names = [] := ho2.ns0 (by omega)
          have ef : cP_ (FEnc d) j i = FEnc d (j.list.getD i aa_.dflt) := by unfold cP_; rw [h5]; rfl
          rw [ef] at ha' hq'
          have hx := hx q' _ left hst (by omega) hl2 ha'
          have hn := hnext (q' + (FEnc d (j.list.getD i aa_.dflt)).length) (left - bw_ d (j.list.getD i aa_.dflt)) (by omega) (by omega) (by omega) ha'.next (by
            rw [hq', show left - (bw_ d (j.list.getD i aa_.dflt) : Int) - (ds_ (bw_ d) (j.list.drop (i + 1)) : Int) = left - ((bw_ d (j.list.getD i aa_.dflt) + ds_ (bw_ d) (j.list.drop (i + 1)) : Nat) : Int) by omega]
            exact hK)
          rw [en, List.take_nil] at hn
          simp only [h5, cond_false, ae_ hx, cf_, en, List.take_nil]
          exact ⟨by simp; omega, hn⟩
        · have h5 : (j.kind == 5) = true := by rw [hk]; rfl
          obtain ⟨o1, o2⟩ := ho.obj hk
          have ef : cP_ (FEnc d) j i = cD_ (j.names.getD i []) ++ ([58] ++ FEnc d (j.list.getD i aa_.dflt)) := by unfold cP_; rw [h5]; rfl
          rw [ef] at ha' hq'
          simp only [List.append_assoc] at ha'
          have hq := hp_ (left := left) hs' ha'
          have ha2 := ha'.next
          have ha3 := ha2.next
          have hx := hx _ _ left hst (by omega) hl2 ha3
          rw [cA_ [] (show i < j.names.length by omega)] at hnext
          have hn := hnext _ (left - bw_ d (j.list.getD i aa_.dflt)) (by omega) (by omega) (by omega) ha3.next (by
            rw [show q' + (cD_ (j.names.getD i [])).length + ([58] : Bs).length + (FEnc d (j.list.getD i aa_.dflt)).length + (cR_ (FEnc d) j k (i + 1)).length = q + (cR_ (FEnc d) j (k + 1) i).length by rw [← hq']; simp only [List.length_append]; omega,
              show left - (bw_ d (j.list.getD i aa_.dflt) : Int) - (ds_ (bw_ d) (j.list.drop (i + 1)) : Int) = left - ((bw_ d (j.list.getD i aa_.dflt) + ds_ (bw_ d) (j.list.drop (i + 1)) : Nat) : Int) by omega]
            exact hK)
          simp only [h5, cond_true, ae_ hq, ae_ (gp_ (w := [58]) hs' (by simp) ha2.le), ki_ ha2, ae_ hx, cf_]
          exact ⟨by simp; omega, by simp; omega, hn⟩
      refine bv_ ?_
      by_cases h0 : i = 0
      · have e0 : cR_ (FEnc d) j (k + 1) i = cP_ (FEnc d) j i ++ cR_ (FEnc d) j k (i + 1) := by rw [cR_, if_pos h0]; rfl
        have ha' : At s q (cP_ (FEnc d) j i ++ (cR_ (FEnc d) j k (i + 1) ++ c :: r)) := by rw [e0, List.append_assoc] at ha; exact ha
        have hr := ff_ q ha' (by rw [e0, List.length_append]; omega)
        obtain ⟨a, p0, ep, hp1, hp2, hp3⟩ := js_ h (i := i) (by omega)
        have hpk : (fH_ s q != (([c] : Bs).getD 0 0).toNat) = true := by
          rw [ep] at ha'
          rw [c7_ (t := p0 ++ (cR_ (FEnc d) j k (i + 1) ++ c :: r)) ha']
          show (!((a.toNat : Int) == (c.toNat : Int))) = true
          rw [beq_eq_false_iff_ne.2 (by omega)]; rfl
        have hg : decide (((j.list.take i).length : Int) > 0) = false := decide_eq_false (by omega)
        simp only [aL_.turn8, aL_.step8, br_, hW, cond_true, ae_ c6_, hpk, hg, cond_false, bT_]
        exact ⟨by simp, hr⟩
      · have e0 : cR_ (FEnc d) j (k + 1) i = [44] ++ (cP_ (FEnc d) j i ++ cR_ (FEnc d) j k (i + 1)) := by rw [cR_, if_neg h0]
        have ha' : At s q ([44] ++ (cP_ (FEnc d) j i ++ (cR_ (FEnc d) j k (i + 1) ++ c :: r))) := by rw [e0, List.append_assoc, List.append_assoc] at ha; exact ha
        have hr := ff_ (q + ([44] : Bs).length) ha'.next (by rw [e0]; simp only [List.length_append]; omega)
        have hpk : (fH_ s q != (([c] : Bs).getD 0 0).toNat) = true := by
          rw [c7_ (c := 44) ha']
          show (!(((44 : UInt8).toNat : Int) == (c.toNat : Int))) = true
          rw [beq_eq_false_iff_ne.2 (show (((44 : UInt8).toNat : Int)) ≠ (c.toNat : Int) by show (44 : Int) ≠ _; omega)]; rfl
        have hg : decide (((j.list.take i).length : Int) > 0) = true := decide_eq_true (by omega)
        simp only [aL_.turn8, aL_.step8, br_, hW, cond_true, ae_ c6_, hpk, hg, ae_ (gp_ (w := [44]) hs' (by simp) ha'.le), ki_ ha', bT_]
        exact ⟨by simp, hr⟩
  have ha1 := ha.next1
  rw [iF_] at ha1 ⊢
  have ha2 := ha1.next
  have fin : Ev (fun n (_ : Nat) => (bj_ n (a3_.mk s ((p + 1 + (cR_ (FEnc d) j j.list.length 0).length : Nat) : Int) true (left - ds_ (bw_ d) (j.list.drop 0))) [c]).bind fun xr25 => some ((aa_.mk j.kind 0 [] j.list j.names), xr25)) (aa_.mk j.kind 0 [] j.list j.names, ⟨s, ((p + 1 + (cR_ (FEnc d) j j.list.length 0).length + 1 : Nat) : Int), true, left - ds_ (bw_ d) j.list⟩) := by
    simp only [ae_ (gp_ (w := [c]) hs' (by simp) ha2.le), ki_ (w := [c]) ha2, an_, List.drop_zero]; rfl
  refine aS_ ?_
  simp only [aL_, ae_ c6_, c7_ ha, hWp]
  rcases hk with hk | hk
  · obtain ⟨rfl, rfl⟩ := hoc.1 hk
    have h1 : (((91 : UInt8).toNat : Int) == 123) = false := rfl
    have := key (fun n => fun xy26 xy27 xy28 xy29 xy30 xy31 xy32 xy33 xy34 xy35 xy36 xy37 xy38 => ((bj_ n (a3_.mk xy27 xy28 xy29 xy30) xy26).bind fun xr39 => (some ((aa_.mk xy34 xy35 xy36 xy37 xy38), xr39)))) _ j.list.length 0 (p + 1) left (by omega) (by rw [List.drop_zero]; exact hl) hl2 ha1 fin
    rw [hk] at this ⊢
    simp only [h1, cond_false]
    exact cE_ this
  · obtain ⟨rfl, rfl⟩ := hoc.2 hk
    have h1 : (((123 : UInt8).toNat : Int) == 123) = true := rfl
    have := key (fun n => fun xy12 xy13 xy14 xy15 xy16 xy17 xy18 xy19 xy20 xy21 xy22 xy23 xy24 => ((bj_ n (a3_.mk xy13 xy14 xy15 xy16) xy12).bind fun xr25 => (some ((aa_.mk xy20 xy21 xy22 xy23 xy24), xr25)))) _ j.list.length 0 (p + 1) left (by omega) (by rw [List.drop_zero]; exact hl) hl2 ha1 fin
    rw [hk] at this ⊢
    simp only [h1, cond_true]
    exact cE_ this
theorem if_ {s : Bs} (hs : s.length ≤ gR_) : ∀ (d : Nat), d ≤ 1000 → ∀ x, bw_ d x ≤ 400 → ∀ (p : Nat) (r : Bs) (left : Int), Stop r → (bw_ d x : Int) ≤ left → left ≤ 400 → At s p (FEnc d x ++ r) → Ev (fun n _ => ba_ n ⟨s, (p : Int), true, left⟩ (d : Int)) (x, ⟨s, ((p + (FEnc d x).length : Nat) : Int), true, left - bw_ d x⟩)
  | 0, _, x, h, p, r, left, _, _, _, _ => by simp only [bw_] at h; omega
  | d + 1, hd, j, h, p, r, left, hst, hl, hl2, ha => by
    have ih := if_ hs d (by omega)
    have ho := (cU_ h).1
    have ho2 := dy_ (dl_ h)
    have hsz := (cU_ h).2
    have hpos := lc_ (d + 1) j
    have hWl : W (left - 1) = left - 1 := W_id (by omega) (by omega)
    have hz : ((((d + 1 : Nat) : Int)) == 0) = false := beq_eq_false_iff_ne.2 (by omega)
    have hlt : decide (left - 1 < 0) = false := decide_eq_false (by omega)
    refine aS_ ?_
    simp only [ba_, br_, hWl, hz, hlt, Bool.not_true, cond_false, ae_ c6_]
    have one : j.list = [] → left - 1 = left - (bw_ (d + 1) j : Int) := by
      intro e; rw [hsz, e]; simp [ds_]
    rcases ho.kind with hk | hk | hk | hk | hk | hk
    · have e : FEnc (d + 1) j = [110, 117, 108, 108] := by simp only [FEnc, hk, Int.reduceBEq, cond_true]
      have e3 := ho.list (by omega) (by omega)
      rw [← one e3]
      have ej : j = aa_.mk 0 0 [] [] [] := by
        have e1 := ho2.n0 (by omega) (by omega)
        have e2 := ho2.s0 (by omega)
        have e4 := ho2.ns0 (by omega)
        obtain ⟨k, n, s, l, ns⟩ := j
        simp only at e1 e2 e3 e4 hk
        subst e1 e2 e3 e4 hk; rfl
      rw [e] at ha ⊢
      have hpk := c7_ (c := 110) (t := [117, 108, 108] ++ r) ha
      have c1 : (((110 : UInt8).toNat : Int) == 110) = true := rfl
      simp only [hpk, c1, cond_true, ae_ (gp_ (w := [110, 117, 108, 108]) hs (by simp) ha.le), ki_ ha, an_]
      rw [ej]
    · have hb := ho.bool hk
      have e2 := ho2.s0 (by omega)
      have e3 := ho.list (by omega) (by omega)
      have e4 := ho2.ns0 (by omega)
      rw [← one e3]
      obtain ⟨k, n, ss, l, ns⟩ := j
      simp only at e2 e3 e4 hk hb
      subst e2 e3 e4 hk
      have : n = 0 ∨ n = 1 := by omega
      rcases this with rfl | rfl
      · have e : FEnc (d + 1) (aa_.mk 1 0 [] [] []) = [102, 97, 108, 115, 101] := rfl
        rw [e] at ha ⊢
        have hpk := c7_ (c := 102) (t := [97, 108, 115, 101] ++ r) ha
        have c1 : (((102 : UInt8).toNat : Int) == 110) = false := rfl
        have c2 : (((102 : UInt8).toNat : Int) == 116) = false := rfl
        have c3 : (((102 : UInt8).toNat : Int) == 102) = true := rfl
        simp only [hpk, c1, c2, c3, cond_true, cond_false, ae_ (gp_ (w := [102, 97, 108, 115, 101]) hs (by simp) ha.le), ki_ ha, an_]
      · have e : FEnc (d + 1) (aa_.mk 1 1 [] [] []) = [116, 114, 117, 101] := rfl
        rw [e] at ha ⊢
        have hpk := c7_ (c := 116) (t := [114, 117, 101] ++ r) ha
        have c1 : (((116 : UInt8).toNat : Int) == 110) = false := rfl
        have c2 : (((116 : UInt8).toNat : Int) == 116) = true := rfl
        simp only [hpk, c1, c2, cond_true, cond_false, ae_ (gp_ (w := [116, 114, 117, 101]) hs (by simp) ha.le), ki_ ha, an_]
    · have hn := ho.num hk
      have e : FEnc (d + 1) j = Lib.itoa j.n_ := by simp only [FEnc, hk, Int.reduceBEq, cond_true, cond_false]
      have e3 := ho.list (by omega) (by omega)
      rw [← one e3]
      rw [e] at ha ⊢
      have hN := hr_ (left := left - 1) hs hn.1 hn.2 hst ha
      have ej : aa_.mk 2 j.n_ [] [] [] = j := by
        have e2 := ho2.s0 (by omega)
        have e4 := ho2.ns0 (by omega)
        obtain ⟨k, n, s, l, ns⟩ := j
        simp only at e2 e3 e4 hk
        subst e2 e3 e4 hk; rfl
      obtain ⟨c, t, ec, hc⟩ := fp_ j.n_
      have hpk : fH_ s p = (c.toNat : Int) := by
        rw [ec] at ha
        exact c7_ (t := t ++ r) ha
      have ne : ∀ x : Int, (x < 45 ∨ x = 46 ∨ 57 < x) → ((c.toNat : Int) == x) = false := by
        intro x hx
        refine beq_eq_false_iff_ne.2 ?_
        rcases hc with rfl | hc
        · show (45 : Int) ≠ x; omega
        · unfold dH_ at hc; omega
      simp only [hpk, ne 110 (by decide), ne 116 (by decide), ne 102 (by decide), ne 34 (by decide), ne 91 (by decide), ne 123 (by decide), cond_false, ae_ hN, an_, ej]
    · have ht := ho2.text hk
      have e : FEnc (d + 1) j = cD_ j.s := by simp only [FEnc, hk, Int.reduceBEq, cond_true, cond_false]
      have e3 := ho.list (by omega) (by omega)
      rw [← one e3]
      rw [e] at ha ⊢
      have hq := hp_ (left := left - 1) hs ha
      have ej : aa_.mk 3 0 j.s [] [] = j := by
        have e2 := ho2.n0 (by omega) (by omega)
        have e4 := ho2.ns0 (by omega)
        obtain ⟨k, n, s, l, ns⟩ := j
        simp only at e2 e3 e4 hk
        subst e2 e3 e4 hk; rfl
      have hpk : fH_ s p = ((34 : UInt8).toNat : Int) := c7_ (c := 34) (t := j.s.flatMap dR_ ++ [34] ++ r) (by
        have : cD_ j.s ++ r = 34 :: (j.s.flatMap dR_ ++ [34] ++ r) := by simp [cD_]
        rw [← this]; exact ha)
      have c1 : (((34 : UInt8).toNat : Int) == 110) = false := rfl
      have c2 : (((34 : UInt8).toNat : Int) == 116) = false := rfl
      have c3 : (((34 : UInt8).toNat : Int) == 102) = false := rfl
      have c4 : (((34 : UInt8).toNat : Int) == 34) = true := rfl
      simp only [hpk, c1, c2, c3, c4, cond_true, cond_false, ae_ hq, an_, ej]
    · have e : FEnc (d + 1) j = [91] ++ cY_ (FEnc d) j j.list.length ++ [93] := by simp only [FEnc, hk, Int.reduceBEq, cond_true, cond_false]
      have e1 : FEnc (d + 1) j ++ r = 91 :: (cY_ (FEnc d) j j.list.length ++ 93 :: r) := by rw [e]; simp
      have e2 : p + (FEnc (d + 1) j).length = p + 1 + (cY_ (FEnc d) j j.list.length).length + 1 := by rw [e]; simp; omega
      rw [e1] at ha
      rw [e2]
      have hP := mk_ hs (by omega) h (.inl hk) ih 91 93 ⟨fun _ => ⟨rfl, rfl⟩, fun h => by omega⟩ r p (left - 1) (by omega) (by omega) ha
      rw [jR_ h (.inl hk), show left - 1 - (ds_ (bw_ d) j.list : Int) = left - (bw_ (d + 1) j : Int) by rw [hsz]; omega] at hP
      have hpk := c7_ ha
      have c1 : (((91 : UInt8).toNat : Int) == 110) = false := rfl
      have c2 : (((91 : UInt8).toNat : Int) == 116) = false := rfl
      have c3 : (((91 : UInt8).toNat : Int) == 102) = false := rfl
      have c4 : (((91 : UInt8).toNat : Int) == 34) = false := rfl
      have c5 : (((91 : UInt8).toNat : Int) == 91) = true := rfl
      simp only [hpk, c1, c2, c3, c4, c5, cond_true, cond_false, ae_ hP, an_]
    · have e : FEnc (d + 1) j = [123] ++ cY_ (FEnc d) j j.list.length ++ [125] := by simp only [FEnc, hk, Int.reduceBEq, cond_true, cond_false]
      have e1 : FEnc (d + 1) j ++ r = 123 :: (cY_ (FEnc d) j j.list.length ++ 125 :: r) := by rw [e]; simp
      have e2 : p + (FEnc (d + 1) j).length = p + 1 + (cY_ (FEnc d) j j.list.length).length + 1 := by rw [e]; simp; omega
      rw [e1] at ha
      rw [e2]
      have hP := mk_ hs (by omega) h (.inr hk) ih 123 125 ⟨fun h => by omega, fun _ => ⟨rfl, rfl⟩⟩ r p (left - 1) (by omega) (by omega) ha
      rw [jR_ h (.inr hk), show left - 1 - (ds_ (bw_ d) j.list : Int) = left - (bw_ (d + 1) j : Int) by rw [hsz]; omega] at hP
      have hpk := c7_ ha
      have c1 : (((123 : UInt8).toNat : Int) == 110) = false := rfl
      have c2 : (((123 : UInt8).toNat : Int) == 116) = false := rfl
      have c3 : (((123 : UInt8).toNat : Int) == 102) = false := rfl
      have c4 : (((123 : UInt8).toNat : Int) == 34) = false := rfl
      have c5 : (((123 : UInt8).toNat : Int) == 91) = false := rfl
      have c6 : (((123 : UInt8).toNat : Int) == 123) = true := rfl
      simp only [hpk, c1, c2, c3, c4, c5, c6, cond_true, cond_false, ae_ hP, an_]
end Go.Pi
end
section
set_option linter.unusedVariables false
set_option maxRecDepth 100000
set_option linter.unusedSimpArgs false
namespace Go.Pi
theorem iG_ {a b : List Bs} (ha : a.length ≤ cv_) : Ev (fun n _ => ak_ n a b) (gk_ a b) := by
  refine aS_ ?_
  simp only [ak_, ne_len, aM_, an_]
  unfold gk_
  by_cases hl : a.length = b.length
  · rw [decide_eq_true hl]
    refine ⟨fun h => (by cases h), fun _ => ?_⟩
    refine hM_ (f5_ (fun n N i => ak_.loop6 n (some true) N a b (a.length : Int) (i : Int)) (fun i => a.getD i [] == b.getD i []) (len := a.length) (v := true) (fun i w hi ih => ?_) ?_) (by rw [Bool.and_true, Bool.true_and])
    · simp only [ak_.turn6, ak_.step6, Int.toNat_natCast, W_up hi ha, aM_, bT_, an_, dC_ ih, cO_ hi, cz_ hi, cz_ (hl ▸ hi)]
      cases (a.getD i [] == b.getD i []) <;> simp
    · simp only [ak_.turn6, ak_.step6, cL_, cond_false, an_]
  · rw [decide_eq_false hl]
    exact ⟨fun _ => rfl, fun h => (by cases h)⟩
theorem gH_ : ∀ (d : Nat) (a b : aa_), nn_ d a → e8_ d a → Ev (fun n _ => cd_ n a b) (d4_ d a b)
  | 0, a, b, h, _ => h.elim
  | d + 1, a, b, h, hl => by
    refine aS_ ?_
    have hE : Ev (fun n _ => ab_ n a.list b.list) (decide (a.list.length = b.list.length) && lQ_ (fun i => d4_ d (a.list.getD i aa_.dflt) (b.list.getD i aa_.dflt)) a.list.length) := by
      refine aS_ ?_
      simp only [ab_, ne_len, aM_, an_]
      by_cases hq : a.list.length = b.list.length
      · rw [decide_eq_true hq]
        refine ⟨fun h => (by cases h), fun _ => ?_⟩
        refine hM_ (f5_ (fun n N i => ab_.loop6 n (cd_ n) (some true) N b.list a.list (a.list.length : Int) (i : Int)) (fun i => d4_ d (a.list.getD i aa_.dflt) (b.list.getD i aa_.dflt)) (len := a.list.length) (v := true) (fun i w hi ih => ?_) ?_) (by rw [Bool.and_true, Bool.true_and])
        · have hx := gH_ d (a.list.getD i aa_.dflt) (b.list.getD i aa_.dflt) (h _ (cx_ _ hi)) (hl.2.2 _ (cx_ _ hi))
          simp only [ab_.turn6, ab_.step6, br_, Int.toNat_natCast, W_up hi hl.2.1, aM_, bT_, ae_ hx, an_, dC_ ih, cO_ hi, cz_ hi, cz_ (hq ▸ hi)]
          cases d4_ d (a.list.getD i aa_.dflt) (b.list.getD i aa_.dflt) <;> simp
        · simp only [ab_.turn6, ab_.step6, cL_, cond_false, an_]
      · rw [decide_eq_false hq]
        exact ⟨fun _ => rfl, fun h => (by cases h)⟩
    simp only [cd_, aM_, ae_ (iG_ (b := b.names) hl.1.2.1), ae_ hE, an_, d4_]
    cases (a.kind == b.kind) <;> cases (a.n_ == b.n_) <;> cases (a.s == b.s) <;> cases gk_ a.names b.names <;> simp
end Go.Pi
end
section
set_option linter.unusedVariables false
set_option maxRecDepth 100000
set_option linter.unusedSimpArgs false
namespace Go.Pi
def eK_ (a b : aa_) : Bool := cF_ a && (cF_ b && d4_ 6 a b)
theorem e9_ {a b : aa_} (ha : e8_ 6 a) (hb : e8_ 6 b) : Ev (fun n _ => bR_ n a b) (eK_ a b) := by
  refine aS_ ?_
  simp only [bR_, br_, ae_ (c5_ ha), ae_ (c5_ hb), aM_, an_, eK_]
  cases h1 : cF_ a with
  | false => simp
  | true =>
    have hd : nn_ 6 a := fU_ 6 a (of_decide_eq_true h1)
    simp only [ae_ (gH_ 6 a b hd ha), an_]
    cases cF_ b <;> simp
theorem e7_ {a b : aa_} (ha : e8_ 6 a) (hb : e8_ 6 b) : Ev (fun n _ => bO_ n a b) (eK_ a b) := by
  refine aS_ ?_
  simp only [bO_, br_, ae_ (c2_ ha), ae_ (c2_ hb), aM_, an_, eK_]
  cases h1 : cF_ a with
  | false => simp
  | true =>
    have hd : nn_ 6 a := fU_ 6 a (of_decide_eq_true h1)
    simp only [ae_ (ex_ 6 a b hd ha), an_]
    cases cF_ b <;> simp
end Go.Pi
end
section
set_option linter.unusedVariables false
set_option maxRecDepth 100000
set_option linter.unusedSimpArgs false
namespace Go.Pi
theorem fK_ {d : Nat} {j : aa_} (h : bw_ (d + 1) j ≤ 400) {x : aa_} (hx : x ∈ j.list) : bw_ d x ≤ 400 := by
  have := (cU_ h).2
  have := g2_ (bw_ d) hx
  omega
theorem cC_ : ∀ (d : Nat) (j : aa_), bw_ d j ≤ 400 → e8_ d j
  | 0, _, _ => trivial
  | d + 1, j, h => by
    have ho := (cU_ h).1
    have ho2 := dy_ (dl_ h)
    have hll := df_ h
    have hnl := dT_ h
    refine ⟨⟨?_, by simp only [cv_]; omega, fun x hx => ?_⟩, by simp only [cv_]; omega, fun x hx => cC_ d x (fK_ h hx)⟩
    · by_cases hk : j.kind = 3
      · have := fG_ (ho2.text hk); simp only [cv_]; omega
      · rw [ho2.s0 hk]; exact Nat.zero_le _
    · by_cases hk : j.kind = 5
      · obtain ⟨i, hi, e⟩ := List.getElem_of_mem hx
        have := fW_ (ho.obj hk).2 hi
        rw [List.getD_eq_getElem?_getD, List.getElem?_eq_getElem hi, Option.getD_some, e] at this
        simp only [cv_]; omega
      · rw [ho2.ns0 hk] at hx; cases hx
theorem iV_ {α : Type} {f g : α → Nat} : ∀ {l : List α}, (∀ x ∈ l, f x = g x) → ds_ f l = ds_ g l
  | [], _ => rfl
  | x :: l, h => by
    simp only [ds_]
    rw [h x (List.mem_cons_self ..), iV_ fun y hy => h y (List.mem_cons_of_mem _ hy)]
theorem hP_ : ∀ (d : Nat) (j : aa_), bw_ d j ≤ 400 → bw_ (d + 1) j = bw_ d j
  | 0, j, h => by simp only [bw_] at h; omega
  | d + 1, j, h => by
    have hs := (cU_ h).2
    have ho := dl_ h
    have e : ds_ (bw_ (d + 1)) j.list = ds_ (bw_ d) j.list := iV_ fun x hx => hP_ d x (fK_ h hx)
    rw [bw_, ho, cond_true, e, ← hs]; omega
theorem c4_ : bw_ 6 fd_ ≤ 400 := by decide
theorem hw_ {j : aa_} (h : bu_ j ≠ []) : bw_ 6 j ≤ 400 ∧ bu_ j = FEnc 6 j ∧ (FEnc 6 j).length ≤ 6000 := by
  unfold bu_ at h ⊢
  cases hj : cF_ j with
  | false => rw [hj] at h; exact absurd rfl h
  | true =>
    rw [hj] at h
    simp only [cond_true] at h ⊢
    cases hl : decide (((FEnc 6 j).length : Int) > 6000) with
    | true => rw [hl] at h; exact absurd rfl h
    | false => have := of_decide_eq_false hl; exact ⟨of_decide_eq_true hj, rfl, by omega⟩
theorem fw_ {s : Bs} (hs : s.length ≤ 1048576) : Ans (fun n _ => bZ_ n s) fun x => bw_ 6 x.1 ≤ 400 := by
  refine cS_ ?_
  simp only [bZ_, br_, cp_, ch_]
  refine ⟨fun _ => c4_, fun _ => ?_⟩
  by_cases h0 : s = []
  · subst h0
    have hN : Ev (fun n _ => ag_ n ⟨[], false⟩) (aa_.mk 2 0 [] [] [], ⟨[], true⟩) := by
      have hA : Ev (fun n _ => bH_ n []) (0, false) := iH_ (s := []) (by simp)
      refine aS_ ?_
      simp only [ag_]
      refine cE_ (f := fun n N => ag_.loop3 n (fun xy2 xy3 xy4 xy5 xy6 xy7 => (gn_ 0 xy2 xy3.length ((bH_ n ((xy3.take xy2.toNat).drop 0)).bind fun xr8 => (cond (!xr8.2) (gn_ xy2 (xy3.length : Int) xy3.length (some ((aa_.mk 2 xr8.1 [] ([] : List aa_) ([] : List Bs)), (aC_.mk ((xy3.take (xy3.length : Int).toNat).drop xy2.toNat) true)))) (gn_ xy2 (xy3.length : Int) xy3.length (some ((aa_.mk 2 xr8.1 [] ([] : List aa_) ([] : List Bs)), (aC_.mk ((xy3.take (xy3.length : Int).toNat).drop xy2.toNat) xy4)))))))) N 0 [] false 0 0 []) (bv_ ?_)
      have e0 : (([] : Bs).take (0 : Int).toNat).drop 0 = [] := rfl
      have c0 : decide ((0 : Int) < ((([] : Bs).length : Nat) : Int)) = false := rfl
      simp only [ag_.turn3, ag_.step3, c0, cond_false, e0, dI_, ae_ hA, Bool.not_false, cond_true, an_]
      exact ⟨⟨by decide, by decide, by decide⟩, ⟨by decide, by decide, by decide⟩, rfl⟩
    have hv : Ev (fun n _ => aF_ n ⟨[], false⟩ 6) (aa_.mk 2 0 [] [] [], ⟨[], true⟩) := by
      have hd1 : decide ((6 : Int) < 1) = false := rfl
      refine aS_ ?_
      simp only [aF_, br_, hd1, cond_false, dB_, ae_ eX_, take_nil, pfx_nil, ae_ hN, an_]
    simp only [bI_ hv, cond_true, ch_]
    exact c4_
  · refine cG_ (kg_ 6 (by omega) ⟨s, false⟩ hs) fun v hv => ?_
    simp only [cp_, ch_, bI_ (cX_ hv.2)]
    refine ⟨fun _ => c4_, fun _ => ⟨fun _ => c4_, fun h => ?_⟩⟩
    have e : bu_ v.1 = s := by simpa using h
    exact (hw_ (by rw [e]; exact h0)).1
theorem fv_ {j : aa_} (h : bu_ j ≠ []) : Ev (fun n _ => bZ_ n (bu_ j)) (j, true) := by
  obtain ⟨h1, h2, h3⟩ := hw_ h
  have hv := kf_ 6 (by omega) j h1 [] jz_ (by rw [List.append_nil]; omega)
  rw [List.append_nil, ← h2] at hv
  have hv : Ev (fun n _ => aF_ n ⟨bu_ j, false⟩ 6) (j, ⟨[], false⟩) := hv
  have hE := cX_ (cC_ 6 j h1)
  have hl : decide (((bu_ j).length : Int) > 6000) = false := by rw [h2]; exact decide_eq_false (by omega)
  refine aS_ ?_
  simp only [bZ_, br_, hl, cond_false, ae_ hv, ae_ hE, beq_self_eq_true, Bool.not_true, an_]
theorem h0_ {s : Bs} (hs : s.length ≤ 1048576) : Ans (fun n _ => b3_ n s) fun x => bw_ 6 x.1 ≤ 400 := by
  refine cS_ ?_
  simp only [b3_, br_, cp_, ch_]
  refine ⟨fun _ => c4_, fun h0 => ⟨fun _ => c4_, fun _ => ?_⟩⟩
  refine cG_ (ig_ (s := s) hs 6 (by omega) 0 true 400 (Nat.zero_le _) (by omega) (by omega)) fun v hv => ?_
  obtain ⟨p', ok', left', e1, e2, e3, e4, e5, e6⟩ := hv
  simp only [cp_, ch_, bI_ (c3_ e6)]
  refine ⟨fun _ => c4_, fun _ => ⟨fun _ => c4_, fun _ => ⟨fun _ => c4_, fun h => ?_⟩⟩⟩
  have e : bu_ v.1 = s := by simpa using h
  exact (hw_ (by rw [e]; intro e; rw [e] at h0; cases h0)).1
theorem fk_ {j : aa_} (h : bu_ j ≠ []) : Ev (fun n _ => b3_ n (bu_ j)) (j, true) := by
  obtain ⟨h1, h2, h3⟩ := hw_ h
  have hsz : (bu_ j).length ≤ 6000 := by rw [h2]; exact h3
  have hv := if_ (s := bu_ j) (by simp only [gR_]; omega) 6 (by omega) j h1 0 [] 400 jz_ (by omega) (by omega) ⟨Nat.zero_le _, by rw [List.append_nil, ← h2]; rfl⟩
  have hv : Ev (fun n _ => ba_ n ⟨bu_ j, 0, true, 400⟩ 6) (j, ⟨bu_ j, ((0 + (FEnc 6 j).length : Nat) : Int), true, 400 - bw_ 6 j⟩) := hv
  have hE := c3_ (cC_ 6 j h1)
  have hl : decide (((bu_ j).length : Int) > 6000) = false := decide_eq_false (by omega)
  have hn : (bu_ j == []) = false := beq_eq_false_iff_ne.2 h
  have ha : (((0 + (FEnc 6 j).length : Nat) : Int) != ((bu_ j).length : Int)) = false := by rw [h2]; simp
  refine aS_ ?_
  simp only [b3_, br_, hl, hn, cond_false, ae_ hv, ha, ae_ hE, beq_self_eq_true, Bool.not_true, an_]
def FIdx (l : List Bs) (x : Bs) : Int := if l.findIdx (fun y => y == x) < l.length then ((l.findIdx (fun y => y == x) : Nat) : Int) else -1
theorem ko_ {j : aa_} {x : Bs} (h : j.names.length ≤ cv_) : Ev (fun n _ => bo_ n j x) (FIdx j.names x) := by
  refine aS_ ?_
  unfold FIdx
  rw [← hu_ ([] : Bs) (fun y => y == x) j.names]
  simp only [bo_]
  refine ev_fold (fun n N i => bo_.loop3 n (some (-1)) N x (i : Int) j.kind j.n_ j.s j.list j.names) _ (fun i u hi ih => ?_) ?_
  · simp only [bo_.turn3, bo_.step3, Int.toNat_natCast, W_up hi h, aM_, bT_, an_, dC_ ih, cO_ hi, cz_ hi]
    cases (j.names.getD i [] == x) <;> simp
  · simp only [bo_.turn3, bo_.step3, cL_, cond_false, an_]
theorem el_ {l : List Bs} {x : Bs} (h : l.length ≤ cv_) : Ev (fun n _ => aj_ n l x) (FIdx l x) := by
  refine aS_ ?_
  unfold FIdx
  rw [← hu_ ([] : Bs) (fun y => y == x) l]
  simp only [aj_]
  refine ev_fold (fun n N i => aj_.loop3 n (some (-1)) N l x (l.length : Int) (i : Int)) _ (fun i u hi ih => ?_) ?_
  · simp only [aj_.turn3, aj_.step3, Int.toNat_natCast, W_up hi h, aM_, bT_, an_, dC_ ih, cO_ hi, cz_ hi]
    rw [show (x == l.getD i []) = (l.getD i [] == x) from BEq.comm]
    cases (l.getD i [] == x) <;> simp
  · simp only [aj_.turn3, aj_.step3, cL_, cond_false, an_]
def d3_ (j : aa_) (x : Bs) : aa_ × Bool := if FIdx j.names x < 0 then (fd_, false) else (j.list.getD (FIdx j.names x).toNat aa_.dflt, true)
theorem idx_lt {l : List Bs} {x : Bs} (h : ¬ FIdx l x < 0) : 0 ≤ FIdx l x ∧ FIdx l x < (l.length : Int) := by
  unfold FIdx at h ⊢
  split at h
  · rename_i hl; rw [if_pos hl]; omega
  · exact absurd (by decide) h
theorem jY_ {j : aa_} (h : bw_ 6 j ≤ 400) {x : Bs} (hx : ¬ FIdx j.names x < 0) : (FIdx j.names x).toNat < j.list.length ∧ j.kind = 5 := by
  have hi := idx_lt hx
  by_cases hk : j.kind = 5
  · have := ((cU_ h).1.obj hk).1; exact ⟨by omega, hk⟩
  · rw [(dy_ (dl_ h)).ns0 hk] at hi; simp at hi; omega
theorem ee_ {j : aa_} (h : bw_ 6 j ≤ 400) (x : Bs) : bw_ 6 (d3_ j x).1 ≤ 400 := by
  unfold d3_
  by_cases hx : FIdx j.names x < 0
  · rw [if_pos hx]; exact c4_
  · rw [if_neg hx]
    have := (dF_ h (jY_ h hx).1).size
    rw [hP_ 5 _ this]; exact this
theorem d6_ {j : aa_} (h : bw_ 6 j ≤ 400) {x : Bs} : Ev (fun n _ => cc_ n j x) (d3_ j x) := by
  have hJ := c2_ (cC_ 6 j h)
  have hn := dT_ h
  have hok : cF_ j = true := decide_eq_true h
  refine aS_ ?_
  simp only [cc_, br_, ae_ (ko_ (j := j) (x := x) (by simp only [cv_]; omega)), ae_ hJ, hok, Bool.not_true, cond_false, d3_]
  by_cases hx : FIdx j.names x < 0
  · rw [if_pos hx, decide_eq_true hx]
    simp only [cond_true, aM_, an_]
    exact ⟨fun _ => rfl, fun _ => rfl⟩
  · obtain ⟨h1, h2⟩ := jY_ h hx
    have hi := idx_lt hx
    have hC := ey_ 5 (j.list.getD (FIdx j.names x).toNat aa_.dflt) (dF_ h h1).size
    have hk : (j.kind != 5) = false := by rw [h2]; rfl
    rw [if_neg hx, decide_eq_false hx, hk]
    simp only [cond_false, bT_, ae_ hC, an_]
    exact ⟨by omega, trivial⟩
theorem gI_ {j : aa_} (h : bw_ 6 j ≤ 400) {x : Bs} : Ev (fun n _ => ck_ n j x) (d3_ j x) := by
  have hJ := c5_ (cC_ 6 j h)
  have hn := dT_ h
  have hok : cF_ j = true := decide_eq_true h
  refine aS_ ?_
  simp only [ck_, br_, ae_ (el_ (l := j.names) (x := x) (by simp only [cv_]; omega)), ae_ hJ, hok, Bool.not_true, cond_false, d3_]
  by_cases hx : FIdx j.names x < 0
  · rw [if_pos hx, decide_eq_true hx]
    simp only [cond_true, an_]; rfl
  · obtain ⟨h1, h2⟩ := jY_ h hx
    have hi := idx_lt hx
    have hC := dY_ 5 (j.list.getD (FIdx j.names x).toNat aa_.dflt) (dF_ h h1).size
    rw [if_neg hx, decide_eq_false hx]
    simp only [cond_false, bT_, ae_ hC, an_]
    exact ⟨by omega, trivial⟩
end Go.Pi
end
section
set_option linter.unusedVariables false
set_option maxRecDepth 100000
set_option linter.unusedSimpArgs false
namespace Go.Pi
def fin (w : List Bs) : List Bs × Bool := if w.length > 6 then ([], false) else (w, true)
def wr (out : List Bs) (now : Bs) : Bs → List Bs × Bool
  | [] => fin (out ++ [now])
  | [c] => if c = 47 then fin (out ++ [now] ++ [[]]) else if c = 126 then ([], false) else fin (out ++ [now ++ [c]])
  | c :: e :: l => if c = 47 then wr (out ++ [now]) [] (e :: l) else if c = 126 then (if e = 48 then wr out (now ++ [126]) l else if e = 49 then wr out (now ++ [47]) l else ([], false)) else wr out (now ++ [c]) (e :: l)
theorem wr_sl (out : List Bs) (now l : Bs) : wr out now (47 :: l) = wr (out ++ [now]) [] l := by
  cases l with
  | nil => rfl
  | cons e l => rw [wr, if_pos rfl]
theorem wr_c {c : UInt8} (h1 : c ≠ 47) (h2 : c ≠ 126) (out : List Bs) (now l : Bs) : wr out now (c :: l) = wr out (now ++ [c]) l := by
  cases l with
  | nil =>
    show (if c = 47 then fin (out ++ [now] ++ [[]]) else if c = 126 then ([], false) else fin (out ++ [now ++ [c]])) = fin (out ++ [now ++ [c]])
    rw [if_neg h1, if_neg h2]
  | cons e l => rw [wr, if_neg h1, if_neg h2]
theorem wr_t (e : UInt8) (out : List Bs) (now l : Bs) : wr out now (126 :: e :: l) = if e = 48 then wr out (now ++ [126]) l else if e = 49 then wr out (now ++ [47]) l else ([], false) := by
  rw [wr, if_neg (by decide), if_pos rfl]
def FWr (s : Bs) : List Bs × Bool := match s with
  | [] => ([], true)
  | c :: l => if c = 47 then wr [] [] l else ([], false)
theorem wr_enc : ∀ (w : List Bs) (u now : Bs) (out : List Bs), wr out now (u.flatMap en_ ++ FWay w) = fin (out ++ [now ++ u] ++ w)
  | [], [], now, out => by simp [FWay, wr]
  | s :: w, [], now, out => by
    have e : ([] : Bs).flatMap en_ ++ FWay (s :: w) = 47 :: (s.flatMap en_ ++ FWay w) := rfl
    rw [e, wr_sl, wr_enc w s [] _]; simp
  | w, c :: u, now, out => by
    have ih := fun x => wr_enc w u (now ++ [x]) out
    rw [List.flatMap_cons, List.append_assoc]
    by_cases h1 : c = 126
    · have e : en_ c = [126, 48] := if_pos h1
      rw [e]
      show wr out now (126 :: 48 :: (u.flatMap en_ ++ FWay w)) = _
      rw [wr_t, if_pos rfl, ih 126, h1]; simp
    · by_cases h2 : c = 47
      · have e : en_ c = [126, 49] := by unfold en_; rw [if_neg h1, if_pos h2]
        rw [e]
        show wr out now (126 :: 49 :: (u.flatMap en_ ++ FWay w)) = _
        rw [wr_t, if_neg (by decide), if_pos rfl, ih 47, h2]; simp
      · have e : en_ c = [c] := by unfold en_; rw [if_neg h1, if_neg h2]
        rw [e]
        show wr out now (c :: (u.flatMap en_ ++ FWay w)) = _
        rw [wr_c h2 h1, ih c]; simp
theorem FWr_enc {w : List Bs} (h : w.length ≤ 6) : FWr (FWay w) = (w, true) := by
  cases w with
  | nil => rfl
  | cons s w =>
    have e : FWay (s :: w) = 47 :: (s.flatMap en_ ++ FWay w) := rfl
    rw [e]
    show (if (47 : UInt8) = 47 then wr [] [] (s.flatMap en_ ++ FWay w) else ([], false)) = _
    rw [if_pos rfl, wr_enc]
    unfold fin
    rw [if_neg (by simp at h ⊢; omega)]; simp
def WrOk (B : Nat) (x : List Bs × Bool) : Prop := x.1.length ≤ 6 ∧ ∀ y ∈ x.1, y.length ≤ B
theorem fin_ok {B : Nat} {w : List Bs} (h : ∀ y ∈ w, y.length ≤ B) : WrOk B (fin w) := by
  unfold fin
  split
  · exact ⟨Nat.zero_le _, fun y h => (by cases h)⟩
  · exact ⟨by simp only; omega, h⟩
theorem wr_ok {B : Nat} : ∀ (n : Nat) (l now : Bs) (out : List Bs), l.length ≤ n → (∀ y ∈ out, y.length ≤ B) → now.length + l.length ≤ B → WrOk B (wr out now l) := by
  have app : ∀ {now : Bs} {out : List Bs}, (∀ y ∈ out, y.length ≤ B) → now.length ≤ B → ∀ y ∈ out ++ [now], y.length ≤ B := by
    intro now out h1 h2 y hy
    rcases List.mem_append.1 hy with hy | hy
    · exact h1 y hy
    · obtain rfl := List.mem_singleton.1 hy; exact h2
  have bad : WrOk B (([] : List Bs), false) := ⟨Nat.zero_le _, fun y h => (by cases h)⟩
  intro n
  induction n with
  | zero =>
    intro l now out hl h1 h2
    have : l = [] := List.eq_nil_of_length_eq_zero (by omega)
    subst this
    exact fin_ok (app h1 (by simpa using h2))
  | succ n ih =>
    intro l now out hl h1 h2
    cases l with
    | nil => exact fin_ok (app h1 (by simpa using h2))
    | cons c l =>
      simp only [List.length_cons] at hl h2
      by_cases hc : c = 47
      · subst hc
        rw [wr_sl]
        exact ih l [] _ (by omega) (app h1 (by omega)) (by simp; omega)
      · by_cases ht : c = 126
        · subst ht
          cases l with
          | nil => exact bad
          | cons e l =>
            rw [wr_t]
            simp only [List.length_cons] at hl h2
            split
            · exact ih l _ out (by omega) h1 (by simp; omega)
            · split
              · exact ih l _ out (by omega) h1 (by simp; omega)
              · exact bad
        · rw [wr_c hc ht]
          exact ih l _ out (by omega) h1 (by simp; omega)
theorem FWr_ok (s : Bs) : WrOk s.length (FWr s) := by
  unfold FWr
  split
  · exact ⟨Nat.zero_le _, fun y h => (by cases h)⟩
  · rename_i c l
    split
    · exact wr_ok l.length l [] [] (Nat.le_refl _) (fun y h => (by cases h)) (by simp)
    · exact ⟨Nat.zero_le _, fun y h => (by cases h)⟩
theorem fj_ {s : Bs} (hs : s.length ≤ 1000000) : Ev (fun n _ => aK_ n s) (FWr s) := by
  have key : ∀ (K : Nat → aK_.K6), (∀ out now, out.length ≤ 1000000 → s ≠ [] → Ev (fun n _ => K n s [] out (bi now)) (fin (out ++ [now]))) →
      ∀ (m i : Nat) (out : List Bs) (now : Bs), s.length - i ≤ m → 1 ≤ i → i ≤ s.length → out.length ≤ i → now.length ≤ i →
      Ev (fun n N => aK_.loop6 n (K n) N s (i : Int) [] out (bi now)) (wr out now (s.drop i)) := by
    intro K hK m
    induction m with
    | zero =>
      intro i out now hm h1 h2 h3 h4
      have : i = s.length := by omega
      subst this
      rw [List.drop_length]
      refine bv_ ?_
      simp only [aK_.turn6, aK_.step6, cL_, cond_false]
      exact hK out now (by omega) (fun e => by rw [e] at h1; simp at h1)
    | succ m ih =>
      intro i out now hm h1 h2 h3 h4
      by_cases hi : i < s.length
      · have hd := eg_ 0 hi
        have hbl := hy_ now
        have hW : W ((i : Int) + 1) = ((i + 1 : Nat) : Int) := by rw [W_id (by omega) (by omega)]; omega
        have hW2 : W (((i + 1 : Nat) : Int) + 1) = ((i + 2 : Nat) : Int) := by rw [W_id (by omega) (by omega)]; omega
        have hz : ((i : Int) == 0) = false := beq_eq_false_iff_ne.2 (by omega)
        have hg : decide ((i : Int) > 0) = true := decide_eq_true (by omega)
        refine bv_ ?_
        simp only [aK_.turn6, aK_.step6, cO_ hi, cond_true, bT_, cz_ hi, true_and, Int.toNat_natCast, hW, hW2, hz, hg, cond_false, byte47, byte126, g0_, cf_]
        rw [hd]
        generalize hc : s.getD i 0 = c
        by_cases c47 : c = 47
        · subst c47
          rw [wr_sl, decide_eq_true rfl]
          simp only [cond_true, cf_]
          exact ⟨by simp; omega, ih (i + 1) (out ++ [now]) [] (by omega) (by omega) (by omega) (by simp; omega) (by simp)⟩
        · rw [decide_eq_false c47]
          simp only [cond_false]
          by_cases c126 : c = 126
          · subst c126
            rw [decide_eq_true rfl]
            simp only [cond_true]
            by_cases hi2 : i + 1 < s.length
            · have hd2 := eg_ 0 hi2
              have hne : (((i + 1 : Nat) : Int) == (s.length : Int)) = false := beq_eq_false_iff_ne.2 (by omega)
              rw [hd2, wr_t]
              simp only [hne, cond_false, bT_, cz_ hi2, true_and, Int.toNat_natCast]
              generalize s.getD (i + 1) 0 = e
              have e48 : ((e.toNat : Int) == 48) = decide (e = 48) := iv_ e 48 48 rfl
              have e49 : ((e.toNat : Int) == 49) = decide (e = 49) := iv_ e 49 49 rfl
              have n1 := ih (i + 2) out (now ++ [126]) (by omega) (by omega) (by omega) (by omega) (by simp; omega)
              have n2 := ih (i + 2) out (now ++ [47]) (by omega) (by omega) (by omega) (by omega) (by simp; omega)
              rw [← j3_] at n1 n2
              simp only [bne, e48, e49]
              by_cases d48 : e = 48
              · subst d48
                simp only [decide_true, Bool.not_true, cond_false, cond_true, bT_, cz_ hi, cz_ hi2, true_and, cf_, if_true]
                exact ⟨by simp; omega, n1⟩
              · by_cases d49 : e = 49
                · subst d49
                  simp only [d48, decide_true, decide_false, Bool.not_true, Bool.not_false, cond_false, cond_true, bT_, cz_ hi, cz_ hi2, true_and, cf_, if_true, if_false]
                  exact ⟨by simp; omega, n2⟩
                · simp only [d48, d49, decide_false, Bool.not_false, cond_true, bT_, cz_ hi, cz_ hi2, true_and, an_, if_false]
            · have hne : (((i + 1 : Nat) : Int) == (s.length : Int)) = true := by simp; omega
              have hde : s.drop (i + 1) = [] := mF_ (by omega)
              rw [hde]
              simp only [hne, cond_true, bT_, cz_ hi, true_and, an_]
              rfl
          · rw [wr_c c47 c126, decide_eq_false c126]
            have n1 := ih (i + 1) out (now ++ [c]) (by omega) (by omega) (by omega) (by omega) (by simp; omega)
            rw [← j3_] at n1
            simp only [cond_false, bT_, cz_ hi, true_and, cf_]
            exact ⟨by simp; omega, n1⟩
      · have : i = s.length := by omega
        subst this
        rw [List.drop_length]
        refine bv_ ?_
        simp only [aK_.turn6, aK_.step6, cL_, cond_false]
        exact hK out now (by omega) (fun e => by rw [e] at h1; simp at h1)
  refine aS_ ?_
  simp only [aK_]
  cases s with
  | nil =>
    refine cE_ (f := fun n N => aK_.loop6 n (fun xy1 xy2 xy3 xy4 => (cond (!(xy1 == [])) (ci_ (xy3.length + ([(eN_ xy4)] : List Bs).length) 16 (cond (decide (((xy3 ++ ([(eN_ xy4)] : List Bs)).length : Int) > 6)) (some (xy2, false)) (some ((xy3 ++ ([(eN_ xy4)] : List Bs)), true)))) (cond (decide ((xy3.length : Int) > 6)) (some (xy2, false)) (some (xy3, true))))) N [] 0 [] [] []) (bv_ ?_)
    exact ⟨0, fun _ _ _ _ => rfl⟩
  | cons c l =>
    have hK : ∀ out now, out.length ≤ 1000000 → c :: l ≠ [] → Ev (fun n (_ : Nat) => (cond (!(c :: l == [])) (ci_ (out.length + ([(eN_ (bi now))] : List Bs).length) 16 (cond (decide (((out ++ ([(eN_ (bi now))] : List Bs)).length : Int) > 6)) (some (([] : List Bs), false)) (some ((out ++ ([(eN_ (bi now))] : List Bs)), true)))) (cond (decide ((out.length : Int) > 6)) (some ([], false)) (some (out, true))))) (fin (out ++ [now])) := by
      intro out now h1 _
      have e : (!(c :: l == [])) = true := rfl
      rw [e, g0_]
      simp only [cond_true, cf_, aM_, an_]
      unfold fin
      refine ⟨by simp; omega, fun h => ?_, fun h => ?_⟩
      · have h := of_decide_eq_true h; rw [if_pos (by omega)]
      · have h := of_decide_eq_false h; rw [if_neg (by omega)]
    refine cE_ (f := fun n N => aK_.loop6 n (fun xy1 xy2 xy3 xy4 => (cond (!(xy1 == [])) (ci_ (xy3.length + ([(eN_ xy4)] : List Bs).length) 16 (cond (decide (((xy3 ++ ([(eN_ xy4)] : List Bs)).length : Int) > 6)) (some (xy2, false)) (some ((xy3 ++ ([(eN_ xy4)] : List Bs)), true)))) (cond (decide ((xy3.length : Int) > 6)) (some (xy2, false)) (some (xy3, true))))) N (c :: l) 0 [] [] []) (bv_ ?_)
    have hk := key (fun _ => fun xy1 xy2 xy3 xy4 => (cond (!(xy1 == [])) (ci_ (xy3.length + ([(eN_ xy4)] : List Bs).length) 16 (cond (decide (((xy3 ++ ([(eN_ xy4)] : List Bs)).length : Int) > 6)) (some (xy2, false)) (some ((xy3 ++ ([(eN_ xy4)] : List Bs)), true)))) (cond (decide ((xy3.length : Int) > 6)) (some (xy2, false)) (some (xy3, true))))) hK l.length 1 [] [] (by simp) (Nat.le_refl _) (by simp) (by simp) (by simp)
    have c0 : decide ((0 : Int) < (((c :: l).length : Nat) : Int)) = true := decide_eq_true (by simp)
    have cg : decide ((0 : Int) > 0) = false := rfl
    have cz : ((0 : Int) == 0) = true := rfl
    have hW : W ((0 : Int) + 1) = ((1 : Nat) : Int) := rfl
    have hg0 : (c :: l).getD (0 : Int).toNat 0 = c := rfl
    simp only [aK_.turn6, aK_.step6, c0, cond_true, bT_, hg0, byte47, cg, cz, cond_false, hW]
    refine ⟨by simp, ?_⟩
    unfold FWr
    by_cases c47 : c = 47
    · rw [decide_eq_true c47]
      simp only [c47, if_true, cond_true]
      rw [c47] at hk
      exact hk
    · rw [decide_eq_false c47]
      simp only [c47, if_false, cond_false, an_]
def FWi (s : Bs) : List Bs × Bool := if s = [] then ([], true) else
  if (((db_ 47 s).drop 1).map fun p => eB_ 126 48 [126] (eB_ 126 49 [47] p)).length > 6 then ([], false) else
  if FWay (((db_ 47 s).drop 1).map fun p => eB_ 126 48 [126] (eB_ 126 49 [47] p)) = s then (((db_ 47 s).drop 1).map fun p => eB_ 126 48 [126] (eB_ 126 49 [47] p), true) else ([], false)
theorem f6_ {a b c : UInt8} {s : Bs} (hs : s.length ≤ 1000000) (hne : ([a, b] == [c]) = false) : Ev (fun n _ => strings_ReplaceAll n s [a, b] [c]) (eB_ a b [c] s) := by
  refine aS_ ?_
  have := lK_ a b s
  simp only [strings_ReplaceAll, ec_, count2, lq_ a b [c] s hne, aM_, an_, cM_]
  refine ⟨fun _ => trivial, fun h => ?_⟩
  have e1 : decide (s.length < 4294967281) = true := decide_eq_true (by omega)
  have e2 : decide (1 ≤ [a, b].length) = true := rfl
  have e3 : decide (s.length + cnt2 a b s * [c].length ≤ 140737488355328) = true := decide_eq_true (by simp only [List.length_cons, List.length_nil]; omega)
  rw [e1, e2, e3] at h; cases h
theorem Split_ev {s : Bs} {b : UInt8} (hs : s.length ≤ 1000000) : Ev (fun n _ => strings_Split n s [b]) (db_ b s) := by
  refine aS_ ?_
  have e1 : decide (s.length < 4294967281) = true := decide_eq_true (by omega)
  have e2 : decide (1 ≤ [b].length) = true := rfl
  simp only [strings_Split, mh_, split_one, e1, e2, Bool.and_self, cond_true, an_]
theorem ft_ {s : Bs} (hs : s.length ≤ 60) : Ev (fun n _ => a1_ n s) (FWi s) := by
  refine aS_ ?_
  simp only [a1_, aM_, an_, ae_ (Split_ev (s := s) (b := 47) (by omega))]
  unfold FWi
  by_cases h0 : s = []
  · rw [if_pos h0, h0]
    exact ⟨fun _ => rfl, fun h => (by cases h)⟩
  · rw [if_neg h0, beq_eq_false_iff_ne.2 h0]
    refine ⟨fun h => (by cases h), fun _ => ?_⟩
    obtain ⟨hl, hp⟩ := g5_ 47 s
    obtain ⟨p, ps, e⟩ := g4_ 47 s
    rw [e] at hl hp ⊢
    have e1 : (((p :: ps).length : Nat) : Int).toNat = ps.length + 1 := by simp
    have e2 : ((p :: ps).take (ps.length + 1)).drop 1 = ps := by
      rw [List.take_of_length_le (by simp)]; rfl
    have e3 : (ps.length + 1 - 1 : Nat) = ps.length := rfl
    have e4 : (p :: ps).drop 1 = ps := rfl
    simp only [e1, e2, e3, e4, dI_]
    refine ⟨by simp only [List.length_cons] at hl ⊢; omega, ?_⟩
    simp only [List.length_cons] at hl
    have hps : ∀ q ∈ ps, q.length ≤ 60 := fun q hq => by have := hp q (List.mem_cons_of_mem _ hq); omega
    refine ev_map [] ps (fun p => eB_ 126 48 [126] (eB_ 126 49 [47] p)) (fun n N i (o : List Bs) => a1_.loop7 n (fun xy4 xy5 => (cond (decide ((xy5.length : Int) > 6)) (some (([] : List Bs), false)) ((aV_ n xy5).bind fun xr6 => (cond (!(xr6 == xy4)) (some (([] : List Bs), false)) (some (xy5, true)))))) N s ps (ps.length : Int) (i : Int) o) _ (fun i o hi ho F hF => ?_) ?_
    · have hq := hps _ (cx_ [] hi)
      have r1 := f6_ (a := 126) (b := 49) (c := 47) (s := ps.getD i []) (by omega) rfl
      have r1l := eR_ 126 49 47 (ps.getD i [])
      have r2 := f6_ (a := 126) (b := 48) (c := 126) (s := eB_ 126 49 [47] (ps.getD i [])) (by omega) rfl
      have hW := W_up hi (show ps.length ≤ cv_ by simp only [cv_]; omega)
      simp only [a1_.turn7, a1_.step7, cO_ hi, cond_true, bT_, cz_ hi, true_and, Int.toNat_natCast, hW, ae_ r1, ae_ r2, cf_]
      exact ⟨by simp; omega, hF⟩
    · generalize hw : ps.map (fun p => eB_ 126 48 [126] (eB_ 126 49 [47] p)) = w
      have hwl : ∀ q ∈ w, q.length ≤ 60 := by
        intro q hq
        rw [← hw] at hq
        obtain ⟨x, hx, rfl⟩ := List.mem_map.1 hq
        have := eR_ 126 49 47 x
        have := eR_ 126 48 126 (eB_ 126 49 [47] x)
        have := hps x hx
        omega
      simp only [a1_.turn7, a1_.step7, cL_, cond_false, aM_, an_]
      refine ⟨fun h => ?_, fun h => ?_⟩
      · have h := of_decide_eq_true h; rw [if_pos (by omega)]
      · have h := of_decide_eq_false h
        rw [if_neg (by omega)]
        simp only [ae_ (fs_ (w := w) (by omega) hwl), aM_, an_]
        by_cases he : FWay w = s
        · rw [he, if_pos rfl]; simp
        · rw [if_neg he, beq_eq_false_iff_ne.2 he]; simp
theorem FWi_enc {w : List Bs} (h : w.length ≤ 6) : FWi (FWay w) = (w, true) := by
  unfold FWi
  cases w with
  | nil => rfl
  | cons s w =>
    have e : FWay (s :: w) ≠ [] := by
      show 47 :: _ ≠ []
      intro e; cases e
    have e2 : ((db_ 47 (FWay (s :: w))).drop 1).map (fun p => eB_ 126 48 [126] (eB_ 126 49 [47] p)) = s :: w := by
      rw [kn_]
      show (((s :: w).map fun s => s.flatMap en_).map fun p => eB_ 126 48 [126] (eB_ 126 49 [47] p)) = _
      rw [List.map_map]
      refine (List.map_congr_left fun x _ => ?_).trans (List.map_id _)
      show eB_ 126 48 [126] (eB_ 126 49 [47] (x.flatMap en_)) = x
      rw [unesc1, unesc2]
    rw [if_neg e, e2, if_neg (by omega), if_pos rfl]
theorem FWi_ok {s : Bs} : WrOk s.length (FWi s) := by
  unfold FWi
  split
  · exact ⟨Nat.zero_le _, fun y h => (by cases h)⟩
  · split
    · exact ⟨Nat.zero_le _, fun y h => (by cases h)⟩
    · rename_i h
      split
      · refine ⟨by simp only; omega, fun y hy => ?_⟩
        obtain ⟨x, hx, rfl⟩ := List.mem_map.1 hy
        have h1 := eR_ 126 49 47 x
        have h2 := eR_ 126 48 126 (eB_ 126 49 [47] x)
        have h3 := (g5_ 47 s).2 x (List.mem_of_mem_drop hx)
        omega
      · exact ⟨Nat.zero_le _, fun y h => (by cases h)⟩
end Go.Pi
end
section
set_option linter.unusedVariables false
set_option maxRecDepth 100000
set_option linter.unusedSimpArgs false
namespace Go.Pi
theorem jr_ : ∀ (d : Nat) (j : aa_), d4_ d j j = true
  | 0, _ => rfl
  | d + 1, j => by
    simp only [d4_, gk_, beq_self_eq_true, decide_true, Bool.true_and, Bool.and_eq_true]
    exact ⟨fT_.2 fun i _ => by simp, fT_.2 fun i _ => jr_ d _⟩
theorem ku_ {j : aa_} (h : bw_ 6 j ≤ 400) : eK_ j j = true := by
  unfold eK_ cF_
  rw [decide_eq_true h, jr_]; rfl
theorem jx_ {j : aa_} (h : bw_ 6 j ≤ 400) : j.s.length ≤ 60 := by
  have ho2 := dy_ (dl_ h)
  by_cases hk : j.kind = 3
  · exact fG_ (ho2.text hk)
  · rw [ho2.s0 hk]; exact Nat.zero_le _
theorem jP_ {k : Int} {x : List Bs × Bool} {v : aa_} {s : Bs} (hs : s.length ≤ 60) (hw : WrOk s.length x) (hv : bw_ 6 v ≤ 400) : dU_ (TOp.mk k x.1 v) :=
  ⟨⟨by have := hw.1; show x.1.length ≤ cv_; simp only [cv_]; omega, fun y hy => by have := hw.2 y hy; simp only [cv_]; omega⟩, cC_ 6 v hv⟩
theorem dr_ : dU_ (TOp.mk 0 [] (aa_.mk 0 0 [] [] [])) := ⟨⟨Nat.zero_le _, fun y h => (by cases h)⟩, ed_ 6⟩
abbrev dt_ : List Bs := [[97, 100, 100], [114, 101, 109, 111, 118, 101], [114, 101, 112, 108, 97, 99, 101], [116, 101, 115, 116]]
theorem i4_ : Ev (fun n _ => bK_ n ()) dt_ := aS_ (by simp only [bK_, an_])
theorem i8_ : Ev (fun n _ => bJ_ n ()) ([] :: dt_) := aS_ (by simp only [bJ_, an_])
theorem il_ {p : aa_} (h : bw_ 6 p ≤ 400) : Ans (fun n _ => b5_ n p) fun x => dU_ x.1 := by
  refine cS_ ?_
  have hs := jx_ (ee_ h dS_)
  have hv := ee_ h eU_
  have hw := FWi_ok (s := (d3_ p dS_).1.s)
  have hL := fun k => jP_ (k := k) hs hw hv
  simp only [b5_, br_, bI_ (gI_ h), bI_ (ft_ hs), bI_ i4_, bI_ (el_ (l := dt_) (by decide)), cp_, ch_]
  refine ⟨fun _ => dr_, fun _ => ⟨fun _ => dr_, fun _ => ⟨fun _ => dr_, fun _ => ?_⟩⟩⟩
  have hk := hL (W (1 + FIdx dt_ (d3_ p [111, 112]).1.s))
  simp only [bI_ (fu_ hk), bI_ (dP_ hk), bI_ (e9_ (ge_ hk) (cC_ 6 p h)), cp_, ch_]
  exact ⟨fun _ => dr_, fun _ => ⟨fun _ => dr_, fun _ => hk⟩⟩
structure OpIn (o : TOp) : Prop where
  ok : fZ_ o = true
  val : cr_ o = c1_ o
  size : bw_ 6 (c1_ o) ≤ 400
theorem op_in {o : TOp} (h : (cr_ o).kind ≠ 0) : OpIn o := by
  unfold cr_ at h
  cases ho : fZ_ o with
  | false => rw [ho] at h; exact absurd rfl h
  | true =>
    rw [ho, cond_true] at h
    unfold iE_ at h
    cases hj : cF_ (c1_ o) with
    | false => rw [hj] at h; exact absurd rfl h
    | true =>
      refine ⟨ho, ?_, of_decide_eq_true hj⟩
      unfold cr_ iE_
      rw [ho, hj]; rfl
theorem kb_ {j : aa_} (h : gW_ j = true) : j = fd_ := by
  unfold gW_ at h
  simp only [Bool.and_eq_true, beq_iff_eq, decide_eq_true_eq] at h
  obtain ⟨h1, h2, h3, h4, h5⟩ := h
  obtain ⟨k, n, s, l, ns⟩ := j
  simp only at h1 h2 h3 h4 h5
  rw [h1, h2, h3, List.eq_nil_of_length_eq_zero h4, List.eq_nil_of_length_eq_zero h5]; rfl
theorem val_of {o : TOp} (h : fZ_ o = true) (hk : o.kind = 2) : o.value = fd_ := by
  unfold fZ_ at h
  simp only [Bool.and_eq_true, Bool.or_eq_true] at h
  rcases h.2.2.2.2 with h | h
  · rw [hk] at h; exact absurd h (by decide)
  · exact kb_ h
theorem mB_ {o : TOp} : d3_ (c1_ o) nx_ = (mT_ (d1_ o.kind), true) := by
  unfold c1_
  cases (o.kind == 2) <;> rfl
theorem hg_ {o : TOp} : d3_ (c1_ o) dS_ = (mT_ (FWay o.way), true) := by
  unfold c1_
  cases (o.kind == 2) <;> rfl
theorem io_ {o : TOp} (h : fZ_ o = true) : (d3_ (c1_ o) eU_).1 = o.value := by
  unfold c1_
  cases hk : (o.kind == 2) with
  | false => rfl
  | true => rw [val_of h (by simpa using hk)]; rfl
theorem kind_back {o : TOp} (h : OpIs o) : W (1 + FIdx dt_ (d1_ o.kind)) = o.kind := by
  rcases h.kind with e | e | e | e <;> rw [e] <;> decide
theorem lf_ {o : TOp} (h : OpIn o) : (FWay o.way).length ≤ 60 := by
  have := jx_ (ee_ h.size dS_)
  rw [hg_] at this
  exact this
theorem ik_ {o : TOp} (h : OpIn o) : Ev (fun n _ => b5_ n (c1_ o)) (o, true) := by
  have hi := lr_ h.ok
  have hL : dU_ o := jP_ (x := (o.way, true)) (v := o.value) (s := FWay o.way) (lf_ h) ⟨hi.way, fun y hy => by
    have : y.length ≤ (y.flatMap en_).length := by
      clear hy
      induction y with
      | nil => exact Nat.le_refl _
      | cons c y ih => rw [List.flatMap_cons, List.length_append, List.length_cons]; have : 1 ≤ (en_ c).length := by unfold en_; split <;> (try split) <;> simp
                       omega
    have : ∀ w : List Bs, y ∈ w → (y.flatMap en_).length ≤ (FWay w).length := by
      intro w
      induction w with
      | nil => intro h; cases h
      | cons s w ih =>
        intro h
        have e : FWay (s :: w) = (47 :: s.flatMap en_) ++ FWay w := rfl
        rw [e, List.length_append, List.length_cons]
        rcases List.mem_cons.1 h with rfl | h
        · omega
        · have := ih h; omega
    have := this o.way hy
    simp only at hy; omega⟩ hi.val
  have hop := mB_ (o := o)
  have hpa := hg_ (o := o)
  have hva := io_ h.ok
  have hs := lf_ h
  have hW := kind_back hi
  have hw : Ev (fun n _ => a1_ n (FWay o.way)) (o.way, true) := by rw [← FWi_enc hi.way]; exact ft_ hs
  have hS := e9_ (a := c1_ o) (b := c1_ o) (cC_ 6 _ h.size) (cC_ 6 _ h.size)
  rw [ku_ h.size] at hS
  have hJ := dP_ hL
  rw [h.val] at hJ
  have hK := fu_ hL
  rw [h.ok] at hK
  unfold nx_ at hop
  unfold dS_ at hpa
  refine aS_ ?_
  simp only [b5_, br_, ae_ (gI_ h.size), hop, hpa, hva, mT_, ae_ hw, ae_ i4_, ae_ (el_ (l := dt_) (by decide)), hW, Bool.not_true, cond_false, f1_, ae_ hK, ae_ hJ, ae_ hS, an_]
def FK (k : Int) (s : Bs) : Nat → Nat → Int → Int
  | 0, _, t => t
  | j + 1, i, t => FK k s j (i + 1) (cond (k == 3) (cond (s == ([] :: dt_).getD i []) (i : Int) t) t)
theorem ib_ {K : Nat → aH_.K7} {F : TOp × Bool} {a0 a1 : Int} {a2 : Bs} {a3 : List aa_} {a4 : List Bs} {b1 b2 b3 : Int} {b4 : Bs} {c2 c3 : Int} {c4 : Bs} {k d1 : Int} {s : Bs} {e0 e1 : Int} {e2 : Bs} {f3 : List aa_} {f4 : List Bs} {g3 : List aa_} {g4 : List Bs} :
    ∀ (j i : Nat) (t : Int), i + j = 5 → Ev (fun n _ => K n a0 a1 a2 a3 a4 b1 b2 b3 b4 (FK k s j i t) c2 c3 c4 e0 e1 e2 g3 g4) F →
      Ev (fun n N => aH_.loop7 n (K n) N (i : Int) a0 a1 a2 a3 a4 b1 b2 b3 b4 t c2 c3 c4 k d1 s e0 e1 e2 ([] :: dt_) f3 f4 g3 g4) F := by
  have hlen : (([] : Bs) :: dt_).length = 5 := rfl
  intro j
  induction j with
  | zero =>
    intro i t hi hK
    obtain rfl : i = 5 := by omega
    refine bv_ ?_
    have : decide (((5 : Nat) : Int) < (((([] : Bs) :: dt_).length : Nat) : Int)) = false := by rw [hlen]; exact decide_eq_false (by omega)
    simp only [aH_.turn7, aH_.step7, this, cond_false]
    exact hK
  | succ j ih =>
    intro i t hi hK
    have hlt : i < (([] : Bs) :: dt_).length := by rw [hlen]; omega
    have hW : W ((i : Int) + 1) = ((i + 1 : Nat) : Int) := by rw [W_id (by omega) (by omega)]; omega
    refine bv_ ?_
    simp only [aH_.turn7, aH_.step7, cO_ hlt, cond_true, Int.toNat_natCast, hW, aM_, bT_, cz_ hlt, true_and]
    unfold FK at hK
    refine ⟨fun h3 => ?_, fun h3 => ?_⟩
    · rw [h3, cond_true] at hK
      exact ⟨fun he => by rw [he, cond_true] at hK; exact ih (i + 1) _ (by omega) hK, fun he => by rw [he, cond_false] at hK; exact ih (i + 1) _ (by omega) hK⟩
    · rw [h3, cond_false] at hK
      exact ih (i + 1) _ (by omega) hK
theorem tail_any {p : aa_} (h : bw_ 6 p ≤ 400) {t : Bool} {k : Int} {w : List Bs} {v : aa_} {b1 b2 b3 : Int} {b4 : Bs} (hk : dU_ (TOp.mk k w v)) :
    Ans (fun n (_ : Nat) => aH_.tail15 n t p.kind p.n_ p.s p.list p.names b1 b2 b3 b4 k w v.kind v.n_ v.s v.list v.names) fun x => dU_ x.1 := by
  simp only [aH_.tail15, br_, dg_, cp_, ch_, bI_ (dN_ hk), bI_ (e7_ (ge_ hk) (cC_ 6 p h))]
  exact ⟨fun _ => dr_, fun _ => ⟨fun _ => dr_, fun _ => ⟨fun _ => dr_, fun _ => hk⟩⟩⟩
theorem hY_ {p : aa_} (h : bw_ 6 p ≤ 400) : Ans (fun n _ => aH_ n p) fun x => dU_ x.1 := by
  have hs := jx_ (ee_ h dS_)
  have hv := ee_ h eU_
  have hw := FWr_ok (d3_ p dS_).1.s
  have hL := fun k => jP_ (k := k) hs hw hv
  refine cS_ ?_
  simp only [aH_, br_, bI_ (d6_ h), bI_ i8_]
  obtain ⟨v, h1, h2⟩ := tail_any h (t := (FWr (d3_ p dS_).1.s).2) (b1 := 0) (b2 := 0) (b3 := 0) (b4 := []) (hL (FK (d3_ p nx_).1.kind (d3_ p nx_).1.s 4 1 0))
  refine ⟨v, ?_, h2⟩
  refine cE_ (ib_ (K := fun n => fun xy4 xy5 xy6 xy7 xy8 xy9 xy10 xy11 xy12 xy13 xy14 xy15 xy16 xy17 xy18 xy19 xy20 xy21 => ((aK_ n xy19).bind fun xr22 => ((cc_ n (aa_.mk xy4 xy5 xy6 xy7 xy8) [118, 97, 108, 117, 101]).bind fun xr23 => (aH_.tail15 n xr22.2 xy4 xy5 xy6 xy7 xy8 xy9 xy10 xy11 xy12 xy13 xr22.1 xr23.1.kind xr23.1.n_ xr23.1.s xr23.1.list xr23.1.names)))) 4 1 0 rfl ?_)
  simp only [dg_, ae_ (fj_ (s := (d3_ p dS_).1.s) (by omega)), ae_ (d6_ h)]
  exact h1
theorem m9_ {o : TOp} (h : OpIs o) : FK 3 (d1_ o.kind) 4 1 0 = o.kind := by
  rcases h.kind with e | e | e | e <;> rw [e] <;> decide
theorem mp_ {o : TOp} (h : OpIn o) : dU_ o := by
  have hi := lr_ h.ok
  exact ⟨⟨by have := hi.way; simp only [cv_]; omega, fun y hy => by have := hi.text y hy; simp only [cv_]; omega⟩, cC_ 6 _ hi.val⟩
theorem hX_ {o : TOp} (h : OpIn o) : Ev (fun n _ => aH_ n (c1_ o)) (o, true) := by
  have hi := lr_ h.ok
  have hL := mp_ h
  have hop := mB_ (o := o)
  have hpa := hg_ (o := o)
  have hva := io_ h.ok
  have hs := lf_ h
  have hW := m9_ hi
  have hw : Ev (fun n _ => aK_ n (FWay o.way)) (o.way, true) := by rw [← FWr_enc hi.way]; exact fj_ (by omega)
  have hS := e7_ (a := c1_ o) (b := c1_ o) (cC_ 6 _ h.size) (cC_ 6 _ h.size)
  rw [ku_ h.size] at hS
  have hJ := dN_ hL
  rw [h.val] at hJ
  have hk0 : (o.kind == 0) = false := beq_eq_false_iff_ne.2 (by rcases hi.kind with e | e | e | e <;> omega)
  unfold nx_ at hop
  unfold dS_ at hpa
  refine aS_ ?_
  simp only [aH_, br_, ae_ (d6_ h.size), ae_ i8_, hop, hpa, mT_]
  refine cE_ (ib_ (K := fun n => fun xy4 xy5 xy6 xy7 xy8 xy9 xy10 xy11 xy12 xy13 xy14 xy15 xy16 xy17 xy18 xy19 xy20 xy21 => ((aK_ n xy19).bind fun xr22 => ((cc_ n (aa_.mk xy4 xy5 xy6 xy7 xy8) [118, 97, 108, 117, 101]).bind fun xr23 => (aH_.tail15 n xr22.2 xy4 xy5 xy6 xy7 xy8 xy9 xy10 xy11 xy12 xy13 xr22.1 xr23.1.kind xr23.1.n_ xr23.1.s xr23.1.list xr23.1.names)))) 4 1 0 rfl ?_)
  simp only [dg_, hW, ae_ hw, ae_ (d6_ h.size), hva, aH_.tail15, br_, Bool.not_true, hk0, cond_false, f1_, ae_ hJ, ae_ hS, an_]
end Go.Pi
end
section
set_option linter.unusedVariables false
set_option maxRecDepth 100000
set_option linter.unusedSimpArgs false
namespace Go.Pi
mutual
def aa_.size : aa_ → Nat
  | ⟨_, _, s, l, ns⟩ => s.length + ((l.length + aa_.sizes l) + dk_ szB ns)
def aa_.sizes : List aa_ → Nat
  | [] => 0
  | x :: l => aa_.size x + aa_.sizes l
end
mutual
def aa_.len : aa_ → Prop
  | ⟨_, _, s, l, ns⟩ => s.length ≤ cv_ ∧ (l.length ≤ cv_ ∧ aa_.lens l) ∧ lenL lenB ns
def aa_.lens : List aa_ → Prop
  | [] => True
  | x :: l => aa_.len x ∧ aa_.lens l
end
theorem aa_.sizes_eq : ∀ l : List aa_, aa_.sizes l = ds_ aa_.size l
  | [] => by simp only [aa_.sizes, ds_]
  | x :: l => by simp only [aa_.sizes, ds_, aa_.sizes_eq l]
theorem aa_.lens_iff : ∀ l : List aa_, aa_.lens l ↔ ∀ x ∈ l, aa_.len x
  | [] => by simp [aa_.lens]
  | x :: l => by simp [aa_.lens, aa_.lens_iff l]
theorem aa_.size_eq (j : aa_) : aa_.size j = j.s.length + (dk_ aa_.size j.list + dk_ szB j.names) := by
  cases j; simp only [aa_.size, aa_.sizes_eq, dk_]
theorem aa_.len_iff (j : aa_) : aa_.len j ↔ j.s.length ≤ cv_ ∧ lenL aa_.len j.list ∧ lenL lenB j.names := by
  cases j; simp only [aa_.len, aa_.lens_iff, lenL]
theorem aa_.re_eq (j : aa_) : aa_.re j = j := by cases j; rfl
theorem aa_.dec {x : aa_} {a : List aa_} (h : x ∈ a) : SizeOf.sizeOf x.list < SizeOf.sizeOf a := by
  have h1 := List.sizeOf_lt_of_mem h
  have h2 : SizeOf.sizeOf x.list < SizeOf.sizeOf x := by cases x; simp; omega
  omega
def TOp.size (s : TOp) : Nat := (dk_ szB) s.way + aa_.size s.value
def TOp.len (s : TOp) : Prop := (lenL lenB) s.way ∧ aa_.len s.value
theorem TOp.eta (x : TOp) : TOp.mk x.kind x.way x.value = x := rfl
def bb_.size (s : bb_) : Nat := aa_.size s.doc + (dk_ TOp.size) s.ops
def bb_.len (s : bb_) : Prop := aa_.len s.doc ∧ (lenL TOp.len) s.ops
theorem bb_.eta (x : bb_) : bb_.mk x.kind x.version x.base x.doc x.ops = x := rfl
def a3_.size (s : a3_) : Nat := szB s.s
def a3_.len (s : a3_) : Prop := lenB s.s
def aC_.size (s : aC_) : Nat := szB s.text
def aC_.len (s : aC_) : Prop := lenB s.text
theorem jm_ {a : List aa_} (ha : dk_ aa_.size a ≤ cv_) (ih : ∀ x ∈ a, Ev (fun n _ => bA_ n x x) true) : Ev (fun n _ => aZ_ n a a) true := by
  refine aS_ ?_
  have hl := dc_ aa_.size a
  simp only [aZ_, aM_, bne_self_eq_false]
  refine ⟨fun h => (by cases h), fun _ => ?_⟩
  refine ev_up1 (fun n N i => aZ_.loop6 n (bA_ n) (some true) N a a (i : Int)) (fun _ => true) a.length fun i hi k => ?_
  show Ev (fun n N => aZ_.step6 n (bA_ n) (some true) (aZ_.loop6 n (bA_ n) (some true) N) a a (i : Int)) true
  by_cases h : i < a.length
  · simp only [aZ_.step6, aa_.re_eq, Int.toNat_natCast, aM_, bT_, ae_ (ih _ (cx_ aa_.dflt h)), bne_self_eq_false, beq_self_eq_true, Bool.not_true, W_up h (show a.length ≤ cv_ by omega)]
    exact ⟨fun _ => ⟨⟨by omega, by omega⟩, ⟨by omega, by omega⟩, fun h => (by cases h), fun _ => k h⟩, fun h' => absurd h (by simpa using h')⟩
  · simp only [aZ_.step6, aM_, an_]
    exact ⟨fun h' => absurd (of_decide_eq_true h') (by omega), fun _ => trivial⟩
theorem hv_ {a : List Bs} (ha : (dk_ szB) a ≤ cv_) : Ev (fun n _ => aG_ n a a) true := by
  refine aS_ ?_
  have hl := dc_ szB a
  simp only [aG_, aM_, bne_self_eq_false]
  refine ⟨fun h => (by cases h), fun _ => ?_⟩
  refine ev_up1 (fun n N i => aG_.loop6 n (some true) N a a (i : Int)) (fun _ => true) a.length fun i hi k => ?_
  show Ev (fun n N => aG_.step6 n (some true) (aG_.loop6 n (some true) N) a a (i : Int)) true
  by_cases h : i < a.length
  · simp only [aG_.step6, Int.toNat_natCast, aM_, bT_, bne_self_eq_false, beq_self_eq_true, Bool.not_true, W_up h (show a.length ≤ cv_ by omega)]
    exact ⟨fun _ => ⟨⟨by omega, by omega⟩, ⟨by omega, by omega⟩, fun h => (by cases h), fun _ => k h⟩, fun h' => absurd h (by simpa using h')⟩
  · simp only [aG_.step6, aM_, an_]
    exact ⟨fun h' => absurd (of_decide_eq_true h') (by omega), fun _ => trivial⟩
theorem hh_ (a : aa_) (ha : aa_.size a ≤ cv_) : Ev (fun n _ => bA_ n a a) true := by
  have hq := aa_.size_eq a
  refine aS_ ?_
  have h1 := jm_ (a := a.list) (by omega) fun x hx => hh_ x (by have := jB_ aa_.size hx; omega)
  have h2 := hv_ (a := a.names) (by omega)
  simp only [bA_, ae_ h1, ae_ h2, bne_self_eq_false, beq_self_eq_true, Bool.not_true, cond_false, an_]
termination_by SizeOf.sizeOf a
decreasing_by
  have := List.sizeOf_lt_of_mem hx
  cases a
  simp at this ⊢
  omega
theorem k1_ {a : aa_} (ha : aa_.size a ≤ cv_) : Ev (fun n _ => bA_ n a a) true := hh_ a ha
theorem eqJsonS_ev {a : List aa_} (ha : dk_ aa_.size a ≤ cv_) : Ev (fun n _ => aZ_ n a a) true := jm_ ha fun x hx => hh_ x (by have := jB_ aa_.size hx; omega)
theorem eqOp_ev {a : TOp} (ha : TOp.size a ≤ cv_) : Ev (fun n _ => cw_ n a a) true := by
  refine aS_ ?_
  simp only [TOp.size] at ha
  have h0 := hv_ (a := a.way) (by omega)
  have h1 := k1_ (a := a.value) (by omega)
  simp only [cw_, aa_.re_eq, TOp.eta, ae_ h0, ae_ h1, bne_self_eq_false, beq_self_eq_true, Bool.not_true, cond_false, an_]
theorem eqOpS_ev {a : List TOp} (ha : (dk_ TOp.size) a ≤ cv_) : Ev (fun n _ => bh_ n a a) true := by
  refine aS_ ?_
  have hl := dc_ TOp.size a
  simp only [bh_, aM_, bne_self_eq_false]
  refine ⟨fun h => (by cases h), fun _ => ?_⟩
  refine ev_up1 (fun n N i => bh_.loop6 n (some true) N a a (i : Int)) (fun _ => true) a.length fun i hi k => ?_
  show Ev (fun n N => bh_.step6 n (some true) (bh_.loop6 n (some true) N) a a (i : Int)) true
  by_cases h : i < a.length
  · simp only [bh_.step6, Int.toNat_natCast, aM_, bT_, aa_.re_eq, TOp.eta, ae_ (eqOp_ev (a := a.getD i TOp.dflt) (by have := jB_ TOp.size (cx_ TOp.dflt h); omega)), bne_self_eq_false, beq_self_eq_true, Bool.not_true, W_up h (show a.length ≤ cv_ by omega)]
    exact ⟨fun _ => ⟨⟨by omega, by omega⟩, ⟨by omega, by omega⟩, fun h => (by cases h), fun _ => k h⟩, fun h' => absurd h (by simpa using h')⟩
  · simp only [bh_.step6, aM_, an_]
    exact ⟨fun h' => absurd (of_decide_eq_true h') (by omega), fun _ => trivial⟩
theorem nl_ {a : bb_} (ha : bb_.size a ≤ cv_) : Ev (fun n _ => bW_ n a a) true := by
  refine aS_ ?_
  simp only [bb_.size] at ha
  have h0 := k1_ (a := a.doc) (by omega)
  have h1 := eqOpS_ev (a := a.ops) (by omega)
  simp only [bW_, aa_.re_eq, bb_.eta, ae_ h0, ae_ h1, bne_self_eq_false, beq_self_eq_true, Bool.not_true, cond_false, an_]
theorem eV_ (n : Nat) (k0 : Bs → Option Bs) (N : Nat) (k : Int) (out : Bs) : aE_.loop6 n k0 (N + 1) k out = aE_.step6 n k0 (aE_.loop6 n k0 N) k out := rfl
theorem gd_ (k : Int) (hk : k ≤ cv_) : ∃ t, Ev (fun n _ => aE_ n k) t := by
  by_cases h0 : k ≤ 0
  · exact ⟨[109, 48], aS_ (by simp only [aE_, aM_, an_]; exact ⟨fun _ => trivial, fun h => absurd h0 (of_decide_eq_false h)⟩)⟩
  have key : ∀ (j : Nat) (k : Int) (out : Bs), k < 10 ^ j → k ≤ cv_ → out.length + j ≤ 100 → ∃ t, Ev (fun n N => aE_.loop6 n (fun xy2 => (cond (decide ([109].length + xy2.length ≤ 9223372036854775807)) (some (([109] : Bs) ++ xy2)) none)) N k out) t := by
    intro j
    induction j with
    | zero =>
      intro k out hj hk ho
      refine ⟨[109] ++ out, bv_ ?_⟩
      simp only [eV_, aE_.step6, aM_, an_, cM_]
      exact ⟨fun h => absurd (of_decide_eq_true h) (by simp at hj; omega), fun _ => ⟨fun _ => trivial, fun h => absurd (of_decide_eq_false h) (by simp; omega)⟩⟩
    | succ j ih =>
      intro k out hj hk ho
      by_cases hp : k > 0
      · have e1 : Int.tdiv k 10 = k / 10 := Int.tdiv_eq_ediv_of_nonneg (by omega)
        have e2 : W (Int.tdiv k 10) = k / 10 := by rw [e1]; exact W_id (by omega) (by simp only [cv_] at hk; omega)
        obtain ⟨t, ht⟩ := ih (k / 10) ((eN_ ([(IntKind.u8.wrap ((W (48 + (Int.tmod k 10)))))] : List Int)) ++ out) (by rw [Int.pow_succ] at hj; omega) (by simp only [cv_] at hk ⊢; omega) (by simp [eN_]; omega)
        refine ⟨t, bv_ ?_⟩
        simp only [eV_, aE_.step6, aM_, cM_, e2]
        exact ⟨fun _ => ⟨fun _ => ht, fun h => absurd (of_decide_eq_false h) (by simp [eN_]; omega)⟩, fun h => absurd hp (of_decide_eq_false h)⟩
      · refine ⟨[109] ++ out, bv_ ?_⟩
        simp only [eV_, aE_.step6, aM_, an_, cM_]
        exact ⟨fun h => absurd (of_decide_eq_true h) hp, fun _ => ⟨fun _ => trivial, fun h => absurd (of_decide_eq_false h) (by simp; omega)⟩⟩
  obtain ⟨t, ht⟩ := key 19 k [] (by simp only [cv_] at hk; omega) hk (by simp)
  refine ⟨t, aS_ ?_⟩
  simp only [aE_, aM_]
  exact ⟨fun h => absurd (of_decide_eq_true h) h0, fun _ => cE_ (f := fun n N => aE_.loop6 n _ N k []) ht⟩
theorem dO_ {a : List Bs} {k : Int} (ha : a.length ≤ cv_) (hk : 0 ≤ k) (hb : k + 32 * ((dk_ szB) a : Nat) ≤ cv_) :
    ∃ k' a', k ≤ k' ∧ k' ≤ k + 32 * ((dk_ szB) a : Nat) ∧ a'.length = a.length ∧ Ev (fun n _ => ap_ n a k) (k', a') ∧ Ev (fun n _ => aq_ n a' k) k' := by
  refine (kH_ [] szB (fun n N k i a => ap_.loop3 n (fun xy3 xy4 => (some (xy3, xy4))) N k (i : Int) a) (fun n N a k i => aq_.loop3 n (fun xy2 => (some xy2)) N a k (i : Int)) (fun i a k hi ha hk hb => ?_) (fun a k => ?_) (fun a k => ?_) a k ha hk hb).elim fun k' ⟨a', h1, h2, h3, h4, h5⟩ => ⟨k', a', h1, h2, h3, aS_ h4, aS_ h5⟩
  · generalize hx : a.getD i [] = x at *
    simp only [szB] at hb ⊢
    obtain ⟨t0, ht0⟩ := gd_ (k) (by omega)
    refine ⟨k + 1, t0, by omega, by omega, fun F hF => ?_, fun b F hi' hb' hxb hF => ?_⟩
    · show Ev (fun n N => ap_.step3 n (fun xy3 xy4 => (some (xy3, xy4))) (ap_.loop3 n (fun xy3 xy4 => (some (xy3, xy4))) N) k (i : Int) a) F
      simp only [ap_.step3, Int.toNat_natCast, aM_, bT_, List.length_set, List.set_set, jW_ [] hi, hx, ae_ ht0, d2_ (k := k) (by omega) (by omega), W_up hi ha, decide_eq_true_eq, decide_eq_false_iff_not, Nat.beq_refl]
      refine ⟨fun _ => ?_, fun h => absurd hi (by simpa using h)⟩
      repeat' (first | exact hF | apply And.intro | intro _ | omega)
      all_goals (first | exact hF | (simp_all; done) | omega)
    · show Ev (fun n N => aq_.step3 n (fun xy2 => (some xy2)) (aq_.loop3 n (fun xy2 => (some xy2)) N) b k (i : Int)) F
      simp only [aq_.step3, Int.toNat_natCast, aM_, bT_, hxb, bne_self_eq_false, beq_self_eq_true, Bool.not_true, cond_false, ae_ ht0, d2_ (k := k) (by omega) (by omega), W_up hi' hb', decide_eq_true_eq, decide_eq_false_iff_not]
      refine ⟨fun _ => ?_, fun h => absurd hi' (by simpa using h)⟩
      repeat' (first | exact hF | apply And.intro | intro _ | omega)
      all_goals (first | exact hF | (simp_all; done) | omega)
  · show Ev (fun n N => ap_.step3 n (fun xy3 xy4 => (some (xy3, xy4))) (ap_.loop3 n (fun xy3 xy4 => (some (xy3, xy4))) N) k (a.length : Int) a) _
    simp only [ap_.step3, aM_, an_]
    exact ⟨fun h => absurd (of_decide_eq_true h) (by omega), fun _ => trivial⟩
  · show Ev (fun n N => aq_.step3 n (fun xy2 => (some xy2)) (aq_.loop3 n (fun xy2 => (some xy2)) N) a k (a.length : Int)) _
    simp only [aq_.step3, aM_, an_]
    exact ⟨fun h => absurd (of_decide_eq_true h) (by omega), fun _ => trivial⟩
theorem gE_ (a : List aa_) (k : Int) (ha : a.length ≤ cv_) (hk : 0 ≤ k) (hb : k + 32 * ((dk_ aa_.size) a : Nat) ≤ cv_) :
    ∃ k' a', k ≤ k' ∧ k' ≤ k + 32 * ((dk_ aa_.size) a : Nat) ∧ a'.length = a.length ∧ Ev (fun n _ => au_ n a k) (k', a') ∧ Ev (fun n _ => av_ n a' k) k' := by
  have hq : ∀ i, i < a.length → a.getD i aa_.dflt ∈ a := fun i hi => cx_ aa_.dflt hi
  obtain ⟨a0, ha0⟩ : ∃ a0, a0 = a := ⟨_, rfl⟩
  refine (i6_ (fun x => x ∈ a0) aa_.dflt aa_.size (fun n N k i a => au_.loop3 n (au_ n) (fun xy9 xy10 => (some (xy9, xy10))) N k (i : Int) a) (fun n N a k i => av_.loop3 n (av_ n) (fun xy4 => (some xy4)) N a k (i : Int)) (fun i a k hi hxm ha hk hb => ?_) (fun a k => ?_) (fun a k => ?_) a k (by rw [ha0]; exact hq) ha hk hb).elim fun k' ⟨a', h1, h2, h3, h4, h5⟩ => ⟨k', a', h1, h2, h3, aS_ h4, aS_ h5⟩
  · clear hq
    generalize hx : a.getD i aa_.dflt = x at *
    rw [ha0] at hxm
    have hdec := aa_.dec hxm
    simp only [aa_.size_eq] at hb ⊢
    obtain ⟨t2, ht2⟩ := gd_ ((k + 1) + 1) (by omega)
    obtain ⟨k3, y3, u3, v3, l3, e3, g3⟩ := gE_ x.list (((k + 1) + 1) + 1) (by have := dc_ aa_.size (x.list); omega) (by omega) (by omega)
    obtain ⟨k4, y4, u4, v4, l4, e4, g4⟩ := dO_ (a := x.names) (k := k3) (by have := dc_ szB (x.names); omega) (by omega) (by omega)
    refine ⟨k4, (aa_.mk k (k + 1) t2 y3 y4), by omega, by omega, fun F hF => ?_, fun b F hi' hb' hxb hF => ?_⟩
    · show Ev (fun n N => au_.step3 n (au_ n) (fun xy9 xy10 => (some (xy9, xy10))) (au_.loop3 n (au_ n) (fun xy9 xy10 => (some (xy9, xy10))) N) k (i : Int) a) F
      simp only [au_.step3, Int.toNat_natCast, aM_, bT_, List.length_set, List.set_set, jW_ aa_.dflt hi, hx, ae_ ht2, ae_ e3, ae_ e4, aa_.re_eq, d2_ (k := k) (by omega) (by omega), d2_ (k := k + 1) (by omega) (by omega), d2_ (k := (k + 1) + 1) (by omega) (by omega), l3, l4, W_up hi ha, decide_eq_true_eq, decide_eq_false_iff_not, Nat.beq_refl]
      refine ⟨fun _ => ?_, fun h => absurd hi (by simpa using h)⟩
      repeat' (first | exact hF | apply And.intro | intro _ | omega)
      all_goals (first | exact hF | (simp_all; done) | omega)
    · show Ev (fun n N => av_.step3 n (av_ n) (fun xy4 => (some xy4)) (av_.loop3 n (av_ n) (fun xy4 => (some xy4)) N) b k (i : Int)) F
      simp only [av_.step3, Int.toNat_natCast, aM_, bT_, hxb, bne_self_eq_false, beq_self_eq_true, Bool.not_true, cond_false, ae_ g3, ae_ g4, ae_ ht2, aa_.re_eq, d2_ (k := k) (by omega) (by omega), d2_ (k := k + 1) (by omega) (by omega), d2_ (k := (k + 1) + 1) (by omega) (by omega), l3, l4, W_up hi' hb', decide_eq_true_eq, decide_eq_false_iff_not]
      refine ⟨fun _ => ?_, fun h => absurd hi' (by simpa using h)⟩
      repeat' (first | exact hF | apply And.intro | intro _ | omega)
      all_goals (first | exact hF | (simp_all; done) | omega)
  · show Ev (fun n N => au_.step3 n (au_ n) (fun xy9 xy10 => (some (xy9, xy10))) (au_.loop3 n (au_ n) (fun xy9 xy10 => (some (xy9, xy10))) N) k (a.length : Int) a) _
    simp only [au_.step3, aM_, an_]
    exact ⟨fun h => absurd (of_decide_eq_true h) (by omega), fun _ => trivial⟩
  · show Ev (fun n N => av_.step3 n (av_ n) (fun xy4 => (some xy4)) (av_.loop3 n (av_ n) (fun xy4 => (some xy4)) N) a k (a.length : Int)) _
    simp only [av_.step3, aM_, an_]
    exact ⟨fun h => absurd (of_decide_eq_true h) (by omega), fun _ => trivial⟩
termination_by SizeOf.sizeOf a
decreasing_by assumption
theorem ho_ {a : List aa_} {k : Int} (ha : a.length ≤ cv_) (hk : 0 ≤ k) (hb : k + 32 * (dk_ aa_.size a : Nat) ≤ cv_) :
    ∃ k' a', k ≤ k' ∧ k' ≤ k + 32 * (dk_ aa_.size a : Nat) ∧ a'.length = a.length ∧ Ev (fun n _ => au_ n a k) (k', a') ∧ Ev (fun n _ => av_ n a' k) k' := gE_ a k ha hk hb
theorem ls_ {a : aa_} {k : Int} (hk : 0 ≤ k) (hb : k + 32 * (aa_.size a : Nat) ≤ cv_) :
    ∃ k' y0 y1, k ≤ k' ∧ k' ≤ k + 32 * (aa_.size a : Nat) ∧ y0.length = a.list.length ∧ y1.length = a.names.length ∧ Ev (fun n _ => bP_ n a k) (k', y0, y1) ∧ Ev (fun n _ => bQ_ n (aa_.mk a.kind a.n_ a.s y0 y1) k) k' := by
  simp only [aa_.size_eq] at hb ⊢
  obtain ⟨k3, y0, u3, v3, ly0, e3, g3⟩ := ho_ (a := a.list) (k := k) (by have := dc_ aa_.size (a.list); omega) (by omega) (by omega)
  obtain ⟨k4, y1, u4, v4, ly1, e4, g4⟩ := dO_ (a := a.names) (k := k3) (by have := dc_ szB (a.names); omega) (by omega) (by omega)
  refine ⟨k4, y0, y1, by omega, by omega, ly0, ly1, aS_ ?_, aS_ ?_⟩
  · simp only [bP_, aa_.re_eq, ae_ e3, ae_ e4, ly0, ly1, Nat.beq_refl, List.length_nil, cond_true, an_]
  · simp only [bQ_, aa_.re_eq, ae_ g3, ae_ g4, aM_, an_, decide_eq_true_eq, decide_eq_false_iff_not]
    repeat' (first | apply And.intro | intro _)
    all_goals (first | trivial | rfl | (exfalso; omega) | omega)
theorem m4_ {a : List TOp} {k : Int} (ha : a.length ≤ cv_) (hk : 0 ≤ k) (hb : k + 32 * ((dk_ TOp.size) a : Nat) ≤ cv_) :
    ∃ k' a', k ≤ k' ∧ k' ≤ k + 32 * ((dk_ TOp.size) a : Nat) ∧ a'.length = a.length ∧ Ev (fun n _ => aX_ n a k) (k', a') ∧ Ev (fun n _ => aY_ n a' k) k' := by
  refine (kH_ TOp.dflt TOp.size (fun n N k i a => aX_.loop3 n (fun xy12 xy13 => (some (xy12, xy13))) N k (i : Int) a) (fun n N a k i => aY_.loop3 n (fun xy5 => (some xy5)) N a k (i : Int)) (fun i a k hi ha hk hb => ?_) (fun a k => ?_) (fun a k => ?_) a k ha hk hb).elim fun k' ⟨a', h1, h2, h3, h4, h5⟩ => ⟨k', a', h1, h2, h3, aS_ h4, aS_ h5⟩
  · generalize hx : a.getD i TOp.dflt = x at *
    simp only [TOp.size, aa_.size_eq] at hb ⊢
    obtain ⟨k1, y1, u1, v1, l1, e1, g1⟩ := dO_ (a := x.way) (k := k + 1) (by have := dc_ szB (x.way); omega) (by omega) (by omega)
    obtain ⟨t4, ht4⟩ := gd_ ((k1 + 1) + 1) (by omega)
    obtain ⟨k5, y5, u5, v5, l5, e5, g5⟩ := ho_ (a := x.value.list) (k := ((k1 + 1) + 1) + 1) (by have := dc_ aa_.size (x.value.list); omega) (by omega) (by omega)
    obtain ⟨k6, y6, u6, v6, l6, e6, g6⟩ := dO_ (a := x.value.names) (k := k5) (by have := dc_ szB (x.value.names); omega) (by omega) (by omega)
    refine ⟨k6, (TOp.mk k y1 (aa_.mk k1 (k1 + 1) t4 y5 y6)), by omega, by omega, fun F hF => ?_, fun b F hi' hb' hxb hF => ?_⟩
    · show Ev (fun n N => aX_.step3 n (fun xy12 xy13 => (some (xy12, xy13))) (aX_.loop3 n (fun xy12 xy13 => (some (xy12, xy13))) N) k (i : Int) a) F
      simp only [aX_.step3, Int.toNat_natCast, aM_, bT_, List.length_set, List.set_set, jW_ TOp.dflt hi, hx, ae_ e1, ae_ ht4, ae_ e5, ae_ e6, aa_.re_eq, TOp.eta, d2_ (k := k) (by omega) (by omega), l1, d2_ (k := k1) (by omega) (by omega), d2_ (k := k1 + 1) (by omega) (by omega), d2_ (k := (k1 + 1) + 1) (by omega) (by omega), l5, l6, W_up hi ha, decide_eq_true_eq, decide_eq_false_iff_not, Nat.beq_refl]
      refine ⟨fun _ => ?_, fun h => absurd hi (by simpa using h)⟩
      repeat' (first | exact hF | apply And.intro | intro _ | omega)
      all_goals (first | exact hF | (simp_all; done) | omega)
    · show Ev (fun n N => aY_.step3 n (fun xy5 => (some xy5)) (aY_.loop3 n (fun xy5 => (some xy5)) N) b k (i : Int)) F
      simp only [aY_.step3, Int.toNat_natCast, aM_, bT_, hxb, bne_self_eq_false, beq_self_eq_true, Bool.not_true, cond_false, ae_ g1, ae_ g5, ae_ g6, ae_ ht4, aa_.re_eq, TOp.eta, d2_ (k := k) (by omega) (by omega), l1, d2_ (k := k1) (by omega) (by omega), d2_ (k := k1 + 1) (by omega) (by omega), d2_ (k := (k1 + 1) + 1) (by omega) (by omega), l5, l6, W_up hi' hb', decide_eq_true_eq, decide_eq_false_iff_not]
      refine ⟨fun _ => ?_, fun h => absurd hi' (by simpa using h)⟩
      repeat' (first | exact hF | apply And.intro | intro _ | omega)
      all_goals (first | exact hF | (simp_all; done) | omega)
  · show Ev (fun n N => aX_.step3 n (fun xy12 xy13 => (some (xy12, xy13))) (aX_.loop3 n (fun xy12 xy13 => (some (xy12, xy13))) N) k (a.length : Int) a) _
    simp only [aX_.step3, aM_, an_]
    exact ⟨fun h => absurd (of_decide_eq_true h) (by omega), fun _ => trivial⟩
  · show Ev (fun n N => aY_.step3 n (fun xy5 => (some xy5)) (aY_.loop3 n (fun xy5 => (some xy5)) N) a k (a.length : Int)) _
    simp only [aY_.step3, aM_, an_]
    exact ⟨fun h => absurd (of_decide_eq_true h) (by omega), fun _ => trivial⟩
theorem kI_ {a : bb_} {k : Int} (hk : 0 ≤ k) (hb : k + 32 * (bb_.size a : Nat) ≤ cv_) :
    ∃ k' y0 y1 y2, k ≤ k' ∧ k' ≤ k + 32 * (bb_.size a : Nat) ∧ y0.length = a.doc.list.length ∧ y1.length = a.doc.names.length ∧ y2.length = a.ops.length ∧ Ev (fun n _ => bC_ n a k) (k', y0, y1, y2) ∧ Ev (fun n _ => by_ n { a with doc := (aa_.mk a.doc.kind a.doc.n_ a.doc.s y0 y1), ops := y2 } k) k' := by
  simp only [bb_.size] at hb ⊢
  obtain ⟨k3, y0, y1, u3, v3, ly0, ly1, e3, g3⟩ := ls_ (a := a.doc) (k := k) (by omega) (by omega)
  obtain ⟨k4, y2, u4, v4, ly2, e4, g4⟩ := m4_ (a := a.ops) (k := k3) (by have := dc_ TOp.size (a.ops); omega) (by omega) (by omega)
  refine ⟨k4, y0, y1, y2, by omega, by omega, ly0, ly1, ly2, aS_ ?_, aS_ ?_⟩
  · simp only [bC_, aa_.re_eq, bb_.eta, ae_ e3, ae_ e4, ly0, ly1, ly2, Nat.beq_refl, List.length_nil, cond_true, an_]
  · simp only [by_, aa_.re_eq, bb_.eta, ae_ g3, ae_ g4, aM_, an_, decide_eq_true_eq, decide_eq_false_iff_not]
    repeat' (first | apply And.intro | intro _)
    all_goals (first | trivial | rfl | (exfalso; omega) | omega)
end Go.Pi
end
section
set_option linter.unusedVariables false
set_option maxRecDepth 100000
set_option linter.unusedSimpArgs false
namespace Go.Pi
def dV_ (l : List TOp) : Nat := l.findIdx fun o => (cr_ o).kind == 0
def cZ_ (l : List TOp) : aa_ := aa_.mk 4 0 [] (l.map cr_) []
def fV_ (l : List TOp) : Int := cond (decide (dV_ l < l.length)) (-1) (cond (bu_ (cZ_ l) == []) (-1) ((bu_ (cZ_ l)).length : Int))
theorem jp_ {l : List TOp} {i : Nat} (hi : i < dV_ l) : ((cr_ (l.getD i TOp.dflt)).kind == 0) = false := by
  have hl : dV_ l ≤ l.length := List.findIdx_le_length
  rw [List.getD_eq_getElem?_getD, List.getElem?_eq_getElem (by omega), Option.getD_some]
  have := List.not_of_lt_findIdx (xs := l) (p := fun o => (cr_ o).kind == 0) (i := i) hi
  simpa using this
theorem bad_at {l : List TOp} (h : dV_ l < l.length) : ((cr_ (l.getD (dV_ l) TOp.dflt)).kind == 0) = true := by
  rw [List.getD_eq_getElem?_getD, List.getElem?_eq_getElem h, Option.getD_some]
  exact List.findIdx_getElem (xs := l) (p := fun o => (cr_ o).kind == 0) (w := h)
theorem mj_ {α β : Type} (f : α → β) (d : α) {a : List α} {i : Nat} (h : i < a.length) : (a.take (i + 1)).map f = (a.take i).map f ++ [f (a.getD i d)] := by
  rw [cA_ d h, List.map_append]; rfl
def i7_ (l : List TOp) : Prop := l.length ≤ 4000000 ∧ ∀ o ∈ l, dU_ o
theorem hK_ {l : List TOp} (h : i7_ l) : e8_ 6 (cZ_ l) := by
  refine ⟨⟨Nat.zero_le _, Nat.zero_le _, fun x hx => (by cases hx)⟩, by have := h.1; simp [cZ_, cv_]; omega, fun x hx => ?_⟩
  obtain ⟨o, ho, e⟩ := List.mem_map.1 hx
  rw [← e]; exact lv_ 5 _ (ge_ (h.2 o ho))
theorem fr_ {l : List TOp} (h : i7_ l) : Ev (fun n _ => aR_ n l) (cond (decide (dV_ l < l.length)) (fd_, false) (cZ_ l, true)) := by
  refine aS_ ?_
  have hl := h.1
  have ht : l.length ≤ cv_ := by simp only [cv_]; omega
  have hb : dV_ l ≤ l.length := List.findIdx_le_length
  simp only [aR_]
  have := er_ (fun i => (l.take i).map cr_) (dV_ l) (fun n N i (o : List aa_) => aR_.loop4 n (fun xy2 xy3 xy4 xy5 xy6 xy7 xy8 => (some ((aa_.mk xy5 xy6 xy7 xy8 ([] : List Bs)), true))) N l (l.length : Int) (i : Int) 0 0 [] 4 0 [] o) (cond (decide (dV_ l < l.length)) (fd_, false) (cZ_ l, true)) (fun i hi F hF => ?_) ?_
  · exact this
  · have hi2 : i < l.length := by omega
    have hx := dP_ (h.2 _ (cx_ TOp.dflt hi2))
    rw [mj_ cr_ TOp.dflt hi2] at hF
    have hol : ((l.take i).map cr_).length ≤ i := by simp; omega
    generalize (l.take i).map cr_ = o at hF hol ⊢
    simp only [aR_.turn4, aR_.step4, br_, f1_, Int.toNat_natCast, W_up hi2 ht, cO_ hi2, cz_ hi2, jp_ hi, cond_true, cond_false, bT_, cf_, ae_ hx]
    exact ⟨trivial, by simp; omega, hF⟩
  · by_cases hp : dV_ l < l.length
    · have hx := dP_ (h.2 _ (cx_ TOp.dflt hp))
      simp only [aR_.turn4, aR_.step4, br_, f1_, Int.toNat_natCast, cO_ hp, cz_ hp, bad_at hp, cond_true, bT_, ae_ hx, an_]
      rw [decide_eq_true hp]
      exact ⟨trivial, rfl⟩
    · have e : dV_ l = l.length := by omega
      rw [decide_eq_false hp, cond_false]
      unfold cZ_
      rw [e, List.take_length]
      simp only [aR_.turn4, aR_.step4, cL_, cond_false, an_]
theorem hd_ {l : List TOp} (h : i7_ l) : Ev (fun n _ => bE_ n l) (fV_ l) := by
  refine aS_ ?_
  simp only [bE_, br_, ae_ (fr_ h)]
  unfold fV_
  cases hp : decide (dV_ l < l.length) with
  | true =>
    simp only [cond_true, ae_ (cX_ (ed_ 6)), aM_, an_]
    simp
  | false =>
    simp only [cond_false, ae_ (cX_ (hK_ h)), aM_, an_]
    generalize bu_ (cZ_ l) = s
    cases (s == []) <;> simp
end Go.Pi
end
section
set_option linter.unusedVariables false
set_option maxRecDepth 100000
set_option linter.unusedSimpArgs false
namespace Go.Pi
theorem hC_ {j : aa_} : Ev (fun n _ => ah_ n j (aa_.mk 0 0 [] [] [])) (gW_ j) := by
  refine aS_ ?_
  simp only [ah_, aM_, an_, gW_]
  by_cases h1 : j.list = []
  · by_cases h2 : j.names = []
    · have hL : Ev (fun n _ => ah_.loop6 n (ah_ n) (fun xy2 xy3 xy4 xy5 xy6 xy7 xy8 xy9 xy10 xy11 => (ah_.loop14 n (ah_ n) (some true) n 0 xy2 xy3 xy4 xy5 xy6 xy7 xy8 xy9 xy10 xy11)) n 0 j.kind j.n_ j.s [] [] 0 0 [] [] []) true :=
        cE_ (f := fun n N => ah_.loop6 n (ah_ n) (fun xy2 xy3 xy4 xy5 xy6 xy7 xy8 xy9 xy10 xy11 => (ah_.loop14 n (ah_ n) (some true) n 0 xy2 xy3 xy4 xy5 xy6 xy7 xy8 xy9 xy10 xy11)) N 0 j.kind j.n_ j.s [] [] 0 0 [] [] []) (bv_ (cE_ (f := fun n N => ah_.loop14 n (ah_ n) (some true) N 0 j.kind j.n_ j.s [] [] 0 0 [] [] []) (bv_ ⟨0, fun _ _ _ _ => rfl⟩)))
      rw [h1, h2]
      simp only [dC_ hL, bne]
      cases (j.kind == 0) <;> cases (j.n_ == 0) <;> cases (j.s == []) <;> simp
    · simp only [bne]
      rw [h1]
      have e : ((j.names.length : Int) == (([] : List Bs).length : Int)) = false := by
        simp only [List.length_nil]
        rw [beq_eq_false_iff_ne]; intro e; exact h2 (List.eq_nil_of_length_eq_zero (by omega))
      have e2 : decide (j.names.length = 0) = false := decide_eq_false fun e => h2 (List.eq_nil_of_length_eq_zero e)
      rw [e, e2]
      cases (j.kind == 0) <;> cases (j.n_ == 0) <;> cases (j.s == []) <;> simp
  · simp only [bne]
    have e : ((j.list.length : Int) == (([] : List aa_).length : Int)) = false := by
      simp only [List.length_nil]
      rw [beq_eq_false_iff_ne]; intro e; exact h1 (List.eq_nil_of_length_eq_zero (by omega))
    have e2 : decide (j.list.length = 0) = false := decide_eq_false fun e => h1 (List.eq_nil_of_length_eq_zero e)
    rw [e, e2]
    cases (j.kind == 0) <;> cases (j.n_ == 0) <;> cases (j.s == []) <;> simp
theorem f0_ {l : List TOp} (h : i7_ l) : Ev (fun n _ => a5_ n l) (cond (decide (dV_ l < l.length)) (aa_.mk 4 0 [] ((l.take (dV_ l)).map cr_) [], false) (cZ_ l, decide ((l.length : Int) ≤ 40) && !(bu_ (cZ_ l) == []))) := by
  refine aS_ ?_
  have hl := h.1
  have ht : l.length ≤ cv_ := by simp only [cv_]; omega
  have hb : dV_ l ≤ l.length := List.findIdx_le_length
  simp only [a5_]
  have := er_ (fun i => (l.take i).map cr_) (dV_ l) (fun n N i (o : List aa_) => a5_.loop4 n (fun xy2 xy3 xy4 xy5 xy6 xy7 xy8 xy9 => (cond (decide ((xy2.length : Int) ≤ 40)) ((bU_ n (aa_.mk xy6 xy7 xy8 xy9 [])).bind fun xr10 => (some ((aa_.mk xy6 xy7 xy8 xy9 ([] : List Bs)), (!(xr10 == []))))) (some ((aa_.mk xy6 xy7 xy8 xy9 ([] : List Bs)), false)))) N l (i : Int) 0 0 [] 4 0 [] o) (cond (decide (dV_ l < l.length)) (aa_.mk 4 0 [] ((l.take (dV_ l)).map cr_) [], false) (cZ_ l, decide ((l.length : Int) ≤ 40) && !(bu_ (cZ_ l) == []))) (fun i hi F hF => ?_) ?_
  · exact this
  · have hi2 : i < l.length := by omega
    have hx := dN_ (h.2 _ (cx_ TOp.dflt hi2))
    rw [mj_ cr_ TOp.dflt hi2] at hF
    have hol : ((l.take i).map cr_).length ≤ i := by simp; omega
    generalize (l.take i).map cr_ = o at hF hol ⊢
    simp only [a5_.turn4, a5_.step4, br_, f1_, Int.toNat_natCast, W_up hi2 ht, cO_ hi2, cz_ hi2, jp_ hi, cond_true, cond_false, bT_, cf_, ae_ hx]
    exact ⟨trivial, by simp; omega, hF⟩
  · by_cases hp : dV_ l < l.length
    · have hx := dN_ (h.2 _ (cx_ TOp.dflt hp))
      simp only [a5_.turn4, a5_.step4, br_, f1_, Int.toNat_natCast, cO_ hp, cz_ hp, bad_at hp, cond_true, bT_, ae_ hx, an_]
      rw [decide_eq_true hp]
      exact ⟨trivial, rfl⟩
    · have e : dV_ l = l.length := by omega
      have hE := c3_ (hK_ h)
      rw [decide_eq_false hp, cond_false]
      unfold cZ_ at hE ⊢
      rw [e, List.take_length]
      simp only [a5_.turn4, a5_.step4, cL_, cond_false, aM_, ae_ hE, an_]
      cases decide ((l.length : Int) ≤ 40) <;> simp
def ld_ (l : List TOp) : Bool := (!decide (dV_ l < l.length)) && (decide ((l.length : Int) ≤ 40) && !(bu_ (cZ_ l) == []))
def cH_ (e : bb_) : Bool := inn e.version 0 100000 && cond (e.kind == 1) ((e.base == 0) && (decide (e.ops.length = 0) && !(bu_ e.doc == []))) (cond (e.kind == 2) (ld_ e.ops && (inn e.base 0 (W (e.version - 1)) && gW_ e.doc)) false)
def lw_ (e : bb_) : Prop := e8_ 6 e.doc ∧ i7_ e.ops
theorem kZ_ (e : bb_) : bb_.mk e.kind e.version e.base e.doc e.ops = e := rfl
theorem size_ok (l : List TOp) : decide (fV_ l ≥ 0) = ((!decide (dV_ l < l.length)) && !(bu_ (cZ_ l) == [])) := by
  unfold fV_
  cases decide (dV_ l < l.length) with
  | true => rfl
  | false =>
    cases hs : (bu_ (cZ_ l) == []) with
    | true => rfl
    | false => simp only [cond_false, Bool.not_false, Bool.and_true]; exact decide_eq_true (by omega)
theorem hZ_ {e : bb_} (h : lw_ e) : Ev (fun n _ => b0_ n e) (cH_ e) := by
  refine aS_ ?_
  simp only [b0_, br_, l1In_b, aM_, ae_ (c3_ h.1), ae_ (f0_ h.2), ae_ hC_, an_, jN_, cH_, ld_]
  generalize inn e.version 0 100000 = a1
  generalize (e.kind == 1) = a2
  generalize (e.kind == 2) = a3
  generalize (e.base == 0) = a4
  generalize decide (e.ops.length = 0) = a5
  generalize decide (dV_ e.ops < e.ops.length) = a6
  generalize decide ((e.ops.length : Int) ≤ 40) = a7
  generalize (bu_ (cZ_ e.ops) == []) = a8
  generalize (bu_ e.doc == []) = a9
  generalize inn e.base 0 (W (e.version - 1)) = b1
  generalize gW_ e.doc = b2
  cases a1 <;> cases a2 <;> cases a3 <;> cases a4 <;> simp only [cond_true, cond_false, Bool.not_true, Bool.not_false, Bool.false_and, Bool.true_and, reduceCtorEq, false_implies, true_implies, true_and, and_true, implies_true]
  all_goals (cases a5 <;> cases a6 <;> cases a7 <;> cases a8 <;> cases a9 <;> cases b1 <;> cases b2 <;> simp)
theorem hc_ {n : Int} : Ev (fun m _ => bz_ m n) (inn n 0 100000) := aS_ (by simp only [bz_, ep_, an_])
theorem im_ {e : bb_} (h : lw_ e) : Ev (fun n _ => b1_ n e) (cH_ e) := by
  refine aS_ ?_
  simp only [b1_, br_, ep_, aM_, ae_ hc_, ae_ (cX_ h.1), ae_ f4_, ae_ (hd_ h.2), an_, jN_, size_ok, cH_, ld_]
  generalize inn e.version 0 100000 = a1
  generalize (e.kind == 1) = a2
  generalize (e.kind == 2) = a3
  generalize (e.base == 0) = a4
  generalize decide (e.ops.length = 0) = a5
  generalize decide (dV_ e.ops < e.ops.length) = a6
  generalize decide ((e.ops.length : Int) ≤ 40) = a7
  generalize (bu_ (cZ_ e.ops) == []) = a8
  generalize (bu_ e.doc == []) = a9
  generalize inn e.base 0 (W (e.version - 1)) = b1
  generalize gW_ e.doc = b2
  cases a1 <;> cases a2 <;> cases a3 <;> cases a4 <;> simp only [cond_true, cond_false, Bool.not_true, Bool.not_false, Bool.false_and, Bool.true_and, reduceCtorEq, false_implies, true_implies, true_and, and_true, implies_true]
  all_goals (cases a5 <;> cases a6 <;> cases a7 <;> cases a8 <;> cases a9 <;> cases b1 <;> cases b2 <;> simp)
end Go.Pi
end
section
set_option linter.unusedVariables false
set_option maxRecDepth 100000
set_option linter.unusedSimpArgs false
namespace Go.Pi
theorem eD_ {x : Int} (h0 : -9223372036854775808 ≤ x) (h1 : x ≤ 9223372036854775807) : Ev (fun n _ => ca_ n x) (Lib.itoa x) := by
  refine aS_ ?_
  have := Itoa_ev h0 h1
  simp only [ca_, ae_ this, an_]
end Go.Pi
end
section
set_option linter.unusedVariables false
set_option maxRecDepth 100000
set_option linter.unusedSimpArgs false
namespace Go.Pi
def iQ_ (v : Int) : Bs := ([105, 100, 58, 32] ++ Lib.itoa v) ++ [10]
def dx_ (v : Int) (d : Bs) : Bs := ((([101, 118, 101, 110, 116, 58, 32, 115, 110, 97, 112, 10] ++ iQ_ v) ++ [100, 97, 116, 97, 58, 32]) ++ d) ++ [10, 10]
def dh_ (v b : Int) (d : Bs) : Bs := ((((([101, 118, 101, 110, 116, 58, 32, 112, 97, 116, 99, 104, 10] ++ iQ_ v) ++ [98, 97, 115, 101, 58, 32]) ++ Lib.itoa b) ++ [10, 100, 97, 116, 97, 58, 32]) ++ d) ++ [10, 10]
def cs_ (e : bb_) : Bs := cond (cH_ e) (cond (e.kind == 1) (dx_ e.version (bu_ e.doc)) (dh_ e.version e.base (bu_ (cZ_ e.ops)))) []
theorem dL_ (j : aa_) : (bu_ j).length ≤ 6000 := by
  unfold bu_
  cases cF_ j with
  | false => exact Nat.zero_le _
  | true =>
    simp only [cond_true]
    cases h : decide (((FEnc 6 j).length : Int) > 6000) with
    | true => exact Nat.zero_le _
    | false => have := of_decide_eq_false h; simp only [cond_false]; omega
structure EvIs (e : bb_) : Prop where
  ver : 0 ≤ e.version ∧ e.version ≤ 100000
  base : (e.kind == 1) = false → 0 ≤ e.base ∧ e.base ≤ 100000
  ops : (e.kind == 1) = false → decide (dV_ e.ops < e.ops.length) = false
theorem ev_is {e : bb_} (h : cH_ e = true) : EvIs e := by
  unfold cH_ at h
  rw [Bool.and_eq_true] at h
  have hv := fL_ h.1
  refine ⟨by omega, fun hk => ?_, fun hk => ?_⟩
  all_goals (
    have h2 := h.2
    rw [hk, cond_false] at h2
    cases hk2 : (e.kind == 2) with
    | false => rw [hk2] at h2; cases h2
    | true =>
      rw [hk2, cond_true, Bool.and_eq_true, Bool.and_eq_true] at h2
      have hb := fL_ h2.2.1
      rw [W_id (by omega) (by omega)] at hb
      unfold ld_ at h2
      rw [Bool.and_eq_true] at h2
      first | (have := h2.1.1; simpa using this) | omega)
theorem eF_ {e : bb_} (h : lw_ e) : Ev (fun n _ => bB_ n e) (cs_ e) := by
  refine aS_ ?_
  simp only [bB_, br_, kZ_, ae_ (hZ_ h), aM_, an_, cs_]
  cases ho : cH_ e with
  | false => exact ⟨fun _ => rfl, fun h => (by cases h)⟩
  | true =>
    refine ⟨fun h => (by cases h), fun _ => ?_⟩
    have hi := ev_is ho
    have hd := hi.ver
    have hdl := Lib.itoa_length_le e.version (by omega) (by omega)
    cases hk : (e.kind == 1) with
    | true =>
      have hE := c3_ h.1
      have hEl := dL_ e.doc
      simp only [ae_ (cV_ (x := e.version) (by omega) (by omega)), cond_true, aM_, cM_, ae_ hE, an_, dx_, iQ_]
      generalize Lib.itoa e.version = a at hdl ⊢
      generalize bu_ e.doc = b at hEl ⊢
      repeat' (first | apply And.intro | intro _)
      all_goals (first | trivial | rfl | (rename_i hc; have hc := of_decide_eq_false hc; simp only [List.length_append, List.length_cons, List.length_nil] at hc; omega))
    | false =>
      have hb := hi.base hk
      have hbl := Lib.itoa_length_le e.base (by omega) (by omega)
      have hO := f0_ h.2
      rw [hi.ops hk, cond_false] at hO
      have hE := c3_ (hK_ h.2)
      have hEl := dL_ (cZ_ e.ops)
      simp only [ae_ (cV_ (x := e.version) (by omega) (by omega)), ae_ (cV_ (x := e.base) (by omega) (by omega)), ae_ hO, cond_true, cond_false, aM_, cM_, ae_ hE, an_, dh_, iQ_]
      generalize Lib.itoa e.version = a at hdl ⊢
      generalize Lib.itoa e.base = c at hbl ⊢
      generalize bu_ (cZ_ e.ops) = b at hEl ⊢
      repeat' (first | apply And.intro | intro _)
      all_goals (first | trivial | rfl | (rename_i hc; have hc := of_decide_eq_false hc; simp only [List.length_append, List.length_cons, List.length_nil] at hc; omega))
theorem eH_ {e : bb_} (h : lw_ e) : Ev (fun n _ => bF_ n e) (cs_ e) := by
  refine aS_ ?_
  simp only [bF_, br_, kZ_, ae_ (im_ h), aM_, an_, cs_]
  cases ho : cH_ e with
  | false => exact ⟨fun _ => rfl, fun h => (by cases h)⟩
  | true =>
    refine ⟨fun h => (by cases h), fun _ => ?_⟩
    have hi := ev_is ho
    have hd := hi.ver
    have hdl := Lib.itoa_length_le e.version (by omega) (by omega)
    cases hk : (e.kind == 1) with
    | true =>
      have hE := cX_ h.1
      have hEl := dL_ e.doc
      simp only [ae_ (eD_ (x := e.version) (by omega) (by omega)), cond_true, aM_, cM_, ae_ hE, an_, dx_, iQ_]
      generalize Lib.itoa e.version = a at hdl ⊢
      generalize bu_ e.doc = b at hEl ⊢
      repeat' (first | apply And.intro | intro _)
      all_goals (first | trivial | rfl | (rename_i hc; have hc := of_decide_eq_false hc; simp only [List.length_append, List.length_cons, List.length_nil] at hc; omega))
    | false =>
      have hb := hi.base hk
      have hbl := Lib.itoa_length_le e.base (by omega) (by omega)
      have hO := fr_ h.2
      rw [hi.ops hk, cond_false] at hO
      have hE := cX_ (hK_ h.2)
      have hEl := dL_ (cZ_ e.ops)
      simp only [ae_ (eD_ (x := e.version) (by omega) (by omega)), ae_ (eD_ (x := e.base) (by omega) (by omega)), ae_ hO, cond_true, cond_false, aM_, cM_, ae_ hE, an_, dh_, iQ_]
      generalize Lib.itoa e.version = a at hdl ⊢
      generalize Lib.itoa e.base = c at hbl ⊢
      generalize bu_ (cZ_ e.ops) = b at hEl ⊢
      repeat' (first | apply And.intro | intro _)
      all_goals (first | trivial | rfl | (rename_i hc; have hc := of_decide_eq_false hc; simp only [List.length_append, List.length_cons, List.length_nil] at hc; omega))
end Go.Pi
end
section
set_option linter.unusedVariables false
set_option maxRecDepth 100000
set_option linter.unusedSimpArgs false
namespace Go.Pi
theorem me_ {l : List TOp} {o : TOp} (h : ∀ x ∈ l, dU_ x) (ho : dU_ o) : ∀ x ∈ l ++ [o], dU_ x := by
  intro x hx
  rcases List.mem_append.1 hx with hx | hx
  · exact h x hx
  · obtain rfl := List.mem_singleton.1 hx; exact ho
theorem iM_ {j : aa_} (h : bw_ 6 j ≤ 400) : Ans (fun n _ => bc_ n j) fun x => i7_ x.1 := by
  have hll := df_ h
  refine cS_ ?_
  simp only [bc_]
  refine eu_ (σ := Nat × List TOp) (fun n N st => bc_.loop4 n (fun xy2 xy3 xy4 xy5 xy6 xy7 => (some (xy7, (xy2 == 4)))) N j.list (j.list.length : Int) (st.1 : Int) j.kind j.n_ j.s j.list j.names st.2) (fun st => j.list.length - st.1) (fun st => st.1 ≤ j.list.length ∧ st.2.length ≤ st.1 ∧ ∀ o ∈ st.2, dU_ o) _ (fun st hI ih => ?_) (0, []) ⟨Nat.zero_le _, Nat.zero_le _, fun y h => (by cases h)⟩
  obtain ⟨i, ops⟩ := st
  simp only at hI ih ⊢
  obtain ⟨h1, h2, h3⟩ := hI
  simp only [bc_.turn4, bc_.step4, br_, Int.toNat_natCast]
  by_cases hi : i < j.list.length
  · have hx : bw_ 6 (j.list.getD i aa_.dflt) ≤ 400 := by
      have := fK_ h (cx_ aa_.dflt hi)
      rw [hP_ 5 _ this]; exact this
    simp only [cO_ hi, cond_true, hk_, cz_ hi, true_and, W_up hi (show j.list.length ≤ cv_ by simp only [cv_]; omega)]
    refine cG_ (il_ hx) fun v hv => ?_
    simp only [cp_, ch_, ek_]
    exact ⟨fun _ => ⟨Nat.zero_le _, fun y h => (by cases h)⟩, fun _ => ⟨by simp; omega, ih (i + 1, _) ⟨hi, by simp; omega, me_ h3 hv⟩ (by simp only; omega)⟩⟩
  · have e : i = j.list.length := by omega
    subst e
    simp only [cL_, cond_false, ch_]
    exact ⟨by show ops.length ≤ 4000000; omega, h3⟩
theorem ops_right {l : List TOp} (h : bw_ 6 (cZ_ l) ≤ 400) : l.length ≤ 400 := by
  have := df_ h
  simpa [cZ_] using this
theorem iL_ {l : List TOp} (h : ∀ o ∈ l, OpIn o) (hl : l.length ≤ 400) : Ev (fun n _ => bc_ n (cZ_ l)) (l, true) := by
  refine aS_ ?_
  simp only [bc_, cZ_]
  have := er_ (fun i => l.take i) l.length (fun n N i (o : List TOp) => bc_.loop4 n (fun xy2 xy3 xy4 xy5 xy6 xy7 => (some (xy7, (xy2 == 4)))) N (l.map cr_) ((l.map cr_).length : Int) (i : Int) 4 0 [] (l.map cr_) [] o) (l, true) (fun i hi F hF => ?_) ?_
  · exact this
  · have ho := h _ (cx_ TOp.dflt hi)
    have hi2 : i < (l.map cr_).length := by simpa using hi
    have e : (l.map cr_).getD i aa_.dflt = c1_ (l.getD i TOp.dflt) := by
      rw [← ho.val, List.getD_eq_getElem?_getD, List.getElem?_map, List.getD_eq_getElem?_getD, List.getElem?_eq_getElem hi]; rfl
    rw [cA_ TOp.dflt hi] at hF
    simp only [bc_.turn4, bc_.step4, br_, Int.toNat_natCast, cO_ hi2, cond_true, bT_, cz_ hi2, true_and, e, ae_ (ik_ ho), Bool.not_true, cond_false, cf_, W_up hi (show l.length ≤ cv_ by simp only [cv_]; omega)]
    exact ⟨by simp; omega, hF⟩
  · have e : decide ((l.length : Int) < ((l.map cr_).length : Int)) = false := by simp
    simp only [List.take_length, bc_.turn4, bc_.step4, e, cond_false, an_]
    rfl
def FCut (s : Bs) : Bs × Bs := if Lib.indexByte s 10 < 0 then (s, []) else (s.take (Lib.indexByte s 10).toNat, s.drop ((Lib.indexByte s 10).toNat + 1))
theorem idx_le : ∀ (s : Bs), Lib.indexByte s 10 < (s.length : Int) ∨ s = []
  | [] => .inr rfl
  | b :: l => by
    left
    unfold Lib.indexByte
    split
    · simp only [List.length_cons]; omega
    · split
      · simp only [List.length_cons]; omega
      · rcases idx_le l with h | h
        · simp only [List.length_cons]; omega
        · subst h; rename_i h1 h2; exact absurd (by rfl) h2
theorem Cut_ev {s : Bs} (hs : s.length ≤ 1048576) : Ev (fun n _ => (cg_ n s [10])) ((FCut s).1, (FCut s).2, decide (0 ≤ Lib.indexByte s 10)) := by
  have hge := Lib.indexByte_ge s 10
  have hX : Ev (fun n _ => a2_ n s [10]) (Lib.indexByte s 10) := aS_ (by simp only [a2_, mi_, an_])
  have hC : Ev (fun n _ => aT_ n s [10]) ((FCut s).1, (FCut s).2, decide (0 ≤ Lib.indexByte s 10)) := by
    refine aS_ ?_
    simp only [aT_, ae_ hX, aM_, dI_, an_]
    unfold FCut
    refine ⟨fun h => ?_, fun h => ?_⟩
    · have h := of_decide_eq_true h
      have hlt : Lib.indexByte s 10 < (s.length : Int) := by
        rcases idx_le s with h | h
        · exact h
        · subst h; rename_i h0; exact absurd h0 (by decide)
      have hW : W (Lib.indexByte s 10 + (([10] : Bs).length : Int)) = Lib.indexByte s 10 + 1 := W_id (by show _ ≤ Lib.indexByte s 10 + 1; omega) (by show Lib.indexByte s 10 + 1 < _; omega)
      rw [hW, if_neg (by omega), decide_eq_true (show 0 ≤ Lib.indexByte s 10 by omega)]
      have e1 : (Lib.indexByte s 10 + 1).toNat = (Lib.indexByte s 10).toNat + 1 := by omega
      rw [e1]
      simp only [Int.toNat_natCast, List.take_length, List.drop_zero]
      exact ⟨by omega, by omega, trivial⟩
    · have h := of_decide_eq_false h
      rw [if_pos (by omega), decide_eq_false (show ¬ 0 ≤ Lib.indexByte s 10 by omega)]
  exact aS_ (by simp only [cg_, ae_ hC, an_])
theorem mI_ (s : Bs) : (FCut s).1.length ≤ s.length ∧ (FCut s).2.length ≤ s.length := by
  unfold FCut
  split
  · exact ⟨Nat.le_refl _, Nat.zero_le _⟩
  · simp; omega
theorem idx_app : ∀ {a : Bs} (b : Bs), (∀ c ∈ a, c ≠ 10) → Lib.indexByte (a ++ 10 :: b) 10 = (a.length : Int)
  | [], b, _ => rfl
  | c :: a, b, h => by
    have hc := h c (List.mem_cons_self ..)
    have ih := idx_app b fun x hx => h x (List.mem_cons_of_mem _ hx)
    have e : (c == 10) = false := beq_eq_false_iff_ne.2 hc
    rw [List.cons_append, Lib.indexByte, e, ih, if_neg (by simp), if_neg (by simp <;> omega), List.length_cons]; omega
theorem cut_app {a : Bs} (b : Bs) (h : ∀ c ∈ a, c ≠ 10) : FCut (a ++ 10 :: b) = (a, b) := by
  unfold FCut
  rw [idx_app b h, if_neg (by omega), Int.toNat_natCast, List.take_left]
  have : (a ++ 10 :: b).drop (a.length + 1) = b := by rw [← List.drop_drop, List.drop_left]; rfl
  rw [this]
def gX_ (p s : Bs) : Bs := cond (pfx p s) (s.drop p.length) s
theorem trim_le (p s : Bs) : (gX_ p s).length ≤ s.length := by
  unfold gX_; cases pfx p s <;> simp
theorem l0_ (p s : Bs) : gX_ p (p ++ s) = s := by unfold gX_; rw [gc_, List.drop_left]; rfl
theorem fO_ {s p : Bs} (hs : s.length ≤ 1048576) : Ev (fun n _ => b2_ n s p) (gX_ p (FCut s).1, (FCut s).2) := by
  refine aS_ ?_
  simp only [b2_, ae_ (Cut_ev hs), ae_ e4_, an_, gX_]
theorem fz_ {p a b : Bs} (hp : ∀ c ∈ p, c ≠ 10) (ha : ∀ c ∈ a, c ≠ 10) (hs : (p ++ (a ++ 10 :: b)).length ≤ 1048576) : Ev (fun n _ => b2_ n (p ++ (a ++ 10 :: b)) p) (a, b) := by
  have e : p ++ (a ++ 10 :: b) = (p ++ a) ++ 10 :: b := by simp
  have h := fO_ (p := p) hs
  rw [e] at h ⊢
  rw [cut_app b (fun c hc => by rcases List.mem_append.1 hc with h | h; exact hp c h; exact ha c h), l0_] at h
  exact h
abbrev tSnap : Bs := [101, 118, 101, 110, 116, 58, 32, 115, 110, 97, 112, 10]
abbrev gr_ : Bs := [101, 118, 101, 110, 116, 58, 32, 112, 97, 116, 99, 104, 10]
abbrev tId : Bs := [105, 100, 58, 32]
abbrev hB_ : Bs := [98, 97, 115, 101, 58, 32]
abbrev dD_ : Bs := [100, 97, 116, 97, 58, 32]
theorem h1_ (v : Int) (d : Bs) : dx_ v d = tSnap ++ (tId ++ (Lib.itoa v ++ 10 :: (dD_ ++ (d ++ 10 :: [10])))) := by
  simp [dx_, iQ_]
theorem g8_ (v b : Int) (d : Bs) : dh_ v b d = gr_ ++ (tId ++ (Lib.itoa v ++ 10 :: (hB_ ++ (Lib.itoa b ++ 10 :: (dD_ ++ (d ++ 10 :: [10])))))) := by
  simp [dh_, iQ_]
theorem hE_ {s : Bs} (hs : s.length ≤ 1048576) : Ans (fun n _ => bL_ n s) fun e => lw_ e := by
  have hA : ∀ {t : Bs}, t.length ≤ 1048576 → Ev (fun n _ => bH_ n t) (endOf t (Lib.atoiAll t)) := fun h => iH_ (by omega)
  have fl : ∀ (p t : Bs), (gX_ p (FCut t).1).length ≤ t.length := fun p t => Nat.le_trans (trim_le _ _) (mI_ t).1
  refine cS_ ?_
  simp only [bL_, br_, bI_ ev_]
  cases hp : pfx [101, 118, 101, 110, 116, 58, 32, 115, 110, 97, 112, 10] s with
  | true =>
    simp only [cond_true]
    have h1 : (s.drop tSnap.length).length ≤ s.length := by simp
    generalize s.drop tSnap.length = t at h1 ⊢
    have h2 := (mI_ t).2
    have h3 := fl [100, 97, 116, 97, 58, 32] (FCut t).2
    have h4 := fl [105, 100, 58, 32] t
    simp only [bI_ (fO_ (s := t) (p := [105, 100, 58, 32]) (by omega)), bI_ (fO_ (s := (FCut t).2) (p := [100, 97, 116, 97, 58, 32]) (by omega)), bI_ (hA (t := gX_ [105, 100, 58, 32] (FCut t).1) (by omega))]
    refine cG_ (fw_ (s := gX_ [100, 97, 116, 97, 58, 32] (FCut (FCut t).2).1) (by omega)) fun v hv => ?_
    simp only [ch_]
    exact ⟨cC_ 6 _ hv, Nat.zero_le _, fun o h => (by cases h)⟩
  | false =>
    simp only [cond_false, bI_ e4_]
    have h1 := trim_le gr_ s
    show Ans (fun n N => (b2_ n (gX_ gr_ s) [105, 100, 58, 32]).bind _) _
    generalize gX_ gr_ s = t at h1 ⊢
    have h2 := (mI_ t).2
    have h3 := (mI_ (FCut t).2).2
    have h4 := fl [105, 100, 58, 32] t
    have h5 := fl [98, 97, 115, 101, 58, 32] (FCut t).2
    have h6 := fl [100, 97, 116, 97, 58, 32] (FCut (FCut t).2).2
    simp only [bI_ (fO_ (s := t) (p := [105, 100, 58, 32]) (by omega)), bI_ (fO_ (s := (FCut t).2) (p := [98, 97, 115, 101, 58, 32]) (by omega)), bI_ (fO_ (s := (FCut (FCut t).2).2) (p := [100, 97, 116, 97, 58, 32]) (by omega)), bI_ (hA (t := gX_ [105, 100, 58, 32] (FCut t).1) (by omega)), bI_ (hA (t := gX_ [98, 97, 115, 101, 58, 32] (FCut (FCut t).2).1) (by omega))]
    refine cG_ (fw_ (s := gX_ [100, 97, 116, 97, 58, 32] (FCut (FCut (FCut t).2).2).1) (by omega)) fun v hv => ?_
    refine cG_ (iM_ hv) fun w hw => ?_
    simp only [ch_]
    exact ⟨ed_ 6, hw⟩
structure SnapIs (e : bb_) : Prop where
  ver : 0 ≤ e.version ∧ e.version ≤ 100000
  base : e.base = 0
  ops : e.ops = []
  doc : bu_ e.doc ≠ []
structure PatchIs (e : bb_) : Prop where
  ver : 0 ≤ e.version ∧ e.version ≤ 100000
  base : 0 ≤ e.base ∧ e.base ≤ 100000
  doc : e.doc = fd_
  ops : ∀ o ∈ e.ops, OpIn o
  enc : bu_ (cZ_ e.ops) ≠ []
  len : e.ops.length ≤ 400
theorem fP_ {e : bb_} (h : cH_ e = true) : (e.kind = 1 ∧ SnapIs e) ∨ (e.kind = 2 ∧ PatchIs e) := by
  have hi := ev_is h
  unfold cH_ at h
  rw [Bool.and_eq_true] at h
  have h2 := h.2
  cases hk : (e.kind == 1) with
  | true =>
    rw [hk, cond_true] at h2
    simp only [Bool.and_eq_true, Bool.not_eq_true', beq_iff_eq, decide_eq_true_eq, beq_eq_false_iff_ne] at h2
    exact .inl ⟨by simpa using hk, hi.ver, h2.1, List.eq_nil_of_length_eq_zero h2.2.1, h2.2.2⟩
  | false =>
    rw [hk, cond_false] at h2
    cases hk2 : (e.kind == 2) with
    | false => rw [hk2] at h2; cases h2
    | true =>
      rw [hk2, cond_true] at h2
      unfold ld_ at h2
      simp only [Bool.and_eq_true, Bool.not_eq_true', decide_eq_true_eq, decide_eq_false_iff_not, beq_eq_false_iff_ne] at h2
      obtain ⟨⟨b1, b2, b3⟩, b4, b5⟩ := h2
      have henc := hw_ b3
      refine .inr ⟨by simpa using hk2, hi.ver, hi.base hk, kb_ b5, fun o ho => op_in ?_, b3, ops_right henc.1⟩
      intro hz
      have : e.ops.findIdx (fun o => (cr_ o).kind == 0) < e.ops.length := List.findIdx_lt_length_of_exists ⟨o, ho, by rw [hz]; rfl⟩
      exact b1 this
theorem eY_ {e : bb_} (h : cH_ e = true) (hk : e.kind = 1) : cs_ e = dx_ e.version (bu_ e.doc) := by
  unfold cs_; rw [h, hk]; rfl
theorem es_ {e : bb_} (h : cH_ e = true) (hk : e.kind = 2) : cs_ e = dh_ e.version e.base (bu_ (cZ_ e.ops)) := by
  unfold cs_; rw [h, hk]; rfl
theorem j0_ {j : aa_} (h : bu_ j ≠ []) : ∀ c ∈ bu_ j, c ≠ 10 := by
  obtain ⟨h1, h2, _⟩ := hw_ h
  rw [h2]; exact enc_nl 6 j h1
theorem jl_ {e : bb_} (h : cH_ e = true) : (cs_ e).length ≤ 10000 := by
  rcases fP_ h with ⟨hk, hs⟩ | ⟨hk, hs⟩
  · rw [eY_ h hk, h1_]
    have := dL_ e.doc
    have := Lib.itoa_length_le e.version (by have := hs.ver; omega) (by have := hs.ver; omega)
    simp only [List.length_append, List.length_cons, List.length_nil]; omega
  · rw [es_ h hk, g8_]
    have := dL_ (cZ_ e.ops)
    have := Lib.itoa_length_le e.version (by have := hs.ver; omega) (by have := hs.ver; omega)
    have := Lib.itoa_length_le e.base (by have := hs.base; omega) (by have := hs.base; omega)
    simp only [List.length_append, List.length_cons, List.length_nil]; omega
theorem k0_ {e : bb_} (h : cH_ e = true) : cs_ e ≠ [] := by
  rcases fP_ h with ⟨hk, hs⟩ | ⟨hk, hs⟩
  · rw [eY_ h hk, h1_]; intro e; cases e
  · rw [es_ h hk, g8_]; intro e; cases e
theorem j4_ {n : Int} (h0 : 0 ≤ n) (h1 : n ≤ 100000) : Ev (fun m _ => bH_ m (Lib.itoa n)) (n, true) := by
  have hl := Lib.itoa_length_le n (by omega) (by omega)
  have := iH_ (s := Lib.itoa n) (by omega)
  rw [k6_ (by omega) (by omega)] at this
  exact this
theorem hD_ {e : bb_} (h : cH_ e = true) : Ev (fun n _ => bL_ n (cs_ e)) e := by
  have hlen := jl_ h
  refine aS_ ?_
  rcases fP_ h with ⟨hk, hs⟩ | ⟨hk, hs⟩
  · rw [eY_ h hk, h1_] at hlen ⊢
    simp only [List.length_append] at hlen
    have hv := hs.ver
    have f1 := fz_ (p := tId) (a := Lib.itoa e.version) (b := dD_ ++ (bu_ e.doc ++ 10 :: [10])) (by decide) (gf_ _) (by simp only [List.length_append]; omega)
    have f2 := fz_ (p := dD_) (a := bu_ e.doc) (b := [10]) (by decide) (j0_ hs.doc) (by simp only [List.length_append, List.length_cons] at hlen ⊢; omega)
    simp only [bL_, br_, ae_ ev_, gc_, cond_true, List.drop_left, ae_ f1, ae_ f2, ae_ (j4_ hv.1 hv.2), ae_ (fv_ hs.doc), an_]
    obtain ⟨k, v, b, d, o⟩ := e
    have e1 := hs.base
    have e2 := hs.ops
    simp only at e1 e2 hk
    rw [e1, e2, hk]
  · rw [es_ h hk, g8_] at hlen ⊢
    simp only [List.length_append] at hlen
    have hv := hs.ver
    have hb := hs.base
    have f1 := fz_ (p := tId) (a := Lib.itoa e.version) (b := hB_ ++ (Lib.itoa e.base ++ 10 :: (dD_ ++ (bu_ (cZ_ e.ops) ++ 10 :: [10])))) (by decide) (gf_ _) (by simp only [List.length_append]; omega)
    have f2 := fz_ (p := hB_) (a := Lib.itoa e.base) (b := dD_ ++ (bu_ (cZ_ e.ops) ++ 10 :: [10])) (by decide) (gf_ _) (by simp only [List.length_append, List.length_cons] at hlen ⊢; omega)
    have f3 := fz_ (p := dD_) (a := bu_ (cZ_ e.ops)) (b := [10]) (by decide) (j0_ hs.enc) (by simp only [List.length_append, List.length_cons] at hlen ⊢; omega)
    have hp : ∀ t, pfx [101, 118, 101, 110, 116, 58, 32, 115, 110, 97, 112, 10] (gr_ ++ t) = false := fun t => rfl
    have ht : ∀ t, cond (pfx [101, 118, 101, 110, 116, 58, 32, 112, 97, 116, 99, 104, 10] (gr_ ++ t)) ((gr_ ++ t).drop ([101, 118, 101, 110, 116, 58, 32, 112, 97, 116, 99, 104, 10] : Bs).length) (gr_ ++ t) = t := fun t => l0_ gr_ t
    simp only [bL_, br_, ae_ ev_, hp, cond_false, ae_ e4_, ht, ae_ f1, ae_ f2, ae_ f3, ae_ (j4_ hv.1 hv.2), ae_ (j4_ hb.1 hb.2), ae_ (fv_ hs.enc), ae_ (iL_ hs.ops hs.len), an_]
    obtain ⟨k, v, b, d, o⟩ := e
    have e1 := hs.doc
    simp only at e1 hk
    rw [e1, hk]; rfl
abbrev zeroE : bb_ := bb_.mk 0 0 0 (aa_.mk 0 0 [] [] []) []
def mQ_ (s : Bs) (x : bb_ × Bool) : Prop := x = (zeroE, false) ∨ (x.2 = true ∧ cH_ x.1 = true ∧ cs_ x.1 = s)
theorem text_ok {e : bb_} (h : cs_ e ≠ []) : cH_ e = true := by
  unfold cs_ at h
  cases ho : cH_ e with
  | true => rfl
  | false => rw [ho] at h; exact absurd rfl h
theorem gK_ {s : Bs} (hs : s.length ≤ 1048576) : Ans (fun n _ => bq_ n s) (mQ_ s) := by
  refine cS_ ?_
  simp only [bq_, br_, kZ_]
  refine cG_ (hE_ hs) fun e he => ?_
  simp only [bI_ (eH_ he), cp_, ch_]
  refine ⟨fun _ => .inl rfl, fun h1 => ⟨fun _ => .inl rfl, fun h2 => .inr ⟨rfl, text_ok ?_, by simpa using h2⟩⟩⟩
  exact fun e => by rw [e] at h1; cases h1
theorem mr_ {e : bb_} (h : cH_ e = true) : lw_ e := by
  rcases fP_ h with ⟨hk, hs⟩ | ⟨hk, hs⟩
  · refine ⟨cC_ 6 _ (hw_ hs.doc).1, ?_⟩
    rw [hs.ops]; exact ⟨Nat.zero_le _, fun o h => (by cases h)⟩
  · refine ⟨?_, by have := hs.len; omega, fun o ho => mp_ (hs.ops o ho)⟩
    rw [hs.doc]; exact ed_ 6
theorem gJ_ {e : bb_} (h : cH_ e = true) : Ev (fun n _ => bq_ n (cs_ e)) (e, true) := by
  have hne : (cs_ e == []) = false := beq_eq_false_iff_ne.2 (k0_ h)
  refine aS_ ?_
  simp only [bq_, br_, kZ_, ae_ (hD_ h), ae_ (eH_ (mr_ h)), hne, beq_self_eq_true, Bool.not_true, cond_false, an_]
end Go.Pi
end
section
set_option linter.unusedVariables false
set_option maxRecDepth 100000
set_option linter.unusedSimpArgs false
namespace Go.Pi
def dj_ (cur : Bs) : Bs → List Bs
  | [] => []
  | c :: l => if c = 10 then cur :: dj_ [] l else dj_ (cur ++ [c]) l
theorem dv_ (cur b : Bs) : ∀ (a : Bs), (∀ c ∈ a, c ≠ 10) → dj_ cur (a ++ 10 :: b) = (cur ++ a) :: dj_ [] b := by
  intro a
  induction a generalizing cur with
  | nil => intro _; rw [List.nil_append, dj_, if_pos rfl, List.append_nil]
  | cons c a ih =>
    intro h
    rw [List.cons_append, dj_, if_neg (h c (List.mem_cons_self ..)), ih _ fun x hx => h x (List.mem_cons_of_mem _ hx)]
    simp
theorem ie_ : ∀ (s cur : Bs) (B : Nat), cur.length + s.length ≤ B → (dj_ cur s).length ≤ s.length ∧ ∀ y ∈ dj_ cur s, y.length ≤ B
  | [], _, _, _ => ⟨Nat.le_refl _, fun y h => (by cases h)⟩
  | c :: l, cur, B, h => by
    unfold dj_
    simp only [List.length_cons] at h
    split
    · obtain ⟨h1, h2⟩ := ie_ l [] B (by simp; omega)
      refine ⟨by simp; omega, fun y hy => ?_⟩
      rcases List.mem_cons.1 hy with rfl | hy
      · omega
      · exact h2 y hy
    · obtain ⟨h1, h2⟩ := ie_ l (cur ++ [c]) B (by simp; omega)
      exact ⟨by simp; omega, h2⟩
theorem e6_ {s : Bs} (hs : s.length ≤ 1048576) : Ev (fun n _ => aP_ n s) (dj_ [] s) := by
  refine aS_ ?_
  simp only [aP_]
  have key : ∀ (m i f : Nat) (out : List Bs), i + m = s.length → f ≤ i → out.length ≤ i → Ev (fun n N => aP_.loop5 n (fun xy1 => (some xy1)) N s (f : Int) (i : Int) out) (out ++ dj_ ((s.take i).drop f) (s.drop i)) := by
    intro m
    induction m with
    | zero =>
      intro i f out hi _ _
      have : i = s.length := by omega
      subst this
      refine bv_ ?_
      simp only [aP_.turn5, aP_.step5, cL_, cond_false, List.drop_length, dj_, List.append_nil, an_]
    | succ m ih =>
      intro i f out hi hf ho
      have hlt : i < s.length := by omega
      have hW := W_up hlt (show s.length ≤ cv_ by simp only [cv_]; omega)
      have hd := eg_ 0 hlt
      refine bv_ ?_
      simp only [aP_.turn5, aP_.step5, cO_ hlt, cond_true, bT_, cz_ hlt, true_and, Int.toNat_natCast, hW, aM_, dI_, cf_]
      have e10 : ((s.getD i 0).toNat : Int) = 10 ↔ s.getD i 0 = 10 := by
        have := iv_ (s.getD i 0) 10 10 rfl
        constructor
        · intro h; rw [show (((s.getD i 0).toNat : Nat) : Int) = ((10 : Nat) : Int) from h] at this; simpa using this
        · intro h; rw [h]; rfl
      rw [hd]
      refine ⟨fun h => ?_, fun h => ?_⟩
      · have h : s.getD i 0 = 10 := e10.1 (by simpa using h)
        have hn := ih (i + 1) (i + 1) (out ++ [(s.take i).drop f]) (by omega) (Nat.le_refl _) (by simp; omega)
        rw [mF_ (show (s.take (i + 1)).length ≤ i + 1 by simp; omega)] at hn
        rw [dj_, if_pos h]
        rw [List.append_assoc] at hn
        exact ⟨by omega, by simp; omega, hn⟩
      · have h : ¬ s.getD i 0 = 10 := fun e => by rw [e10.2 e] at h; cases h
        have hn := ih (i + 1) f out (by omega) (by omega) (by omega)
        rw [cA_ 0 hlt, List.drop_append_of_le_length (by simp; omega)] at hn
        rw [dj_, if_neg h]
        exact hn
  have := key s.length 0 0 [] (by omega) (Nat.le_refl _) (Nat.le_refl _)
  rw [List.nil_append] at this
  exact cE_ (f := fun n N => aP_.loop5 n (fun xy1 => (some xy1)) N s 0 0 []) this
def c8_ (l h : Bs) : Bs := cond (pfx h l) (l.drop h.length) []
theorem eJ_ {l h : Bs} : Ev (fun n _ => bn_ n l h) (c8_ l h) := by
  refine aS_ ?_
  simp only [bn_, aM_, dI_, an_, Int.toNat_natCast, List.take_length, c8_, hI_]
  refine ⟨fun hc => ?_, fun hc => ?_⟩
  · have hc := of_decide_eq_true hc
    cases e : ((l.take h.length).drop 0 == h) with
    | false => rfl
    | true => rw [← hI_] at e; have := gb_ e; omega
  · have hc := of_decide_eq_false hc
    refine ⟨by omega, ?_⟩
    cases ((l.take h.length).drop 0 == h) with
    | false => exact ⟨fun _ => rfl, fun h => (by cases h)⟩
    | true => exact ⟨fun h => (by cases h), fun _ => ⟨by omega, rfl⟩⟩
theorem iw_ (l h : Bs) : (c8_ l h).length ≤ l.length := by
  unfold c8_; cases pfx h l <;> simp
theorem fS_ (h l : Bs) : c8_ (h ++ l) h = l := by unfold c8_; rw [gc_, List.drop_left]; rfl
theorem ja_ {s : Bs} (hs : s.length ≤ 1048576) : Ans (fun n _ => bY_ n s) fun _ => True := by
  refine cS_ ?_
  simp only [bY_]
  refine cG_ (hs_ (s := s) (p := 0) (ok := true) (left := 0) hs (Nat.zero_le _)) fun v hv => ?_
  obtain ⟨p', ok', e1, e2, e3, e4, e5⟩ := hv
  simp only [cp_, ch_, bI_ (cV_ (x := v.1) e4 e5), implies_true, and_self]
theorem i9_ {n : Int} (h0 : 0 ≤ n) (h1 : n ≤ 100000) : Ev (fun m _ => bY_ m (Lib.itoa n)) (n, true) := by
  have hl := Lib.itoa_length_le n (by omega) (by omega)
  have hN := hr_ (s := Lib.itoa n) (p := 0) (left := 0) (r := []) (n := n) (by simp only [gR_]; omega) (by omega) (by omega) jz_ ⟨Nat.zero_le _, by simp⟩
  have hN : Ev (fun m _ => ax_ m ⟨Lib.itoa n, 0, true, 0⟩) (n, ⟨Lib.itoa n, ((0 + (Lib.itoa n).length : Nat) : Int), true, 0⟩) := hN
  refine aS_ ?_
  simp only [bY_, ae_ hN, cond_true, ae_ (cV_ (x := n) (by omega) (by omega)), beq_self_eq_true, an_]
end Go.Pi
end
section
set_option linter.unusedVariables false
set_option maxRecDepth 100000
set_option linter.unusedSimpArgs false
namespace Go.Pi
section
variable {n6 : Int}
theorem m6_ {j : aa_} (h : bw_ 6 j ≤ 400) {i : Nat} (hi : i < j.list.length) : bw_ 6 (j.list.getD i aa_.dflt) ≤ 400 := by
  have := fK_ h (cx_ aa_.dflt hi)
  rw [hP_ 5 _ this]; exact this
theorem ops_uni {s : Bs} {t6 a b c d e : Int} {f : Bs} {t40 t41 t42 t43 t44 : Int} {t45 : Bs} {t5 : List Bs} {t46 : List aa_} {t47 : List Bs} {j : aa_} (hj : bw_ 6 j ≤ 400) :
    ∀ (m i : Nat) (o : List TOp), i + m = j.list.length → (∀ x ∈ o, dU_ x) → o.length ≤ 4000 + i → ∃ M,
      (∀ n R, M ≤ n → M ≤ R → ∀ k, ac_.loop20 n k R s t6 (i : Int) a b c d e f t40 t41 t42 t43 t44 t45 t5 j.kind j.n_ j.s t46 t47 o j.list j.names = some (zeroE, false)) ∨
      ∃ o', o'.length ≤ o.length + m ∧ (∀ x ∈ o', dU_ x) ∧ ∀ n R, M ≤ n → M ≤ R → ∀ k, ac_.loop20 n k R s t6 (i : Int) a b c d e f t40 t41 t42 t43 t44 t45 t5 j.kind j.n_ j.s t46 t47 o j.list j.names = k s t6 a b c d e f t40 t41 t42 t43 t44 t45 t5 t46 t47 o' := by
  have hll := df_ hj
  intro m
  induction m with
  | zero =>
    intro i o hi ho _
    have e : i = j.list.length := by omega
    subst e
    refine ⟨1, .inr ⟨o, Nat.le_refl _, ho, fun n R _ hR k => ?_⟩⟩
    obtain ⟨R, rfl⟩ : ∃ m, R = m + 1 := ⟨R - 1, by omega⟩
    simp only [ac_.turn20, ac_.step20, cL_, cond_false]
  | succ m ih =>
    intro i o hi ho hol
    have hlt : i < j.list.length := by omega
    obtain ⟨v, ⟨M1, hM1⟩, hv⟩ := hY_ (m6_ hj hlt)
    have hW := W_up hlt (show j.list.length ≤ cv_ by simp only [cv_]; omega)
    have hr : (o.length + 1) * 112 ≤ 140737488355328 := by omega
    cases hq : v.2 with
    | false =>
      refine ⟨max M1 1, .inl fun n R hn hR k => ?_⟩
      obtain ⟨R, rfl⟩ : ∃ m, R = m + 1 := ⟨R - 1, by omega⟩
      simp only [ac_.turn20, ac_.step20, br_, Int.toNat_natCast, cO_ hlt, cond_true, gG_ hlt, hM1 n n (by omega) (by omega), Option.bind_some, hq, Bool.not_false]
    | true =>
      obtain ⟨M2, h2⟩ := ih (i + 1) (o ++ [v.1]) (by omega) (me_ ho hv) (by simp; omega)
      refine ⟨max M1 (M2 + 1), ?_⟩
      have step : ∀ n R, max M1 (M2 + 1) ≤ n → max M1 (M2 + 1) ≤ R → ∀ k, ∃ R', M2 ≤ R' ∧ ac_.loop20 n k R s t6 (i : Int) a b c d e f t40 t41 t42 t43 t44 t45 t5 j.kind j.n_ j.s t46 t47 o j.list j.names = ac_.loop20 n k R' s t6 ((i + 1 : Nat) : Int) a b c d e f t40 t41 t42 t43 t44 t45 t5 j.kind j.n_ j.s t46 t47 (o ++ [v.1]) j.list j.names := by
        intro n R hn hR k
        obtain ⟨R, rfl⟩ : ∃ m, R = m + 1 := ⟨R - 1, by omega⟩
        refine ⟨R, by omega, ?_⟩
        have hr2 : (o.length + [v.1].length) * 112 ≤ 140737488355328 := hr
        simp only [ac_.turn20, ac_.step20, br_, f1_, Int.toNat_natCast, cO_ hlt, cond_true, gG_ hlt, hM1 n n (by omega) (by omega), Option.bind_some, hq, Bool.not_true, cond_false, gy_ hr2, hW]
      rcases h2 with h2 | ⟨o', g1, g2, g3⟩
      · refine .inl fun n R hn hR k => ?_
        obtain ⟨R', h1, e⟩ := step n R hn hR k
        rw [e]; exact h2 n R' (by omega) h1 k
      · refine .inr ⟨o', by simp at g1; omega, g2, fun n R hn hR k => ?_⟩
        obtain ⟨R', h1, e⟩ := step n R hn hR k
        rw [e]; exact g3 n R' (by omega) h1 k
theorem ops_any {K : Nat → Nat → ac_.K20} {Q : bb_ × Bool → Prop} {s : Bs} {t6 a b c d e : Int} {f : Bs} {t40 t41 t42 t43 t44 : Int} {t45 : Bs} {t5 : List Bs} {t46 : List aa_} {t47 : List Bs} {j : aa_} (hj : bw_ 6 j ≤ 400) {o : List TOp} (ho : ∀ x ∈ o, dU_ x) (hol : o.length ≤ 4000)
    (hz : Q (zeroE, false)) (hK : ∀ o', o'.length ≤ o.length + 400 → (∀ x ∈ o', dU_ x) → Ans (fun n N => K n N s t6 a b c d e f t40 t41 t42 t43 t44 t45 t5 t46 t47 o') Q) :
    Ans (fun n N => ac_.loop20 n (K n N) n s t6 0 a b c d e f t40 t41 t42 t43 t44 t45 t5 j.kind j.n_ j.s t46 t47 o j.list j.names) Q := by
  have hll := df_ hj
  obtain ⟨M, h | ⟨o', g1, g2, g3⟩⟩ := ops_uni (s := s) (t6 := t6) (a := a) (b := b) (c := c) (d := d) (e := e) (f := f) (t40 := t40) (t41 := t41) (t42 := t42) (t43 := t43) (t44 := t44) (t45 := t45) (t5 := t5) (t46 := t46) (t47 := t47) hj j.list.length 0 o (by omega) ho (by omega)
  · exact ⟨_, ⟨M, fun n N hn _ => h n n hn hn _⟩, hz⟩
  · obtain ⟨v, hv, hq⟩ := hK o' (by omega) g2
    exact ⟨v, jZ_ M (fun n N hn => g3 n n hn hn _) hv, hq⟩
theorem ops_exact {s : Bs} {t6 a b c d e : Int} {f : Bs} {t40 t41 t42 t43 t44 : Int} {t45 : Bs} {t5 : List Bs} {t46 : List aa_} {t47 : List Bs} {l : List TOp} (hl : l.length ≤ 400) (h : ∀ o ∈ l, OpIn o) :
    ∀ (m i : Nat), i + m = l.length → ∃ M, ∀ n R, M ≤ n → M ≤ R → ∀ k, ac_.loop20 n k R s t6 (i : Int) a b c d e f t40 t41 t42 t43 t44 t45 t5 4 0 [] t46 t47 (l.take i) (l.map cr_) [] = k s t6 a b c d e f t40 t41 t42 t43 t44 t45 t5 t46 t47 l := by
  intro m
  induction m with
  | zero =>
    intro i hi
    have e : i = l.length := by omega
    subst e
    have e : decide ((l.length : Int) < ((l.map cr_).length : Int)) = false := by simp
    refine ⟨1, fun n R _ hR k => ?_⟩
    obtain ⟨R, rfl⟩ : ∃ m, R = m + 1 := ⟨R - 1, by omega⟩
    simp only [List.take_length, ac_.turn20, ac_.step20, e, cond_false]
  | succ m ih =>
    intro i hi
    have hlt : i < l.length := by omega
    have ho := h _ (cx_ TOp.dflt hlt)
    have hi2 : i < (l.map cr_).length := by simpa using hlt
    have e : (l.map cr_).getD i aa_.dflt = c1_ (l.getD i TOp.dflt) := by
      rw [← ho.val, List.getD_eq_getElem?_getD, List.getElem?_map, List.getD_eq_getElem?_getD, List.getElem?_eq_getElem hlt]; rfl
    obtain ⟨M1, hM1⟩ := hX_ ho
    obtain ⟨M2, h2⟩ := ih (i + 1) (by omega)
    have hW := W_up hlt (show l.length ≤ cv_ by simp only [cv_]; omega)
    refine ⟨max M1 (M2 + 1), fun n R hn hR k => ?_⟩
    obtain ⟨R, rfl⟩ : ∃ m, R = m + 1 := ⟨R - 1, by omega⟩
    have hr2 : ((l.take i).length + [l.getD i TOp.dflt].length) * 112 ≤ 140737488355328 := by simp; omega
    rw [cA_ TOp.dflt hlt] at h2
    simp only [ac_.turn20, ac_.step20, br_, f1_, Int.toNat_natCast, cO_ hi2, cond_true, gG_ hi2, e, hM1 n n (by omega) (by omega), Option.bind_some, Bool.not_true, cond_false, gy_ hr2, hW]
    exact h2 n R (by omega) (by omega) k
theorem ops_enc {K : Nat → Nat → ac_.K20} {F : bb_ × Bool} {s : Bs} {t6 a b c d e : Int} {f : Bs} {t40 t41 t42 t43 t44 : Int} {t45 : Bs} {t5 : List Bs} {t46 : List aa_} {t47 : List Bs} {l : List TOp} (hl : l.length ≤ 400) (h : ∀ o ∈ l, OpIn o)
    (hK : Ev (fun n N => K n N s t6 a b c d e f t40 t41 t42 t43 t44 t45 t5 t46 t47 l) F) :
    Ev (fun n N => ac_.loop20 n (K n N) n s t6 0 a b c d e f t40 t41 t42 t43 t44 t45 t5 4 0 [] t46 t47 [] (l.map cr_) []) F := by
  obtain ⟨M, hM⟩ := ops_exact (s := s) (t6 := t6) (a := a) (b := b) (c := c) (d := d) (e := e) (f := f) (t40 := t40) (t41 := t41) (t42 := t42) (t43 := t43) (t44 := t44) (t45 := t45) (t5 := t5) (t46 := t46) (t47 := t47) hl h l.length 0 (by omega)
  exact jZ_ M (fun n N hn => hM n n hn hn _) hK
end
section
variable {K : Nat → ac_.K5} {s : Bs} {a b c d e : Int} {f : Bs}
theorem lines_any {Q : bb_ × Bool → Prop} {L : List Bs} (hL : L.length ≤ 1048576) (hLl : ∀ y ∈ L, y.length ≤ 1048576) (hz : Q (zeroE, false))
    (hK : ∀ t40 t41 t42 (j : aa_) o, e8_ 6 j → o.length ≤ 4000 → (∀ x ∈ o, dU_ x) → Ans (fun n _ => K n s a b c d e f t40 t41 t42 j.kind j.n_ j.s j.list j.names o) Q) :
    Ans (fun n _ => ac_.loop5 n (K n) n s 0 a b c d e f 0 0 0 0 0 [] L [] [] []) Q := by
  refine eu_ (σ := Nat × Int × Int × Int × aa_ × List TOp) (fun n N st => ac_.loop5 n (K n) N s (st.1 : Int) a b c d e f st.2.1 st.2.2.1 st.2.2.2.1 st.2.2.2.2.1.kind st.2.2.2.2.1.n_ st.2.2.2.2.1.s L st.2.2.2.2.1.list st.2.2.2.2.1.names st.2.2.2.2.2) (fun st => 6 - st.1)
    (fun st => st.1 ≤ 6 ∧ e8_ 6 st.2.2.2.2.1 ∧ st.2.2.2.2.2.length ≤ 400 * st.1 ∧ ∀ x ∈ st.2.2.2.2.2, dU_ x) _ (fun st hI ih => ?_) (0, 0, 0, 0, fd_, []) ⟨Nat.zero_le _, ed_ 6, Nat.zero_le _, fun y h => (by cases h)⟩
  obtain ⟨i, t40, t41, t42, j, o⟩ := st
  simp only at hI ih ⊢
  obtain ⟨h1, h2, h3, h4⟩ := hI
  have hend := hK t40 t41 t42 j o h2 (by omega) h4
  simp only [ac_.turn5, ac_.step5, br_, Int.toNat_natCast, cp_]
  refine ⟨fun hlt => ⟨fun h6 => ?_, fun _ => hend⟩, fun _ => hend⟩
  have hlt := of_decide_eq_true hlt
  have h6 := of_decide_eq_true h6
  have hi : i < L.length := by omega
  have hW : W ((i : Int) + 1) = ((i + 1 : Nat) : Int) := by rw [W_id (by omega) (by omega)]; omega
  have hy := hLl _ (cx_ [] hi)
  have b1 := iw_ (L.getD i []) [105, 100, 58, 32]
  have b2 := iw_ (L.getD i []) [98, 97, 115, 101, 58, 32]
  have b3 := iw_ (L.getD i []) [100, 97, 116, 97, 58, 32]
  simp only [hk_, cz_ hi, true_and, hW, cp_, bI_ eJ_]
  have next : ∀ t40 t41 t42 j o', e8_ 6 j → o'.length ≤ o.length + 400 → (∀ x ∈ o', dU_ x) → Ans (fun n N => ac_.loop5 n (K n) N s ((i + 1 : Nat) : Int) a b c d e f t40 t41 t42 j.kind j.n_ j.s L j.list j.names o') Q :=
    fun t40 t41 t42 j o' g1 g2 g3 => ih (i + 1, t40, t41, t42, j, o') ⟨by simp only; omega, g1, by simp only; omega, g3⟩ (by simp only; omega)
  refine ⟨fun _ => next _ _ _ j o h2 (by omega) h4, fun _ => ⟨fun _ => next _ _ _ j o h2 (by omega) h4, fun _ => ⟨fun _ => ?_, fun _ => ⟨fun _ => ?_, fun _ => ⟨fun _ => ?_, fun _ => next _ _ _ j o h2 (by omega) h4⟩⟩⟩⟩⟩
  · exact cG_ (ja_ (by omega)) fun v _ => next _ _ _ j o h2 (by omega) h4
  · exact cG_ (ja_ (by omega)) fun v _ => next _ _ _ j o h2 (by omega) h4
  · refine cG_ (h0_ (by omega)) fun v hv => ?_
    simp only [cp_]
    refine ⟨fun _ => next _ _ _ v.1 o (cC_ 6 _ hv) (by omega) h4, fun _ => ?_⟩
    exact ops_any hv h4 (by omega) hz fun o' g1 g2 => by simp only [hW]; exact next _ _ _ j o' h2 g1 g2
end
theorem gu_ {s : Bs} (hs : s.length ≤ 1048576) : Ans (fun n _ => ac_ n s) (mQ_ s) := by
  obtain ⟨l1, l2⟩ := ie_ s [] 1048576 (by simpa using hs)
  refine cS_ ?_
  simp only [ac_, bI_ (e6_ hs)]
  refine lines_any (by omega) l2 (.inl rfl) fun t40 t41 t42 j o g1 g2 g3 => ?_
  have he : lw_ (bb_.mk t40 t41 t42 j o) := ⟨g1, by show o.length ≤ 4000000; omega, g3⟩
  simp only [dg_, cp_, ch_, bI_ (eF_ he)]
  refine ⟨fun _ => .inl rfl, fun h1 => ⟨fun _ => .inl rfl, fun h2 => .inr ⟨rfl, text_ok ?_, by simpa using h2⟩⟩⟩
  have h2 : cs_ (bb_.mk t40 t41 t42 j o) = s := by simpa using h2
  rw [h2]
  exact fun e => by rw [e] at h1; cases h1
section
variable {K : Nat → ac_.K5} {s : Bs} {a b c d e : Int} {f : Bs} {F : bb_ × Bool} {t40 t41 t42 t43 t44 : Int} {t45 : Bs} {L : List Bs} {t46 : List aa_} {t47 : List Bs} {t48 : List TOp} {i : Nat}
theorem gB_ {a c : UInt8} (h : c ≠ a) (p t : Bs) : c8_ (c :: t) (a :: p) = [] := by unfold c8_; rw [kA_ h]; rfl
theorem line_snap (hi : i < L.length) (h6 : i < 6) (hl : L.getD i [] = [101, 118, 101, 110, 116, 58, 32, 115, 110, 97, 112])
    (h : Ev (fun n N => ac_.loop5 n (K n) N s ((i + 1 : Nat) : Int) a b c d e f 1 t41 t42 t43 t44 t45 L t46 t47 t48) F) :
    Ev (fun n N => ac_.loop5 n (K n) N s (i : Int) a b c d e f t40 t41 t42 t43 t44 t45 L t46 t47 t48) F := by
  have hW : W ((i : Int) + 1) = ((i + 1 : Nat) : Int) := by rw [W_id (by omega) (by omega)]; omega
  have h6' : decide ((i : Int) < 6) = true := decide_eq_true (by omega)
  refine bv_ ?_
  simp only [ac_.turn5, ac_.step5, Int.toNat_natCast, cO_ hi, h6', cond_true, bT_, cz_ hi, true_and, hW, hl, beq_self_eq_true]
  exact h
theorem m8_ (hi : i < L.length) (h6 : i < 6) (hl : L.getD i [] = [101, 118, 101, 110, 116, 58, 32, 112, 97, 116, 99, 104])
    (h : Ev (fun n N => ac_.loop5 n (K n) N s ((i + 1 : Nat) : Int) a b c d e f 2 t41 t42 t43 t44 t45 L t46 t47 t48) F) :
    Ev (fun n N => ac_.loop5 n (K n) N s (i : Int) a b c d e f t40 t41 t42 t43 t44 t45 L t46 t47 t48) F := by
  have hW : W ((i : Int) + 1) = ((i + 1 : Nat) : Int) := by rw [W_id (by omega) (by omega)]; omega
  have h6' : decide ((i : Int) < 6) = true := decide_eq_true (by omega)
  have c1 : (([101, 118, 101, 110, 116, 58, 32, 112, 97, 116, 99, 104] : Bs) == [101, 118, 101, 110, 116, 58, 32, 115, 110, 97, 112]) = false := rfl
  refine bv_ ?_
  simp only [ac_.turn5, ac_.step5, Int.toNat_natCast, cO_ hi, h6', cond_true, cond_false, bT_, cz_ hi, true_and, hW, hl, c1, beq_self_eq_true]
  exact h
theorem jL_ {c a : UInt8} (h : c ≠ a) (p t : Bs) : ((c :: t : Bs) == (a :: p)) = false := beq_eq_false_iff_ne.2 fun e => h (List.cons.inj e).1
theorem itoa_ne (n : Int) : (Lib.itoa n == []) = false := by
  obtain ⟨c, t, e, _⟩ := fp_ n
  rw [e]; rfl
theorem line_id {v : Int} (hv0 : 0 ≤ v) (hv1 : v ≤ 100000) (hi : i < L.length) (h6 : i < 6) (hl : L.getD i [] = tId ++ Lib.itoa v)
    (h : Ev (fun n N => ac_.loop5 n (K n) N s ((i + 1 : Nat) : Int) a b c d e f t40 v t42 t43 t44 t45 L t46 t47 t48) F) :
    Ev (fun n N => ac_.loop5 n (K n) N s (i : Int) a b c d e f t40 t41 t42 t43 t44 t45 L t46 t47 t48) F := by
  have hW : W ((i : Int) + 1) = ((i + 1 : Nat) : Int) := by rw [W_id (by omega) (by omega)]; omega
  have h6' : decide ((i : Int) < 6) = true := decide_eq_true (by omega)
  have c1 : ∀ p, (tId ++ Lib.itoa v == (101 :: p)) = false := fun p => jL_ (by decide) p _
  have c3 : c8_ (tId ++ Lib.itoa v) [105, 100, 58, 32] = Lib.itoa v := fS_ tId _
  have c4 := itoa_ne v
  refine bv_ ?_
  simp only [ac_.turn5, ac_.step5, Int.toNat_natCast, cO_ hi, h6', cond_true, cond_false, bT_, cz_ hi, true_and, hW, hl, c1, ae_ eJ_, c3, c4, Bool.not_false, ae_ (i9_ hv0 hv1)]
  exact h
theorem line_base {v : Int} (hv0 : 0 ≤ v) (hv1 : v ≤ 100000) (hi : i < L.length) (h6 : i < 6) (hl : L.getD i [] = hB_ ++ Lib.itoa v)
    (h : Ev (fun n N => ac_.loop5 n (K n) N s ((i + 1 : Nat) : Int) a b c d e f t40 t41 v t43 t44 t45 L t46 t47 t48) F) :
    Ev (fun n N => ac_.loop5 n (K n) N s (i : Int) a b c d e f t40 t41 t42 t43 t44 t45 L t46 t47 t48) F := by
  have hW : W ((i : Int) + 1) = ((i + 1 : Nat) : Int) := by rw [W_id (by omega) (by omega)]; omega
  have h6' : decide ((i : Int) < 6) = true := decide_eq_true (by omega)
  have c1 : ∀ p, (hB_ ++ Lib.itoa v == (101 :: p)) = false := fun p => jL_ (by decide) p _
  have c2 : c8_ (hB_ ++ Lib.itoa v) [105, 100, 58, 32] = [] := gB_ (by decide) _ _
  have c3 : c8_ (hB_ ++ Lib.itoa v) [98, 97, 115, 101, 58, 32] = Lib.itoa v := fS_ hB_ _
  have c4 := itoa_ne v
  have c5 : (!(([] : Bs) == [])) = false := rfl
  refine bv_ ?_
  simp only [ac_.turn5, ac_.step5, Int.toNat_natCast, cO_ hi, h6', cond_true, cond_false, bT_, cz_ hi, true_and, hW, hl, c1, ae_ eJ_, c2, c3, c4, c5, Bool.not_false, ae_ (i9_ hv0 hv1)]
  exact h
theorem line_data {j : aa_} (hj : bu_ j ≠ []) (hi : i < L.length) (h6 : i < 6) (hl : L.getD i [] = dD_ ++ bu_ j)
    (h : Ev (fun n N => ac_.loop5 n (K n) N s ((i + 1 : Nat) : Int) a b c d e f 1 t41 t42 j.kind j.n_ j.s L j.list j.names t48) F) :
    Ev (fun n N => ac_.loop5 n (K n) N s (i : Int) a b c d e f 1 t41 t42 t43 t44 t45 L t46 t47 t48) F := by
  have hW : W ((i : Int) + 1) = ((i + 1 : Nat) : Int) := by rw [W_id (by omega) (by omega)]; omega
  have h6' : decide ((i : Int) < 6) = true := decide_eq_true (by omega)
  have c1 : ∀ p, (dD_ ++ bu_ j == (101 :: p)) = false := fun p => jL_ (by decide) p _
  have c2 : c8_ (dD_ ++ bu_ j) [105, 100, 58, 32] = [] := gB_ (by decide) _ _
  have c6 : c8_ (dD_ ++ bu_ j) [98, 97, 115, 101, 58, 32] = [] := gB_ (by decide) _ _
  have c3 : c8_ (dD_ ++ bu_ j) [100, 97, 116, 97, 58, 32] = bu_ j := fS_ dD_ _
  have c4 : (bu_ j == []) = false := beq_eq_false_iff_ne.2 hj
  have c5 : (!(([] : Bs) == [])) = false := rfl
  have c7 : ((1 : Int) == 1) = true := rfl
  refine bv_ ?_
  simp only [ac_.turn5, ac_.step5, Int.toNat_natCast, cO_ hi, h6', cond_true, cond_false, bT_, cz_ hi, true_and, hW, hl, c1, ae_ eJ_, c2, c3, c4, c5, c6, c7, Bool.not_false, ae_ (fk_ hj)]
  exact h
theorem line_ops {l : List TOp} (hj : bu_ (cZ_ l) ≠ []) (hn : l.length ≤ 400) (ho : ∀ o ∈ l, OpIn o) (hi : i < L.length) (h6 : i < 6) (hl : L.getD i [] = dD_ ++ bu_ (cZ_ l))
    (h : Ev (fun n N => ac_.loop5 n (K n) N s ((i + 1 : Nat) : Int) a b c d e f 2 t41 t42 t43 t44 t45 L t46 t47 l) F) :
    Ev (fun n N => ac_.loop5 n (K n) N s (i : Int) a b c d e f 2 t41 t42 t43 t44 t45 L t46 t47 []) F := by
  have hW : W ((i : Int) + 1) = ((i + 1 : Nat) : Int) := by rw [W_id (by omega) (by omega)]; omega
  have h6' : decide ((i : Int) < 6) = true := decide_eq_true (by omega)
  have c1 : ∀ p, (dD_ ++ bu_ (cZ_ l) == (101 :: p)) = false := fun p => jL_ (by decide) p _
  have c2 : c8_ (dD_ ++ bu_ (cZ_ l)) [105, 100, 58, 32] = [] := gB_ (by decide) _ _
  have c6 : c8_ (dD_ ++ bu_ (cZ_ l)) [98, 97, 115, 101, 58, 32] = [] := gB_ (by decide) _ _
  have c3 : c8_ (dD_ ++ bu_ (cZ_ l)) [100, 97, 116, 97, 58, 32] = bu_ (cZ_ l) := fS_ dD_ _
  have c4 : (bu_ (cZ_ l) == []) = false := beq_eq_false_iff_ne.2 hj
  have c5 : (!(([] : Bs) == [])) = false := rfl
  have c7 : ((2 : Int) == 1) = false := rfl
  refine bv_ ?_
  simp only [ac_.turn5, ac_.step5, Int.toNat_natCast, cO_ hi, h6', cond_true, cond_false, bT_, cz_ hi, true_and, hW, hl, c1, ae_ eJ_, c2, c3, c4, c5, c6, c7, Bool.not_false, ae_ (fk_ hj)]
  exact ops_enc hn ho (by simp only [hW]; exact h)
theorem mm_ (hi : i < L.length) (h6 : i < 6) (hl : L.getD i [] = [])
    (h : Ev (fun n N => ac_.loop5 n (K n) N s ((i + 1 : Nat) : Int) a b c d e f t40 t41 t42 t43 t44 t45 L t46 t47 t48) F) :
    Ev (fun n N => ac_.loop5 n (K n) N s (i : Int) a b c d e f t40 t41 t42 t43 t44 t45 L t46 t47 t48) F := by
  have hW : W ((i : Int) + 1) = ((i + 1 : Nat) : Int) := by rw [W_id (by omega) (by omega)]; omega
  have h6' : decide ((i : Int) < 6) = true := decide_eq_true (by omega)
  have c1 : ∀ (a : UInt8) p, (([] : Bs) == (a :: p)) = false := fun a p => rfl
  have c2 : ∀ (a : UInt8) p, c8_ [] (a :: p) = [] := fun a p => rfl
  have c5 : (!(([] : Bs) == [])) = false := rfl
  refine bv_ ?_
  simp only [ac_.turn5, ac_.step5, Int.toNat_natCast, cO_ hi, h6', cond_true, cond_false, bT_, cz_ hi, true_and, hW, hl, c1, ae_ eJ_, c2, c5]
  exact h
theorem mn_ (hi : i = L.length) (h : Ev (fun n _ => K n s a b c d e f t40 t41 t42 t43 t44 t45 t46 t47 t48) F) :
    Ev (fun n N => ac_.loop5 n (K n) N s (i : Int) a b c d e f t40 t41 t42 t43 t44 t45 L t46 t47 t48) F := by
  subst hi
  refine bv_ ?_
  simp only [ac_.turn5, ac_.step5, cL_, cond_false]
  exact h
end
theorem m7_ (v : Int) {d : Bs} (hd : ∀ c ∈ d, c ≠ 10) : dj_ [] (dx_ v d) = [[101, 118, 101, 110, 116, 58, 32, 115, 110, 97, 112], tId ++ Lib.itoa v, dD_ ++ d, []] := by
  have e : dx_ v d = [101, 118, 101, 110, 116, 58, 32, 115, 110, 97, 112] ++ 10 :: ((tId ++ Lib.itoa v) ++ 10 :: ((dD_ ++ d) ++ 10 :: ([] ++ 10 :: []))) := by simp [dx_, iQ_]
  have h1 : ∀ c ∈ tId ++ Lib.itoa v, c ≠ 10 := fun c hc => by rcases List.mem_append.1 hc with h | h; exact (show ∀ c ∈ tId, c ≠ 10 by decide) c h; exact gf_ v c h
  have h2 : ∀ c ∈ dD_ ++ d, c ≠ 10 := fun c hc => by rcases List.mem_append.1 hc with h | h; exact (show ∀ c ∈ dD_, c ≠ 10 by decide) c h; exact hd c h
  rw [e, dv_ [] _ _ (by decide), dv_ [] _ _ h1, dv_ [] _ _ h2, dv_ [] _ _ (by decide)]; rfl
theorem lu_ (v b : Int) {d : Bs} (hd : ∀ c ∈ d, c ≠ 10) : dj_ [] (dh_ v b d) = [[101, 118, 101, 110, 116, 58, 32, 112, 97, 116, 99, 104], tId ++ Lib.itoa v, hB_ ++ Lib.itoa b, dD_ ++ d, []] := by
  have e : dh_ v b d = [101, 118, 101, 110, 116, 58, 32, 112, 97, 116, 99, 104] ++ 10 :: ((tId ++ Lib.itoa v) ++ 10 :: ((hB_ ++ Lib.itoa b) ++ 10 :: ((dD_ ++ d) ++ 10 :: ([] ++ 10 :: [])))) := by simp [dh_, iQ_]
  have h1 : ∀ c ∈ tId ++ Lib.itoa v, c ≠ 10 := fun c hc => by rcases List.mem_append.1 hc with h | h; exact (show ∀ c ∈ tId, c ≠ 10 by decide) c h; exact gf_ v c h
  have h3 : ∀ c ∈ hB_ ++ Lib.itoa b, c ≠ 10 := fun c hc => by rcases List.mem_append.1 hc with h | h; exact (show ∀ c ∈ hB_, c ≠ 10 by decide) c h; exact gf_ b c h
  have h2 : ∀ c ∈ dD_ ++ d, c ≠ 10 := fun c hc => by rcases List.mem_append.1 hc with h | h; exact (show ∀ c ∈ dD_, c ≠ 10 by decide) c h; exact hd c h
  rw [e, dv_ [] _ _ (by decide), dv_ [] _ _ h1, dv_ [] _ _ h3, dv_ [] _ _ h2, dv_ [] _ _ (by decide)]; rfl
theorem gt_ {e : bb_} (h : cH_ e = true) : Ev (fun n _ => ac_ n (cs_ e)) (e, true) := by
  have hlen := jl_ h
  have hne : (cs_ e == []) = false := beq_eq_false_iff_ne.2 (k0_ h)
  have hT := eF_ (mr_ h)
  refine aS_ ?_
  simp only [ac_, ae_ (e6_ (s := cs_ e) (by omega))]
  rcases fP_ h with ⟨hk, hs⟩ | ⟨hk, hs⟩
  · have hl := m7_ e.version (j0_ hs.doc)
    rw [← eY_ h hk] at hl
    rw [hl]
    refine cE_ (line_snap (i := 0) (by simp only [List.length_cons, List.length_nil]; omega) (by decide) rfl (line_id hs.ver.1 hs.ver.2 (by simp only [List.length_cons, List.length_nil]; omega) (by decide) rfl (line_data hs.doc (by simp only [List.length_cons, List.length_nil]; omega) (by decide) rfl (mm_ (by simp only [List.length_cons, List.length_nil]; omega) (by decide) rfl (mn_ rfl ?_)))))
    have ee : bb_.mk 1 e.version 0 e.doc [] = e := by
      obtain ⟨k, v, b, d, o⟩ := e
      have e1 := hs.base
      have e2 := hs.ops
      simp only at e1 e2 hk
      rw [e1, e2, hk]
    simp only [dg_, ee, hne, cond_false, ae_ hT, beq_self_eq_true, Bool.not_true, an_]
  · have hl := lu_ e.version e.base (j0_ hs.enc)
    rw [← es_ h hk] at hl
    rw [hl]
    refine cE_ (m8_ (i := 0) (by simp only [List.length_cons, List.length_nil]; omega) (by decide) rfl (line_id hs.ver.1 hs.ver.2 (by simp only [List.length_cons, List.length_nil]; omega) (by decide) rfl (line_base hs.base.1 hs.base.2 (by simp only [List.length_cons, List.length_nil]; omega) (by decide) rfl (line_ops hs.enc hs.len hs.ops (by simp only [List.length_cons, List.length_nil]; omega) (by decide) rfl (mm_ (by simp only [List.length_cons, List.length_nil]; omega) (by decide) rfl (mn_ rfl ?_))))))
    have ee : bb_.mk 2 e.version e.base (aa_.mk 0 0 [] [] []) e.ops = e := by
      obtain ⟨k, v, b, d, o⟩ := e
      have e1 := hs.doc
      simp only at e1 hk
      rw [e1, hk]; rfl
    simp only [ee, hne, cond_false, ae_ hT, beq_self_eq_true, Bool.not_true, an_]
theorem iR_ {s : Bs} (hs : s.length ≤ 1048576) : ∃ x, mQ_ s x ∧ Ev (fun n _ => ac_ n s) x ∧ Ev (fun n _ => bq_ n s) x := by
  obtain ⟨x, h1, h2⟩ := gK_ hs
  obtain ⟨y, g1, g2⟩ := gu_ hs
  rcases h2 with rfl | ⟨a1, a2, a3⟩
  · rcases g2 with rfl | ⟨b1, b2, b3⟩
    · exact ⟨_, .inl rfl, g1, h1⟩
    · have := gJ_ b2
      rw [b3] at this
      have e := congrArg Prod.snd ((dC_ h1).1 this)
      cases e
  · have := gt_ a2
    rw [a3] at this
    refine ⟨x, .inr ⟨a1, a2, a3⟩, ?_, h1⟩
    rw [← a1] at this
    exact this
end Go.Pi
end
section
set_option linter.unusedVariables false
set_option maxRecDepth 100000
set_option linter.unusedSimpArgs false
namespace Go.Pi
theorem hQ_ : ∀ {l : List Bs} {c : Nat}, (∀ x ∈ l, x.length ≤ c) → ds_ szB l ≤ l.length * c
  | [], _, _ => Nat.zero_le _
  | x :: l, c, h => by
    have := hQ_ (l := l) fun y hy => h y (List.mem_cons_of_mem _ hy)
    have := h x (List.mem_cons_self ..)
    simp only [ds_, szB, List.length_cons, Nat.add_mul] at *; omega
theorem jS_ : ∀ (d : Nat) (j : aa_), bw_ d j ≤ 400 → aa_.size j ≤ 50000 * bw_ d j
  | 0, j, h => by simp only [bw_] at h; omega
  | d + 1, j, h => by
    obtain ⟨ho, hs⟩ := cU_ h
    have hl := df_ h
    have hn := dT_ h
    have hsum : ∀ l : List aa_, (∀ x ∈ l, bw_ d x ≤ 400) → ds_ aa_.size l ≤ 50000 * ds_ (bw_ d) l := by
      intro l
      induction l with
      | nil => intro _; exact Nat.zero_le _
      | cons x l ih =>
        intro hx
        have h1 := jS_ d x (hx x (List.mem_cons_self ..))
        have h2 := ih fun y hy => hx y (List.mem_cons_of_mem _ hy)
        simp only [ds_]; omega
    have h1 := hsum j.list fun x hx => by have := g2_ (bw_ d) hx; omega
    have hF : FOwn j = true := by
      simp only [bw_] at h
      cases hf : FOwn j with
      | true => rfl
      | false => rw [hf, cond_false] at h; omega
    have hsl : j.s.length ≤ 60 := by
      unfold FOwn at hF
      simp only [Bool.and_eq_true, Bool.or_eq_true] at hF
      rcases hF.2.2.2.1 with e | e
      · have : j.s = [] := by simpa using e
        rw [this]; exact Nat.zero_le _
      · exact ho.text (by simpa using e)
    have hnt : ds_ szB j.names ≤ j.names.length * 60 := hQ_ fun x hx => by
      by_cases hk : j.kind = 5
      · obtain ⟨i, hi, e⟩ := List.mem_iff_getElem.1 hx
        have := fW_ (ho.obj hk).2 hi
        rw [List.getD_eq_getElem?_getD, List.getElem?_eq_getElem hi, Option.getD_some, e] at this
        exact this
      · have : j.names.length = 0 := by
          unfold FOwn at hF
          simp only [Bool.and_eq_true, Bool.or_eq_true] at hF
          rcases hF.2.1 with e | e
          · exact of_decide_eq_true e
          · exact absurd (by simpa using e) hk
        rw [List.eq_nil_of_length_eq_zero this] at hx; cases hx
    have e := aa_.size_eq j
    unfold dk_ at e
    rw [hs]
    omega
end Go.Pi
end
section
set_option linter.unusedVariables false
set_option maxRecDepth 100000
set_option linter.unusedSimpArgs false
namespace Go.Pi
theorem op_size {o : TOp} (h : OpIn o) : TOp.size o ≤ 20000100 + 400 := by
  have hi := lr_ h.ok
  have h1 := jS_ 6 o.value hi.val
  have h2 := hi.val
  have h3 : ds_ szB o.way ≤ o.way.length * 60 := hQ_ hi.text
  have h4 := hi.way
  simp only [TOp.size]
  unfold dk_
  omega
theorem mf_ : ∀ {l : List TOp}, (∀ o ∈ l, OpIn o) → ds_ TOp.size l ≤ l.length * 20000500
  | [], _ => Nat.zero_le _
  | o :: l, h => by
    have := mf_ (l := l) fun y hy => h y (List.mem_cons_of_mem _ hy)
    have := op_size (h o (List.mem_cons_self ..))
    simp only [ds_, List.length_cons, Nat.add_mul] at *; omega
theorem read_size {s : Bs} {x : bb_ × Bool} (h : mQ_ s x) : bb_.size x.1 ≤ 20000000000 := by
  rcases h with rfl | ⟨_, h, _⟩
  · decide
  · rcases fP_ h with ⟨hk, hs⟩ | ⟨hk, hs⟩
    · have h1 := (hw_ hs.doc).1
      have h2 := jS_ 6 _ h1
      simp only [bb_.size]
      rw [hs.ops]
      simp only [dk_, ds_, List.length_nil]; omega
    · have h1 := mf_ hs.ops
      have h2 := hs.len
      simp only [bb_.size]
      rw [hs.doc]
      have : aa_.size fd_ = 0 := by decide
      unfold dk_
      omega
theorem j9_ {s : Bs} (hl : lenB s) : ∃ n, laws_FnExactEventRead n s = some true := by
  refine ev_ex (aS_ ?_)
  simp only [laws_FnExactEventRead, aM_, an_]
  refine ⟨fun _ => trivial, fun h => ?_⟩
  have hs : s.length ≤ 1048576 := by have := of_decide_eq_false h; omega
  obtain ⟨x, hx, h1, h2⟩ := iR_ hs
  have hz := read_size hx
  have t1 : bb_.size x.1 ≤ cv_ := by simp only [cv_]; omega
  obtain ⟨m, y0, y1, y2, a1, a2, l0, l1, l2, b1, b2⟩ := kI_ (a := x.1) (k := 1) (by omega) (by simp only [cv_]; omega)
  simp only [br_, kZ_, ae_ h1, ae_ h2, ae_ (nl_ t1), beq_self_eq_true, bne_self_eq_false, Bool.not_true, cond_false, cond_true, ae_ b1, ae_ b2, l0, l1, l2, Nat.beq_refl, aM_, an_, decide_eq_true_eq, decide_eq_false_iff_not]
  repeat' (first | apply And.intro | intro _)
  all_goals (first | trivial | rfl | (exfalso; omega) | omega)
end Go.Pi
end
section
set_option linter.unusedVariables false
namespace Go.Pi
end Go.Pi
end
section
set_option linter.unusedVariables false
namespace Go.Pi
theorem good_str {l : Bs} (h : Good (.s l)) : lenB l := by
  cases h with
  | s l h => exact h
end Go.Pi
end
section
set_option linter.unusedVariables false
namespace Go.Pi
open Go.Proofs Go.Proofs.YtccdklkcfjmchaaGreatDoor
namespace laws_FnExactEventRead
theorem pure_law : Pure := fun s h0 => j9_ (good_str (h0 _ (by simp)))
theorem proved : Rows.FnExactEventReadCardSaid := card pure_law
end laws_FnExactEventRead
end Go.Pi
end
namespace Go.Proofs.YtccdklkcfjmchaaGreatDoor
theorem fnExactEventRead_holds : Rows.FnExactEventReadCardSaid := Go.Pi.laws_FnExactEventRead.proved
#print axioms fnExactEventRead_holds
end Go.Proofs.YtccdklkcfjmchaaGreatDoor
