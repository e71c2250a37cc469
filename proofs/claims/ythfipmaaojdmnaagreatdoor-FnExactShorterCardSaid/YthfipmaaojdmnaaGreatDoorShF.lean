/- The card of FnExactShorter: the law returns true at every input, and leaves its arguments unchanged; no condition. Text 6 of 6. -/
import Derived.Test.YthfipmaaojdmnaaGreatDoorShE
section
set_option linter.unusedVariables false
set_option maxRecDepth 100000
set_option linter.unusedSimpArgs false
namespace Go.Pi
abbrev nmId : Bs := [105, 100]
abbrev kG_ : Bs := [107, 105, 100, 115]
abbrev i64 (x : Int) : Prop := -9223372036854775808 ≤ x ∧ x ≤ 9223372036854775807
def hx_ (q : aZ_) (kids : Int) : List (Bs × Int) := cond q.kids [(kG_, kids)] []
def lp_ (q : aZ_) (r : TRow) (kids : Int) : List (Bs × Int) := c1_ (hx_ q kids) (ins nmId r.id_ (c1_ (q.show_.map (dO_ r)) []))
def eE_ (q : aZ_) (r : TRow) (kids : Int) : aa_ := lt_ (lp_ q r kids)
theorem FRowL_asc {q : aZ_} {r : TRow} {kids : Int} : dL_ (lp_ q r kids) := dS_ _ (jQ_ (dS_ _ trivial))
theorem kL_ {q : aZ_} {kids : Int} : (hx_ q kids).length ≤ 1 := by unfold hx_; cases q.kids <;> simp
theorem FRowL_len {q : aZ_} {r : TRow} {kids : Int} : (lp_ q r kids).length ≤ q.show_.length + 2 := by
  have h1 := ed_ (ps := q.show_.map (dO_ r)) (l := [])
  have h2 := jP_ (x := nmId) (y := r.id_) (l := c1_ (q.show_.map (dO_ r)) [])
  have h3 := ed_ (ps := hx_ q kids) (l := ins nmId r.id_ (c1_ (q.show_.map (dO_ r)) []))
  have h4 := kL_ (q := q) (kids := kids)
  simp at h1
  unfold lp_; omega
theorem l1_ {c : Int} (h : i64 c) : (dC_ c).length ≤ 22 := by
  have := Lib.itoa_length_le c h.1 h.2
  simp only [dC_, List.length_cons]; omega
theorem mg_ {q : aZ_} {r : TRow} {kids : Int} (hs : ∀ c ∈ q.show_, i64 c) : ∀ p ∈ lp_ q r kids, p.1.length ≤ 22 := fun p hp => by
  rcases fK_ hp with h | h
  · unfold hx_ at h
    cases hq : q.kids <;> rw [hq] at h
    · cases h
    · rw [List.mem_singleton.1 h]; show kG_.length ≤ 22; decide
  · rcases jO_ h with h | h
    · rw [h]; show nmId.length ≤ 22; decide
    · rcases fK_ h with h | h
      · obtain ⟨c, hc, e⟩ := List.mem_map.1 h
        rw [← e]; exact l1_ (hs c hc)
      · cases h
theorem lg_ {c : Int} : dC_ c ≠ nmId := fun h => by cases h
theorem l0_ {c : Int} : dC_ c ≠ kG_ := fun h => by cases h
def il_ (q : aZ_) (r : TRow) (kids : Int) : List (Bs × Int) := (nmId, r.id_) :: (dm_ q.show_ q.show_.length).map (dO_ r) ++ hx_ q kids
theorem implL_eq {q : aZ_} {r : TRow} {kids : Int} : c1_ (il_ q r kids) [] = lp_ q r kids := by
  have e : c1_ (il_ q r kids) [] = c1_ (hx_ q kids) (c1_ ((dm_ q.show_ q.show_.length).map (dO_ r)) (ins nmId r.id_ [])) := by
    show List.foldl _ _ _ = _
    unfold il_ c1_
    rw [List.foldl_append]; rfl
  rw [e]
  unfold lp_
  rw [i6_ (fun p hp => by obtain ⟨c, _, e⟩ := List.mem_map.1 hp; rw [← e]; exact lg_), gH_ (l0 := []) trivial (Nat.le_refl _), List.take_length]
theorem lN_ {q : aZ_} {r : TRow} {kids : Int} : ((il_ q r kids).map (·.1)).Nodup := by
  have hm : ((dm_ q.show_ q.show_.length).map (dO_ r)).map (·.1) = (dm_ q.show_ q.show_.length).map dC_ := by rw [List.map_map]; rfl
  have hc : ((dm_ q.show_ q.show_.length).map dC_).Nodup := by
    have := fw_ (l := q.show_) (Nat.le_refl _)
    unfold List.Nodup at this ⊢
    rw [List.pairwise_map]
    exact this.imp fun h e => h (ip_ e)
  unfold il_
  rw [List.cons_append, List.map_cons, List.nodup_cons, List.map_append, hm, List.nodup_append]
  refine ⟨fun h => ?_, hc, ?_, fun a ha b hb => ?_⟩
  · rcases List.mem_append.1 h with h | h
    · obtain ⟨c, _, e⟩ := List.mem_map.1 h
      exact lg_ e
    · unfold hx_ at h; cases hq : q.kids <;> rw [hq] at h
      · cases h
      · have := List.mem_singleton.1 h
        change nmId = kG_ at this
        revert this; decide
  · unfold hx_; cases q.kids <;> simp
  · obtain ⟨c, _, e⟩ := List.mem_map.1 ha
    unfold hx_ at hb; cases hq : q.kids <;> rw [hq] at hb
    · cases hb
    · have hb := List.mem_singleton.1 hb
      rw [← e, hb]; exact l0_
theorem implL_len {q : aZ_} {r : TRow} {kids : Int} : (il_ q r kids).length ≤ q.show_.length + 2 := by
  have h1 := fN_ (l := q.show_) (i := q.show_.length)
  have h4 := kL_ (q := q) (kids := kids)
  unfold il_; simp; omega
theorem FOwn_num {n : Int} (d : Nat) : cF_ (d + 1) (f3_ n) = cF_ 1 (f3_ n) := rfl
theorem FSize_obj (l : List (Bs × Int)) (d : Nat) : cF_ (d + 2) (lt_ l) = cF_ 2 (lt_ l) := by
  simp only [cF_]
  have : ∀ m : List (Bs × Int), eo_ (cF_ (d + 1)) (m.map fun p => f3_ p.2) = eo_ (cF_ 1) (m.map fun p => f3_ p.2) := by
    intro m
    induction m with
    | nil => rfl
    | cons p m ih => simp only [List.map_cons, eo_, FOwn_num d, ih]
  show cond (FOwn (lt_ l)) (min 401 (1 + eo_ (cF_ (d + 1)) (l.map fun p => f3_ p.2))) 401 = cond (FOwn (lt_ l)) (min 401 (1 + eo_ (cF_ 1) (l.map fun p => f3_ p.2))) 401
  rw [this]
theorem gG_ {n : Int} : ∀ d, eP_ d (f3_ n)
  | 0 => trivial
  | d + 1 => ⟨⟨Nat.zero_le _, Nat.zero_le _, fun x hx => (by cases hx)⟩, Nat.zero_le _, fun x hx => (by cases hx)⟩
theorem lenJ_obj {l : List (Bs × Int)} (hl : l.length ≤ 2000000) (hn : ∀ p ∈ l, p.1.length ≤ 22) : ∀ d, eP_ d (lt_ l)
  | 0 => trivial
  | d + 1 => ⟨⟨Nat.zero_le _, by simp [lt_, b9_]; omega, fun x hx => by
      obtain ⟨p, hp, e⟩ := List.mem_map.1 hx
      rw [← e]; have := hn p hp; simp only [b9_]; omega⟩, by simp [lt_, b9_]; omega, fun x hx => by
      obtain ⟨p, hp, e⟩ := List.mem_map.1 hx
      rw [← e]; exact gG_ d⟩
theorem hE_ {q : aZ_} {r : TRow} {kids : Int} (hq : q.show_.length ≤ 1100000) (hs : ∀ c ∈ q.show_, i64 c) (d : Nat) : eP_ d (eE_ q r kids) :=
  lenJ_obj (by have := FRowL_len (q := q) (r := r) (kids := kids); omega) (mg_ hs) d
end Go.Pi
end
section
set_option linter.unusedVariables false
set_option maxRecDepth 100000
set_option linter.unusedSimpArgs false
namespace Go.Pi
theorem iL_ {x : Int} (h0 : -9223372036854775808 ≤ x) (h1 : x ≤ 9223372036854775807) : Ev (fun n _ => ct_ n x) (Lib.itoa x) := by
  refine aF_ ?_
  have := mb_ h0 h1
  simp only [ct_, ag_ this, al_]
end Go.Pi
end
section
set_option linter.unusedVariables false
set_option maxRecDepth 100000
set_option linter.unusedSimpArgs false
namespace Go.Pi
theorem fG_ {l : List Int} {x : Int} (hl : l.length ≤ b9_) : Ev (fun n _ => a8_ n l x) (decide (x ∈ l)) := by
  have h : Ev (fun n _ => au_ n l x) (if l.findIdx (fun y => x == y) < l.length then ((l.findIdx (fun y => x == y) : Nat) : Int) else -1) := by
    refine aF_ ?_
    rw [← et_ 0]
    simp only [au_]
    refine hg_ (fun n N i => au_.loop3 n (some (-1)) N l x (l.length : Int) (i : Int)) _ (fun i u hi ih => ?_) ?_
    · simp only [au_.turn3, au_.step3, Int.toNat_natCast, W_up hi hl, ax_, bO_, al_, dn_ ih, c2_ hi, cE_ hi]
      clear ih
      cases (x == l.getD i 0) <;> simp
    · simp only [au_.turn3, au_.step3, cU_, cond_false, al_]
  refine aF_ ?_
  simp only [a8_, ag_ h, al_]
  have e : (l.findIdx (fun y => x == y) < l.length) ↔ x ∈ l := by
    rw [List.findIdx_lt_length]; simp
  by_cases hm : x ∈ l
  · rw [if_pos (e.2 hm), decide_eq_true hm, decide_eq_true (by omega)]
  · rw [if_neg (fun h => hm (e.1 h)), decide_eq_false hm]; rfl
theorem h9_ {j : aa_} (h : eP_ 6 j) : Ev (fun n _ => bK_ n j) (c4_ j) := by
  refine aF_ ?_
  simp only [bK_, bP_, ag_ (dp_ h), ax_, al_, c4_, gC_]
  cases cV_ j <;> simp
theorem ia_ {x : Int} : Ev (fun n _ => bQ_ n x) (f3_ x) := aF_ (by simp only [bQ_, al_, f3_])
section
variable {q : aZ_} {r : TRow} {kids : Int} (hq : q.show_.length ≤ 1100000) (hs : ∀ c ∈ q.show_, i64 c) (hr : r.cells.length ≤ b9_)
include hq hs hr
theorem fZ_ : Ev (fun n _ => aW_ n q r kids) (eE_ q r kids) := by
  refine aF_ ?_
  simp only [aW_]
  let S : Nat → aa_ := fun i => lt_ (c1_ ((q.show_.take i).map (dO_ r)) [])
  have := dE_ S q.show_.length (fun n N i (s : aa_) => aW_.loop4 n (fun xy5 xy6 xy7 xy8 xy9 xy10 xy11 xy12 xy13 xy14 xy15 xy16 xy17 xy18 xy19 xy20 xy21 xy22 xy23 xy24 => ((bQ_ n xy15).bind fun xr25 => ((bg_ n (aa_.mk xy20 xy21 xy22 xy23 xy24) [105, 100] (aa_.re xr25)).bind fun xr26 => (cond xy12 ((bQ_ n xy5).bind fun xr27 => ((bg_ n (aa_.re xr26) [107, 105, 100, 115] (aa_.re xr27)).bind fun xr28 => (some (aa_.re xr28)))) (some (aa_.re xr26)))))) N kids (i : Int) q.table q.where_ q.order q.down q.first q.show_ q.kids q.kidTable q.kidCol r.id_ r.cells 0 0 [] s.kind s.n_ s.s s.list s.names) (eE_ q r kids) (fun i hi F hF => ?_) ?_
  · exact this
  · have e2 : c1_ ((q.show_.take (i + 1)).map (dO_ r)) [] = ins (dC_ (q.show_.getD i 0)) (j8_ r (q.show_.getD i 0)) (c1_ ((q.show_.take i).map (dO_ r)) []) := by
      rw [dg_ 0 hi, List.map_append]; exact eX_ _ _ _
    have ha : dL_ (c1_ ((q.show_.take i).map (dO_ r)) []) := dS_ _ trivial
    have hll := ed_ (ps := (q.show_.take i).map (dO_ r)) (l := [])
    simp only [S, e2] at hF ⊢
    generalize c1_ ((q.show_.take i).map (dO_ r)) [] = l at hF ha hll ⊢
    have hl2 : l.length ≤ 2000000 := by simp at hll; omega
    have hc := hs _ (bX_ 0 hi)
    have hd := Lib.itoa_length_le _ hc.1 hc.2
    have e0 : TRow.mk r.id_ r.cells = r := rfl
    have e3 : ([99] : Bs) ++ Lib.itoa (q.show_.getD i 0) = dC_ (q.show_.getD i 0) := rfl
    simp only [aW_.turn4, aW_.step4, Int.toNat_natCast, W_up hi (show q.show_.length ≤ b9_ by simp only [b9_]; omega), c2_ hi, cE_ hi, dX_, bP_, e0, e3, ax_, bO_, c3_, ag_ (dl_ hc.1 hc.2), ag_ (iG_ hr), ag_ ia_, ag_ (h8_ ha hl2)]
    simp only [bP_] at hF
    refine ⟨fun _ => ⟨trivial, fun _ => ⟨trivial, hF⟩, fun h => ?_⟩, fun h => (by cases h)⟩
    have h := of_decide_eq_false h
    simp only [List.length_singleton] at h; omega
  · have ha : dL_ (c1_ (q.show_.map (dO_ r)) []) := dS_ _ trivial
    have hll := ed_ (ps := q.show_.map (dO_ r)) (l := [])
    have h2 := jP_ (x := nmId) (y := r.id_) (l := c1_ (q.show_.map (dO_ r)) [])
    simp at hll
    simp only [aW_.turn4, aW_.step4, cU_, cond_false, S, List.take_length, dX_, bP_, ag_ ia_, ag_ (h8_ ha (show _ ≤ 2000000 by omega)), ag_ (h8_ (x := kG_) (y := kids) (jQ_ (x := nmId) (y := r.id_) ha) (show _ ≤ 2000000 by omega)), ax_, al_]
    unfold eE_ lp_ hx_
    exact ⟨fun h => by rw [h]; rfl, fun h => by rw [h]; rfl⟩
theorem iM_ : Ev (fun n _ => a3_ n q r kids) (c4_ (eE_ q r kids)) := by
  refine aF_ ?_
  simp only [a3_]
  have hO : Ev (fun n _ => bi_ n ((il_ q r kids).map (·.1)) ((il_ q r kids).map (·.2))) (eE_ q r kids) := by
    have := jS_ (ps := il_ q r kids) (by have := implL_len (q := q) (r := r) (kids := kids); omega) lN_
    rw [implL_eq] at this; exact this
  have hR := gA_ (hE_ (r := r) (kids := kids) hq hs 6)
  have e1 : ∀ i, ((dm_ q.show_ i).map (dO_ r)).map (·.1) = (dm_ q.show_ i).map dC_ := fun i => by rw [List.map_map]; rfl
  have e2 : ∀ i, ((dm_ q.show_ i).map (dO_ r)).map (·.2) = (dm_ q.show_ i).map (j8_ r) := fun i => by rw [List.map_map]; rfl
  let S : Nat → List Bs × List Int := fun i => (nmId :: (dm_ q.show_ i).map dC_, r.id_ :: (dm_ q.show_ i).map (j8_ r))
  have := dE_ S q.show_.length (fun n N i (s : List Bs × List Int) => a3_.loop4 n (fun xy4 xy5 xy6 xy7 xy8 xy9 xy10 xy11 xy12 xy13 xy14 xy15 xy16 xy17 xy18 => (cond xy11 (ch_ (xy17.length + ([[107, 105, 100, 115]] : List Bs).length) 16 (ch_ (xy18.length + ([xy4] : List Int).length) 8 ((bi_ n (xy17 ++ ([[107, 105, 100, 115]] : List Bs)) (xy18 ++ ([xy4] : List Int))).bind fun xr19 => ((bN_ n (aa_.re xr19)).bind fun xr20 => (some (aa_.re xr20)))))) ((bi_ n xy17 xy18).bind fun xr21 => ((bN_ n (aa_.re xr21)).bind fun xr22 => (some (aa_.re xr22)))))) N kids q.show_ (q.show_.length : Int) (i : Int) q.table q.where_ q.order q.down q.first q.show_ q.kids q.kidTable q.kidCol r.id_ r.cells 0 0 [] s.1 s.2) (c4_ (eE_ q r kids)) (fun i hi F hF => ?_) ?_
  · exact this
  · have hc := hs _ (bX_ 0 hi)
    have hd := Lib.itoa_length_le _ hc.1 hc.2
    have hf := fN_ (l := q.show_) (i := i)
    have e0 : TRow.mk r.id_ r.cells = r := rfl
    have e3 : ([99] : Bs) ++ Lib.itoa (q.show_.getD i 0) = dC_ (q.show_.getD i 0) := rfl
    have hI : Ev (fun n _ => a8_ n (q.show_.take i) (q.show_.getD i 0)) (decide (q.show_.getD i 0 ∈ q.show_.take i)) := fG_ (by simp [b9_]; omega)
    simp only [a3_.turn4, a3_.step4, Int.toNat_natCast, W_up hi (show q.show_.length ≤ b9_ by simp only [b9_]; omega), c2_ hi, cE_ hi, e0, e3, List.drop_zero, ax_, bO_, gd_, c3_, bY_, ag_ hI, ag_ (iL_ hc.1 hc.2), ag_ (cellOf_ev hr)]
    refine ⟨fun _ => ⟨trivial, ⟨by omega, by omega, by omega⟩, fun hm => ?_, fun hm => ⟨fun _ => ⟨by simp [S]; omega, by simp [S]; omega, ?_⟩, fun h => ?_⟩⟩, fun h => (by cases h)⟩
    · have hm := of_decide_eq_true hm
      simp only [S, dm_, if_pos hm] at hF ⊢
      exact hF
    · have hm := of_decide_eq_false hm
      simp only [S, dm_, if_neg hm, List.map_append, List.map_cons, List.map_nil] at hF ⊢
      exact hF
    · have h := of_decide_eq_false h
      simp only [List.length_singleton] at h; omega
  · have hf := fN_ (l := q.show_) (i := q.show_.length)
    simp only [a3_.turn4, a3_.step4, cU_, cond_false, S, bP_, ax_, bY_]
    unfold il_ hx_ at hO
    refine ⟨fun h => ⟨by simp; omega, by simp; omega, ?_⟩, fun h => ?_⟩
    · rw [h] at hO
      simp only [cond_true, List.cons_append, List.map_cons, List.map_append, e1, e2, List.map_nil] at hO
      simp only [List.cons_append, ag_ hO, ag_ hR, al_]
    · rw [h] at hO
      simp only [cond_false, List.append_nil, List.map_cons, e1, e2] at hO
      simp only [ag_ hO, ag_ hR, al_]
end
end Go.Pi
end
section
set_option linter.unusedVariables false
set_option maxRecDepth 100000
set_option linter.unusedSimpArgs false
namespace Go.Pi
theorem ev_allS {α γ : Type} (S : Nat → α) (p : Nat → Bool) (len : Nat) (L : Nat → Nat → Nat → α → Option γ) (v bad : γ)
    (h1 : ∀ i, i < len → ∀ F, (p i = true → Ev (fun n N => L n N (i + 1) (S (i + 1))) F) → (p i = false → F = bad) → Ev (fun n N => L n (N + 1) i (S i)) F)
    (h2 : Ev (fun n N => L n (N + 1) len (S len)) v) : Ev (fun n _ => L n n 0 (S 0)) (cond (gU_ p len) v bad) := by
  have key : ∀ d i, d + i = len → Ev (fun n N => L n N i (S i)) (cond (ek_ p d i) v bad) := by
    intro d
    induction d with
    | zero => intro i hd; obtain rfl : i = len := by omega
              exact cA_ (f := fun n N => L n N i (S i)) h2
    | succ d ih => intro i hd
                   refine cA_ (f := fun n N => L n N i (S i)) (h1 i (by omega) _ (fun hp => ?_) (fun hp => ?_))
                   · have := ih (i + 1) (by omega)
                     simp only [ek_, hp, Bool.true_and]; exact this
                   · simp only [ek_, hp, Bool.false_and, cond_false]
  exact dw_ (f := fun n N => L n N 0 (S 0)) (key len 0 (by omega))
def bE_ (l : List ap_) : List Int := l.map (·.key)
def kAt (ks : List Int) (k : Int) : Int := if ks.findIdx (fun y => y == k) < ks.length then ((ks.findIdx (fun y => y == k) : Nat) : Int) else -1
theorem lL_ {ks : List Int} {k : Int} : kAt ks k < 0 ↔ k ∉ ks := by
  have e : (ks.findIdx (fun y => y == k) < ks.length) ↔ k ∈ ks := by rw [List.findIdx_lt_length]; simp
  unfold kAt
  by_cases h : k ∈ ks
  · rw [if_pos (e.2 h)]; simp [h]
  · rw [if_neg (fun h' => h (e.1 h'))]; simp [h]
theorem i4_ {ks : List Int} {k : Int} (h : k ∈ ks) : ∃ p : Nat, kAt ks k = p ∧ p < ks.length ∧ ks.getD p 0 = k := by
  have e : ks.findIdx (fun y => y == k) < ks.length := by rw [List.findIdx_lt_length]; simp [h]
  refine ⟨_, by unfold kAt; rw [if_pos e], e, ?_⟩
  rw [List.getD_eq_getElem?_getD, List.getElem?_eq_getElem e, Option.getD_some]
  have := List.findIdx_getElem (xs := ks) (p := fun y => y == k) (w := e)
  simpa using this
theorem i5_ {ks : List Int} {k : Int} {p : Nat} (h : kAt ks k = p) : p < ks.length ∧ ks.getD p 0 = k := by
  have hm : k ∈ ks := Classical.byContradiction fun hn => by have := lL_.2 hn; omega
  obtain ⟨q, e, h1, h2⟩ := i4_ hm
  have : q = p := by omega
  subst this; exact ⟨h1, h2⟩
theorem eq_ {ks : List Int} {k : Int} (hl : ks.length ≤ b9_) : Ev (fun n _ => bq_ n ks k) (kAt ks k) := by
  refine aF_ ?_
  unfold kAt
  rw [← et_ 0]
  simp only [bq_]
  refine hg_ (fun n N i => bq_.loop3 n (some (-1)) N ks k (i : Int)) _ (fun i u hi ih => ?_) ?_
  · simp only [bq_.turn3, bq_.step3, Int.toNat_natCast, W_up hi hl, ax_, bO_, al_, dn_ ih, c2_ hi, cE_ hi]
    clear ih
    cases (ks.getD i 0 == k) <;> simp
  · simp only [bq_.turn3, bq_.step3, cU_, cond_false, al_]
theorem hr_ (k : Int) : ∀ l : List ap_, (bE_ l).findIdx (fun y => y == k) = l.findIdx (fun x => x.key == k)
  | [] => rfl
  | x :: l => by
    have ih := hr_ k l
    unfold bE_ at ih ⊢
    simp only [List.map_cons, List.findIdx_cons, ih]
theorem cz_ (l : List ap_) : (bE_ l).length = l.length := List.length_map _
theorem kM_ (x : ap_) : ap_.mk x.key x.value = x := rfl
theorem gK_ {l : List ap_} {k : Int} (hl : l.length ≤ b9_) : Ev (fun n _ => cB_ n l k) (kAt (bE_ l) k) := by
  have hf : ∀ x : ap_, Ev (fun n _ => bS_ n x k) (x.key == k) := fun x => aF_ (by simp only [bS_, al_])
  have h : Ev (fun n _ => ab_ n l k) (kAt (bE_ l) k) := by
    refine aF_ ?_
    unfold kAt
    rw [hr_, cz_, ← et_ ap_.dflt]
    simp only [ab_]
    refine hg_ (fun n N i => ab_.loop3 n (some (-1)) N l k (l.length : Int) (i : Int)) _ (fun i u hi ih => ?_) ?_
    · simp only [ab_.turn3, ab_.step3, bP_, kM_, Int.toNat_natCast, W_up hi hl, ax_, bO_, ag_ (hf _), al_, dn_ ih, c2_ hi, cE_ hi]
      clear ih
      cases ((l.getD i ap_.dflt).key == k) <;> simp
    · simp only [ab_.turn3, ab_.step3, cU_, cond_false, al_]
  exact aF_ (by simp only [cB_, ag_ h, al_])
def kOk (docs : List aa_) (keys : List Int) : Bool := decide (docs.length = keys.length) && gU_ (fun i => cV_ (docs.getD i aa_.dflt) && !decide (keys.getD i 0 ∈ keys.take i)) docs.length
def gZ_ (docs : List aa_) (keys : List Int) (m : Nat) : List ap_ := (List.range m).map fun i => ap_.mk (keys.getD i 0) (docs.getD i aa_.dflt)
theorem zipK_succ {docs : List aa_} {keys : List Int} {m : Nat} : gZ_ docs keys (m + 1) = gZ_ docs keys m ++ [ap_.mk (keys.getD m 0) (docs.getD m aa_.dflt)] := by
  unfold gZ_; rw [List.range_succ, List.map_append]; rfl
theorem d8_ {docs : List aa_} {keys : List Int} {m : Nat} : (gZ_ docs keys m).length = m := by unfold gZ_; simp
theorem hB_ {l : List Int} {i : Nat} {x : Int} (hl : l.length ≤ b9_) : Ev (fun n _ => a8_ n (l.take i) x) (decide (x ∈ l.take i)) := fG_ (by simp; omega)
theorem ft_ {docs : List aa_} {keys : List Int} (hd : docs.length ≤ 2000000) (hJ : ∀ j ∈ docs, eP_ 6 j) : Ev (fun n _ => aS_ n docs keys) (cond (kOk docs keys) (gZ_ docs keys docs.length, true) ([], false)) := by
  refine aF_ ?_
  have ht : docs.length ≤ b9_ := by simp only [b9_]; omega
  simp only [aS_, i3_, ax_, al_, kOk]
  by_cases hl : docs.length = keys.length
  · rw [decide_eq_true hl, Bool.true_and]
    refine ⟨fun h => (by cases h), fun _ => ?_⟩
    refine ev_allS (fun i => gZ_ docs keys i) (fun i => cV_ (docs.getD i aa_.dflt) && !decide (keys.getD i 0 ∈ keys.take i)) docs.length (fun n N i (o : List ap_) => aS_.loop7 n (fun xy3 => (some (xy3, true))) N keys docs (docs.length : Int) (i : Int) o) (gZ_ docs keys docs.length, true) ([], false) (fun i hi F h1 h2 => ?_) ?_
    · have hk : i < keys.length := by omega
      rw [zipK_succ] at h1
      have hol := d8_ (docs := docs) (keys := keys) (m := i)
      generalize gZ_ docs keys i = o at h1 hol ⊢
      simp only [aS_.turn7, aS_.step7, bP_, Int.toNat_natCast, List.drop_zero, W_up hi ht, c2_ hi, cE_ hi, cE_ hk, ax_, bO_, gd_, bY_, ag_ (dY_ (hJ _ (bX_ aa_.dflt hi))), ag_ (hB_ (l := keys) (i := i) (x := keys.getD i 0) (by omega)), al_, cond_true]
      cases hj : cV_ (docs.getD i aa_.dflt) with
      | false => rw [hj] at h2; exact ⟨trivial, fun _ => (h2 rfl).symm, fun h => (by cases h)⟩
      | true =>
        rw [hj, Bool.true_and] at h1 h2
        refine ⟨trivial, fun h => (by cases h), fun _ => ⟨⟨by omega, by omega, by omega⟩, trivial, fun hc => ?_, fun hc => ?_⟩⟩
        · exact (h2 (by rw [hc]; rfl)).symm
        · exact ⟨trivial, by simp; omega, h1 (by rw [hc]; rfl)⟩
    · simp only [aS_.turn7, aS_.step7, cU_, cond_false, al_]
  · rw [decide_eq_false hl, Bool.false_and]
    exact ⟨fun _ => rfl, fun h => (by cases h)⟩
theorem allN_congr {p q : Nat → Bool} {len : Nat} (h : ∀ i, i < len → p i = q i) : gU_ p len = gU_ q len := by
  rw [Bool.eq_iff_iff, ev_, ev_]
  exact ⟨fun hp i hi => by rw [← h i hi]; exact hp i hi, fun hq i hi => by rw [h i hi]; exact hq i hi⟩
theorem allN_and {p q : Nat → Bool} {len : Nat} : gU_ (fun i => p i && q i) len = (gU_ p len && gU_ q len) := by
  rw [Bool.eq_iff_iff, Bool.and_eq_true, ev_, ev_, ev_]
  exact ⟨fun h => ⟨fun i hi => (Bool.and_eq_true_iff.1 (h i hi)).1, fun i hi => (Bool.and_eq_true_iff.1 (h i hi)).2⟩, fun h i hi => by rw [h.1 i hi, h.2 i hi]; rfl⟩
theorem fY_ {docs : List aa_} {keys : List Int} (hd : docs.length ≤ 2000000) (hk : keys.length ≤ 2000000) (hJ : ∀ j ∈ docs, eP_ 6 j) : Ev (fun n _ => aw_ n keys docs) (kOk docs keys) := by
  refine aF_ ?_
  have ht : docs.length ≤ b9_ := by simp only [b9_]; omega
  have htk : keys.length ≤ b9_ := by simp only [b9_]; omega
  have e : kOk docs keys = (gU_ (fun i => !decide (keys.getD i 0 ∈ keys.take i)) keys.length && (gU_ (fun i => cV_ (docs.getD i aa_.dflt)) docs.length && ((keys.length : Int) == (docs.length : Int)))) := by
    unfold kOk
    by_cases hl : docs.length = keys.length
    · rw [decide_eq_true hl, allN_and, ← hl]
      simp [Bool.and_comm]
    · rw [decide_eq_false hl]
      have : ((keys.length : Int) == (docs.length : Int)) = false := by rw [beq_eq_false_iff_ne]; omega
      rw [this]; simp
  rw [e]
  simp only [aw_]
  have hin : Ev (fun n _ => aw_.loop11 n (fun xy5 xy6 => (some ((xy5.length : Int) == (xy6.length : Int)))) n keys docs 0) (gU_ (fun i => cV_ (docs.getD i aa_.dflt)) docs.length && ((keys.length : Int) == (docs.length : Int))) := by
    refine d7_ (fun n N i => aw_.loop11 n (fun xy5 xy6 => (some ((xy5.length : Int) == (xy6.length : Int)))) N keys docs (i : Int)) _ (fun i w hi ih => ?_) ?_
    · simp only [aw_.turn11, aw_.step11, bP_, Int.toNat_natCast, W_up hi ht, ax_, bO_, ag_ (dp_ (hJ _ (bX_ aa_.dflt hi))), al_, dn_ ih, c2_ hi, cE_ hi]
      cases cV_ (docs.getD i aa_.dflt) <;> simp
    · simp only [aw_.turn11, aw_.step11, cU_, cond_false, al_]
  refine d7_ (fun n N i => aw_.loop3 n (fun xy2 xy3 => (aw_.loop11 n (fun xy5 xy6 => (some ((xy5.length : Int) == (xy6.length : Int)))) n xy2 xy3 0)) N keys docs (i : Int)) _ (fun i w hi ih => ?_) ?_
  · have hA := eq_ (ks := keys.take i) (k := keys.getD i 0) (by simp; omega)
    have hg : decide (kAt (keys.take i) (keys.getD i 0) ≥ 0) = decide (keys.getD i 0 ∈ keys.take i) := by
      have := lL_ (ks := keys.take i) (k := keys.getD i 0)
      by_cases hm : keys.getD i 0 ∈ keys.take i
      · rw [decide_eq_true hm, decide_eq_true]; exact Int.not_lt.1 fun h => this.1 h hm
      · rw [decide_eq_false hm, decide_eq_false]; intro h; exact absurd (this.2 hm) (by omega)
    simp only [aw_.turn3, aw_.step3, Int.toNat_natCast, List.drop_zero, W_up hi htk, ax_, bO_, gd_, ag_ hA, hg, al_, dn_ ih, c2_ hi, cE_ hi]
    cases decide (keys.getD i 0 ∈ keys.take i) <;> simp <;> omega
  · simp only [aw_.turn3, aw_.step3, cU_, cond_false]
    exact hin
end Go.Pi
end
section
set_option linter.unusedVariables false
set_option maxRecDepth 100000
set_option linter.unusedSimpArgs false
namespace Go.Pi
def del {α : Type} (l : List α) (k : Nat) : List α := l.take k ++ l.drop (k + 1)
def eK_ {α : Type} (l : List α) (k : Nat) (x : α) : List α := l.take k ++ [x] ++ l.drop k
def rmOp (k : Nat) : TOp := TOp.mk 2 [Lib.itoa k] (aa_.mk 0 0 [] [] [])
def repOp (k : Nat) (j : aa_) : TOp := TOp.mk 3 [Lib.itoa k] j
def addOp (k : Nat) (j : aa_) : TOp := TOp.mk 1 [Lib.itoa k] j
theorem gf_ {α : Type} {l : List α} {k : Nat} (h : k < l.length) : (del l k).length + 1 = l.length := by
  simp only [del, List.length_append, List.length_take, List.length_drop]; omega
theorem kR_ {α : Type} {l : List α} {k : Nat} {x : α} (h : k ≤ l.length) : (eK_ l k x).length = l.length + 1 := by
  simp only [eK_, List.length_append, List.length_take, List.length_drop, List.length_cons, List.length_nil]; omega
theorem del_mem {α : Type} {l : List α} {k : Nat} {x : α} (h : x ∈ del l k) : x ∈ l := by
  rcases List.mem_append.1 h with h | h
  · exact List.mem_of_mem_take h
  · exact List.mem_of_mem_drop h
theorem kP_ {α : Type} {l : List α} {k : Nat} {x y : α} (h : y ∈ eK_ l k x) : y = x ∨ y ∈ l := by
  rcases List.mem_append.1 h with h | h
  · rcases List.mem_append.1 h with h | h
    · exact .inr (List.mem_of_mem_take h)
    · exact .inl (List.mem_singleton.1 h)
  · exact .inr (List.mem_of_mem_drop h)
theorem del_map {α β : Type} (f : α → β) (l : List α) (k : Nat) : (del l k).map f = del (l.map f) k := by
  simp only [del, List.map_append, List.map_take, List.map_drop]
theorem kQ_ {α β : Type} (f : α → β) (l : List α) (k : Nat) (x : α) : (eK_ l k x).map f = eK_ (l.map f) k (f x) := by
  simp only [eK_, List.map_append, List.map_take, List.map_drop, List.map_cons, List.map_nil]
theorem del_take {α : Type} {l : List α} {k : Nat} (h : k ≤ l.length) : (del l k).take k = l.take k := by
  unfold del
  rw [List.take_append_of_le_length (by simp; omega), List.take_of_length_le (by simp; omega)]
theorem nD_ {α : Type} (d : α) {l m : List α} {k : Nat} (h : l.take (k + 1) = m.take (k + 1)) : l.getD k d = m.getD k d := by
  have := congrArg (fun z => z[k]?) h
  simp only [List.getElem?_take_of_lt (Nat.lt_succ_self k)] at this
  rw [List.getD_eq_getElem?_getD, List.getD_eq_getElem?_getD, this]
theorem kh_ {α : Type} {l m : List α} {k : Nat} (h : l.take (k + 1) = m.take (k + 1)) : l.take k = m.take k := by
  have := congrArg (List.take k) h
  rwa [List.take_take, List.take_take, Nat.min_eq_left (Nat.le_succ k)] at this
theorem js_ {k : Nat} (h : k ≤ 4000000) : Ev (fun n _ => ci_ n (k : Int)) [Lib.itoa k] := aF_ (by simp only [ci_, ag_ (mb_ (x := (k : Int)) (by omega) (by omega)), al_])
theorem fF_ {l : List ap_} {k : Nat} (h : k < l.length) : Ev (fun n _ => a5_ n l (k : Int) ((k + 1 : Nat) : Int)) (del l k) := by
  refine aF_ ?_
  simp only [a5_, jJ_, ax_, al_, c3_, Int.toNat_natCast, del]
  refine ⟨fun _ => trivial, fun hc => ?_⟩
  rw [decide_eq_true (show (0 : Int) ≤ (k : Int) by omega), decide_eq_true (show (k : Int) ≤ ((k + 1 : Nat) : Int) by omega), decide_eq_true (show ((k + 1 : Nat) : Int) ≤ (l.length : Int) by omega)] at hc
  cases hc
theorem fB_ {l : List ap_} {k : Nat} {x : ap_} (h : k ≤ l.length) (hl : l.length ≤ 10000000) : Ev (fun n _ => a4_ n l (k : Int) [x]) (eK_ l k x) := by
  refine aF_ ?_
  simp only [a4_, fq_, ax_, al_, c3_, Int.toNat_natCast, eK_]
  refine ⟨fun _ => ⟨fun _ => trivial, fun hc => ?_⟩, fun hc => ?_⟩
  · have hc := of_decide_eq_false hc
    simp only [List.length_cons, List.length_nil] at hc; omega
  · rw [decide_eq_true (show (0 : Int) ≤ (k : Int) by omega), decide_eq_true (show (k : Int) ≤ (l.length : Int) by omega)] at hc
    cases hc
theorem iS_ {ks : List Int} {k : Nat} (h : k < ks.length) (hl : ks.length ≤ 10000000) : Ev (fun n _ => bD_ n ks (k : Int)) (del ks k) := by
  refine aF_ ?_
  have hw := W_up h (show ks.length ≤ b9_ by simp only [b9_]; omega)
  simp only [bD_, hw, gd_, bY_, al_, Int.toNat_natCast, List.drop_zero, List.nil_append, List.take_length, del, List.length_nil, List.length_take, List.length_drop]
  repeat' (first | apply And.intro)
  all_goals (first | trivial | rfl | omega)
theorem kO_ {ks : List Int} {k : Nat} {x : Int} (h : k ≤ ks.length) (hl : ks.length ≤ 10000000) : Ev (fun n _ => bL_ n ks (k : Int) x) (eK_ ks k x) := by
  refine aF_ ?_
  simp only [bL_, gd_, bY_, al_, Int.toNat_natCast, List.drop_zero, List.nil_append, List.take_length, eK_, List.length_nil, List.length_append, List.length_cons, List.length_take, List.length_drop]
  repeat' (first | apply And.intro)
  all_goals (first | trivial | rfl | omega)
def kx_ (nk : List Int) (old : List ap_) : Nat → List ap_ → List TOp → List ap_ × List TOp
  | 0, l, ops => (l, ops)
  | k + 1, l, ops => if (old.getD k ap_.dflt).key ∈ nk then kx_ nk old k l ops else kx_ nk old k (del l k) (ops ++ [rmOp k])
theorem hC_ (nk : List Int) (old : List ap_) : ∀ k l ops, ∀ x ∈ (kx_ nk old k l ops).1, x ∈ l
  | 0, l, ops, x, h => h
  | k + 1, l, ops, x, h => by
    simp only [kx_] at h
    split at h
    · exact hC_ nk old k l ops x h
    · exact del_mem (hC_ nk old k (del l k) _ x h)
theorem gv_ (nk : List Int) (old : List ap_) : ∀ k l ops, k ≤ l.length → (kx_ nk old k l ops).1.length ≤ l.length ∧ (kx_ nk old k l ops).2.length ≤ ops.length + k
  | 0, l, ops, _ => ⟨Nat.le_refl _, Nat.le_refl _⟩
  | k + 1, l, ops, h => by
    simp only [kx_]
    split
    · have := gv_ nk old k l ops (by omega); omega
    · have hd := gf_ (l := l) (k := k) (by omega)
      have := gv_ nk old k (del l k) (ops ++ [rmOp k]) (by omega)
      simp only [List.length_append, List.length_cons, List.length_nil] at this; omega
theorem dn_ge {k : Nat} : decide ((k : Int) ≥ 0) = true := decide_eq_true (by omega)
theorem dn_eq {k : Nat} : (((k + 1 : Nat) : Int) - 1) = (k : Int) := by omega
theorem neg_dec {ks : List Int} {k : Int} : decide (kAt ks k < 0) = !decide (k ∈ ks) := by
  have := lL_ (ks := ks) (k := k)
  by_cases h : k ∈ ks
  · rw [decide_eq_true h, decide_eq_false (fun h' => this.1 h' h)]; rfl
  · rw [decide_eq_false h, decide_eq_true (this.2 h)]; rfl
theorem lM_ {old now : List ap_} (hn : now.length ≤ 2000000) (K : Nat → List ap_ → List ap_ → List TOp → Option (List TOp)) (F : List TOp) : ∀ k l ops, l.take k = old.take k → k ≤ l.length → l.length ≤ 2000000 → ops.length + k ≤ 2000000 →
    Ev (fun n N => K n (kx_ (bE_ now) old k l ops).1 now (kx_ (bE_ now) old k l ops).2) F → Ev (fun n N => aK_.loop9 n (K n) N ((k : Int) - 1) l now ops) F
  | 0, l, ops, _, _, _, _, hF => by
    refine cA_ ?_
    have e : decide ((((0 : Nat) : Int) - 1) ≥ 0) = false := rfl
    simp only [aK_.turn9, aK_.step9, e, cond_false]
    exact hF
  | k + 1, l, ops, ht, hk, hl, ho, hF => by
    refine cA_ ?_
    have hg := nD_ ap_.dflt ht
    have hkl : k < l.length := by omega
    have hA := gK_ (l := now) (k := (old.getD k ap_.dflt).key) (by simp only [b9_]; omega)
    simp only [kx_] at hF
    simp only [aK_.turn9, aK_.step9, dn_ge, dn_eq, cond_true, bO_, cE_ hkl, Int.toNat_natCast, hg, ag_ hA, neg_dec, ax_, W_dn (i := k) (by simp only [b9_]; omega), ag_ (js_ (k := k) (by omega)), bY_, W_up hkl (show l.length ≤ b9_ by simp only [b9_]; omega), ag_ (fF_ hkl)]
    refine ⟨trivial, fun hc => ?_, fun hc => ?_⟩
    · have hc : ¬ (old.getD k ap_.dflt).key ∈ bE_ now := by simpa using hc
      rw [if_neg hc] at hF
      have hd := gf_ hkl
      refine ⟨by simp only [List.length_cons, List.length_nil]; omega, lM_ hn K F k (del l k) _ ?_ (by omega) (by omega) (by simp only [List.length_append, List.length_cons, List.length_nil]; omega) hF⟩
      rw [del_take (by omega)]; exact kh_ ht
    · have hc : (old.getD k ap_.dflt).key ∈ bE_ now := by simpa using hc
      rw [if_pos hc] at hF
      exact lM_ hn K F k l ops (kh_ ht) (by omega) hl (by omega) hF
theorem dR_ {l : List ap_} {k : Nat} (h : k < l.length) : (bE_ l).getD k 0 = (l.getD k ap_.dflt).key := eZ_ (fun x : ap_ => x.key) ap_.dflt 0 h
theorem lx_ {old now : List ap_} (hn : now.length ≤ 2000000) (hold : old.length ≤ 2000000) (o t2 : List aa_) (K : Nat → List aa_ → List Int → List aa_ → List Int → List TOp → List Int → Option (List TOp)) (F : List TOp) : ∀ k l ops, k ≤ old.length → k ≤ l.length → l.length ≤ 2000000 → ops.length + k ≤ 2000000 →
    Ev (fun n N => K n o (bE_ old) t2 (bE_ now) (kx_ (bE_ now) old k l ops).2 (bE_ (kx_ (bE_ now) old k l ops).1)) F → Ev (fun n N => as_.loop5 n (K n) N o (bE_ old) t2 (bE_ now) ((k : Int) - 1) ops (bE_ l)) F
  | 0, l, ops, _, _, _, _, hF => by
    refine cA_ ?_
    have e : decide ((((0 : Nat) : Int) - 1) ≥ 0) = false := rfl
    simp only [as_.turn5, as_.step5, e, cond_false]
    exact hF
  | k + 1, l, ops, hko, hk, hl, ho, hF => by
    refine cA_ ?_
    have hko' : k < (bE_ old).length := by rw [cz_]; omega
    have hkl : k < l.length := by omega
    have hkl' : k < (bE_ l).length := by rw [cz_]; omega
    have hg := dR_ (l := old) (k := k) (by omega)
    have hA := eq_ (ks := bE_ now) (k := (old.getD k ap_.dflt).key) (by rw [cz_]; simp only [b9_]; omega)
    have hW := iS_ hkl' (by rw [cz_]; omega)
    have hm : del (bE_ l) k = bE_ (del l k) := (del_map (fun x : ap_ => x.key) l k).symm
    rw [hm] at hW
    simp only [kx_] at hF
    simp only [as_.turn5, as_.step5, dn_ge, dn_eq, cond_true, bO_, cE_ hko', Int.toNat_natCast, hg, ag_ hA, neg_dec, ax_, W_dn (i := k) (by simp only [b9_]; omega), ag_ (dl_ (x := (k : Int)) (by omega) (by omega)), bY_, ag_ hW]
    refine ⟨trivial, fun hc => ?_, fun hc => ?_⟩
    · have hc : ¬ (old.getD k ap_.dflt).key ∈ bE_ now := by simpa using hc
      rw [if_neg hc] at hF
      have hd := gf_ hkl
      exact ⟨by simp only [List.length_cons, List.length_nil]; omega, lx_ hn hold o t2 K F k (del l k) _ (by omega) (by omega) (by omega) (by simp only [List.length_append, List.length_cons, List.length_nil]; omega) hF⟩
    · have hc : (old.getD k ap_.dflt).key ∈ bE_ now := by simpa using hc
      rw [if_pos hc] at hF
      exact lx_ hn hold o t2 K F k l ops (by omega) (by omega) hl (by omega) hF
end Go.Pi
end
section
set_option linter.unusedVariables false
set_option maxRecDepth 100000
set_option linter.unusedSimpArgs false
namespace Go.Pi
def ew_ (l : List ap_) (i : Nat) (x : ap_) : List ap_ × List TOp :=
  if kAt (bE_ l) x.key = (i : Int) then (l, cond (dH_ 6 (l.getD i ap_.dflt).value x.value) [] [repOp i x.value])
  else if (i : Int) < kAt (bE_ l) x.key then (eK_ (del l (kAt (bE_ l) x.key).toNat) i x, [rmOp (kAt (bE_ l) x.key).toNat, addOp i x.value])
  else (eK_ l i x, [addOp i x.value])
def eM_ (now : List ap_) (s : List ap_ × List TOp) : Nat → List ap_ × List TOp
  | 0 => s
  | i + 1 => ((ew_ (eM_ now s i).1 i (now.getD i ap_.dflt)).1, (eM_ now s i).2 ++ (ew_ (eM_ now s i).1 i (now.getD i ap_.dflt)).2)
theorem kN_ {l : List ap_} {k : Int} {i : Nat} (h : (i : Int) < kAt (bE_ l) k) : ∃ p : Nat, kAt (bE_ l) k = p ∧ i < p ∧ p < l.length := by
  obtain ⟨p, hp⟩ : ∃ p : Nat, kAt (bE_ l) k = p := ⟨(kAt (bE_ l) k).toNat, by omega⟩
  have := (i5_ hp).1
  rw [cz_] at this
  exact ⟨p, hp, by omega, this⟩
theorem jm_ {l : List ap_} {i : Nat} {x : ap_} (h : i ≤ l.length) : i + 1 ≤ (ew_ l i x).1.length ∧ (ew_ l i x).1.length ≤ l.length + 1 ∧ (ew_ l i x).2.length ≤ 2 := by
  unfold ew_
  by_cases h1 : kAt (bE_ l) x.key = (i : Int)
  · rw [if_pos h1]
    have := (i5_ h1).1
    rw [cz_] at this
    refine ⟨by dsimp only; omega, by dsimp only; omega, ?_⟩
    dsimp only
    cases dH_ 6 (l.getD i ap_.dflt).value x.value <;> simp
  · rw [if_neg h1]
    by_cases h2 : (i : Int) < kAt (bE_ l) x.key
    · rw [if_pos h2]
      obtain ⟨p, hp, h3, h4⟩ := kN_ h2
      rw [hp, Int.toNat_natCast]
      have := gf_ h4
      have := kR_ (l := del l p) (k := i) (x := x) (by omega)
      exact ⟨by dsimp only; omega, by dsimp only; omega, Nat.le_refl _⟩
    · rw [if_neg h2]
      have := kR_ (l := l) (k := i) (x := x) h
      exact ⟨by dsimp only; omega, by dsimp only; omega, by simp⟩
theorem jl_ {l : List ap_} {i : Nat} {x y : ap_} (h : y ∈ (ew_ l i x).1) : y = x ∨ y ∈ l := by
  unfold ew_ at h
  split at h
  · exact .inr h
  · split at h
    · rcases kP_ h with h | h
      · exact .inl h
      · exact .inr (del_mem h)
    · exact kP_ h
theorem fz_ (now : List ap_) (s : List ap_ × List TOp) : ∀ i, i ≤ (eM_ now s i).1.length ∧ (eM_ now s i).1.length ≤ s.1.length + i ∧ (eM_ now s i).2.length ≤ s.2.length + 2 * i
  | 0 => ⟨Nat.zero_le _, Nat.le_refl _, Nat.le_refl _⟩
  | i + 1 => by
    have h := fz_ now s i
    have k := jm_ (x := now.getD i ap_.dflt) h.1
    simp only [eM_, List.length_append]; omega
def okK (x : ap_) : Prop := cV_ x.value = true ∧ eP_ 6 x.value
theorem m7_ {now : List ap_} {s : List ap_ × List TOp} (hn : ∀ x ∈ now, okK x) (hs : ∀ x ∈ s.1, okK x) : ∀ i, i ≤ now.length → ∀ x ∈ (eM_ now s i).1, okK x
  | 0, _, x, h => hs x h
  | i + 1, hi, x, h => by
    rcases jl_ h with h | h
    · rw [h]; exact hn _ (bX_ ap_.dflt (by omega))
    · exact m7_ hn hs i (by omega) x h
theorem fJ_ {x : ap_} (h : okK x) : cF_ 6 x.value ≤ 400 := of_decide_eq_true h.1
theorem impl_add {now : List ap_} {s : List ap_ × List TOp} (hnl : now.length ≤ 2000000) (hsl : s.1.length ≤ 2000000) (hol : s.2.length ≤ 2000000) (hn : ∀ x ∈ now, okK x) (hs : ∀ x ∈ s.1, okK x) :
    Ev (fun n _ => aK_.loop17 n (fun xy21 => (some xy21)) n (now.length : Int) 0 s.1 s.2 now) (eM_ now s now.length).2 := by
  refine dE_ (eM_ now s) now.length (fun n N i (z : List ap_ × List TOp) => aK_.loop17 n (fun xy21 => (some xy21)) N (now.length : Int) (i : Int) z.1 z.2 now) _ (fun i hi F hF => ?_) ?_
  · have hL := fz_ now s i
    have hO := m7_ hn hs i (by omega)
    simp only [eM_] at hF
    obtain ⟨x, hx⟩ : ∃ x, x = now.getD i ap_.dflt := ⟨_, rfl⟩
    have hxo : okK x := by rw [hx]; exact hn _ (bX_ ap_.dflt hi)
    rw [← hx] at hF
    generalize eM_ now s i = z at hF hL hO ⊢
    obtain ⟨l, ops⟩ := z
    dsimp only at hF hL hO ⊢
    have hA := gK_ (l := l) (k := x.key) (by simp only [b9_]; omega)
    have hC := dA_ 6 x.value (fJ_ hxo)
    have hWi := js_ (k := i) (by omega)
    simp only [aK_.turn17, aK_.step17, bP_, kM_, Int.toNat_natCast, ← hx, W_up hi (show now.length ≤ b9_ by simp only [b9_]; omega), c2_ hi, cE_ hi, cond_true, bO_, ag_ hA]
    refine ⟨trivial, ?_⟩
    unfold ew_ at hF
    by_cases h1 : kAt (bE_ l) x.key = (i : Int)
    · rw [if_pos h1] at hF
      have hil := (i5_ h1).1
      rw [cz_] at hil
      have ho := hO _ (bX_ ap_.dflt hil)
      have hK := gL_ 6 (l.getD i ap_.dflt).value x.value (fQ_ 6 _ (fJ_ ho)) ho.2
      simp only [h1, beq_self_eq_true, cond_true, bO_, cE_ hil, Int.toNat_natCast, ag_ hK, ax_, ag_ hWi, ag_ hC, bY_]
      refine ⟨trivial, fun hc => ?_, fun hc => ?_⟩
      · have hc : dH_ 6 (l.getD i ap_.dflt).value x.value = false := by simpa using hc
        rw [hc] at hF
        exact ⟨by simp only [List.length_cons, List.length_nil]; omega, hF⟩
      · have hc : dH_ 6 (l.getD i ap_.dflt).value x.value = true := by simpa using hc
        rw [hc] at hF
        simp only [cond_true, List.append_nil] at hF
        exact hF
    · rw [if_neg h1] at hF
      have hne : (kAt (bE_ l) x.key == (i : Int)) = false := beq_eq_false_iff_ne.2 h1
      by_cases h2 : (i : Int) < kAt (bE_ l) x.key
      · rw [if_pos h2] at hF
        obtain ⟨p, hp, h3, h4⟩ := kN_ h2
        rw [hp, Int.toNat_natCast] at hF
        rw [hp] at h2 hne
        have hdl := gf_ h4
        have hI := fB_ (l := del l p) (k := i) (x := x) (by omega) (by omega)
        simp only [hp, hne, decide_eq_true (show (p : Int) > (i : Int) by omega), cond_true, cond_false, ag_ (js_ (k := p) (by omega)), bY_, W_up h4 (show l.length ≤ b9_ by simp only [b9_]; omega), ag_ (fF_ h4), ag_ hWi, ag_ hC, ag_ hI]
        refine ⟨by simp only [List.length_cons, List.length_nil]; omega, by simp only [List.length_append, List.length_cons, List.length_nil]; omega, ?_⟩
        rw [List.append_assoc]
        exact hF
      · rw [if_neg h2] at hF
        have hI := fB_ (l := l) (k := i) (x := x) (by omega) (by omega)
        simp only [hne, decide_eq_false (show ¬ kAt (bE_ l) x.key > (i : Int) from h2), cond_false, ag_ hWi, ag_ hC, bY_, ag_ hI]
        exact ⟨by simp only [List.length_cons, List.length_nil]; omega, hF⟩
  · simp only [aK_.turn17, aK_.step17, cU_, cond_false, al_]
structure AddInv (old now : List ap_) (l : List ap_) (i : Nat) : Prop where
  len : i ≤ l.length
  front : ∀ j, j < i → (l.getD j ap_.dflt).key = (now.getD j ap_.dflt).key
  from_ : ∀ x ∈ l, x ∈ old ∨ ∃ j, j < i ∧ x.key = (now.getD j ap_.dflt).key
def j0_ (now : List ap_) : Prop := ∀ i j, i < j → j < now.length → (now.getD i ap_.dflt).key ≠ (now.getD j ap_.dflt).key
theorem k2_ {α : Type} (d : α) {a b : List α} {j : Nat} (h : j < a.length) : (a ++ b).getD j d = a.getD j d := by
  rw [List.getD_eq_getElem?_getD, List.getD_eq_getElem?_getD, List.getElem?_append_left h]
theorem ic_ {l : List ap_} {i j : Nat} {x : ap_} (hi : i ≤ l.length) (h : j < i) : (eK_ l i x).getD j ap_.dflt = l.getD j ap_.dflt := by
  have hl : (l.take i).length = i := by simp; omega
  unfold eK_
  rw [List.append_assoc, k2_ _ (by omega), List.getD_eq_getElem?_getD, List.getD_eq_getElem?_getD, List.getElem?_take_of_lt h]
theorem mJ_ {l : List ap_} {i : Nat} {x : ap_} (hi : i ≤ l.length) : (eK_ l i x).getD i ap_.dflt = x := by
  have hl : (l.take i).length = i := by simp; omega
  unfold eK_
  rw [List.append_assoc, List.getD_eq_getElem?_getD, List.getElem?_append_right (by omega), hl, Nat.sub_self]; rfl
theorem del_front {l : List ap_} {p j : Nat} (hp : p ≤ l.length) (h : j < p) : (del l p).getD j ap_.dflt = l.getD j ap_.dflt := by
  have hl : (l.take p).length = p := by simp; omega
  unfold del
  rw [k2_ _ (by omega), List.getD_eq_getElem?_getD, List.getD_eq_getElem?_getD, List.getElem?_take_of_lt h]
theorem l8_ {old now l : List ap_} {i : Nat} (h : AddInv old now l i) (hi : i < now.length) : AddInv old now (ew_ l i (now.getD i ap_.dflt)).1 (i + 1) := by
  refine ⟨(jm_ h.len).1, fun j hj => ?_, fun x hx => ?_⟩
  · unfold ew_
    by_cases h1 : kAt (bE_ l) (now.getD i ap_.dflt).key = (i : Int)
    · rw [if_pos h1]
      by_cases e : j = i
      · subst e
        obtain ⟨a, b⟩ := i5_ h1
        rw [cz_] at a
        rw [← b, dR_ a]
      · exact h.front j (by omega)
    · rw [if_neg h1]
      by_cases h2 : (i : Int) < kAt (bE_ l) (now.getD i ap_.dflt).key
      · rw [if_pos h2]
        obtain ⟨p, hp, h3, h4⟩ := kN_ h2
        rw [hp, Int.toNat_natCast]
        have hdl := gf_ h4
        by_cases e : j = i
        · subst e; rw [mJ_ (by omega)]
        · rw [ic_ (by omega) (by omega), del_front (by omega) (by omega)]; exact h.front j (by omega)
      · rw [if_neg h2]
        by_cases e : j = i
        · subst e; rw [mJ_ h.len]
        · rw [ic_ h.len (by omega)]; exact h.front j (by omega)
  · rcases jl_ hx with e | hx
    · exact .inr ⟨i, by omega, by rw [e]⟩
    · rcases h.from_ x hx with h' | ⟨j, hj, e⟩
      · exact .inl h'
      · exact .inr ⟨j, by omega, e⟩
theorem jn_ {old now : List ap_} {s : List ap_ × List TOp} (h0 : ∀ x ∈ s.1, x ∈ old) : ∀ i, i ≤ now.length → AddInv old now (eM_ now s i).1 i
  | 0, _ => ⟨Nat.zero_le _, fun j hj => by omega, fun x hx => .inl (h0 x hx)⟩
  | i + 1, hi => l8_ (jn_ h0 i (by omega)) (by omega)
theorem hM_ {l : List ap_} {k : Nat} (h : k < l.length) : (l.map (·.value)).getD k aa_.dflt = (l.getD k ap_.dflt).value := eZ_ (fun x : ap_ => x.value) ap_.dflt aa_.dflt h
theorem spec_add {old now : List ap_} {s : List ap_ × List TOp} (hnl : now.length ≤ 2000000) (hold : old.length ≤ 2000000) (hsl : s.1.length ≤ 2000000) (hol : s.2.length ≤ 2000000) (hn : ∀ x ∈ now, okK x) (ho : ∀ x ∈ old, okK x) (h0 : ∀ x ∈ s.1, x ∈ old)
    (hd : j0_ now) (hod : ∀ x ∈ old, ∀ y ∈ old, x.key = y.key → x = y) :
    Ev (fun n _ => as_.loop13 n (fun xy21 => (some xy21)) n (old.map (·.value)) (bE_ old) (now.map (·.value)) (bE_ now) 0 s.2 (bE_ s.1)) (eM_ now s now.length).2 := by
  refine dE_ (eM_ now s) now.length (fun n N i (z : List ap_ × List TOp) => as_.loop13 n (fun xy21 => (some xy21)) N (old.map (·.value)) (bE_ old) (now.map (·.value)) (bE_ now) (i : Int) z.2 (bE_ z.1)) _ (fun i hi F hF => ?_) ?_
  · have hL := fz_ now s i
    have hI := jn_ (now := now) h0 i (by omega)
    simp only [eM_] at hF
    obtain ⟨x, hx⟩ : ∃ x, x = now.getD i ap_.dflt := ⟨_, rfl⟩
    have hxo : okK x := by rw [hx]; exact hn _ (bX_ ap_.dflt hi)
    have hik : i < (bE_ now).length := by rw [cz_]; exact hi
    have hiv : i < (now.map (·.value)).length := by simpa using hi
    have hkey : (bE_ now).getD i 0 = x.key := by rw [dR_ hi, hx]
    have hval : (now.map (·.value)).getD i aa_.dflt = x.value := by rw [hM_ hi, hx]
    rw [← hx] at hF
    generalize eM_ now s i = z at hF hL hI ⊢
    obtain ⟨l, ops⟩ := z
    dsimp only at hF hL hI ⊢
    have hA := eq_ (ks := bE_ l) (k := x.key) (by rw [cz_]; simp only [b9_]; omega)
    have hC := dW_ 6 x.value (fJ_ hxo)
    have hWi := dl_ (x := (i : Int)) (by omega) (by omega)
    simp only [as_.turn13, as_.step13, bP_, Int.toNat_natCast, hkey, hval, W_up hik (show (bE_ now).length ≤ b9_ by rw [cz_]; simp only [b9_]; omega), c2_ hik, cE_ hik, cE_ hiv, cond_true, bO_, ag_ hA, ag_ hWi]
    refine ⟨trivial, ?_⟩
    unfold ew_ at hF
    by_cases h1 : kAt (bE_ l) x.key = (i : Int)
    · rw [if_pos h1] at hF
      obtain ⟨hil, hke⟩ := i5_ h1
      rw [cz_] at hil
      rw [dR_ hil] at hke
      have hmem : l.getD i ap_.dflt ∈ old := by
        rcases hI.from_ _ (bX_ ap_.dflt hil) with h' | ⟨j, hj, e⟩
        · exact h'
        · exact absurd (by rw [← e, hke, hx]) (hd j i hj hi)
      have hin : x.key ∈ bE_ old := List.mem_map.2 ⟨_, hmem, hke⟩
      obtain ⟨q, hq, hql, hqk⟩ := i4_ hin
      have hqo : q < old.length := by rwa [cz_] at hql
      have hqe : old.getD q ap_.dflt = l.getD i ap_.dflt := hod _ (bX_ ap_.dflt hqo) _ hmem (by rw [← dR_ hqo, hqk, hke])
      have hqv : (old.map (·.value)).getD q aa_.dflt = (l.getD i ap_.dflt).value := by rw [hM_ hqo, hqe]
      have hqi : q < (old.map (·.value)).length := by simpa using hqo
      have hB := eq_ (ks := bE_ old) (k := x.key) (by rw [cz_]; simp only [b9_]; omega)
      rw [hq] at hB
      have hoo := ho _ hmem
      have hK := ey_ 6 (l.getD i ap_.dflt).value x.value (fQ_ 6 _ (fJ_ hoo)) hoo.2
      simp only [h1, beq_self_eq_true, cond_true, bO_, ag_ hB, cE_ hqi, cE_ hik, cE_ hiv, Int.toNat_natCast, hqv, ag_ hK, ax_, ag_ hC, bY_]
      refine ⟨trivial, trivial, trivial, fun hc => ?_, fun hc => ?_⟩
      · have hc : dH_ 6 (l.getD i ap_.dflt).value x.value = false := by simpa using hc
        rw [hc] at hF
        exact ⟨trivial, by simp only [List.length_cons, List.length_nil]; omega, hF⟩
      · have hc : dH_ 6 (l.getD i ap_.dflt).value x.value = true := by simpa using hc
        rw [hc] at hF
        simp only [cond_true, List.append_nil] at hF
        exact hF
    · rw [if_neg h1] at hF
      have hne : (kAt (bE_ l) x.key == (i : Int)) = false := beq_eq_false_iff_ne.2 h1
      by_cases h2 : (i : Int) < kAt (bE_ l) x.key
      · rw [if_pos h2] at hF
        obtain ⟨p, hp, h3, h4⟩ := kN_ h2
        rw [hp, Int.toNat_natCast] at hF
        rw [hp] at h2 hne
        have hdl := gf_ h4
        have hpk : p < (bE_ l).length := by rw [cz_]; exact h4
        have hW := iS_ hpk (by rw [cz_]; omega)
        have hm : del (bE_ l) p = bE_ (del l p) := (del_map (fun x : ap_ => x.key) l p).symm
        rw [hm] at hW
        have hN := kO_ (ks := bE_ (del l p)) (k := i) (x := x.key) (by rw [cz_]; omega) (by rw [cz_]; omega)
        have hm2 : eK_ (bE_ (del l p)) i x.key = bE_ (eK_ (del l p) i x) := (kQ_ (fun x : ap_ => x.key) (del l p) i x).symm
        rw [hm2] at hN
        simp only [hp, hne, decide_eq_true (show (p : Int) ≥ 0 by omega), cond_true, cond_false, ag_ (dl_ (x := (p : Int)) (by omega) (by omega)), bY_, ag_ hW, bO_, cE_ hik, cE_ hiv, ag_ hC, ag_ hN]
        refine ⟨by simp only [List.length_cons, List.length_nil]; omega, trivial, by simp only [List.length_append, List.length_cons, List.length_nil]; omega, trivial, ?_⟩
        rw [List.append_assoc]
        exact hF
      · rw [if_neg h2] at hF
        have hlt : kAt (bE_ l) x.key < 0 := Classical.byContradiction fun hc => by
          obtain ⟨q, hq⟩ : ∃ q : Nat, kAt (bE_ l) x.key = q := ⟨(kAt (bE_ l) x.key).toNat, by omega⟩
          have hqi : q < i := by omega
          obtain ⟨a, b⟩ := i5_ hq
          rw [cz_] at a
          rw [dR_ a, hI.front q hqi, hx] at b
          exact hd q i hqi hi b
        have hN := kO_ (ks := bE_ l) (k := i) (x := x.key) (by rw [cz_]; omega) (by rw [cz_]; omega)
        have hm2 : eK_ (bE_ l) i x.key = bE_ (eK_ l i x) := (kQ_ (fun x : ap_ => x.key) l i x).symm
        rw [hm2] at hN
        simp only [hne, decide_eq_false (show ¬ kAt (bE_ l) x.key ≥ 0 by omega), cond_false, bO_, cE_ hik, cE_ hiv, ag_ hC, bY_, ag_ hN]
        exact ⟨trivial, by simp only [List.length_cons, List.length_nil]; omega, trivial, hF⟩
  · have e : ((bE_ now).length : Int) = (now.length : Int) := by rw [cz_]
    simp only [as_.turn13, as_.step13, e, cU_, cond_false, al_]
end Go.Pi
end
section
set_option linter.unusedVariables false
set_option maxRecDepth 100000
set_option linter.unusedSimpArgs false
namespace Go.Pi
def e8_ (kids : List TKid) (id : Int) : Int := e0_ (fun i x => cond ((kids.getD i TKid.dflt).id_ == id) (kids.getD i TKid.dflt).n_ x) 0 kids.length 0
theorem f1_ {v : bs_} {id : Int} (h : v.kids.length ≤ b9_) : Ev (fun n _ => a6_ n v id) (e8_ v.kids id) := by
  refine aF_ ?_
  simp only [a6_]
  refine hg_ (fun n N i => a6_.loop3 n (some 0) N id (i : Int) v.q.table v.q.where_ v.q.order v.q.down v.q.first v.q.show_ v.q.kids v.q.kidTable v.q.kidCol v.rows v.kids) _ (fun i u hi ih => ?_) ?_
  · simp only [a6_.turn3, a6_.step3, Int.toNat_natCast, W_up hi h, ax_, bO_, al_, dn_ ih, c2_ hi, cE_ hi]
    cases ((v.kids.getD i TKid.dflt).id_ == id) <;> simp
  · simp only [a6_.turn3, a6_.step3, cU_, cond_false, al_]
theorem iN_ {v : bs_} {id : Int} (h : v.kids.length ≤ b9_) : Ev (fun n _ => bf_ n v id) (e8_ v.kids id) := by
  refine aF_ ?_
  simp only [bf_]
  refine hg_ (fun n N i => bf_.loop3 n (some 0) N id v.kids (v.kids.length : Int) (i : Int)) _ (fun i u hi ih => ?_) ?_
  · simp only [bf_.turn3, bf_.step3, Int.toNat_natCast, W_up hi h, ax_, bO_, al_, dn_ ih, c2_ hi, cE_ hi]
    cases ((v.kids.getD i TKid.dflt).id_ == id) <;> simp
  · simp only [bf_.turn3, bf_.step3, cU_, cond_false, al_]
def dk_ (v : bs_) : List Int := v.rows.map fun r => e8_ v.kids r.id_
theorem ml_ (v : bs_) : bs_.mk (aZ_.mk v.q.table v.q.where_ v.q.order v.q.down v.q.first v.q.show_ v.q.kids v.q.kidTable v.q.kidCol) v.rows v.kids = v := rfl
theorem g1_ {v : bs_} (h : v.kids.length ≤ b9_) (hr : v.rows.length ≤ capR) : Ev (fun n _ => aE_ n v) (dk_ v) := by
  refine aF_ ?_
  have hl := hr
  simp only [capR] at hl
  simp only [aE_]
  refine mV_ TRow.dflt v.rows (fun r => e8_ v.kids r.id_) (fun n N i s => aE_.loop4 n (fun xy2 => (some xy2)) N (i : Int) v.q.table v.q.where_ v.q.order v.q.down v.q.first v.q.show_ v.q.kids v.q.kidTable v.q.kidCol v.rows v.kids s) (dk_ v) (fun i s hi hs F hF => ?_) ?_
  · simp only [aE_.turn4, aE_.step4, ml_, Int.toNat_natCast, W_up hi (show v.rows.length ≤ b9_ by simp only [b9_]; omega), ax_, bO_, ag_ (f1_ (v := v) (id := (v.rows.getD i TRow.dflt).id_) h), bY_, c2_ hi, cE_ hi]
    exact ⟨fun _ => ⟨trivial, by simp; omega, hF⟩, fun h => by cases h⟩
  · simp only [aE_.turn4, aE_.step4, cU_, cond_false, al_]; rfl
theorem es_ {v : bs_} (h : v.kids.length ≤ b9_) (hr : v.rows.length ≤ capR) : Ev (fun n _ => az_ n v) (dk_ v) := by
  refine aF_ ?_
  have hl := hr
  simp only [capR] at hl
  simp only [az_]
  refine mV_ TRow.dflt v.rows (fun r => e8_ v.kids r.id_) (fun n N i s => az_.loop4 n (fun xy2 => (some xy2)) N v.rows (v.rows.length : Int) (i : Int) v.q.table v.q.where_ v.q.order v.q.down v.q.first v.q.show_ v.q.kids v.q.kidTable v.q.kidCol v.rows v.kids s) (dk_ v) (fun i s hi hs F hF => ?_) ?_
  · simp only [az_.turn4, az_.step4, ml_, Int.toNat_natCast, W_up hi (show v.rows.length ≤ b9_ by simp only [b9_]; omega), ax_, bO_, ag_ (iN_ (v := v) (id := (v.rows.getD i TRow.dflt).id_) h), bY_, c2_ hi, cE_ hi]
    exact ⟨fun _ => ⟨trivial, by simp; omega, hF⟩, fun h => by cases h⟩
  · simp only [az_.turn4, az_.step4, cU_, cond_false, al_]; rfl
def dG_ (q : aZ_) (n : Nat) : Nat := if q.first = 0 then n else min n q.first.toNat
theorem ih_ {q : aZ_} {n : Nat} : Ev (fun m _ => b5_ m q (n : Int)) (dG_ q n : Int) := by
  refine aF_ ?_
  simp only [b5_, ax_, al_, dG_]
  refine ⟨fun h => by rw [if_pos (by simpa using h)], fun h => ?_⟩
  rw [if_neg (by simpa using h)]
  by_cases h1 : (0 : Int) > q.first
  · rw [decide_eq_true h1, cond_true]
    rw [decide_eq_false (by omega), cond_false]; omega
  · rw [decide_eq_false h1, cond_false]
    by_cases h2 : (n : Int) < q.first
    · rw [decide_eq_true h2, cond_true]; omega
    · rw [decide_eq_false h2, cond_false]; omega
theorem dy_ {q : aZ_} {n : Nat} : Ev (fun m _ => bM_ m q (n : Int)) (dG_ q n : Int) := by
  refine aF_ ?_
  have hmin : ∀ a b : Int, Ev (fun m _ => cG_ m a b) (min a b) := fun a b => aF_ (by simp only [cG_, ax_, al_, decide_eq_true_eq, decide_eq_false_iff_not]; constructor <;> intro h <;> omega)
  have hmax : ∀ a b : Int, Ev (fun m _ => cH_ m a b) (max a b) := fun a b => aF_ (by simp only [cH_, ax_, al_, decide_eq_true_eq, decide_eq_false_iff_not]; constructor <;> intro h <;> omega)
  simp only [bM_, ax_, al_, ag_ (hmin _ _), ag_ (hmax _ _), dG_]
  refine ⟨fun h => by rw [if_pos (by simpa using h)], fun h => ?_⟩
  rw [if_neg (by simpa using h)]
  omega
end Go.Pi
end
section
set_option linter.unusedVariables false
set_option maxRecDepth 100000
set_option linter.unusedSimpArgs false
namespace Go.Pi
def eG_ (g : aa_ → aa_) (q : aZ_) (rows : List TRow) (kids : List Int) (m : Nat) : List aa_ := (List.range m).map fun i => g (eE_ q (rows.getD i TRow.dflt) (kids.getD i 0))
theorem hj_ {g : aa_ → aa_} {q : aZ_} {rows : List TRow} {kids : List Int} {m : Nat} : eG_ g q rows kids (m + 1) = eG_ g q rows kids m ++ [g (eE_ q (rows.getD m TRow.dflt) (kids.getD m 0))] := by
  unfold eG_; rw [List.range_succ, List.map_append]; rfl
theorem em_ {g : aa_ → aa_} {q : aZ_} {rows : List TRow} {kids : List Int} {m : Nat} : (eG_ g q rows kids m).length = m := by unfold eG_; simp
abbrev nmCount : Bs := [99, 111, 117, 110, 116]
abbrev gD_ : Bs := [114, 111, 119, 115]
def f7_ (n : Nat) (docs : List aa_) : aa_ := aa_.mk 5 0 [] [f3_ n, aa_.mk 4 0 [] docs []] [nmCount, gD_]
theorem fE_ {q : aZ_} {n : Nat} : dG_ q n ≤ n := by unfold dG_; split <;> omega
def FDoc (q : aZ_) (rows : List TRow) (kids : List Int) : aa_ := c4_ (f7_ rows.length (eG_ id q rows kids (dG_ q rows.length)))
theorem nq_ {n : Nat} {docs : List aa_} (hl : docs.length ≤ b9_) (hd : ∀ j ∈ docs, eP_ 4 j) : eP_ 6 (f7_ n docs) := by
  refine ⟨⟨Nat.zero_le _, by show 2 ≤ b9_; decide, fun x hx => ?_⟩, by show 2 ≤ b9_; decide, fun x hx => ?_⟩
  · rcases List.mem_cons.1 hx with e | hx
    · rw [e]; show 5 ≤ b9_; decide
    · rw [List.mem_singleton.1 hx]; show 4 ≤ b9_; decide
  · rcases List.mem_cons.1 hx with e | hx
    · rw [e]; exact gG_ 5
    · rw [List.mem_singleton.1 hx]
      exact ⟨⟨Nat.zero_le _, Nat.zero_le _, fun x hx => (by cases hx)⟩, hl, hd⟩
theorem whole_bad {n : Nat} {docs : List aa_} {j : aa_} (hj : j ∈ docs) (hb : cF_ 4 j = 401) : cV_ (f7_ n docs) = false := by
  refine decide_eq_false fun h => ?_
  have h1 := hN_ (cF_ 4) hj
  have h2 : cF_ 5 (aa_.mk 4 0 [] docs []) = 401 := by
    show cond (FOwn _) (min 401 (1 + eo_ (cF_ 4) docs)) 401 = 401
    cases FOwn (aa_.mk 4 0 [] docs []) <;> simp only [cond_true, cond_false]
    omega
  have h3 : cF_ 6 (f7_ n docs) = 401 := by
    show cond (FOwn _) (min 401 (1 + (cF_ 5 (f3_ n) + (cF_ 5 (aa_.mk 4 0 [] docs []) + 0)))) 401 = 401
    rw [h2]
    cases FOwn (f7_ n docs) <;> simp only [cond_true, cond_false]
    omega
  omega
theorem jq_ {q : aZ_} {r : TRow} {kids : Int} (d : Nat) : cF_ (d + 2) (eE_ q r kids) = cF_ 2 (eE_ q r kids) := FSize_obj _ d
theorem h7_ {q : aZ_} {rows : List TRow} {kids : List Int} (hq : q.show_.length ≤ 1100000) (hs : ∀ c ∈ q.show_, i64 c) (hl : rows.length ≤ 2000000) {m : Nat} (hm : m ≤ rows.length) : eP_ 6 (f7_ rows.length (eG_ id q rows kids m)) := by
  refine nq_ (by rw [em_]; simp only [b9_]; omega) fun j hj => ?_
  obtain ⟨i, _, e⟩ := List.mem_map.1 hj
  rw [← e]; exact hE_ hq hs 4
theorem iD_ {l : List aa_} (hl : l.length ≤ b9_) : Ev (fun n _ => ai_ n l) (decide (∃ j ∈ l, j.kind = 0)) := by
  have hf : ∀ j : aa_, Ev (fun n _ => bT_ n j) (j.kind == 0) := fun j => aF_ (by simp only [bT_, al_])
  have h : Ev (fun n _ => ac_ n l) (if l.findIdx (fun j => j.kind == 0) < l.length then ((l.findIdx (fun j => j.kind == 0) : Nat) : Int) else -1) := by
    refine aF_ ?_
    rw [← et_ aa_.dflt]
    simp only [ac_]
    refine hg_ (fun n N i => ac_.loop3 n (some (-1)) N l (l.length : Int) (i : Int)) _ (fun i u hi ih => ?_) ?_
    · simp only [ac_.turn3, ac_.step3, bP_, Int.toNat_natCast, W_up hi hl, ax_, bO_, ag_ (hf _), al_, dn_ ih, c2_ hi, cE_ hi]
      clear ih
      cases ((l.getD i aa_.dflt).kind == 0) <;> simp
    · simp only [ac_.turn3, ac_.step3, cU_, cond_false, al_]
  refine aF_ ?_
  simp only [ai_, ag_ h, al_]
  have e : (l.findIdx (fun j => j.kind == 0) < l.length) ↔ ∃ j ∈ l, j.kind = 0 := by
    rw [List.findIdx_lt_length]; simp
  by_cases hm : ∃ j ∈ l, j.kind = 0
  · rw [if_pos (e.2 hm), decide_eq_true hm, decide_eq_true (by omega)]
  · rw [if_neg (fun h => hm (e.1 h)), decide_eq_false hm]; rfl
section
variable {q : aZ_} {rows : List TRow} {kids : List Int} (hq : q.show_.length ≤ 1100000) (hs : ∀ c ∈ q.show_, i64 c) (hr : lenR b9_ rows) (hl : rows.length ≤ 2000000)
include hq hs hr hl
theorem jy_ (hk : kids.length ≤ b9_) : Ev (fun n _ => bm_ n q rows kids) (FDoc q rows kids) := by
  refine aF_ ?_
  simp only [bm_]
  have hF := fE_ (q := q) (n := rows.length)
  have eq0 : aZ_.mk q.table q.where_ q.order q.down q.first q.show_ q.kids q.kidTable q.kidCol = q := rfl
  have := dE_ (eG_ id q rows kids) (dG_ q rows.length) (fun n N i (s : List aa_) => bm_.loop4 n (fun xy4 xy5 xy6 xy7 xy8 xy9 xy10 xy11 => ((bQ_ n (xy4.length : Int)).bind fun xr12 => ((bK_ n (aa_.mk 5 0 [] ([(aa_.re xr12), (aa_.mk xy8 xy9 xy10 xy11 [])] : List aa_) ([[99, 111, 117, 110, 116], [114, 111, 119, 115]] : List Bs))).bind fun xr13 => (some (aa_.re xr13))))) N rows kids (i : Int) q.table q.where_ q.order q.down q.first q.show_ q.kids q.kidTable q.kidCol 0 0 [] 4 0 [] s) (FDoc q rows kids) (fun i hi F hF => ?_) ?_
  · exact this
  · have hir : i < rows.length := by omega
    have hR : ∀ k, Ev (fun n _ => aW_ n q (rows.getD i TRow.dflt) k) (eE_ q (rows.getD i TRow.dflt) k) := fun k => fZ_ hq hs (hd_ hr i)
    rw [hj_] at hF
    simp only [bP_] at hF
    have hlen := em_ (g := id) (q := q) (rows := rows) (kids := kids) (m := i)
    generalize eG_ id q rows kids i = s at hF hlen
    simp only [bm_.turn4, bm_.step4, eq0, Int.toNat_natCast, bP_, W_up hir (show rows.length ≤ b9_ by simp only [b9_]; omega), ag_ dy_, ag_ (hR _), decide_eq_true (show ((i : Int) < (dG_ q rows.length : Int)) by omega), cE_ hir, cond_true, ax_, bO_, bY_]
    refine ⟨fun h => ⟨⟨by omega, by have := of_decide_eq_true h; omega⟩, trivial, by simp; omega, hF⟩, fun h => ⟨trivial, by simp; omega, ?_⟩⟩
    have h := of_decide_eq_false h
    have e : kids.getD i 0 = 0 := by rw [List.getD_eq_getElem?_getD, List.getElem?_eq_none (by omega)]; rfl
    rw [e] at hF; exact hF
  · have hw := h9_ (h7_ hq hs hl (kids := kids) hF)
    unfold f7_ at hw
    simp only [bm_.turn4, bm_.step4, eq0, bP_, ag_ dy_, cU_, cond_false, ag_ ia_, ag_ hw, al_]
    rfl
theorem fs_ (hk : kids.length ≤ b9_) : Ev (fun n _ => aO_ n q rows kids) (eG_ c4_ q rows kids (dG_ q rows.length)) := by
  refine aF_ ?_
  have hF := fE_ (q := q) (n := rows.length)
  simp only [aO_, ag_ ih_, gd_, Int.toNat_natCast, List.drop_zero]
  refine ⟨⟨by omega, by omega, by omega⟩, ?_⟩
  have eq0 : aZ_.mk q.table q.where_ q.order q.down q.first q.show_ q.kids q.kidTable q.kidCol = q := rfl
  generalize hm : dG_ q rows.length = m at hF
  have hml : (rows.take m).length = m := by simp; omega
  have := dE_ (eG_ c4_ q rows kids) m (fun n N i (s : List aa_) => aO_.loop4 n (fun xy4 => (some xy4)) N kids (rows.take m) ((rows.take m).length : Int) (i : Int) q.table q.where_ q.order q.down q.first q.show_ q.kids q.kidTable q.kidCol s) (eG_ c4_ q rows kids m) (fun i hi F hF' => ?_) ?_
  · exact this
  · have hR : ∀ k, Ev (fun n _ => a3_ n q (rows.getD i TRow.dflt) k) (c4_ (eE_ q (rows.getD i TRow.dflt) k)) := fun k => iM_ hq hs (hd_ hr i)
    rw [hj_] at hF'
    have hlen := em_ (g := c4_) (q := q) (rows := rows) (kids := kids) (m := i)
    generalize eG_ c4_ q rows kids i = s at hF' hlen
    have hil : i < (rows.take m).length := by omega
    have eg : (rows.take m).getD i TRow.dflt = rows.getD i TRow.dflt := by rw [List.getD_eq_getElem?_getD, List.getD_eq_getElem?_getD, List.getElem?_take_of_lt hi]
    simp only [aO_.turn4, aO_.step4, eq0, Int.toNat_natCast, bP_, eg, W_up hil (show (rows.take m).length ≤ b9_ by simp only [b9_]; omega), c2_ hil, cE_ hil, ag_ (hR _), cond_true, ax_, bO_, bY_]
    refine ⟨trivial, fun h => ⟨⟨by omega, by have := of_decide_eq_true h; omega⟩, by simp; omega, hF'⟩, fun h => ⟨by simp; omega, ?_⟩⟩
    have h := of_decide_eq_false h
    have e : kids.getD i 0 = 0 := by rw [List.getD_eq_getElem?_getD, List.getElem?_eq_none (by omega)]; rfl
    rw [e] at hF'; exact hF'
  · have e : (((rows.take m).length : Nat) : Int) = (m : Int) := by rw [hml]
    simp only [aO_.turn4, aO_.step4, e, cU_, cond_false, al_]
theorem jV_ (hk : kids.length ≤ b9_) : Ev (fun n _ => cP_ n q rows kids) (FDoc q rows kids) := by
  refine aF_ ?_
  have hF := fE_ (q := q) (n := rows.length)
  have hC := iD_ (l := eG_ c4_ q rows kids (dG_ q rows.length)) (by rw [em_]; simp only [b9_]; omega)
  simp only [cP_, ag_ (fs_ hq hs hr hl hk), ag_ hC, ax_, al_]
  have hbad : ∀ i, i < dG_ q rows.length → cV_ (eE_ q (rows.getD i TRow.dflt) (kids.getD i 0)) = false → FDoc q rows kids = gC_ := fun i hi hb => by
    have h4 : cF_ 4 (eE_ q (rows.getD i TRow.dflt) (kids.getD i 0)) = 401 := by
      have h6 : ¬ cF_ 6 (eE_ q (rows.getD i TRow.dflt) (kids.getD i 0)) ≤ 400 := of_decide_eq_false hb
      have := m9_ 6 (eE_ q (rows.getD i TRow.dflt) (kids.getD i 0))
      rw [jq_ 4] at h6 this
      rw [jq_ 2]; omega
    have : cV_ (f7_ rows.length (eG_ id q rows kids (dG_ q rows.length))) = false :=
      whole_bad (List.mem_map.2 ⟨i, List.mem_range.2 hi, rfl⟩) h4
    unfold FDoc c4_; rw [this]; rfl
  refine ⟨fun h => ?_, fun h => ?_⟩
  · obtain ⟨j, hj, hk⟩ := of_decide_eq_true h
    obtain ⟨i, hi, e⟩ := List.mem_map.1 hj
    rw [hbad i (List.mem_range.1 hi)]; · rfl
    rw [← e] at hk
    cases ho : cV_ (eE_ q (rows.getD i TRow.dflt) (kids.getD i 0)) with
    | false => rfl
    | true => unfold c4_ at hk; rw [ho] at hk; cases hk
  · have h := of_decide_eq_false h
    have e : eG_ c4_ q rows kids (dG_ q rows.length) = eG_ id q rows kids (dG_ q rows.length) := by
      refine List.map_congr_left fun i hi => ?_
      cases ho : cV_ (eE_ q (rows.getD i TRow.dflt) (kids.getD i 0)) with
      | true => unfold c4_; rw [ho]; rfl
      | false => exact absurd ⟨_, List.mem_map.2 ⟨i, hi, rfl⟩, by unfold c4_; rw [ho]; rfl⟩ h
    rw [e]
    have hw := gA_ (h7_ hq hs hl (kids := kids) hF)
    unfold f7_ f3_ at hw
    simp only [bP_, ag_ hw, al_]
    rfl
end
end Go.Pi
end
section
set_option linter.unusedVariables false
set_option maxRecDepth 100000
set_option linter.unusedSimpArgs false
namespace Go.Pi
def gX_ (v : bs_) : aa_ := FDoc v.q v.rows (dk_ v)
theorem gj_ {v : bs_} : (dk_ v).length = v.rows.length := by unfold dk_; simp
theorem lenR.top {r : List TRow} (h : lenR cap r) : lenR b9_ r := ⟨Nat.le_trans h.1 (by decide), fun x hx => Nat.le_trans (h.2 x hx) (by decide)⟩
section
variable {v : bs_} (h : lenV cap v) (hs : ∀ c ∈ v.q.show_, i64 c)
include h hs
theorem hp_ : eP_ 6 (gX_ v) := by
  have h1 := h.1.2; have h2 := h.2.1.1
  simp only [cap] at h1 h2
  unfold gX_ FDoc c4_
  have := h7_ (kids := dk_ v) (rows := v.rows) (show v.q.show_.length ≤ 1100000 by omega) hs (by omega) (fE_ (q := v.q))
  cases cV_ (f7_ v.rows.length (eG_ id v.q v.rows (dk_ v) (dG_ v.q v.rows.length))) with
  | true => exact this
  | false => exact ⟨⟨Nat.zero_le _, Nat.zero_le _, fun x hx => (by cases hx)⟩, Nat.zero_le _, fun x hx => (by cases hx)⟩
theorem hT_ : Ev (fun n _ => b0_ n v) (gX_ v) := by
  refine aF_ ?_
  have h1 := h.1.2; have h2 := h.2.1.1; have h3 := h.2.2
  simp only [cap] at h1 h2 h3
  have hc := gj_ (v := v)
  have hD := jy_ (q := v.q) (rows := v.rows) (kids := dk_ v) (by omega) hs h.2.1.top (by omega) (by simp only [b9_]; omega)
  simp only [b0_, bP_, ag_ (g1_ (v := v) (by simp only [b9_]; omega) (by simp only [capR]; omega)), ag_ hD, al_]
  rfl
theorem ij_ : Ev (fun n _ => b6_ n v) (gX_ v) := by
  refine aF_ ?_
  have h1 := h.1.2; have h2 := h.2.1.1; have h3 := h.2.2
  simp only [cap] at h1 h2 h3
  have hc := gj_ (v := v)
  have hD := jV_ (q := v.q) (rows := v.rows) (kids := dk_ v) (by omega) hs h.2.1.top (by omega) (by simp only [b9_]; omega)
  simp only [b6_, bP_, ag_ (es_ (v := v) (by simp only [b9_]; omega) (by simp only [capR]; omega)), ag_ hD, al_]
  rfl
end
end Go.Pi
end
section
set_option linter.unusedVariables false
set_option maxRecDepth 100000
set_option linter.unusedSimpArgs false
namespace Go.Pi
def sameC (x y : bb_) : Bool := cond (x.col == y.col) (cond (x.op == y.op) (cond (x.v == y.v) true false) false) false
def gk_ (a b : List bb_) : Bool := decide (a.length = b.length) && gU_ (fun i => sameC (a.getD i bb_.dflt) (b.getD i bb_.dflt)) a.length
def iB_ (a b : List Int) : Bool := decide (a.length = b.length) && gU_ (fun i => a.getD i 0 == b.getD i 0) a.length
def fD_ (a b : aZ_) : Bool := (a.table == b.table) && (gk_ a.where_ b.where_ && ((a.order == b.order) && ((a.down == b.down) && ((a.first == b.first) && (iB_ a.show_ b.show_ && ((a.kids == b.kids) && ((a.kidTable == b.kidTable) && (a.kidCol == b.kidCol))))))))
theorem mB_ {n m : Nat} {p : Nat → Bool} : (gU_ p (min n m) && decide (n = m)) = (decide (n = m) && gU_ p n) := by
  by_cases h : n = m
  · subst h; simp [Nat.min_self, Bool.and_comm]
  · simp [h]
theorem hQ_ {a b : List bb_} (ha : a.length ≤ b9_) : Ev (fun n _ => aT_ n a b) (gk_ a b) := by
  refine aF_ ?_
  simp only [aT_]
  refine eb_ (d7_ (fun n N i => aT_.loop3 n (fun x y => some ((x.length : Int) == (y.length : Int))) N a b (i : Int)) (fun i => sameC (a.getD i bb_.dflt) (b.getD i bb_.dflt)) (len := min a.length b.length) (v := decide (a.length = b.length)) (fun i u hi ih => ?_) ?_) mB_
  · have h1 : i < a.length := by omega
    have h2 : i < b.length := by omega
    simp only [aT_.turn3, aT_.step3, Int.toNat_natCast, W_up h1 ha, ax_, bO_, al_, dn_ ih, c2_ h1, cE_ h1, c2_ h2, cE_ h2]
    clear ih
    simp only [sameC]
    generalize (cond ((a.getD i bb_.dflt).col == (b.getD i bb_.dflt).col) (cond ((a.getD i bb_.dflt).op == (b.getD i bb_.dflt).op) (cond ((a.getD i bb_.dflt).v == (b.getD i bb_.dflt).v) true false) false) false) = c
    cases c <;> simp
  · simp only [aT_.turn3, aT_.step3, ax_, al_, bO_]
    grind
theorem iF_ {a b : List Int} (ha : a.length ≤ b9_) : Ev (fun n _ => bc_ n a b) (iB_ a b) := by
  refine aF_ ?_
  simp only [bc_]
  refine eb_ (d7_ (fun n N i => bc_.loop3 n (fun x y => some ((x.length : Int) == (y.length : Int))) N a b (i : Int)) (fun i => a.getD i 0 == b.getD i 0) (len := min a.length b.length) (v := decide (a.length = b.length)) (fun i u hi ih => ?_) ?_) mB_
  · have h1 : i < a.length := by omega
    have h2 : i < b.length := by omega
    simp only [bc_.turn3, bc_.step3, Int.toNat_natCast, W_up h1 ha, ax_, bO_, al_, dn_ ih, c2_ h1, cE_ h1, c2_ h2, cE_ h2]
    clear ih
    generalize a.getD i 0 = x
    generalize b.getD i 0 = y
    grind
  · simp only [bc_.turn3, bc_.step3, ax_, al_, bO_]
    grind
theorem g3_ {a b : aZ_} (ha : lenQ b9_ a) : Ev (fun n _ => bG_ n a b) (fD_ a b) := by
  refine aF_ ?_
  simp only [bG_, ag_ (hQ_ ha.1), ag_ (iF_ ha.2), ax_, al_, fD_]
  generalize gk_ a.where_ b.where_ = c
  generalize iB_ a.show_ b.show_ = d
  cases c <;> cases d <;> grind
theorem j9_ {a b : List bb_} (ha : a.length ≤ b9_) : Ev (fun n _ => ao_ n a b) (gk_ a b) := by
  refine aF_ ?_
  simp only [ao_, ax_, al_]
  refine ⟨fun h => ?_, fun h2 => ?_⟩
  · simp only [bne_iff_ne, ne_eq] at h; have : ¬ a.length = b.length := by omega
    simp [gk_, this]
  · simp only [bne_eq_false_iff_eq] at h2
    have hl : a.length = b.length := by omega
    refine eb_ (d7_ (fun n N i => ao_.loop6 n (some true) N a b (a.length : Int) (i : Int)) (fun i => sameC (a.getD i bb_.dflt) (b.getD i bb_.dflt)) (len := a.length) (v := true) (fun i u hi ih => ?_) ?_) (by simp [gk_, hl])
    · have h2 : i < b.length := by omega
      simp only [ao_.turn6, ao_.step6, Int.toNat_natCast, W_up hi ha, ax_, bO_, al_, dn_ ih, c2_ hi, cE_ hi, cE_ h2]
      clear ih
      simp only [sameC]
      generalize (cond ((a.getD i bb_.dflt).col == (b.getD i bb_.dflt).col) (cond ((a.getD i bb_.dflt).op == (b.getD i bb_.dflt).op) (cond ((a.getD i bb_.dflt).v == (b.getD i bb_.dflt).v) true false) false) false) = c
      cases c <;> simp
    · simp only [ao_.turn6, ao_.step6, cU_, cond_false, al_]
theorem lq_ {a b : List Int} (ha : a.length ≤ b9_) : Ev (fun n _ => av_ n a b) (iB_ a b) := by
  refine aF_ ?_
  simp only [av_, ax_, al_]
  refine ⟨fun h => ?_, fun h2 => ?_⟩
  · simp only [bne_iff_ne, ne_eq] at h; have : ¬ a.length = b.length := by omega
    simp [iB_, this]
  · simp only [bne_eq_false_iff_eq] at h2
    have hl : a.length = b.length := by omega
    refine eb_ (d7_ (fun n N i => av_.loop6 n (some true) N a b (a.length : Int) (i : Int)) (fun i => a.getD i 0 == b.getD i 0) (len := a.length) (v := true) (fun i u hi ih => ?_) ?_) (by simp [iB_, hl])
    · have h2 : i < b.length := by omega
      simp only [av_.turn6, av_.step6, Int.toNat_natCast, W_up hi ha, ax_, bO_, al_, dn_ ih, c2_ hi, cE_ hi, cE_ h2]
      clear ih
      generalize a.getD i 0 = x
      generalize b.getD i 0 = y
      grind
    · simp only [av_.turn6, av_.step6, cU_, cond_false, al_]
theorem hb_ {a b : aZ_} (ha : lenQ b9_ a) : Ev (fun n _ => bI_ n a b) (fD_ a b) := by
  refine aF_ ?_
  simp only [bI_, ag_ (j9_ ha.1), ag_ (lq_ ha.2), ax_, al_, fD_]
  generalize gk_ a.where_ b.where_ = c
  generalize iB_ a.show_ b.show_ = d
  repeat' (first | apply And.intro | intro _)
  all_goals (try simp only [beq_iff_eq, beq_eq_false_iff_ne, ne_eq] at *)
  all_goals simp_all
end Go.Pi
end
section
set_option linter.unusedVariables false
set_option maxRecDepth 100000
set_option linter.unusedSimpArgs false
namespace Go.Pi
def bb_.size (s : bb_) : Nat := 0
def bb_.len (s : bb_) : Prop := True
def aZ_.size (s : aZ_) : Nat := (de_ bb_.size) s.where_ + (de_ szI) s.show_
def aZ_.len (s : aZ_) : Prop := (mG_ bb_.len) s.where_ ∧ (mG_ lenI) s.show_
def TRow.size (s : TRow) : Nat := (de_ szI) s.cells
def TRow.len (s : TRow) : Prop := (mG_ lenI) s.cells
def TKid.size (s : TKid) : Nat := 0
def TKid.len (s : TKid) : Prop := True
def bs_.size (s : bs_) : Nat := aZ_.size s.q + (de_ TRow.size) s.rows + (de_ TKid.size) s.kids
def bs_.len (s : bs_) : Prop := aZ_.len s.q ∧ (mG_ TRow.len) s.rows ∧ (mG_ TKid.len) s.kids
mutual
def aa_.size : aa_ → Nat
  | ⟨_, _, s, l, ns⟩ => s.length + ((l.length + aa_.sizes l) + de_ szB ns)
def aa_.sizes : List aa_ → Nat
  | [] => 0
  | x :: l => aa_.size x + aa_.sizes l
end
mutual
def aa_.len : aa_ → Prop
  | ⟨_, _, s, l, ns⟩ => s.length ≤ b9_ ∧ (l.length ≤ b9_ ∧ aa_.lens l) ∧ mG_ lenB ns
def aa_.lens : List aa_ → Prop
  | [] => True
  | x :: l => aa_.len x ∧ aa_.lens l
end
theorem aa_.sizes_eq : ∀ l : List aa_, aa_.sizes l = eo_ aa_.size l
  | [] => by simp only [aa_.sizes, eo_]
  | x :: l => by simp only [aa_.sizes, eo_, aa_.sizes_eq l]
theorem aa_.lens_iff : ∀ l : List aa_, aa_.lens l ↔ ∀ x ∈ l, aa_.len x
  | [] => by simp [aa_.lens]
  | x :: l => by simp [aa_.lens, aa_.lens_iff l]
theorem aa_.size_eq (j : aa_) : aa_.size j = j.s.length + (de_ aa_.size j.list + de_ szB j.names) := by
  cases j; simp only [aa_.size, aa_.sizes_eq, de_]
theorem aa_.len_iff (j : aa_) : aa_.len j ↔ j.s.length ≤ b9_ ∧ mG_ aa_.len j.list ∧ mG_ lenB j.names := by
  cases j; simp only [aa_.len, aa_.lens_iff, mG_]
theorem aa_.re_eq (j : aa_) : aa_.re j = j := by cases j; rfl
def TOp.size (s : TOp) : Nat := (de_ szB) s.way + aa_.size s.value
def TOp.len (s : TOp) : Prop := (mG_ lenB) s.way ∧ aa_.len s.value
theorem TOp.eta (x : TOp) : TOp.mk x.kind x.way x.value = x := rfl
def ap_.size (s : ap_) : Nat := aa_.size s.value
def ap_.len (s : ap_) : Prop := aa_.len s.value
theorem ap_.eta (x : ap_) : ap_.mk x.key x.value = x := rfl
theorem nf_ {a : List bb_} {l : Int} (ha : (mG_ bb_.len) a) (h0 : 0 ≤ l) (h1 : l ≤ 1048576) : Ev (fun n _ => cc_ n a l) (fb_ l ((de_ bb_.size) a)) := by
  refine aF_ ?_
  rw [show (de_ bb_.size) a = a.length from by unfold de_; rw [gq_ bb_.size (fun _ => rfl)]; rfl]
  exact ev_szI h0 h1 ha.1
theorem kj_ {a : List Int} {l : Int} (ha : (mG_ lenI) a) (h0 : 0 ≤ l) (h1 : l ≤ 1048576) : Ev (fun n _ => cr_ n a l) (fb_ l ((de_ szI) a)) := by
  refine aF_ ?_
  rw [show (de_ szI) a = a.length from by unfold de_; rw [gq_ szI (fun _ => rfl)]; rfl]
  exact ev_szI h0 h1 ha.1
theorem ne_ {a : aZ_} {l : Int} (ha : aZ_.len a) (h0 : 0 ≤ l) (h1 : l ≤ 1048576) : Ev (fun n _ => cb_ n a l) (fb_ l (aZ_.size a)) := by
  refine aF_ ?_
  have e : aZ_.size a = (de_ bb_.size) a.where_ + ((de_ szI) a.show_ + (0)) := by simp only [aZ_.size]; omega
  rw [e]; clear e
  have h0_0 := h0; have h0_1 := h1
  exact lU_ h0_0 h0_1 (nf_ (ha.1) h0_0 h0_1) fun r1 h1_0 h1_1 => lU_ h1_0 h1_1 (kj_ (ha.2) h1_0 h1_1) fun r2 h2_0 h2_1 => mU_ h2_0
theorem szRow_ev {a : TRow} {l : Int} (ha : TRow.len a) (h0 : 0 ≤ l) (h1 : l ≤ 1048576) : Ev (fun n _ => cS_ n a l) (fb_ l (TRow.size a)) := by
  refine aF_ ?_
  have e : TRow.size a = (de_ szI) a.cells + (0) := by simp only [TRow.size]; omega
  rw [e]; clear e
  have h0_0 := h0; have h0_1 := h1
  exact lU_ h0_0 h0_1 (kj_ (ha) h0_0 h0_1) fun r1 h1_0 h1_1 => mU_ h1_0
theorem szRowS_ev {a : List TRow} {l : Int} (ha : (mG_ TRow.len) a) (h0 : 0 ≤ l) (h1 : l ≤ 1048576) : Ev (fun n _ => aY_ n a l) (fb_ l ((de_ TRow.size) a)) := by
  refine aF_ ?_
  refine ev_szL (g := fun n N x => aY_.loop7 n (fun xy2 => (some xy2)) (n) a x 0) h0 h1 ha.1 fun l h0 h1 => sz_list TRow.dflt TRow.size (fun n N l i => aY_.loop7 n (fun xy2 => (some xy2)) (N) a l (i : Int)) a (fun i l hi h0 h1 t kk => ?_) (fun l => ?_) l h0 h1
  · show Ev (fun n N => aY_.step7 n (fun xy2 => (some xy2)) (aY_.loop7 n (fun xy2 => (some xy2)) N) a l (i : Int)) _
    simp only [aY_.step7, ax_, bO_, Int.toNat_natCast, W_up hi ha.1]
    refine ⟨fun _ => ?_, fun h => absurd hi (by simpa using h)⟩
    refine ⟨⟨by omega, by omega⟩, ?_⟩
    have := lU_ (t := t) (g := fun n N x => aY_.loop7 n (fun xy2 => (some xy2)) (N) a x ((i + 1 : Nat) : Int)) h0 h1 (szRow_ev (ha.2 _ (bX_ TRow.dflt hi)) h0 h1) kk
    simpa only [ax_, al_] using this
  · show Ev (fun n N => aY_.step7 n (fun xy2 => (some xy2)) (aY_.loop7 n (fun xy2 => (some xy2)) N) a l (a.length : Int)) _
    simp only [aY_.step7, ax_, al_]
    exact ⟨fun h => absurd (of_decide_eq_true h) (by omega), fun _ => trivial⟩
theorem szKidS_ev {a : List TKid} {l : Int} (ha : (mG_ TKid.len) a) (h0 : 0 ≤ l) (h1 : l ≤ 1048576) : Ev (fun n _ => cx_ n a l) (fb_ l ((de_ TKid.size) a)) := by
  refine aF_ ?_
  rw [show (de_ TKid.size) a = a.length from by unfold de_; rw [gq_ TKid.size (fun _ => rfl)]; rfl]
  exact ev_szI h0 h1 ha.1
theorem ki_ {a : bs_} {l : Int} (ha : bs_.len a) (h0 : 0 ≤ l) (h1 : l ≤ 1048576) : Ev (fun n _ => cq_ n a l) (fb_ l (bs_.size a)) := by
  refine aF_ ?_
  have e : bs_.size a = aZ_.size a.q + ((de_ TRow.size) a.rows + ((de_ TKid.size) a.kids + (0))) := by simp only [bs_.size]; omega
  rw [e]; clear e
  have h0_0 := h0; have h0_1 := h1
  exact lU_ h0_0 h0_1 (ne_ (ha.1) h0_0 h0_1) fun r1 h1_0 h1_1 => lU_ h1_0 h1_1 (szRowS_ev (ha.2.1) h1_0 h1_1) fun r2 h2_0 h2_1 => lU_ h2_0 h2_1 (szKidS_ev (ha.2.2) h2_0 h2_1) fun r3 h3_0 h3_1 => mU_ h3_0
theorem toCond_ev {a : bb_} (ha : bb_.size a ≤ cap) : Ev (fun n _ => cp_ n a) a := by
  refine aF_ ?_
  simp only [cp_, al_]
theorem nc_ {a : List bb_} (ha : (de_ bb_.size) a ≤ cap) : Ev (fun n _ => aN_ n a) a := by
  refine aF_ ?_
  have hl := dh_ bb_.size a
  simp only [cap] at ha
  simp only [aN_, ax_, c3_, decide_eq_true_eq, decide_eq_false_iff_not, not_true_eq_false]
  refine ⟨fun _ => ⟨fun _ => ⟨fun _ => ?_, fun h => absurd h (by omega)⟩, fun h => absurd h (by omega)⟩, fun h => h⟩
  refine jY_ bb_.dflt a (fun n N i s => aN_.loop4 n (fun xy3 => (some xy3)) N a (i : Int) s) (fun i s hi hs k => ?_) ?_ _ (by simp)
  · show Ev (fun n N => aN_.step4 n (fun xy3 => (some xy3)) (aN_.loop4 n (fun xy3 => (some xy3)) N) a (i : Int) s) a
    simp only [aN_.step4, Int.toNat_natCast, ax_, bO_, ag_ (toCond_ev (a := a.getD i bb_.dflt) (by have := eR_ bb_.size (bX_ bb_.dflt hi); simp only [cap]; omega)), W_up hi (show a.length ≤ b9_ by simp only [b9_]; omega)]
    exact ⟨fun _ => ⟨⟨by omega, by omega⟩, ⟨by omega, by omega⟩, k⟩, fun h => absurd hi (by simpa using h)⟩
  · show Ev (fun n N => aN_.step4 n (fun xy3 => (some xy3)) (aN_.loop4 n (fun xy3 => (some xy3)) N) a (a.length : Int) a) a
    simp only [aN_.step4, ax_, al_]
    exact ⟨fun h => absurd (of_decide_eq_true h) (by omega), fun _ => trivial⟩
theorem kf_ {a : List Int} (ha : (de_ szI) a ≤ cap) : Ev (fun n _ => aX_ n a) a := by
  refine aF_ ?_
  have hl := dh_ szI a
  simp only [cap] at ha
  simp only [aX_, ax_, c3_, decide_eq_true_eq, decide_eq_false_iff_not, not_true_eq_false]
  refine ⟨fun _ => ⟨fun _ => ⟨fun _ => ?_, fun h => absurd h (by omega)⟩, fun h => absurd h (by omega)⟩, fun h => h⟩
  refine jY_ 0 a (fun n N i s => aX_.loop4 n (fun xy2 => (some xy2)) N a (i : Int) s) (fun i s hi hs k => ?_) ?_ _ (by simp)
  · show Ev (fun n N => aX_.step4 n (fun xy2 => (some xy2)) (aX_.loop4 n (fun xy2 => (some xy2)) N) a (i : Int) s) a
    simp only [aX_.step4, Int.toNat_natCast, ax_, bO_, W_up hi (show a.length ≤ b9_ by simp only [b9_]; omega)]
    exact ⟨fun _ => ⟨⟨by omega, by omega⟩, ⟨by omega, by omega⟩, k⟩, fun h => absurd hi (by simpa using h)⟩
  · show Ev (fun n N => aX_.step4 n (fun xy2 => (some xy2)) (aX_.loop4 n (fun xy2 => (some xy2)) N) a (a.length : Int) a) a
    simp only [aX_.step4, ax_, al_]
    exact ⟨fun h => absurd (of_decide_eq_true h) (by omega), fun _ => trivial⟩
theorem nb_ {a : aZ_} (ha : aZ_.size a ≤ cap) : Ev (fun n _ => b2_ n a) a := by
  refine aF_ ?_
  simp only [aZ_.size] at ha
  have h0 := nc_ (a := a.where_) (by omega)
  have h1 := kf_ (a := a.show_) (by omega)
  simp only [b2_, ag_ h0, ag_ h1, al_]
theorem toRow_ev {a : TRow} (ha : TRow.size a ≤ cap) : Ev (fun n _ => cJ_ n a) a := by
  refine aF_ ?_
  simp only [TRow.size] at ha
  have h0 := kf_ (a := a.cells) (by omega)
  simp only [cJ_, ag_ h0, al_]
theorem toRowS_ev {a : List TRow} (ha : (de_ TRow.size) a ≤ cap) : Ev (fun n _ => a1_ n a) a := by
  refine aF_ ?_
  have hl := dh_ TRow.size a
  simp only [cap] at ha
  simp only [a1_, ax_, c3_, decide_eq_true_eq, decide_eq_false_iff_not, not_true_eq_false]
  refine ⟨fun _ => ⟨fun _ => ⟨fun _ => ?_, fun h => absurd h (by omega)⟩, fun h => absurd h (by omega)⟩, fun h => h⟩
  refine jY_ TRow.dflt a (fun n N i s => a1_.loop4 n (fun xy3 => (some xy3)) N a (i : Int) s) (fun i s hi hs k => ?_) ?_ _ (by simp)
  · show Ev (fun n N => a1_.step4 n (fun xy3 => (some xy3)) (a1_.loop4 n (fun xy3 => (some xy3)) N) a (i : Int) s) a
    simp only [a1_.step4, Int.toNat_natCast, ax_, bO_, ag_ (toRow_ev (a := a.getD i TRow.dflt) (by have := eR_ TRow.size (bX_ TRow.dflt hi); simp only [cap]; omega)), W_up hi (show a.length ≤ b9_ by simp only [b9_]; omega)]
    exact ⟨fun _ => ⟨⟨by omega, by omega⟩, ⟨by omega, by omega⟩, k⟩, fun h => absurd hi (by simpa using h)⟩
  · show Ev (fun n N => a1_.step4 n (fun xy3 => (some xy3)) (a1_.loop4 n (fun xy3 => (some xy3)) N) a (a.length : Int) a) a
    simp only [a1_.step4, ax_, al_]
    exact ⟨fun h => absurd (of_decide_eq_true h) (by omega), fun _ => trivial⟩
theorem toKid_ev {a : TKid} (ha : TKid.size a ≤ cap) : Ev (fun n _ => cK_ n a) a := by
  refine aF_ ?_
  simp only [cK_, al_]
theorem toKidS_ev {a : List TKid} (ha : (de_ TKid.size) a ≤ cap) : Ev (fun n _ => a2_ n a) a := by
  refine aF_ ?_
  have hl := dh_ TKid.size a
  simp only [cap] at ha
  simp only [a2_, ax_, c3_, decide_eq_true_eq, decide_eq_false_iff_not, not_true_eq_false]
  refine ⟨fun _ => ⟨fun _ => ⟨fun _ => ?_, fun h => absurd h (by omega)⟩, fun h => absurd h (by omega)⟩, fun h => h⟩
  refine jY_ TKid.dflt a (fun n N i s => a2_.loop4 n (fun xy3 => (some xy3)) N a (i : Int) s) (fun i s hi hs k => ?_) ?_ _ (by simp)
  · show Ev (fun n N => a2_.step4 n (fun xy3 => (some xy3)) (a2_.loop4 n (fun xy3 => (some xy3)) N) a (i : Int) s) a
    simp only [a2_.step4, Int.toNat_natCast, ax_, bO_, ag_ (toKid_ev (a := a.getD i TKid.dflt) (by have := eR_ TKid.size (bX_ TKid.dflt hi); simp only [cap]; omega)), W_up hi (show a.length ≤ b9_ by simp only [b9_]; omega)]
    exact ⟨fun _ => ⟨⟨by omega, by omega⟩, ⟨by omega, by omega⟩, k⟩, fun h => absurd hi (by simpa using h)⟩
  · show Ev (fun n N => a2_.step4 n (fun xy3 => (some xy3)) (a2_.loop4 n (fun xy3 => (some xy3)) N) a (a.length : Int) a) a
    simp only [a2_.step4, ax_, al_]
    exact ⟨fun h => absurd (of_decide_eq_true h) (by omega), fun _ => trivial⟩
theorem ke_ {a : bs_} (ha : bs_.size a ≤ cap) : Ev (fun n _ => bV_ n a) a := by
  refine aF_ ?_
  simp only [bs_.size] at ha
  have h0 := nb_ (a := a.q) (by omega)
  have h1 := toRowS_ev (a := a.rows) (by omega)
  have h2 := toKidS_ev (a := a.kids) (by omega)
  simp only [bV_, ag_ h0, ag_ h1, ag_ h2, al_]
theorem eqCond_ev {a : bb_} (ha : bb_.size a ≤ b9_) : Ev (fun n _ => cs_ n a a) true := by
  refine aF_ ?_
  simp only [cs_, bne_self_eq_false, beq_self_eq_true, Bool.not_true, cond_false, al_]
theorem nH_ {a : List bb_} (ha : (de_ bb_.size) a ≤ b9_) : Ev (fun n _ => aU_ n a a) true := by
  refine aF_ ?_
  have hl := dh_ bb_.size a
  simp only [aU_, ax_, bne_self_eq_false]
  refine ⟨fun h => (by cases h), fun _ => ?_⟩
  refine mT_ (fun n N i => aU_.loop6 n (some true) N a a (i : Int)) (fun _ => true) a.length fun i hi k => ?_
  show Ev (fun n N => aU_.step6 n (some true) (aU_.loop6 n (some true) N) a a (i : Int)) true
  by_cases h : i < a.length
  · simp only [aU_.step6, Int.toNat_natCast, ax_, bO_, ag_ (eqCond_ev (a := a.getD i bb_.dflt) (by have := eR_ bb_.size (bX_ bb_.dflt h); omega)), bne_self_eq_false, beq_self_eq_true, Bool.not_true, W_up h (show a.length ≤ b9_ by omega)]
    exact ⟨fun _ => ⟨⟨by omega, by omega⟩, ⟨by omega, by omega⟩, fun h => (by cases h), fun _ => k h⟩, fun h' => absurd h (by simpa using h')⟩
  · simp only [aU_.step6, ax_, al_]
    exact ⟨fun h' => absurd (of_decide_eq_true h') (by omega), fun _ => trivial⟩
theorem la_ {a : List Int} (ha : (de_ szI) a ≤ b9_) : Ev (fun n _ => a9_ n a a) true := by
  refine aF_ ?_
  have hl := dh_ szI a
  simp only [a9_, ax_, bne_self_eq_false]
  refine ⟨fun h => (by cases h), fun _ => ?_⟩
  refine mT_ (fun n N i => a9_.loop6 n (some true) N a a (i : Int)) (fun _ => true) a.length fun i hi k => ?_
  show Ev (fun n N => a9_.step6 n (some true) (a9_.loop6 n (some true) N) a a (i : Int)) true
  by_cases h : i < a.length
  · simp only [a9_.step6, Int.toNat_natCast, ax_, bO_, bne_self_eq_false, beq_self_eq_true, Bool.not_true, W_up h (show a.length ≤ b9_ by omega)]
    exact ⟨fun _ => ⟨⟨by omega, by omega⟩, ⟨by omega, by omega⟩, fun h => (by cases h), fun _ => k h⟩, fun h' => absurd h (by simpa using h')⟩
  · simp only [a9_.step6, ax_, al_]
    exact ⟨fun h' => absurd (of_decide_eq_true h') (by omega), fun _ => trivial⟩
theorem nG_ {a : aZ_} (ha : aZ_.size a ≤ b9_) : Ev (fun n _ => b3_ n a a) true := by
  refine aF_ ?_
  simp only [aZ_.size] at ha
  have h0 := nH_ (a := a.where_) (by omega)
  have h1 := la_ (a := a.show_) (by omega)
  simp only [b3_, ag_ h0, ag_ h1, bne_self_eq_false, beq_self_eq_true, Bool.not_true, cond_false, al_]
theorem eqRow_ev {a : TRow} (ha : TRow.size a ≤ b9_) : Ev (fun n _ => cL_ n a a) true := by
  refine aF_ ?_
  simp only [TRow.size] at ha
  have h0 := la_ (a := a.cells) (by omega)
  simp only [cL_, ag_ h0, bne_self_eq_false, beq_self_eq_true, Bool.not_true, cond_false, al_]
theorem eqRowS_ev {a : List TRow} (ha : (de_ TRow.size) a ≤ b9_) : Ev (fun n _ => bd_ n a a) true := by
  refine aF_ ?_
  have hl := dh_ TRow.size a
  simp only [bd_, ax_, bne_self_eq_false]
  refine ⟨fun h => (by cases h), fun _ => ?_⟩
  refine mT_ (fun n N i => bd_.loop6 n (some true) N a a (i : Int)) (fun _ => true) a.length fun i hi k => ?_
  show Ev (fun n N => bd_.step6 n (some true) (bd_.loop6 n (some true) N) a a (i : Int)) true
  by_cases h : i < a.length
  · simp only [bd_.step6, Int.toNat_natCast, ax_, bO_, ag_ (eqRow_ev (a := a.getD i TRow.dflt) (by have := eR_ TRow.size (bX_ TRow.dflt h); omega)), bne_self_eq_false, beq_self_eq_true, Bool.not_true, W_up h (show a.length ≤ b9_ by omega)]
    exact ⟨fun _ => ⟨⟨by omega, by omega⟩, ⟨by omega, by omega⟩, fun h => (by cases h), fun _ => k h⟩, fun h' => absurd h (by simpa using h')⟩
  · simp only [bd_.step6, ax_, al_]
    exact ⟨fun h' => absurd (of_decide_eq_true h') (by omega), fun _ => trivial⟩
theorem eqKid_ev {a : TKid} (ha : TKid.size a ≤ b9_) : Ev (fun n _ => cM_ n a a) true := by
  refine aF_ ?_
  simp only [cM_, bne_self_eq_false, beq_self_eq_true, Bool.not_true, cond_false, al_]
theorem eqKidS_ev {a : List TKid} (ha : (de_ TKid.size) a ≤ b9_) : Ev (fun n _ => be_ n a a) true := by
  refine aF_ ?_
  have hl := dh_ TKid.size a
  simp only [be_, ax_, bne_self_eq_false]
  refine ⟨fun h => (by cases h), fun _ => ?_⟩
  refine mT_ (fun n N i => be_.loop6 n (some true) N a a (i : Int)) (fun _ => true) a.length fun i hi k => ?_
  show Ev (fun n N => be_.step6 n (some true) (be_.loop6 n (some true) N) a a (i : Int)) true
  by_cases h : i < a.length
  · simp only [be_.step6, Int.toNat_natCast, ax_, bO_, ag_ (eqKid_ev (a := a.getD i TKid.dflt) (by have := eR_ TKid.size (bX_ TKid.dflt h); omega)), bne_self_eq_false, beq_self_eq_true, Bool.not_true, W_up h (show a.length ≤ b9_ by omega)]
    exact ⟨fun _ => ⟨⟨by omega, by omega⟩, ⟨by omega, by omega⟩, fun h => (by cases h), fun _ => k h⟩, fun h' => absurd h (by simpa using h')⟩
  · simp only [be_.step6, ax_, al_]
    exact ⟨fun h' => absurd (of_decide_eq_true h') (by omega), fun _ => trivial⟩
theorem k9_ {a : bs_} (ha : bs_.size a ≤ b9_) : Ev (fun n _ => ce_ n a a) true := by
  refine aF_ ?_
  simp only [bs_.size] at ha
  have h0 := nG_ (a := a.q) (by omega)
  have h1 := eqRowS_ev (a := a.rows) (by omega)
  have h2 := eqKidS_ev (a := a.kids) (by omega)
  simp only [ce_, ag_ h0, ag_ h1, ag_ h2, bne_self_eq_false, beq_self_eq_true, Bool.not_true, cond_false, al_]
end Go.Pi
end
section
set_option linter.unusedVariables false
set_option maxRecDepth 100000
set_option linter.unusedSimpArgs false
namespace Go.Pi
def fW_ (l : List TOp) : Nat := l.findIdx fun o => (di_ o).kind == 0
def j7_ (l : List TOp) : aa_ := aa_.mk 4 0 [] (l.map di_) []
def dq_ (l : List TOp) : Int := cond (decide (fW_ l < l.length)) (-1) (cond (e9_ (j7_ l) == []) (-1) ((e9_ (j7_ l)).length : Int))
theorem jj_ {l : List TOp} {i : Nat} (hi : i < fW_ l) : ((di_ (l.getD i TOp.dflt)).kind == 0) = false := by
  have hl : fW_ l ≤ l.length := List.findIdx_le_length
  rw [List.getD_eq_getElem?_getD, List.getElem?_eq_getElem (by omega), Option.getD_some]
  have := List.not_of_lt_findIdx (xs := l) (p := fun o => (di_ o).kind == 0) (i := i) hi
  simpa using this
theorem bad_at {l : List TOp} (h : fW_ l < l.length) : ((di_ (l.getD (fW_ l) TOp.dflt)).kind == 0) = true := by
  rw [List.getD_eq_getElem?_getD, List.getElem?_eq_getElem h, Option.getD_some]
  exact List.findIdx_getElem (xs := l) (p := fun o => (di_ o).kind == 0) (w := h)
theorem mC_ {α β : Type} (f : α → β) (d : α) {a : List α} {i : Nat} (h : i < a.length) : (a.take (i + 1)).map f = (a.take i).map f ++ [f (a.getD i d)] := by
  rw [dg_ d h, List.map_append]; rfl
def kJ_ (l : List TOp) : Prop := l.length ≤ 4000000 ∧ ∀ o ∈ l, lH_ o
theorem mH_ {l : List TOp} (h : kJ_ l) : eP_ 6 (j7_ l) := by
  refine ⟨⟨Nat.zero_le _, Nat.zero_le _, fun x hx => (by cases hx)⟩, by have := h.1; simp [j7_, b9_]; omega, fun x hx => ?_⟩
  obtain ⟨o, ho, e⟩ := List.mem_map.1 hx
  rw [← e]; exact lJ_ 5 _ (lI_ (h.2 o ho))
theorem if_ {l : List TOp} (h : kJ_ l) : Ev (fun n _ => aP_ n l) (cond (decide (fW_ l < l.length)) (gC_, false) (j7_ l, true)) := by
  refine aF_ ?_
  have hl := h.1
  have ht : l.length ≤ b9_ := by simp only [b9_]; omega
  have hb : fW_ l ≤ l.length := List.findIdx_le_length
  simp only [aP_]
  have := dE_ (fun i => (l.take i).map di_) (fW_ l) (fun n N i (o : List aa_) => aP_.loop4 n (fun xy2 xy3 xy4 xy5 xy6 xy7 xy8 => (some ((aa_.mk xy5 xy6 xy7 xy8 ([] : List Bs)), true))) N l (l.length : Int) (i : Int) 0 0 [] 4 0 [] o) (cond (decide (fW_ l < l.length)) (gC_, false) (j7_ l, true)) (fun i hi F hF => ?_) ?_
  · exact this
  · have hi2 : i < l.length := by omega
    have hx := f6_ (h.2 _ (bX_ TOp.dflt hi2))
    rw [mC_ di_ TOp.dflt hi2] at hF
    have hol : ((l.take i).map di_).length ≤ i := by simp; omega
    generalize (l.take i).map di_ = o at hF hol ⊢
    simp only [aP_.turn4, aP_.step4, bP_, h3_, Int.toNat_natCast, W_up hi2 ht, c2_ hi2, cE_ hi2, jj_ hi, cond_true, cond_false, bO_, bY_, ag_ hx]
    exact ⟨trivial, by simp; omega, hF⟩
  · by_cases hp : fW_ l < l.length
    · have hx := f6_ (h.2 _ (bX_ TOp.dflt hp))
      simp only [aP_.turn4, aP_.step4, bP_, h3_, Int.toNat_natCast, c2_ hp, cE_ hp, bad_at hp, cond_true, bO_, ag_ hx, al_]
      rw [decide_eq_true hp]
      exact ⟨trivial, rfl⟩
    · have e : fW_ l = l.length := by omega
      rw [decide_eq_false hp, cond_false]
      unfold j7_
      rw [e, List.take_length]
      simp only [aP_.turn4, aP_.step4, cU_, cond_false, al_]
theorem hc_ {l : List TOp} (h : kJ_ l) : Ev (fun n _ => bJ_ n l) (dq_ l) := by
  refine aF_ ?_
  simp only [bJ_, bP_, ag_ (if_ h)]
  unfold dq_
  cases hp : decide (fW_ l < l.length) with
  | true =>
    simp only [cond_true, ag_ (eC_ (eJ_ 6)), ax_, al_]
    simp
  | false =>
    simp only [cond_false, ag_ (eC_ (mH_ h)), ax_, al_]
    generalize e9_ (j7_ l) = s
    cases (s == []) <;> simp
theorem len_lenJ : ∀ (d : Nat) (j : aa_), aa_.len j → eP_ d j
  | 0, _, _ => trivial
  | d + 1, j, h => by
    have hq := (aa_.len_iff j).1 h
    exact ⟨⟨hq.1, hq.2.2.1, hq.2.2.2⟩, hq.2.1.1, fun x hx => len_lenJ d x (hq.2.1.2 x hx)⟩
end Go.Pi
end
section
set_option linter.unusedVariables false
set_option maxRecDepth 100000
set_option linter.unusedSimpArgs false
namespace Go.Pi
def j6_ (old now : List ap_) : List TOp := (eM_ now (kx_ (bE_ now) old old.length old []) now.length).2
def d2_ (docs : List aa_) (keys : List Int) (docs' : List aa_) (keys' : List Int) : List TOp := cond (kOk docs keys) (cond (kOk docs' keys') (j6_ (gZ_ docs keys docs.length) (gZ_ docs' keys' docs'.length)) []) []
structure KIs (docs : List aa_) (keys : List Int) : Prop where
  len : docs.length = keys.length
  ok : ∀ i, i < docs.length → cV_ (docs.getD i aa_.dflt) = true
  no : ∀ i, i < docs.length → keys.getD i 0 ∉ keys.take i
theorem k_is {docs : List aa_} {keys : List Int} (h : kOk docs keys = true) : KIs docs keys := by
  unfold kOk at h
  rw [Bool.and_eq_true, ev_] at h
  refine ⟨of_decide_eq_true h.1, fun i hi => ?_, fun i hi => ?_⟩
  · have := h.2 i hi
    rw [Bool.and_eq_true] at this; exact this.1
  · have := h.2 i hi
    rw [Bool.and_eq_true] at this
    simpa using this.2
theorem hL_ {docs : List aa_} {keys : List Int} {m i : Nat} (h : i < m) : (gZ_ docs keys m).getD i ap_.dflt = ap_.mk (keys.getD i 0) (docs.getD i aa_.dflt) := by
  unfold gZ_
  rw [eZ_ (fun i => ap_.mk (keys.getD i 0) (docs.getD i aa_.dflt)) 0 ap_.dflt (by simpa using h)]
  have : (List.range m).getD i 0 = i := by
    rw [List.getD_eq_getElem?_getD, List.getElem?_range h]; rfl
  rw [this]
theorem i0_ {α : Type} (d : α) (l : List α) : (List.range l.length).map (fun i => l.getD i d) = l := by
  apply List.ext_getElem?
  intro i
  by_cases h : i < l.length
  · rw [List.getElem?_map, List.getElem?_range h, List.getElem?_eq_getElem h]
    simp only [Option.map_some]
    rw [List.getD_eq_getElem?_getD, List.getElem?_eq_getElem h]; rfl
  · rw [List.getElem?_eq_none (by simpa using h), List.getElem?_eq_none (by omega)]
theorem hJ_ {docs : List aa_} {keys : List Int} : (gZ_ docs keys docs.length).map (·.value) = docs := by
  unfold gZ_
  rw [List.map_map]
  exact i0_ aa_.dflt docs
theorem kc_ {docs : List aa_} {keys : List Int} (h : docs.length = keys.length) : bE_ (gZ_ docs keys docs.length) = keys := by
  unfold bE_ gZ_
  rw [List.map_map, h]
  exact i0_ 0 keys
theorem jK_ {α : Type} (d : α) {l : List α} {x : α} (h : x ∈ l) : ∃ i, i < l.length ∧ l.getD i d = x := by
  obtain ⟨i, hi, e⟩ := List.mem_iff_getElem.1 h
  exact ⟨i, hi, by rw [List.getD_eq_getElem?_getD, List.getElem?_eq_getElem hi]; exact e⟩
theorem ju_ {α : Type} (d : α) {l : List α} {i j : Nat} (h : i < j) (hj : j ≤ l.length) : l.getD i d ∈ l.take j := by
  have e : (l.take j).getD i d = l.getD i d := by rw [List.getD_eq_getElem?_getD, List.getD_eq_getElem?_getD, List.getElem?_take_of_lt h]
  rw [← e]; exact bX_ d (by simp; omega)
theorem gm_ {docs : List aa_} {keys : List Int} (h : KIs docs keys) : j0_ (gZ_ docs keys docs.length) := by
  intro i j hij hj
  rw [d8_] at hj
  rw [hL_ (by omega), hL_ hj]
  intro e
  have e : keys.getD i 0 = keys.getD j 0 := e
  exact h.no j hj (e ▸ ju_ 0 hij (by have := h.len; omega))
theorem jZ_ {l : List ap_} (h : j0_ l) : ∀ x ∈ l, ∀ y ∈ l, x.key = y.key → x = y := by
  intro x hx y hy e
  obtain ⟨i, hi, ei⟩ := jK_ ap_.dflt hx
  obtain ⟨j, hj, ej⟩ := jK_ ap_.dflt hy
  rcases Nat.lt_trichotomy i j with hij | hij | hij
  · exact absurd (by rw [ei, ej, e]) (h i j hij hj)
  · subst hij; rw [← ei, ← ej]
  · exact absurd (by rw [ei, ej, e]) (h j i hij hi)
theorem hK_ {docs : List aa_} {keys : List Int} (h : KIs docs keys) (hJ : ∀ j ∈ docs, eP_ 6 j) : ∀ x ∈ gZ_ docs keys docs.length, okK x := by
  intro x hx
  obtain ⟨i, hi, e⟩ := jK_ ap_.dflt hx
  rw [d8_] at hi
  rw [hL_ hi] at e
  rw [← e]
  exact ⟨h.ok i hi, hJ _ (bX_ aa_.dflt hi)⟩
section
variable {docs docs' : List aa_} {keys keys' : List Int} (hd : docs.length ≤ 1500000) (hd' : docs'.length ≤ 1500000) (hJ : ∀ j ∈ docs, eP_ 6 j) (hJ' : ∀ j ∈ docs', eP_ 6 j)
include hd hd' hJ hJ'
theorem kT_ : Ev (fun n _ => aK_ n docs keys docs' keys') (d2_ docs keys docs' keys') := by
  refine aF_ ?_
  simp only [aK_, ag_ (ft_ (keys := keys) (by omega) hJ), ag_ (ft_ (keys := keys') (by omega) hJ'), ax_, al_, d2_]
  cases h1 : kOk docs keys with
  | false => exact ⟨fun _ => rfl, fun h => (by cases h)⟩
  | true =>
    cases h2 : kOk docs' keys' with
    | false => exact ⟨fun h => (by cases h), fun _ => ⟨fun _ => rfl, fun h => (by cases h)⟩⟩
    | true =>
      refine ⟨fun h => (by cases h), fun _ => ⟨fun h => (by cases h), fun _ => ?_⟩⟩
      simp only [cond_true]
      have k1 := k_is h1
      have k2 := k_is h2
      have o1 := hK_ k1 hJ
      have o2 := hK_ k2 hJ'
      have l1 := d8_ (docs := docs) (keys := keys) (m := docs.length)
      have l2 := d8_ (docs := docs') (keys := keys') (m := docs'.length)
      generalize gZ_ docs keys docs.length = old at o1 l1 ⊢
      generalize gZ_ docs' keys' docs'.length = now at o2 l2 ⊢
      have hr := gv_ (bE_ now) old old.length old [] (Nat.le_refl _)
      have hm := hC_ (bE_ now) old old.length old []
      rw [W_dn (show old.length ≤ b9_ by simp only [b9_]; omega)]
      simp only [List.length_nil] at hr
      refine dw_ (f := fun n N => aK_.loop9 n (fun xy6 xy7 xy8 => (aK_.loop17 n (fun xy21 => (some xy21)) n (xy7.length : Int) 0 xy6 xy8 xy7)) N ((old.length : Int) - 1) old now []) (lM_ (old := old) (by omega) (fun n xy6 xy7 xy8 => (aK_.loop17 n (fun xy21 => (some xy21)) n (xy7.length : Int) 0 xy6 xy8 xy7)) _ old.length old [] rfl (Nat.le_refl _) (by omega) (by simp only [List.length_nil]; omega) ?_)
      exact impl_add (by omega) (by omega) (by omega) o2 fun x hx => o1 x (hm x hx)
theorem kn_ (hk : keys.length ≤ 1500000) (hk' : keys'.length ≤ 1500000) : Ev (fun n _ => cT_ n docs keys docs' keys') (d2_ docs keys docs' keys') := by
  refine aF_ ?_
  simp only [cT_, ag_ (fY_ (docs := docs) (keys := keys) (by omega) (by omega) hJ), ag_ (fY_ (docs := docs') (keys := keys') (by omega) (by omega) hJ'), ax_, al_, d2_]
  cases h1 : kOk docs keys with
  | false => exact ⟨fun _ => rfl, fun h => (by cases h)⟩
  | true =>
    cases h2 : kOk docs' keys' with
    | false => exact ⟨fun h => (by cases h), fun _ => ⟨fun _ => rfl, fun h => (by cases h)⟩⟩
    | true =>
      refine ⟨fun h => (by cases h), fun _ => ⟨fun h => (by cases h), fun _ => ?_⟩⟩
      simp only [cond_true]
      have k1 := k_is h1
      have k2 := k_is h2
      have o1 := hK_ k1 hJ
      have o2 := hK_ k2 hJ'
      have d1 := jZ_ (gm_ k1)
      have d2 := gm_ k2
      have l1 := d8_ (docs := docs) (keys := keys) (m := docs.length)
      have l2 := d8_ (docs := docs') (keys := keys') (m := docs'.length)
      have hR : Ev (fun n _ => as_ n docs keys docs' keys') (j6_ (gZ_ docs keys docs.length) (gZ_ docs' keys' docs'.length)) := by
        have v1 := hJ_ (docs := docs) (keys := keys)
        have v2 := hJ_ (docs := docs') (keys := keys')
        have e1 := kc_ k1.len
        have e2 := kc_ k2.len
        generalize gZ_ docs keys docs.length = old at o1 l1 d1 v1 e1 ⊢
        generalize gZ_ docs' keys' docs'.length = now at o2 l2 d2 v2 e2 ⊢
        subst e1 e2 v1 v2
        simp only [List.length_map] at l1 l2 hd hd'
        have hr := gv_ (bE_ now) old old.length old [] (Nat.le_refl _)
        have hm := hC_ (bE_ now) old old.length old []
        simp only [List.length_nil] at hr
        refine aF_ ?_
        simp only [as_, bY_, List.nil_append, List.length_nil, cz_, W_dn (show old.length ≤ b9_ by simp only [b9_]; omega)]
        refine ⟨by omega, ?_⟩
        refine dw_ (f := fun n N => as_.loop5 n (fun xy4 xy5 xy6 xy7 xy8 xy9 => (as_.loop13 n (fun xy21 => (some xy21)) n xy4 xy5 xy6 xy7 0 xy8 xy9)) N (old.map (·.value)) (bE_ old) (now.map (·.value)) (bE_ now) ((old.length : Int) - 1) [] (bE_ old)) (lx_ (old := old) (by omega) (by omega) _ _ (fun n xy4 xy5 xy6 xy7 xy8 xy9 => (as_.loop13 n (fun xy21 => (some xy21)) n xy4 xy5 xy6 xy7 0 xy8 xy9)) _ old.length old [] (Nat.le_refl _) (Nat.le_refl _) (by omega) (by simp only [List.length_nil]; omega) ?_)
        exact spec_add (by omega) (by omega) (by omega) (by omega) o2 o1 (fun x hx => hm x hx) d2 d1
      simp only [ag_ hR, al_]
end
def opK (o : TOp) : Prop := (∃ t : Bs, t.length ≤ 25 ∧ o.way = [t]) ∧ cF_ 6 o.value ≤ 400 ∧ eP_ 6 o.value
theorem kD_ : cF_ 6 (aa_.mk 0 0 [] [] []) ≤ 400 := by decide
theorem g8_ {k : Nat} (h : k ≤ 4000000) : (Lib.itoa (k : Int)).length ≤ 25 := by
  have := Lib.itoa_length_le (k : Int) (by omega) (by omega); omega
theorem rmOp_ok {k : Nat} (h : k ≤ 4000000) : opK (rmOp k) := ⟨⟨_, g8_ h, rfl⟩, kD_, eJ_ 6⟩
theorem jB_ (nk : List Int) (old : List ap_) : ∀ k l ops, k ≤ 4000000 → (∀ o ∈ ops, opK o) → ∀ o ∈ (kx_ nk old k l ops).2, opK o
  | 0, l, ops, _, h => h
  | k + 1, l, ops, hk, h => by
    simp only [kx_]
    split
    · exact jB_ nk old k l ops (by omega) h
    · refine jB_ nk old k (del l k) _ (by omega) fun o ho => ?_
      rcases List.mem_append.1 ho with ho | ho
      · exact h o ho
      · rw [List.mem_singleton.1 ho]; exact rmOp_ok (by omega)
theorem nO_ {l : List ap_} {i : Nat} {x : ap_} (hl : l.length ≤ 4000000) (hi : i ≤ 4000000) (hx : okK x) : ∀ o ∈ (ew_ l i x).2, opK o := by
  have ha : ∀ k, k ≤ 4000000 → opK (addOp k x.value) := fun k hk => ⟨⟨_, g8_ hk, rfl⟩, fJ_ hx, hx.2⟩
  have hr : ∀ k, k ≤ 4000000 → opK (repOp k x.value) := fun k hk => ⟨⟨_, g8_ hk, rfl⟩, fJ_ hx, hx.2⟩
  unfold ew_
  by_cases h1 : kAt (bE_ l) x.key = (i : Int)
  · rw [if_pos h1]
    dsimp only
    cases dH_ 6 (l.getD i ap_.dflt).value x.value with
    | true => intro o ho; cases ho
    | false => intro o ho; rw [List.mem_singleton.1 ho]; exact hr i hi
  · rw [if_neg h1]
    by_cases h2 : (i : Int) < kAt (bE_ l) x.key
    · rw [if_pos h2]
      obtain ⟨p, hp, h3, h4⟩ := kN_ h2
      intro o ho
      rw [hp, Int.toNat_natCast] at ho
      rcases List.mem_cons.1 ho with e | ho
      · rw [e]; exact rmOp_ok (by omega)
      · rw [List.mem_singleton.1 ho]; exact ha i hi
    · rw [if_neg h2]
      intro o ho
      rw [List.mem_singleton.1 ho]; exact ha i hi
theorem ll_ {now : List ap_} {s : List ap_ × List TOp} (hnl : now.length ≤ 1500000) (hsl : s.1.length ≤ 1500000) (hn : ∀ x ∈ now, okK x) (h : ∀ o ∈ s.2, opK o) : ∀ i, i ≤ now.length → ∀ o ∈ (eM_ now s i).2, opK o
  | 0, _ => h
  | i + 1, hi => by
    intro o ho
    simp only [eM_] at ho
    have hL := fz_ now s i
    rcases List.mem_append.1 ho with ho | ho
    · exact ll_ hnl hsl hn h i (by omega) o ho
    · exact nO_ (by omega) (by omega) (hn _ (bX_ ap_.dflt (by omega))) o ho
theorem nW_ {docs docs' : List aa_} {keys keys' : List Int} (hd : docs.length ≤ 1500000) (hd' : docs'.length ≤ 1500000) (hJ : ∀ j ∈ docs, eP_ 6 j) (hJ' : ∀ j ∈ docs', eP_ 6 j) : (∀ o ∈ d2_ docs keys docs' keys', opK o) ∧ (d2_ docs keys docs' keys').length ≤ docs.length + 2 * docs'.length := by
  unfold d2_
  cases h1 : kOk docs keys with
  | false => exact ⟨fun o ho => (by cases ho), Nat.zero_le _⟩
  | true =>
    cases h2 : kOk docs' keys' with
    | false => exact ⟨fun o ho => (by cases ho), Nat.zero_le _⟩
    | true =>
      simp only [cond_true, j6_]
      have o2 := hK_ (k_is h2) hJ'
      have l1 := d8_ (docs := docs) (keys := keys) (m := docs.length)
      have l2 := d8_ (docs := docs') (keys := keys') (m := docs'.length)
      generalize gZ_ docs keys docs.length = old at l1 ⊢
      generalize gZ_ docs' keys' docs'.length = now at o2 l2 ⊢
      have hr := gv_ (bE_ now) old old.length old [] (Nat.le_refl _)
      have hL := fz_ now (kx_ (bE_ now) old old.length old []) now.length
      simp only [List.length_nil] at hr
      exact ⟨ll_ (by omega) (by omega) o2 (jB_ _ _ _ _ _ (by omega) fun o ho => (by cases ho)) now.length (Nat.le_refl _), by omega⟩
def lu_ (name : Bs) (o : TOp) : TOp := TOp.mk o.kind (name :: o.way) o.value
def jo_ (name : Bs) (l : List TOp) : List TOp := l.map (lu_ name)
def lenO (l : List TOp) : Prop := l.length ≤ 6000000 ∧ ∀ o ∈ l, o.way.length ≤ 1000000 ∧ cF_ 6 o.value ≤ 400
theorem jw_ {name : Bs} {l : List TOp} (h : lenO l) : Ev (fun n _ => bk_ n name l) (jo_ name l) := by
  refine aF_ ?_
  have hl := h.1
  have ht : l.length ≤ b9_ := by simp only [b9_]; omega
  simp only [bk_]
  refine mV_ TOp.dflt l (lu_ name) (fun n N i (s : List TOp) => bk_.loop4 n (fun xy2 => (some xy2)) N name l (i : Int) s) _ (fun i s hi hs F hF => ?_) ?_
  · have ho := h.2 _ (bX_ TOp.dflt hi)
    have hC := dW_ 6 _ ho.2
    have hw := ho.1
    simp only [bk_.turn4, bk_.step4, bP_, Int.toNat_natCast, W_up hi ht, c2_ hi, cE_ hi, cond_true, bO_, bY_, ag_ hC]
    exact ⟨trivial, trivial, by simp only [List.length_cons, List.length_nil]; omega, trivial, by simp only [List.length_cons, List.length_nil]; omega, hF⟩
  · simp only [bk_.turn4, bk_.step4, cU_, cond_false, al_]; rfl
theorem jT_ {name : Bs} {l : List TOp} (h : lenO l) : Ev (fun n _ => bl_ n name l) (jo_ name l) := by
  refine aF_ ?_
  have hl := h.1
  have ht : l.length ≤ b9_ := by simp only [b9_]; omega
  simp only [bl_]
  refine mV_ TOp.dflt l (lu_ name) (fun n N i (s : List TOp) => bl_.loop4 n (fun xy2 => (some xy2)) N name l (l.length : Int) (i : Int) s) _ (fun i s hi hs F hF => ?_) ?_
  · have ho := h.2 _ (bX_ TOp.dflt hi)
    have hw := ho.1
    have hT : Ev (fun n _ => by_ n (l.getD i TOp.dflt).way) (l.getD i TOp.dflt).way := aF_ (by simp only [by_, bY_, al_, List.nil_append, List.length_nil, and_true]; omega)
    have hC : Ev (fun n _ => cu_ n (l.getD i TOp.dflt)) (l.getD i TOp.dflt) := aF_ (by simp only [cu_, bP_, ag_ hT, ag_ (dA_ 6 _ ho.2), al_])
    simp only [bl_.turn4, bl_.step4, bP_, h3_, Int.toNat_natCast, W_up hi ht, c2_ hi, cE_ hi, cond_true, bO_, bY_, ag_ hC]
    exact ⟨trivial, by simp only [List.length_cons, List.length_nil]; omega, by simp only [List.length_cons, List.length_nil]; omega, hF⟩
  · simp only [bl_.turn4, bl_.step4, cU_, cond_false, al_]; rfl
end Go.Pi
end
section
set_option linter.unusedVariables false
set_option maxRecDepth 100000
set_option linter.unusedSimpArgs false
namespace Go.Pi
def dx_ (v : bs_) : Nat := dG_ v.q v.rows.length
def da_ (v : bs_) : List aa_ := eG_ c4_ v.q v.rows (dk_ v) (dx_ v)
def db_ (v : bs_) : List Int := (List.range (dx_ v)).map fun i => (v.rows.getD i TRow.dflt).id_
theorem d1_ (v : bs_) : dx_ v ≤ v.rows.length := fE_
theorem mM_ (v : bs_) (i : Nat) : ((List.range (i + 1)).map fun i => (v.rows.getD i TRow.dflt).id_) = ((List.range i).map fun i => (v.rows.getD i TRow.dflt).id_) ++ [(v.rows.getD i TRow.dflt).id_] := by
  rw [List.range_succ, List.map_append]; rfl
theorem lZ_ {v : bs_} {i : Nat} (h : i < v.rows.length) : (dk_ v).getD i 0 = e8_ v.kids (v.rows.getD i TRow.dflt).id_ := eZ_ (fun r : TRow => e8_ v.kids r.id_) TRow.dflt 0 h
section
variable {v : bs_} (h : lenV cap v) (hs : ∀ c ∈ v.q.show_, i64 c)
include h hs
theorem gJ_ : Ev (fun n _ => bj_ n v) (da_ v, db_ v) := by
  refine aF_ ?_
  have h1 := h.1.2; have h2 := h.2.1.1; have h3 := h.2.2
  simp only [cap] at h1 h2 h3
  have hc := gj_ (v := v)
  have hm := d1_ v
  have hD := fs_ (q := v.q) (rows := v.rows) (kids := dk_ v) (by omega) hs h.2.1.top (by omega) (by simp only [b9_]; omega)
  have hl : (da_ v).length = dx_ v := em_
  have hD : Ev (fun n _ => aO_ n v.q v.rows (dk_ v)) (da_ v) := hD
  simp only [bj_, ag_ (es_ (v := v) (by simp only [b9_]; omega) (by simp only [capR]; omega)), ag_ hD, gd_, Int.toNat_natCast, List.drop_zero, hl]
  refine ⟨⟨by omega, by omega, by omega⟩, ?_⟩
  have htl : (v.rows.take (dx_ v)).length = dx_ v := by simp; omega
  unfold db_
  generalize da_ v = docs at hl ⊢
  have := dE_ (fun i => (List.range i).map fun i => (v.rows.getD i TRow.dflt).id_) (dx_ v) (fun n N i (s : List Int) => bj_.loop5 n (fun xy3 xy4 => (some (xy3, xy4))) N (v.rows.take (dx_ v)) ((v.rows.take (dx_ v)).length : Int) (i : Int) docs s) (docs, (List.range (dx_ v)).map fun i => (v.rows.getD i TRow.dflt).id_) (fun i hi F hF => ?_) ?_
  · exact this
  · rw [mM_] at hF
    have hol : ((List.range i).map fun i => (v.rows.getD i TRow.dflt).id_).length = i := by simp
    have hil : i < (v.rows.take (dx_ v)).length := by omega
    have eg : (v.rows.take (dx_ v)).getD i TRow.dflt = v.rows.getD i TRow.dflt := by rw [List.getD_eq_getElem?_getD, List.getD_eq_getElem?_getD, List.getElem?_take_of_lt hi]
    generalize ((List.range i).map fun i => (v.rows.getD i TRow.dflt).id_) = s at hF hol ⊢
    simp only [bj_.turn5, bj_.step5, Int.toNat_natCast, eg, W_up hil (show (v.rows.take (dx_ v)).length ≤ b9_ by simp only [b9_]; omega), c2_ hil, cE_ hil, cond_true, bO_, bY_]
    exact ⟨trivial, by simp only [List.length_cons, List.length_nil]; omega, hF⟩
  · have e : (((v.rows.take (dx_ v)).length : Nat) : Int) = (dx_ v : Int) := by rw [htl]
    simp only [bj_.turn5, bj_.step5, e, cU_, cond_false, al_]
theorem fl_ : Ev (fun n _ => aL_ n v) (da_ v, db_ v) := by
  refine aF_ ?_
  have h1 := h.1.2; have h2 := h.2.1.1; have h3 := h.2.2
  simp only [cap] at h1 h2 h3
  have hm := d1_ v
  simp only [aL_]
  let S : Nat → List aa_ × List Int := fun i => (eG_ c4_ v.q v.rows (dk_ v) i, (List.range i).map fun i => (v.rows.getD i TRow.dflt).id_)
  have := dE_ S (dx_ v) (fun n N i (s : List aa_ × List Int) => aL_.loop5 n (fun xy4 xy5 => (some (xy4, xy5))) N (i : Int) v.q.table v.q.where_ v.q.order v.q.down v.q.first v.q.show_ v.q.kids v.q.kidTable v.q.kidCol v.rows v.kids s.1 s.2) (da_ v, db_ v) (fun i hi F hF => ?_) ?_
  · exact this
  · have hir : i < v.rows.length := by omega
    simp only [S, hj_, mM_, lZ_ hir] at hF ⊢
    have hol := em_ (g := c4_) (q := v.q) (rows := v.rows) (kids := dk_ v) (m := i)
    have hol2 : ((List.range i).map fun i => (v.rows.getD i TRow.dflt).id_).length = i := by simp
    generalize ((List.range i).map fun i => (v.rows.getD i TRow.dflt).id_) = s2 at hF hol2 ⊢
    generalize eG_ c4_ v.q v.rows (dk_ v) i = s1 at hF hol ⊢
    have e0 : aZ_.mk v.q.table v.q.where_ v.q.order v.q.down v.q.first v.q.show_ v.q.kids v.q.kidTable v.q.kidCol = v.q := rfl
    have e1 : bs_.mk v.q v.rows v.kids = v := rfl
    have hK := f1_ (v := v) (id := (v.rows.getD i TRow.dflt).id_) (by simp only [b9_]; omega)
    have hrow := hd_ h.2.1.top i
    have hRd : Ev (fun n _ => cn_ n v.q (v.rows.getD i TRow.dflt) (e8_ v.kids (v.rows.getD i TRow.dflt).id_)) (c4_ (eE_ v.q (v.rows.getD i TRow.dflt) (e8_ v.kids (v.rows.getD i TRow.dflt).id_))) :=
      aF_ (by simp only [cn_, bP_, ag_ (fZ_ (q := v.q) (by omega) hs hrow), ag_ (h9_ (hE_ (q := v.q) (by omega) hs 6)), al_])
    have hlt : decide ((i : Int) < (dG_ v.q v.rows.length : Int)) = true := decide_eq_true (by unfold dx_ at hi; omega)
    simp only [aL_.turn5, aL_.step5, e0, e1, bP_, Int.toNat_natCast, W_up hir (show v.rows.length ≤ b9_ by simp only [b9_]; omega), ag_ dy_, hlt, cE_ hir, cond_true, bO_, ag_ hK, ag_ hRd, bY_]
    exact ⟨trivial, trivial, by simp only [List.length_cons, List.length_nil]; omega, trivial, by simp only [List.length_cons, List.length_nil]; omega, hF⟩
  · have e0 : aZ_.mk v.q.table v.q.where_ v.q.order v.q.down v.q.first v.q.show_ v.q.kids v.q.kidTable v.q.kidCol = v.q := rfl
    have hlt : decide ((dx_ v : Int) < (dG_ v.q v.rows.length : Int)) = false := decide_eq_false (by unfold dx_; omega)
    simp only [aL_.turn5, aL_.step5, e0, ag_ dy_, hlt, cond_false, al_]
    rfl
theorem ec_ : ∀ j ∈ da_ v, eP_ 6 j := by
  have h1 := h.1.2
  simp only [cap] at h1
  intro j hj
  obtain ⟨i, _, e⟩ := List.mem_map.1 hj
  rw [← e]
  unfold c4_
  cases cV_ (eE_ v.q (v.rows.getD i TRow.dflt) ((dk_ v).getD i 0)) with
  | true => exact hE_ (by omega) hs 6
  | false => exact eJ_ 6
end
theorem dF_ (v : bs_) : (da_ v).length = dx_ v := em_
theorem jp_ (v : bs_) : (db_ v).length = dx_ v := by unfold db_; simp
def fS_ (a b : bs_) : List TOp := cond (!decide (a.rows.length = b.rows.length)) [TOp.mk 3 [nmCount] (c4_ (f3_ b.rows.length))] []
def dc_ (a b : bs_) : List TOp := cond (fD_ a.q b.q) (fS_ a b ++ jo_ gD_ (d2_ (da_ a) (db_ a) (da_ b) (db_ b))) []
theorem jU_ {n : Nat} : Ev (fun m _ => cO_ m (n : Int)) (c4_ (f3_ n)) := by
  refine aF_ ?_
  have := gA_ (gG_ (n := (n : Int)) 6)
  unfold f3_ at this ⊢
  simp only [cO_, bP_, ag_ this, al_]
theorem jx_ {n : Nat} : Ev (fun m _ => cI_ m (n : Int)) (c4_ (f3_ n)) := by
  refine aF_ ?_
  have := dp_ (gG_ (n := (n : Int)) 6)
  unfold c4_
  unfold f3_ at this ⊢
  simp only [cI_, ag_ this, ax_, al_, gC_]
  cases cV_ (aa_.mk 2 (n : Int) [] [] []) <;> simp
theorem right_size {j : aa_} : cF_ 6 (c4_ j) ≤ 400 := by
  unfold c4_
  cases h : cV_ j with
  | true => exact of_decide_eq_true h
  | false => exact kD_
section
variable {a b : bs_} (ha : lenV cap a) (hb : lenV cap b) (hsa : ∀ c ∈ a.q.show_, i64 c) (hsb : ∀ c ∈ b.q.show_, i64 c)
include ha hb hsa hsb
theorem hY_ : lenO (d2_ (da_ a) (db_ a) (da_ b) (db_ b)) ∧ (∀ o ∈ d2_ (da_ a) (db_ a) (da_ b) (db_ b), opK o) ∧ (d2_ (da_ a) (db_ a) (da_ b) (db_ b)).length ≤ a.rows.length + 2 * b.rows.length := by
  have h1 := ha.2.1.1; have h2 := hb.2.1.1
  simp only [cap] at h1 h2
  have := d1_ a
  have := d1_ b
  obtain ⟨k1, k2⟩ := nW_ (keys := db_ a) (keys' := db_ b) (by rw [dF_]; omega) (by rw [dF_]; omega) (ec_ ha hsa) (ec_ hb hsb)
  rw [dF_, dF_] at k2
  refine ⟨⟨by omega, fun o ho => ⟨?_, (k1 o ho).2.1⟩⟩, k1, by omega⟩
  obtain ⟨t, _, e⟩ := (k1 o ho).1
  rw [e]; exact (by decide : 1 ≤ 1000000)
theorem g2_ : Ev (fun n _ => bF_ n a b) (dc_ a b) := by
  refine aF_ ?_
  have h1 := ha.2.1.1; have h2 := hb.2.1.1
  simp only [cap] at h1 h2
  have n1 := d1_ a
  have n2 := d1_ b
  obtain ⟨r1, _, r3⟩ := hY_ ha hb hsa hsb
  have hR := kn_ (docs := da_ a) (keys := db_ a) (docs' := da_ b) (keys' := db_ b) (by rw [dF_]; omega) (by rw [dF_]; omega) (ec_ ha hsa) (ec_ hb hsb) (by rw [jp_]; omega) (by rw [jp_]; omega)
  have hU := jw_ (name := gD_) r1
  have hq : lenQ b9_ a.q := ⟨Nat.le_trans ha.1.1 (by decide), Nat.le_trans ha.1.2 (by decide)⟩
  have hUl : (jo_ gD_ (d2_ (da_ a) (db_ a) (da_ b) (db_ b))).length = (d2_ (da_ a) (db_ a) (da_ b) (db_ b)).length := List.length_map _
  simp only [bF_, ag_ (g3_ hq), i3_, ax_, bP_, ag_ jx_, ag_ (fl_ ha hsa), ag_ (fl_ hb hsb), ag_ hR, ag_ hU, bY_, al_, List.nil_append, List.length_nil, dc_, fS_]
  cases fD_ a.q b.q with
  | false => exact ⟨fun _ => rfl, fun h => (by cases h)⟩
  | true =>
    refine ⟨fun h => (by cases h), fun _ => ⟨fun hc => ⟨?_, ?_, ?_⟩, fun hc => ⟨?_, ?_⟩⟩⟩
    · simp only [List.length_cons, List.length_nil]; omega
    · simp only [List.length_cons, List.length_nil]; omega
    · rw [hc]; rfl
    · omega
    · rw [hc]; rfl
theorem ha_ : Ev (fun n _ => bH_ n a b) (dc_ a b) := by
  refine aF_ ?_
  have h1 := ha.2.1.1; have h2 := hb.2.1.1
  simp only [cap] at h1 h2
  have n1 := d1_ a
  have n2 := d1_ b
  obtain ⟨r1, _, r3⟩ := hY_ ha hb hsa hsb
  have hR := kT_ (docs := da_ a) (keys := db_ a) (docs' := da_ b) (keys' := db_ b) (by rw [dF_]; omega) (by rw [dF_]; omega) (ec_ ha hsa) (ec_ hb hsb)
  have hU := jT_ (name := gD_) r1
  have hq : lenQ b9_ a.q := ⟨Nat.le_trans ha.1.1 (by decide), Nat.le_trans ha.1.2 (by decide)⟩
  have hUl : (jo_ gD_ (d2_ (da_ a) (db_ a) (da_ b) (db_ b))).length = (d2_ (da_ a) (db_ a) (da_ b) (db_ b)).length := List.length_map _
  simp only [bH_, ag_ (hb_ hq), i3_, ax_, bP_, ag_ jU_, ag_ (gJ_ ha hsa), ag_ (gJ_ hb hsb), ag_ hR, ag_ hU, bY_, al_, List.nil_append, List.length_nil, dc_, fS_]
  cases fD_ a.q b.q with
  | false => exact ⟨fun _ => rfl, fun h => (by cases h)⟩
  | true =>
    refine ⟨fun h => (by cases h), fun _ => ⟨fun hc => ⟨?_, ?_, ?_⟩, fun hc => ⟨?_, ?_⟩⟩⟩
    · simp only [List.length_cons, List.length_nil]; omega
    · simp only [List.length_cons, List.length_nil]; omega
    · rw [hc]; rfl
    · omega
    · rw [hc]; rfl
theorem ho_ (hab : a.rows.length + b.rows.length ≤ 1500000) : kJ_ (dc_ a b) := by
  obtain ⟨r1, r2, r3⟩ := hY_ ha hb hsa hsb
  unfold dc_
  cases fD_ a.q b.q with
  | false => exact ⟨Nat.zero_le _, fun o ho => (by cases ho)⟩
  | true =>
    have hUl : (jo_ gD_ (d2_ (da_ a) (db_ a) (da_ b) (db_ b))).length = (d2_ (da_ a) (db_ a) (da_ b) (db_ b)).length := List.length_map _
    have hcl : (fS_ a b).length ≤ 1 := by unfold fS_; cases (!decide (a.rows.length = b.rows.length)) <;> simp
    refine ⟨by simp only [cond_true, List.length_append]; omega, fun o ho => ?_⟩
    rw [cond_true] at ho
    rcases List.mem_append.1 ho with ho | ho
    · unfold fS_ at ho
      cases hc : (!decide (a.rows.length = b.rows.length)) <;> rw [hc] at ho
      · cases ho
      · rw [List.mem_singleton.1 ho]
        refine ⟨⟨by show 1 ≤ b9_; decide, fun x hx => ?_⟩, ?_⟩
        · rw [List.mem_singleton.1 hx]; show 5 ≤ b9_; decide
        · show eP_ 6 (c4_ (f3_ b.rows.length))
          unfold c4_
          cases cV_ (f3_ b.rows.length) with
          | true => exact gG_ 6
          | false => exact eJ_ 6
    · obtain ⟨o', ho', e⟩ := List.mem_map.1 ho
      obtain ⟨⟨t, ht, e2⟩, _, hv⟩ := r2 o' ho'
      rw [← e]
      refine ⟨⟨?_, fun x hx => ?_⟩, hv⟩
      · show (gD_ :: o'.way).length ≤ b9_
        rw [e2]; show 2 ≤ b9_; decide
      · have hx : x ∈ gD_ :: o'.way := hx
        rw [e2] at hx
        rcases List.mem_cons.1 hx with e3 | hx
        · rw [e3]; show 4 ≤ b9_; decide
        · rw [List.mem_singleton.1 hx]; simp only [b9_]; omega
end
end Go.Pi
end
section
set_option linter.unusedVariables false
set_option maxRecDepth 100000
set_option linter.unusedSimpArgs false
namespace Go.Pi
theorem g4_ {l : List TOp} (h : kJ_ l) : Ev (fun n _ => aC_ n l) (dq_ l) := by
  refine aF_ ?_
  have hl := h.1
  have ht : l.length ≤ b9_ := by simp only [b9_]; omega
  have hb : fW_ l ≤ l.length := List.findIdx_le_length
  simp only [aC_]
  have := dE_ (fun i => (l.take i).map di_) (fW_ l) (fun n N i (o : List aa_) => aC_.loop4 n (fun xy2 xy3 xy4 xy5 => ((ca_ n (aa_.mk xy2 xy3 xy4 xy5 [])).bind fun xr6 => (cond (xr6 == []) (some (-1)) (some (xr6.length : Int))))) N l (i : Int) 4 0 [] o) (dq_ l) (fun i hi F hF => ?_) ?_
  · exact this
  · have hi2 : i < l.length := by omega
    have hx := f0_ (h.2 _ (bX_ TOp.dflt hi2))
    rw [mC_ di_ TOp.dflt hi2] at hF
    have hol : ((l.take i).map di_).length ≤ i := by simp; omega
    generalize (l.take i).map di_ = o at hF hol ⊢
    simp only [aC_.turn4, aC_.step4, bP_, h3_, Int.toNat_natCast, W_up hi2 ht, c2_ hi2, cE_ hi2, jj_ hi, cond_true, cond_false, bO_, bY_, ag_ hx]
    exact ⟨trivial, by simp; omega, hF⟩
  · by_cases hp : fW_ l < l.length
    · have hx := f0_ (h.2 _ (bX_ TOp.dflt hp))
      simp only [aC_.turn4, aC_.step4, bP_, h3_, Int.toNat_natCast, c2_ hp, cE_ hp, bad_at hp, cond_true, bO_, ag_ hx, al_]
      unfold dq_
      rw [decide_eq_true hp]
      exact ⟨trivial, rfl⟩
    · have e : fW_ l = l.length := by omega
      have hE := f2_ (mH_ h)
      unfold dq_
      rw [decide_eq_false hp, cond_false]
      unfold j7_ at hE ⊢
      rw [e, List.take_length]
      simp only [aC_.turn4, aC_.step4, cU_, cond_false, ag_ hE, ax_, al_]
      generalize e9_ _ = s
      cases (s == []) <;> simp
end Go.Pi
end
section
set_option linter.unusedVariables false
set_option maxRecDepth 100000
set_option linter.unusedSimpArgs false
namespace Go.Pi
theorem lenQ_of {c : Nat} {q : aZ_} (h : aZ_.size q ≤ c) : lenQ c q := by
  have h1 := dh_ bb_.size q.where_
  have h2 := dh_ szI q.show_
  simp only [aZ_.size] at h
  exact ⟨by omega, by omega⟩
theorem lenRow_of {r : TRow} : r.cells.length ≤ TRow.size r := dh_ szI r.cells
theorem lenR_of {c : Nat} {rows : List TRow} (h : de_ TRow.size rows ≤ c) : lenR c rows := by
  have h1 := dh_ TRow.size rows
  exact ⟨by omega, fun x hx => by have := eR_ TRow.size hx; have := lenRow_of (r := x); omega⟩
theorem lenV_of {c : Nat} {v : bs_} (h : bs_.size v ≤ c) : lenV c v := by
  have h3 := dh_ TKid.size v.kids
  simp only [bs_.size] at h
  exact ⟨lenQ_of (by omega), lenR_of (by omega), by omega⟩
end Go.Pi
end
section
set_option linter.unusedVariables false
set_option maxRecDepth 100000
set_option linter.unusedSimpArgs false
namespace Go.Pi
def hI_ (a b : bs_) : Bool := decide (((dc_ a b).length : Int) ≤ 40) && (decide (dq_ (dc_ a b) ≥ 0) && decide (dq_ (dc_ a b) < ((e9_ (gX_ b)).length : Int)))
section
variable {a b : bs_} (ha : lenV cap a) (hb : lenV cap b) (hsa : ∀ c ∈ a.q.show_, i64 c) (hsb : ∀ c ∈ b.q.show_, i64 c) (hab : a.rows.length + b.rows.length ≤ 1500000)
include ha hb hsa hsb hab
theorem hU_ : Ev (fun n _ => b1_ n a b) (hI_ a b) := by
  refine aF_ ?_
  have hP := g4_ (ho_ ha hb hsa hsb hab)
  have hE := f2_ (hp_ hb hsb)
  simp only [b1_, bP_, ag_ (g2_ ha hb hsa hsb), ag_ hP, ax_, ag_ (hT_ hb hsb), ag_ hE, al_, hI_]
  cases decide (((dc_ a b).length : Int) ≤ 40) <;> cases decide (dq_ (dc_ a b) ≥ 0) <;> simp
theorem ik_ : Ev (fun n _ => b7_ n a b) (hI_ a b) := by
  refine aF_ ?_
  have hP := hc_ (ho_ ha hb hsa hsb hab)
  have hE := eC_ (hp_ hb hsb)
  simp only [b7_, bP_, ag_ (ha_ ha hb hsa hsb), ag_ hP, ax_, ag_ (ij_ hb hsb), ag_ hE, al_, hI_]
  cases decide (((dc_ a b).length : Int) ≤ 40) <;> cases decide (dq_ (dc_ a b) ≥ 0) <;> simp
end
theorem kt_ {v : bs_} : v.rows.length ≤ bs_.size v := by
  have := dh_ TRow.size v.rows
  simp only [bs_.size]; omega
theorem l9_ {a b : bs_} (la : bs_.len a) (lb : bs_.len b) (hsa : ∀ c ∈ a.q.show_, i64 c) (hsb : ∀ c ∈ b.q.show_, i64 c) : ∃ n, laws_FnExactShorter n a b = some true := by
  refine ev_ex (aF_ ?_)
  simp only [laws_FnExactShorter, ag_ (ki_ (a := a) (l := 1048576) la (by omega) (by omega)), ax_, al_]
  refine ⟨fun _ => trivial, fun h => ?_⟩
  have hz := subS_ok (of_decide_eq_false h)
  have h := of_decide_eq_false h
  have hb : fb_ 1048576 a.size ≤ 1048576 := by unfold fb_; split <;> omega
  simp only [ag_ (ki_ (a := b) (l := fb_ 1048576 a.size) lb (by omega) hb), ax_, al_]
  refine ⟨fun _ => trivial, fun h2 => ?_⟩
  have hz2 := subS_ok (of_decide_eq_false h2)
  have hs2 : (a.size : Int) + b.size ≤ 1048576 := by unfold fb_ at hz2; split at hz2 <;> omega
  have k1 : bs_.size a ≤ cap := by simp only [cap]; omega
  have k2 : bs_.size b ≤ cap := by simp only [cap]; omega
  have t1 : bs_.size a ≤ b9_ := by simp only [b9_]; omega
  have t2 : bs_.size b ≤ b9_ := by simp only [b9_]; omega
  have q1 := kt_ (v := a)
  have q2 := kt_ (v := b)
  have hL1 := lenV_of k1
  have hL2 := lenV_of k2
  simp only [ag_ (ke_ k1), ag_ (ke_ k2), ag_ (hU_ hL1 hL2 hsa hsb (by omega)), ag_ (ik_ hL1 hL2 hsa hsb (by omega)), ag_ (k9_ t1), ag_ (k9_ t2), beq_self_eq_true, Bool.not_true, cond_false, ax_, al_]
end Go.Pi
end
section
set_option linter.unusedVariables false
namespace Go.Pi
theorem d5_ {t : TC} {xs : List (El t)} (h : Good (.sl .v t xs)) : xs.length ≤ b9_ ∧ ∀ x ∈ xs, ∀ c ∈ am_.enc .v t x, Good c := by
  cases h with
  | sl t xs h1 h2 => exact ⟨h1, h2⟩
end Go.Pi
end
section
set_option linter.unusedVariables false
namespace Go.Pi
theorem good_str {l : Bs} (h : Good (.s l)) : lenB l := by
  cases h with
  | s l h => exact h
theorem bb_.good {x : bb_} (h : ∀ c ∈ ([.i .i64 x.col, .i .i64 x.op, .i .i64 x.v] : List AV), Good c) : bb_.len x := trivial
theorem aZ_.good {x : aZ_} (h : ∀ c ∈ ([.i .i64 x.table, .sl .v .lCond x.where_, .i .i64 x.order, .b x.down, .i .i64 x.first, .sl .v .int x.show_, .b x.kids, .i .i64 x.kidTable, .i .i64 x.kidCol] : List AV), Good c) : aZ_.len x := ⟨⟨(d5_ (t := .lCond) (h _ (.tail _ (.head _)))).1, fun x0 hx0 => bb_.good ((d5_ (t := .lCond) (h _ (.tail _ (.head _)))).2 x0 hx0)⟩, ⟨(d5_ (t := .int) (h _ (.tail _ (.tail _ (.tail _ (.tail _ (.tail _ (.head _)))))))).1, fun x0 hx0 => trivial⟩⟩
theorem TRow.good {x : TRow} (h : ∀ c ∈ ([.i .i64 x.id_, .sl .v .int x.cells] : List AV), Good c) : TRow.len x := ⟨(d5_ (t := .int) (h _ (.tail _ (.head _)))).1, fun x0 hx0 => trivial⟩
theorem TKid.good {x : TKid} (h : ∀ c ∈ ([.i .i64 x.id_, .i .i64 x.n_] : List AV), Good c) : TKid.len x := trivial
theorem bs_.good {x : bs_} (h : ∀ c ∈ ([.i .i64 x.q.table, .sl .v .lCond x.q.where_, .i .i64 x.q.order, .b x.q.down, .i .i64 x.q.first, .sl .v .int x.q.show_, .b x.q.kids, .i .i64 x.q.kidTable, .i .i64 x.q.kidCol, .sl .v .lRow x.rows, .sl .v .lKid x.kids] : List AV), Good c) : bs_.len x := ⟨⟨⟨(d5_ (t := .lCond) (h _ (.tail _ (.head _)))).1, fun x0 hx0 => bb_.good ((d5_ (t := .lCond) (h _ (.tail _ (.head _)))).2 x0 hx0)⟩, ⟨(d5_ (t := .int) (h _ (.tail _ (.tail _ (.tail _ (.tail _ (.tail _ (.head _)))))))).1, fun x0 hx0 => trivial⟩⟩, ⟨(d5_ (t := .lRow) (h _ (.tail _ (.tail _ (.tail _ (.tail _ (.tail _ (.tail _ (.tail _ (.tail _ (.tail _ (.head _)))))))))))).1, fun x0 hx0 => TRow.good ((d5_ (t := .lRow) (h _ (.tail _ (.tail _ (.tail _ (.tail _ (.tail _ (.tail _ (.tail _ (.tail _ (.tail _ (.head _)))))))))))).2 x0 hx0)⟩, ⟨(d5_ (t := .lKid) (h _ (.tail _ (.tail _ (.tail _ (.tail _ (.tail _ (.tail _ (.tail _ (.tail _ (.tail _ (.tail _ (.head _))))))))))))).1, fun x0 hx0 => TKid.good ((d5_ (t := .lKid) (h _ (.tail _ (.tail _ (.tail _ (.tail _ (.tail _ (.tail _ (.tail _ (.tail _ (.tail _ (.tail _ (.head _))))))))))))).2 x0 hx0)⟩⟩
end Go.Pi
end
section
set_option linter.unusedVariables false
namespace Go.Pi
theorem kW_ {l : List Int} (h : Good (.sl .v .int l)) : ∀ c ∈ l, -9223372036854775808 ≤ c ∧ c ≤ 9223372036854775807 := fun c hc => by
  have := (d5_ (t := .int) h).2 c hc (.i .i64 c) (.head _)
  cases this with
  | i k n h =>
    have h : (decide (IntKind.i64.min ≤ c) && decide (c ≤ IntKind.i64.max)) = true := h
    rw [Bool.and_eq_true, decide_eq_true_eq, decide_eq_true_eq] at h
    exact h
end Go.Pi
end
section
set_option linter.unusedVariables false
namespace Go.Pi
open Go.Proofs Go.Proofs.YthfipmaaojdmnaaGreatDoor
namespace laws_FnExactShorter
theorem pure_law : Pure := fun a b h0 h1 => l9_ (bs_.good h0) (bs_.good h1) (kW_ (h0 (.sl .v .int a.q.show_) (by simp))) (kW_ (h1 (.sl .v .int b.q.show_) (by simp)))
theorem proved : Rows.FnExactShorterCardSaid := card pure_law
end laws_FnExactShorter
end Go.Pi
end
namespace Go.Proofs.YthfipmaaojdmnaaGreatDoor
theorem fnExactShorter_holds : Rows.FnExactShorterCardSaid := Go.Pi.laws_FnExactShorter.proved
#print axioms fnExactShorter_holds
end Go.Proofs.YthfipmaaojdmnaaGreatDoor
