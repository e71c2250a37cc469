/- The card of FnExactViewPatch: the law returns true at every input, and leaves its arguments unchanged; no condition. Text 6 of 6. -/
import Derived.Test.YthfipmaaojdmnaaGreatDoorVpE
section
set_option linter.unusedVariables false
set_option maxRecDepth 100000
set_option linter.unusedSimpArgs false
namespace Go.Pi
def aO_.size (s : aO_) : Nat := 0
def aO_.len (s : aO_) : Prop := True
def bi_.size (s : bi_) : Nat := (cF_ aO_.size) s.where_ + (cF_ szI) s.show_
def bi_.len (s : bi_) : Prop := (lv_ aO_.len) s.where_ ∧ (lv_ lenI) s.show_
def TRow.size (s : TRow) : Nat := (cF_ szI) s.cells
def TRow.len (s : TRow) : Prop := (lv_ lenI) s.cells
def TKid.size (s : TKid) : Nat := 0
def TKid.len (s : TKid) : Prop := True
def bB_.size (s : bB_) : Nat := bi_.size s.q + (cF_ TRow.size) s.rows + (cF_ TKid.size) s.kids
def bB_.len (s : bB_) : Prop := bi_.len s.q ∧ (lv_ TRow.len) s.rows ∧ (lv_ TKid.len) s.kids
mutual
def aa_.size : aa_ → Nat
  | ⟨_, _, s, l, ns⟩ => s.length + ((l.length + aa_.sizes l) + cF_ szB ns)
def aa_.sizes : List aa_ → Nat
  | [] => 0
  | x :: l => aa_.size x + aa_.sizes l
end
mutual
def aa_.len : aa_ → Prop
  | ⟨_, _, s, l, ns⟩ => s.length ≤ b5_ ∧ (l.length ≤ b5_ ∧ aa_.lens l) ∧ lv_ lenB ns
def aa_.lens : List aa_ → Prop
  | [] => True
  | x :: l => aa_.len x ∧ aa_.lens l
end
theorem aa_.sizes_eq : ∀ l : List aa_, aa_.sizes l = d1_ aa_.size l
  | [] => by simp only [aa_.sizes, d1_]
  | x :: l => by simp only [aa_.sizes, d1_, aa_.sizes_eq l]
theorem aa_.lens_iff : ∀ l : List aa_, aa_.lens l ↔ ∀ x ∈ l, aa_.len x
  | [] => by simp [aa_.lens]
  | x :: l => by simp [aa_.lens, aa_.lens_iff l]
theorem aa_.size_eq (j : aa_) : aa_.size j = j.s.length + (cF_ aa_.size j.list + cF_ szB j.names) := by
  cases j; simp only [aa_.size, aa_.sizes_eq, cF_]
theorem aa_.len_iff (j : aa_) : aa_.len j ↔ j.s.length ≤ b5_ ∧ lv_ aa_.len j.list ∧ lv_ lenB j.names := by
  cases j; simp only [aa_.len, aa_.lens_iff, lv_]
theorem aa_.re_eq (j : aa_) : aa_.re j = j := by cases j; rfl
theorem aa_.dec {x : aa_} {a : List aa_} (h : x ∈ a) : SizeOf.sizeOf x.list < SizeOf.sizeOf a := by
  have h1 := List.sizeOf_lt_of_mem h
  have h2 : SizeOf.sizeOf x.list < SizeOf.sizeOf x := by cases x; simp; omega
  omega
def TOp.size (s : TOp) : Nat := (cF_ szB) s.way + aa_.size s.value
def TOp.len (s : TOp) : Prop := (lv_ lenB) s.way ∧ aa_.len s.value
theorem TOp.eta (x : TOp) : TOp.mk x.kind x.way x.value = x := rfl
def am_.size (s : am_) : Nat := aa_.size s.value
def am_.len (s : am_) : Prop := aa_.len s.value
theorem am_.eta (x : am_) : am_.mk x.key x.value = x := rfl
theorem l1_ {a : List aO_} {l : Int} (ha : (lv_ aO_.len) a) (h0 : 0 ≤ l) (h1 : l ≤ 1048576) : Ev (fun n _ => b3_ n a l) (eH_ l ((cF_ aO_.size) a)) := by
  refine aJ_ ?_
  rw [show (cF_ aO_.size) a = a.length from by unfold cF_; rw [fJ_ aO_.size (fun _ => rfl)]; rfl]
  exact ev_szI h0 h1 ha.1
theorem ji_ {a : List Int} {l : Int} (ha : (lv_ lenI) a) (h0 : 0 ≤ l) (h1 : l ≤ 1048576) : Ev (fun n _ => ch_ n a l) (eH_ l ((cF_ szI) a)) := by
  refine aJ_ ?_
  rw [show (cF_ szI) a = a.length from by unfold cF_; rw [fJ_ szI (fun _ => rfl)]; rfl]
  exact ev_szI h0 h1 ha.1
theorem l0_ {a : bi_} {l : Int} (ha : bi_.len a) (h0 : 0 ≤ l) (h1 : l ≤ 1048576) : Ev (fun n _ => b2_ n a l) (eH_ l (bi_.size a)) := by
  refine aJ_ ?_
  have e : bi_.size a = (cF_ aO_.size) a.where_ + ((cF_ szI) a.show_ + (0)) := by simp only [bi_.size]; omega
  rw [e]; clear e
  have h0_0 := h0; have h0_1 := h1
  exact kP_ h0_0 h0_1 (l1_ (ha.1) h0_0 h0_1) fun r1 h1_0 h1_1 => kP_ h1_0 h1_1 (ji_ (ha.2) h1_0 h1_1) fun r2 h2_0 h2_1 => lI_ h2_0
theorem szRow_ev {a : TRow} {l : Int} (ha : TRow.len a) (h0 : 0 ≤ l) (h1 : l ≤ 1048576) : Ev (fun n _ => cE_ n a l) (eH_ l (TRow.size a)) := by
  refine aJ_ ?_
  have e : TRow.size a = (cF_ szI) a.cells + (0) := by simp only [TRow.size]; omega
  rw [e]; clear e
  have h0_0 := h0; have h0_1 := h1
  exact kP_ h0_0 h0_1 (ji_ (ha) h0_0 h0_1) fun r1 h1_0 h1_1 => lI_ h1_0
theorem szRowS_ev {a : List TRow} {l : Int} (ha : (lv_ TRow.len) a) (h0 : 0 ≤ l) (h1 : l ≤ 1048576) : Ev (fun n _ => a1_ n a l) (eH_ l ((cF_ TRow.size) a)) := by
  refine aJ_ ?_
  refine ev_szL (g := fun n N x => a1_.loop7 n (fun xy2 => (some xy2)) (n) a x 0) h0 h1 ha.1 fun l h0 h1 => sz_list TRow.dflt TRow.size (fun n N l i => a1_.loop7 n (fun xy2 => (some xy2)) (N) a l (i : Int)) a (fun i l hi h0 h1 t kk => ?_) (fun l => ?_) l h0 h1
  · show Ev (fun n N => a1_.step7 n (fun xy2 => (some xy2)) (a1_.loop7 n (fun xy2 => (some xy2)) N) a l (i : Int)) _
    simp only [a1_.step7, ay_, bU_, Int.toNat_natCast, W_up hi ha.1]
    refine ⟨fun _ => ?_, fun h => absurd hi (by simpa using h)⟩
    refine ⟨⟨by omega, by omega⟩, ?_⟩
    have := kP_ (t := t) (g := fun n N x => a1_.loop7 n (fun xy2 => (some xy2)) (N) a x ((i + 1 : Nat) : Int)) h0 h1 (szRow_ev (ha.2 _ (b6_ TRow.dflt hi)) h0 h1) kk
    simpa only [ay_, ax_] using this
  · show Ev (fun n N => a1_.step7 n (fun xy2 => (some xy2)) (a1_.loop7 n (fun xy2 => (some xy2)) N) a l (a.length : Int)) _
    simp only [a1_.step7, ay_, ax_]
    exact ⟨fun h => absurd (of_decide_eq_true h) (by omega), fun _ => trivial⟩
theorem szKidS_ev {a : List TKid} {l : Int} (ha : (lv_ TKid.len) a) (h0 : 0 ≤ l) (h1 : l ≤ 1048576) : Ev (fun n _ => cm_ n a l) (eH_ l ((cF_ TKid.size) a)) := by
  refine aJ_ ?_
  rw [show (cF_ TKid.size) a = a.length from by unfold cF_; rw [fJ_ TKid.size (fun _ => rfl)]; rfl]
  exact ev_szI h0 h1 ha.1
theorem jh_ {a : bB_} {l : Int} (ha : bB_.len a) (h0 : 0 ≤ l) (h1 : l ≤ 1048576) : Ev (fun n _ => cg_ n a l) (eH_ l (bB_.size a)) := by
  refine aJ_ ?_
  have e : bB_.size a = bi_.size a.q + ((cF_ TRow.size) a.rows + ((cF_ TKid.size) a.kids + (0))) := by simp only [bB_.size]; omega
  rw [e]; clear e
  have h0_0 := h0; have h0_1 := h1
  exact kP_ h0_0 h0_1 (l0_ (ha.1) h0_0 h0_1) fun r1 h1_0 h1_1 => kP_ h1_0 h1_1 (szRowS_ev (ha.2.1) h1_0 h1_1) fun r2 h2_0 h2_1 => kP_ h2_0 h2_1 (szKidS_ev (ha.2.2) h2_0 h2_1) fun r3 h3_0 h3_1 => lI_ h3_0
theorem toCond_ev {a : aO_} (ha : aO_.size a ≤ cap) : Ev (fun n _ => cf_ n a) a := by
  refine aJ_ ?_
  simp only [cf_, ax_]
theorem lZ_ {a : List aO_} (ha : (cF_ aO_.size) a ≤ cap) : Ev (fun n _ => aP_ n a) a := by
  refine aJ_ ?_
  have hl := cp_ aO_.size a
  simp only [cap] at ha
  simp only [aP_, ay_, c5_, decide_eq_true_eq, decide_eq_false_iff_not, not_true_eq_false]
  refine ⟨fun _ => ⟨fun _ => ⟨fun _ => ?_, fun h => absurd h (by omega)⟩, fun h => absurd h (by omega)⟩, fun h => h⟩
  refine iY_ aO_.dflt a (fun n N i s => aP_.loop4 n (fun xy3 => (some xy3)) N a (i : Int) s) (fun i s hi hs k => ?_) ?_ _ (by simp)
  · show Ev (fun n N => aP_.step4 n (fun xy3 => (some xy3)) (aP_.loop4 n (fun xy3 => (some xy3)) N) a (i : Int) s) a
    simp only [aP_.step4, Int.toNat_natCast, ay_, bU_, aj_ (toCond_ev (a := a.getD i aO_.dflt) (by have := dF_ aO_.size (b6_ aO_.dflt hi); simp only [cap]; omega)), W_up hi (show a.length ≤ b5_ by simp only [b5_]; omega)]
    exact ⟨fun _ => ⟨⟨by omega, by omega⟩, ⟨by omega, by omega⟩, k⟩, fun h => absurd hi (by simpa using h)⟩
  · show Ev (fun n N => aP_.step4 n (fun xy3 => (some xy3)) (aP_.loop4 n (fun xy3 => (some xy3)) N) a (a.length : Int) a) a
    simp only [aP_.step4, ay_, ax_]
    exact ⟨fun h => absurd (of_decide_eq_true h) (by omega), fun _ => trivial⟩
theorem jd_ {a : List Int} (ha : (cF_ szI) a ≤ cap) : Ev (fun n _ => a0_ n a) a := by
  refine aJ_ ?_
  have hl := cp_ szI a
  simp only [cap] at ha
  simp only [a0_, ay_, c5_, decide_eq_true_eq, decide_eq_false_iff_not, not_true_eq_false]
  refine ⟨fun _ => ⟨fun _ => ⟨fun _ => ?_, fun h => absurd h (by omega)⟩, fun h => absurd h (by omega)⟩, fun h => h⟩
  refine iY_ 0 a (fun n N i s => a0_.loop4 n (fun xy2 => (some xy2)) N a (i : Int) s) (fun i s hi hs k => ?_) ?_ _ (by simp)
  · show Ev (fun n N => a0_.step4 n (fun xy2 => (some xy2)) (a0_.loop4 n (fun xy2 => (some xy2)) N) a (i : Int) s) a
    simp only [a0_.step4, Int.toNat_natCast, ay_, bU_, W_up hi (show a.length ≤ b5_ by simp only [b5_]; omega)]
    exact ⟨fun _ => ⟨⟨by omega, by omega⟩, ⟨by omega, by omega⟩, k⟩, fun h => absurd hi (by simpa using h)⟩
  · show Ev (fun n N => a0_.step4 n (fun xy2 => (some xy2)) (a0_.loop4 n (fun xy2 => (some xy2)) N) a (a.length : Int) a) a
    simp only [a0_.step4, ay_, ax_]
    exact ⟨fun h => absurd (of_decide_eq_true h) (by omega), fun _ => trivial⟩
theorem lY_ {a : bi_} (ha : bi_.size a ≤ cap) : Ev (fun n _ => bV_ n a) a := by
  refine aJ_ ?_
  simp only [bi_.size] at ha
  have h0 := lZ_ (a := a.where_) (by omega)
  have h1 := jd_ (a := a.show_) (by omega)
  simp only [bV_, aj_ h0, aj_ h1, ax_]
theorem toRow_ev {a : TRow} (ha : TRow.size a ≤ cap) : Ev (fun n _ => cv_ n a) a := by
  refine aJ_ ?_
  simp only [TRow.size] at ha
  have h0 := jd_ (a := a.cells) (by omega)
  simp only [cv_, aj_ h0, ax_]
theorem toRowS_ev {a : List TRow} (ha : (cF_ TRow.size) a ≤ cap) : Ev (fun n _ => a2_ n a) a := by
  refine aJ_ ?_
  have hl := cp_ TRow.size a
  simp only [cap] at ha
  simp only [a2_, ay_, c5_, decide_eq_true_eq, decide_eq_false_iff_not, not_true_eq_false]
  refine ⟨fun _ => ⟨fun _ => ⟨fun _ => ?_, fun h => absurd h (by omega)⟩, fun h => absurd h (by omega)⟩, fun h => h⟩
  refine iY_ TRow.dflt a (fun n N i s => a2_.loop4 n (fun xy3 => (some xy3)) N a (i : Int) s) (fun i s hi hs k => ?_) ?_ _ (by simp)
  · show Ev (fun n N => a2_.step4 n (fun xy3 => (some xy3)) (a2_.loop4 n (fun xy3 => (some xy3)) N) a (i : Int) s) a
    simp only [a2_.step4, Int.toNat_natCast, ay_, bU_, aj_ (toRow_ev (a := a.getD i TRow.dflt) (by have := dF_ TRow.size (b6_ TRow.dflt hi); simp only [cap]; omega)), W_up hi (show a.length ≤ b5_ by simp only [b5_]; omega)]
    exact ⟨fun _ => ⟨⟨by omega, by omega⟩, ⟨by omega, by omega⟩, k⟩, fun h => absurd hi (by simpa using h)⟩
  · show Ev (fun n N => a2_.step4 n (fun xy3 => (some xy3)) (a2_.loop4 n (fun xy3 => (some xy3)) N) a (a.length : Int) a) a
    simp only [a2_.step4, ay_, ax_]
    exact ⟨fun h => absurd (of_decide_eq_true h) (by omega), fun _ => trivial⟩
theorem toKid_ev {a : TKid} (ha : TKid.size a ≤ cap) : Ev (fun n _ => cw_ n a) a := by
  refine aJ_ ?_
  simp only [cw_, ax_]
theorem toKidS_ev {a : List TKid} (ha : (cF_ TKid.size) a ≤ cap) : Ev (fun n _ => a3_ n a) a := by
  refine aJ_ ?_
  have hl := cp_ TKid.size a
  simp only [cap] at ha
  simp only [a3_, ay_, c5_, decide_eq_true_eq, decide_eq_false_iff_not, not_true_eq_false]
  refine ⟨fun _ => ⟨fun _ => ⟨fun _ => ?_, fun h => absurd h (by omega)⟩, fun h => absurd h (by omega)⟩, fun h => h⟩
  refine iY_ TKid.dflt a (fun n N i s => a3_.loop4 n (fun xy3 => (some xy3)) N a (i : Int) s) (fun i s hi hs k => ?_) ?_ _ (by simp)
  · show Ev (fun n N => a3_.step4 n (fun xy3 => (some xy3)) (a3_.loop4 n (fun xy3 => (some xy3)) N) a (i : Int) s) a
    simp only [a3_.step4, Int.toNat_natCast, ay_, bU_, aj_ (toKid_ev (a := a.getD i TKid.dflt) (by have := dF_ TKid.size (b6_ TKid.dflt hi); simp only [cap]; omega)), W_up hi (show a.length ≤ b5_ by simp only [b5_]; omega)]
    exact ⟨fun _ => ⟨⟨by omega, by omega⟩, ⟨by omega, by omega⟩, k⟩, fun h => absurd hi (by simpa using h)⟩
  · show Ev (fun n N => a3_.step4 n (fun xy3 => (some xy3)) (a3_.loop4 n (fun xy3 => (some xy3)) N) a (a.length : Int) a) a
    simp only [a3_.step4, ay_, ax_]
    exact ⟨fun h => absurd (of_decide_eq_true h) (by omega), fun _ => trivial⟩
theorem jc_ {a : bB_} (ha : bB_.size a ≤ cap) : Ev (fun n _ => bN_ n a) a := by
  refine aJ_ ?_
  simp only [bB_.size] at ha
  have h0 := lY_ (a := a.q) (by omega)
  have h1 := toRowS_ev (a := a.rows) (by omega)
  have h2 := toKidS_ev (a := a.kids) (by omega)
  simp only [bN_, aj_ h0, aj_ h1, aj_ h2, ax_]
theorem gy_ {a : List Bs} (ha : (cF_ szB) a ≤ b5_) : Ev (fun n _ => aE_ n a a) true := by
  refine aJ_ ?_
  have hl := cp_ szB a
  simp only [aE_, ay_, bne_self_eq_false]
  refine ⟨fun h => (by cases h), fun _ => ?_⟩
  refine hn_ (fun n N i => aE_.loop6 n (some true) N a a (i : Int)) (fun _ => true) a.length fun i hi k => ?_
  show Ev (fun n N => aE_.step6 n (some true) (aE_.loop6 n (some true) N) a a (i : Int)) true
  by_cases h : i < a.length
  · simp only [aE_.step6, Int.toNat_natCast, ay_, bU_, bne_self_eq_false, beq_self_eq_true, Bool.not_true, W_up h (show a.length ≤ b5_ by omega)]
    exact ⟨fun _ => ⟨⟨by omega, by omega⟩, ⟨by omega, by omega⟩, fun h => (by cases h), fun _ => k h⟩, fun h' => absurd h (by simpa using h')⟩
  · simp only [aE_.step6, ay_, ax_]
    exact ⟨fun h' => absurd (of_decide_eq_true h') (by omega), fun _ => trivial⟩
theorem ii_ {a : List aa_} (ha : cF_ aa_.size a ≤ b5_) (ih : ∀ x ∈ a, Ev (fun n _ => bK_ n x x) true) : Ev (fun n _ => aU_ n a a) true := by
  refine aJ_ ?_
  have hl := cp_ aa_.size a
  simp only [aU_, ay_, bne_self_eq_false]
  refine ⟨fun h => (by cases h), fun _ => ?_⟩
  refine hn_ (fun n N i => aU_.loop6 n (bK_ n) (some true) N a a (i : Int)) (fun _ => true) a.length fun i hi k => ?_
  show Ev (fun n N => aU_.step6 n (bK_ n) (some true) (aU_.loop6 n (bK_ n) (some true) N) a a (i : Int)) true
  by_cases h : i < a.length
  · simp only [aU_.step6, aa_.re_eq, Int.toNat_natCast, ay_, bU_, aj_ (ih _ (b6_ aa_.dflt h)), bne_self_eq_false, beq_self_eq_true, Bool.not_true, W_up h (show a.length ≤ b5_ by omega)]
    exact ⟨fun _ => ⟨⟨by omega, by omega⟩, ⟨by omega, by omega⟩, fun h => (by cases h), fun _ => k h⟩, fun h' => absurd h (by simpa using h')⟩
  · simp only [aU_.step6, ay_, ax_]
    exact ⟨fun h' => absurd (of_decide_eq_true h') (by omega), fun _ => trivial⟩
theorem gn_ (a : aa_) (ha : aa_.size a ≤ b5_) : Ev (fun n _ => bK_ n a a) true := by
  have hq := aa_.size_eq a
  refine aJ_ ?_
  have h1 := ii_ (a := a.list) (by omega) fun x hx => gn_ x (by have := dF_ aa_.size hx; omega)
  have h2 := gy_ (a := a.names) (by omega)
  simp only [bK_, aj_ h1, aj_ h2, bne_self_eq_false, beq_self_eq_true, Bool.not_true, cond_false, ax_]
termination_by SizeOf.sizeOf a
decreasing_by
  have := List.sizeOf_lt_of_mem hx
  cases a
  simp at this ⊢
  omega
theorem eqJson_ev {a : aa_} (ha : aa_.size a ≤ b5_) : Ev (fun n _ => bK_ n a a) true := gn_ a ha
theorem eqJsonS_ev {a : List aa_} (ha : cF_ aa_.size a ≤ b5_) : Ev (fun n _ => aU_ n a a) true := ii_ ha fun x hx => gn_ x (by have := dF_ aa_.size hx; omega)
theorem eqOp_ev {a : TOp} (ha : TOp.size a ≤ b5_) : Ev (fun n _ => cJ_ n a a) true := by
  refine aJ_ ?_
  simp only [TOp.size] at ha
  have h0 := gy_ (a := a.way) (by omega)
  have h1 := eqJson_ev (a := a.value) (by omega)
  simp only [cJ_, aa_.re_eq, TOp.eta, aj_ h0, aj_ h1, bne_self_eq_false, beq_self_eq_true, Bool.not_true, cond_false, ax_]
theorem eqOpS_ev {a : List TOp} (ha : (cF_ TOp.size) a ≤ b5_) : Ev (fun n _ => bm_ n a a) true := by
  refine aJ_ ?_
  have hl := cp_ TOp.size a
  simp only [bm_, ay_, bne_self_eq_false]
  refine ⟨fun h => (by cases h), fun _ => ?_⟩
  refine hn_ (fun n N i => bm_.loop6 n (some true) N a a (i : Int)) (fun _ => true) a.length fun i hi k => ?_
  show Ev (fun n N => bm_.step6 n (some true) (bm_.loop6 n (some true) N) a a (i : Int)) true
  by_cases h : i < a.length
  · simp only [bm_.step6, Int.toNat_natCast, ay_, bU_, aa_.re_eq, TOp.eta, aj_ (eqOp_ev (a := a.getD i TOp.dflt) (by have := dF_ TOp.size (b6_ TOp.dflt h); omega)), bne_self_eq_false, beq_self_eq_true, Bool.not_true, W_up h (show a.length ≤ b5_ by omega)]
    exact ⟨fun _ => ⟨⟨by omega, by omega⟩, ⟨by omega, by omega⟩, fun h => (by cases h), fun _ => k h⟩, fun h' => absurd h (by simpa using h')⟩
  · simp only [bm_.step6, ay_, ax_]
    exact ⟨fun h' => absurd (of_decide_eq_true h') (by omega), fun _ => trivial⟩
theorem eqCond_ev {a : aO_} (ha : aO_.size a ≤ b5_) : Ev (fun n _ => ci_ n a a) true := by
  refine aJ_ ?_
  simp only [ci_, bne_self_eq_false, beq_self_eq_true, Bool.not_true, cond_false, ax_]
theorem mv_ {a : List aO_} (ha : (cF_ aO_.size) a ≤ b5_) : Ev (fun n _ => aZ_ n a a) true := by
  refine aJ_ ?_
  have hl := cp_ aO_.size a
  simp only [aZ_, ay_, bne_self_eq_false]
  refine ⟨fun h => (by cases h), fun _ => ?_⟩
  refine hn_ (fun n N i => aZ_.loop6 n (some true) N a a (i : Int)) (fun _ => true) a.length fun i hi k => ?_
  show Ev (fun n N => aZ_.step6 n (some true) (aZ_.loop6 n (some true) N) a a (i : Int)) true
  by_cases h : i < a.length
  · simp only [aZ_.step6, Int.toNat_natCast, ay_, bU_, aj_ (eqCond_ev (a := a.getD i aO_.dflt) (by have := dF_ aO_.size (b6_ aO_.dflt h); omega)), bne_self_eq_false, beq_self_eq_true, Bool.not_true, W_up h (show a.length ≤ b5_ by omega)]
    exact ⟨fun _ => ⟨⟨by omega, by omega⟩, ⟨by omega, by omega⟩, fun h => (by cases h), fun _ => k h⟩, fun h' => absurd h (by simpa using h')⟩
  · simp only [aZ_.step6, ay_, ax_]
    exact ⟨fun h' => absurd (of_decide_eq_true h') (by omega), fun _ => trivial⟩
theorem ka_ {a : List Int} (ha : (cF_ szI) a ≤ b5_) : Ev (fun n _ => ba_ n a a) true := by
  refine aJ_ ?_
  have hl := cp_ szI a
  simp only [ba_, ay_, bne_self_eq_false]
  refine ⟨fun h => (by cases h), fun _ => ?_⟩
  refine hn_ (fun n N i => ba_.loop6 n (some true) N a a (i : Int)) (fun _ => true) a.length fun i hi k => ?_
  show Ev (fun n N => ba_.step6 n (some true) (ba_.loop6 n (some true) N) a a (i : Int)) true
  by_cases h : i < a.length
  · simp only [ba_.step6, Int.toNat_natCast, ay_, bU_, bne_self_eq_false, beq_self_eq_true, Bool.not_true, W_up h (show a.length ≤ b5_ by omega)]
    exact ⟨fun _ => ⟨⟨by omega, by omega⟩, ⟨by omega, by omega⟩, fun h => (by cases h), fun _ => k h⟩, fun h' => absurd h (by simpa using h')⟩
  · simp only [ba_.step6, ay_, ax_]
    exact ⟨fun h' => absurd (of_decide_eq_true h') (by omega), fun _ => trivial⟩
theorem mu_ {a : bi_} (ha : bi_.size a ≤ b5_) : Ev (fun n _ => bW_ n a a) true := by
  refine aJ_ ?_
  simp only [bi_.size] at ha
  have h0 := mv_ (a := a.where_) (by omega)
  have h1 := ka_ (a := a.show_) (by omega)
  simp only [bW_, aj_ h0, aj_ h1, bne_self_eq_false, beq_self_eq_true, Bool.not_true, cond_false, ax_]
theorem eqRow_ev {a : TRow} (ha : TRow.size a ≤ b5_) : Ev (fun n _ => cx_ n a a) true := by
  refine aJ_ ?_
  simp only [TRow.size] at ha
  have h0 := ka_ (a := a.cells) (by omega)
  simp only [cx_, aj_ h0, bne_self_eq_false, beq_self_eq_true, Bool.not_true, cond_false, ax_]
theorem eqRowS_ev {a : List TRow} (ha : (cF_ TRow.size) a ≤ b5_) : Ev (fun n _ => be_ n a a) true := by
  refine aJ_ ?_
  have hl := cp_ TRow.size a
  simp only [be_, ay_, bne_self_eq_false]
  refine ⟨fun h => (by cases h), fun _ => ?_⟩
  refine hn_ (fun n N i => be_.loop6 n (some true) N a a (i : Int)) (fun _ => true) a.length fun i hi k => ?_
  show Ev (fun n N => be_.step6 n (some true) (be_.loop6 n (some true) N) a a (i : Int)) true
  by_cases h : i < a.length
  · simp only [be_.step6, Int.toNat_natCast, ay_, bU_, aj_ (eqRow_ev (a := a.getD i TRow.dflt) (by have := dF_ TRow.size (b6_ TRow.dflt h); omega)), bne_self_eq_false, beq_self_eq_true, Bool.not_true, W_up h (show a.length ≤ b5_ by omega)]
    exact ⟨fun _ => ⟨⟨by omega, by omega⟩, ⟨by omega, by omega⟩, fun h => (by cases h), fun _ => k h⟩, fun h' => absurd h (by simpa using h')⟩
  · simp only [be_.step6, ay_, ax_]
    exact ⟨fun h' => absurd (of_decide_eq_true h') (by omega), fun _ => trivial⟩
theorem eqKid_ev {a : TKid} (ha : TKid.size a ≤ b5_) : Ev (fun n _ => cy_ n a a) true := by
  refine aJ_ ?_
  simp only [cy_, bne_self_eq_false, beq_self_eq_true, Bool.not_true, cond_false, ax_]
theorem eqKidS_ev {a : List TKid} (ha : (cF_ TKid.size) a ≤ b5_) : Ev (fun n _ => bf_ n a a) true := by
  refine aJ_ ?_
  have hl := cp_ TKid.size a
  simp only [bf_, ay_, bne_self_eq_false]
  refine ⟨fun h => (by cases h), fun _ => ?_⟩
  refine hn_ (fun n N i => bf_.loop6 n (some true) N a a (i : Int)) (fun _ => true) a.length fun i hi k => ?_
  show Ev (fun n N => bf_.step6 n (some true) (bf_.loop6 n (some true) N) a a (i : Int)) true
  by_cases h : i < a.length
  · simp only [bf_.step6, Int.toNat_natCast, ay_, bU_, aj_ (eqKid_ev (a := a.getD i TKid.dflt) (by have := dF_ TKid.size (b6_ TKid.dflt h); omega)), bne_self_eq_false, beq_self_eq_true, Bool.not_true, W_up h (show a.length ≤ b5_ by omega)]
    exact ⟨fun _ => ⟨⟨by omega, by omega⟩, ⟨by omega, by omega⟩, fun h => (by cases h), fun _ => k h⟩, fun h' => absurd h (by simpa using h')⟩
  · simp only [bf_.step6, ay_, ax_]
    exact ⟨fun h' => absurd (of_decide_eq_true h') (by omega), fun _ => trivial⟩
theorem j9_ {a : bB_} (ha : bB_.size a ≤ b5_) : Ev (fun n _ => b7_ n a a) true := by
  refine aJ_ ?_
  simp only [bB_.size] at ha
  have h0 := mu_ (a := a.q) (by omega)
  have h1 := eqRowS_ev (a := a.rows) (by omega)
  have h2 := eqKidS_ev (a := a.kids) (by omega)
  simp only [b7_, aj_ h0, aj_ h1, aj_ h2, bne_self_eq_false, beq_self_eq_true, Bool.not_true, cond_false, ax_]
theorem jI_ {a : List aO_} {k : Int} (ha : a.length ≤ b5_) (hk : 0 ≤ k) (hb : k + 32 * ((cF_ aO_.size) a : Nat) ≤ b5_) :
    ∃ k' a', k ≤ k' ∧ k' ≤ k + 32 * ((cF_ aO_.size) a : Nat) ∧ a'.length = a.length ∧ Ev (fun n _ => aD_ n a k) (k', a') ∧ True := by
  refine (fe_ aO_.dflt aO_.size (fun n N k i a => aD_.loop3 n (fun xy4 xy5 => (some (xy4, xy5))) N k (i : Int) a) (fun i a k hi ha hk hb => ?_) (fun a k => ?_) a k ha hk hb).elim fun k' ⟨a', h1, h2, h3, h4, h5⟩ => ⟨k', a', h1, h2, h3, aJ_ h4, h5⟩
  · generalize hx : a.getD i aO_.dflt = x at *
    simp only [aO_.size] at hb ⊢
    
    refine ⟨((k + 1) + 1) + 1, (aO_.mk k (k + 1) ((k + 1) + 1)), by omega, by omega, fun F hF => ?_⟩
    · show Ev (fun n N => aD_.step3 n (fun xy4 xy5 => (some (xy4, xy5))) (aD_.loop3 n (fun xy4 xy5 => (some (xy4, xy5))) N) k (i : Int) a) F
      simp only [aD_.step3, Int.toNat_natCast, ay_, bU_, List.length_set, List.set_set, ew_ aO_.dflt hi, hx, di_ (k := k) (by omega) (by omega), di_ (k := k + 1) (by omega) (by omega), di_ (k := (k + 1) + 1) (by omega) (by omega), W_up hi ha, decide_eq_true_eq, decide_eq_false_iff_not, Nat.beq_refl]
      refine ⟨fun _ => ?_, fun h => absurd hi (by simpa using h)⟩
      repeat' (first | exact hF | apply And.intro | intro _ | omega)
      all_goals (first | exact hF | (simp_all; done) | omega)
  · show Ev (fun n N => aD_.step3 n (fun xy4 xy5 => (some (xy4, xy5))) (aD_.loop3 n (fun xy4 xy5 => (some (xy4, xy5))) N) k (a.length : Int) a) _
    simp only [aD_.step3, ay_, ax_]
    exact ⟨fun h => absurd (of_decide_eq_true h) (by omega), fun _ => trivial⟩
theorem ha_ {a : List Int} {k : Int} (ha : a.length ≤ b5_) (hk : 0 ≤ k) (hb : k + 32 * ((cF_ szI) a : Nat) ≤ b5_) :
    ∃ k' a', k ≤ k' ∧ k' ≤ k + 32 * ((cF_ szI) a : Nat) ∧ a'.length = a.length ∧ Ev (fun n _ => aG_ n a k) (k', a') ∧ True := by
  refine (fe_ 0 szI (fun n N k i a => aG_.loop3 n (fun xy2 xy3 => (some (xy2, xy3))) N k (i : Int) a) (fun i a k hi ha hk hb => ?_) (fun a k => ?_) a k ha hk hb).elim fun k' ⟨a', h1, h2, h3, h4, h5⟩ => ⟨k', a', h1, h2, h3, aJ_ h4, h5⟩
  · generalize hx : a.getD i 0 = x at *
    simp only [szI] at hb ⊢
    
    refine ⟨k + 1, k, by omega, by omega, fun F hF => ?_⟩
    · show Ev (fun n N => aG_.step3 n (fun xy2 xy3 => (some (xy2, xy3))) (aG_.loop3 n (fun xy2 xy3 => (some (xy2, xy3))) N) k (i : Int) a) F
      simp only [aG_.step3, Int.toNat_natCast, ay_, bU_, List.length_set, List.set_set, ew_ 0 hi, hx, di_ (k := k) (by omega) (by omega), W_up hi ha, decide_eq_true_eq, decide_eq_false_iff_not, Nat.beq_refl]
      refine ⟨fun _ => ?_, fun h => absurd hi (by simpa using h)⟩
      repeat' (first | exact hF | apply And.intro | intro _ | omega)
      all_goals (first | exact hF | (simp_all; done) | omega)
  · show Ev (fun n N => aG_.step3 n (fun xy2 xy3 => (some (xy2, xy3))) (aG_.loop3 n (fun xy2 xy3 => (some (xy2, xy3))) N) k (a.length : Int) a) _
    simp only [aG_.step3, ay_, ax_]
    exact ⟨fun h => absurd (of_decide_eq_true h) (by omega), fun _ => trivial⟩
theorem jG_ {a : bi_} {k : Int} (hk : 0 ≤ k) (hb : k + 32 * (bi_.size a : Nat) ≤ b5_) :
    ∃ k' y0 y1, k ≤ k' ∧ k' ≤ k + 32 * (bi_.size a : Nat) ∧ y0.length = a.where_.length ∧ y1.length = a.show_.length ∧ Ev (fun n _ => bI_ n a k) (k', y0, y1) ∧ True := by
  simp only [bi_.size] at hb ⊢
  obtain ⟨k1, y0, u1, v1, ly0, e1, g1⟩ := jI_ (a := a.where_) (k := k) (by have := cp_ aO_.size (a.where_); omega) (by omega) (by omega)
  obtain ⟨k5, y1, u5, v5, ly1, e5, g5⟩ := ha_ (a := a.show_) (k := k1) (by have := cp_ szI (a.show_); omega) (by omega) (by omega)
  refine ⟨k5, y0, y1, by omega, by omega, ly0, ly1, aJ_ ?_, trivial⟩
  · simp only [bI_, aj_ e1, aj_ e5, ly0, ly1, Nat.beq_refl, List.length_nil, cond_true, ax_]
theorem kA_ {a : List TRow} {k : Int} (ha : a.length ≤ b5_) (hk : 0 ≤ k) (hb : k + 32 * ((cF_ TRow.size) a : Nat) ≤ b5_) :
    ∃ k' a', k ≤ k' ∧ k' ≤ k + 32 * ((cF_ TRow.size) a : Nat) ∧ a'.length = a.length ∧ Ev (fun n _ => aH_ n a k) (k', a') ∧ True := by
  refine (fe_ TRow.dflt TRow.size (fun n N k i a => aH_.loop3 n (fun xy4 xy5 => (some (xy4, xy5))) N k (i : Int) a) (fun i a k hi ha hk hb => ?_) (fun a k => ?_) a k ha hk hb).elim fun k' ⟨a', h1, h2, h3, h4, h5⟩ => ⟨k', a', h1, h2, h3, aJ_ h4, h5⟩
  · generalize hx : a.getD i TRow.dflt = x at *
    simp only [TRow.size] at hb ⊢
    obtain ⟨k1, y1, u1, v1, l1, e1, g1⟩ := ha_ (a := x.cells) (k := k + 1) (by have := cp_ szI (x.cells); omega) (by omega) (by omega)
    refine ⟨k1, (TRow.mk k y1), by omega, by omega, fun F hF => ?_⟩
    · show Ev (fun n N => aH_.step3 n (fun xy4 xy5 => (some (xy4, xy5))) (aH_.loop3 n (fun xy4 xy5 => (some (xy4, xy5))) N) k (i : Int) a) F
      simp only [aH_.step3, Int.toNat_natCast, ay_, bU_, List.length_set, List.set_set, ew_ TRow.dflt hi, hx, aj_ e1, di_ (k := k) (by omega) (by omega), l1, W_up hi ha, decide_eq_true_eq, decide_eq_false_iff_not, Nat.beq_refl]
      refine ⟨fun _ => ?_, fun h => absurd hi (by simpa using h)⟩
      repeat' (first | exact hF | apply And.intro | intro _ | omega)
      all_goals (first | exact hF | (simp_all; done) | omega)
  · show Ev (fun n N => aH_.step3 n (fun xy4 xy5 => (some (xy4, xy5))) (aH_.loop3 n (fun xy4 xy5 => (some (xy4, xy5))) N) k (a.length : Int) a) _
    simp only [aH_.step3, ay_, ax_]
    exact ⟨fun h => absurd (of_decide_eq_true h) (by omega), fun _ => trivial⟩
theorem kB_ {a : List TKid} {k : Int} (ha : a.length ≤ b5_) (hk : 0 ≤ k) (hb : k + 32 * ((cF_ TKid.size) a : Nat) ≤ b5_) :
    ∃ k' a', k ≤ k' ∧ k' ≤ k + 32 * ((cF_ TKid.size) a : Nat) ∧ a'.length = a.length ∧ Ev (fun n _ => aI_ n a k) (k', a') ∧ True := by
  refine (fe_ TKid.dflt TKid.size (fun n N k i a => aI_.loop3 n (fun xy3 xy4 => (some (xy3, xy4))) N k (i : Int) a) (fun i a k hi ha hk hb => ?_) (fun a k => ?_) a k ha hk hb).elim fun k' ⟨a', h1, h2, h3, h4, h5⟩ => ⟨k', a', h1, h2, h3, aJ_ h4, h5⟩
  · generalize hx : a.getD i TKid.dflt = x at *
    simp only [TKid.size] at hb ⊢
    
    refine ⟨(k + 1) + 1, (TKid.mk k (k + 1)), by omega, by omega, fun F hF => ?_⟩
    · show Ev (fun n N => aI_.step3 n (fun xy3 xy4 => (some (xy3, xy4))) (aI_.loop3 n (fun xy3 xy4 => (some (xy3, xy4))) N) k (i : Int) a) F
      simp only [aI_.step3, Int.toNat_natCast, ay_, bU_, List.length_set, List.set_set, ew_ TKid.dflt hi, hx, di_ (k := k) (by omega) (by omega), di_ (k := k + 1) (by omega) (by omega), W_up hi ha, decide_eq_true_eq, decide_eq_false_iff_not, Nat.beq_refl]
      refine ⟨fun _ => ?_, fun h => absurd hi (by simpa using h)⟩
      repeat' (first | exact hF | apply And.intro | intro _ | omega)
      all_goals (first | exact hF | (simp_all; done) | omega)
  · show Ev (fun n N => aI_.step3 n (fun xy3 xy4 => (some (xy3, xy4))) (aI_.loop3 n (fun xy3 xy4 => (some (xy3, xy4))) N) k (a.length : Int) a) _
    simp only [aI_.step3, ay_, ax_]
    exact ⟨fun h => absurd (of_decide_eq_true h) (by omega), fun _ => trivial⟩
theorem g9_ {a : bB_} {k : Int} (hk : 0 ≤ k) (hb : k + 32 * (bB_.size a : Nat) ≤ b5_) :
    ∃ k' y0 y1 y2 y3, k ≤ k' ∧ k' ≤ k + 32 * (bB_.size a : Nat) ∧ y0.length = a.q.where_.length ∧ y1.length = a.q.show_.length ∧ y2.length = a.rows.length ∧ y3.length = a.kids.length ∧ Ev (fun n _ => bO_ n a k) (k', y0, y1, y2, y3) ∧ True := by
  simp only [bB_.size] at hb ⊢
  obtain ⟨k0, y0, y1, u0, v0, ly0, ly1, e0, g0⟩ := jG_ (a := a.q) (k := k) (by omega) (by omega)
  obtain ⟨k1, y2, u1, v1, ly2, e1, g1⟩ := kA_ (a := a.rows) (k := k0) (by have := cp_ TRow.size (a.rows); omega) (by omega) (by omega)
  obtain ⟨k2, y3, u2, v2, ly3, e2, g2⟩ := kB_ (a := a.kids) (k := k1) (by have := cp_ TKid.size (a.kids); omega) (by omega) (by omega)
  refine ⟨k2, y0, y1, y2, y3, by omega, by omega, ly0, ly1, ly2, ly3, aJ_ ?_, trivial⟩
  · simp only [bO_, aj_ e0, aj_ e1, aj_ e2, ly0, ly1, ly2, ly3, Nat.beq_refl, List.length_nil, cond_true, ax_]
theorem et_ (n : Nat) (k0 : Bs → Option Bs) (N : Nat) (k : Int) (out : Bs) : aB_.loop6 n k0 (N + 1) k out = aB_.step6 n k0 (aB_.loop6 n k0 N) k out := rfl
theorem fw_ (k : Int) (hk : k ≤ b5_) : ∃ t, Ev (fun n _ => aB_ n k) t := by
  by_cases h0 : k ≤ 0
  · exact ⟨[109, 48], aJ_ (by simp only [aB_, ay_, ax_]; exact ⟨fun _ => trivial, fun h => absurd h0 (of_decide_eq_false h)⟩)⟩
  have key : ∀ (j : Nat) (k : Int) (out : Bs), k < 10 ^ j → k ≤ b5_ → out.length + j ≤ 100 → ∃ t, Ev (fun n N => aB_.loop6 n (fun xy2 => (cond (decide ([109].length + xy2.length ≤ 9223372036854775807)) (some (([109] : Bs) ++ xy2)) none)) N k out) t := by
    intro j
    induction j with
    | zero =>
      intro k out hj hk ho
      refine ⟨[109] ++ out, b8_ ?_⟩
      simp only [et_, aB_.step6, ay_, ax_, c5_]
      exact ⟨fun h => absurd (of_decide_eq_true h) (by simp at hj; omega), fun _ => ⟨fun _ => trivial, fun h => absurd (of_decide_eq_false h) (by simp; omega)⟩⟩
    | succ j ih =>
      intro k out hj hk ho
      by_cases hp : k > 0
      · have e1 : Int.tdiv k 10 = k / 10 := Int.tdiv_eq_ediv_of_nonneg (by omega)
        have e2 : W (Int.tdiv k 10) = k / 10 := by rw [e1]; exact W_id (by omega) (by simp only [b5_] at hk; omega)
        obtain ⟨t, ht⟩ := ih (k / 10) ((toBs ([(IntKind.u8.wrap ((W (48 + (Int.tmod k 10)))))] : List Int)) ++ out) (by rw [Int.pow_succ] at hj; omega) (by simp only [b5_] at hk ⊢; omega) (by simp [toBs]; omega)
        refine ⟨t, b8_ ?_⟩
        simp only [et_, aB_.step6, ay_, c5_, e2]
        exact ⟨fun _ => ⟨fun _ => ht, fun h => absurd (of_decide_eq_false h) (by simp [toBs]; omega)⟩, fun h => absurd hp (of_decide_eq_false h)⟩
      · refine ⟨[109] ++ out, b8_ ?_⟩
        simp only [et_, aB_.step6, ay_, ax_, c5_]
        exact ⟨fun h => absurd (of_decide_eq_true h) hp, fun _ => ⟨fun _ => trivial, fun h => absurd (of_decide_eq_false h) (by simp; omega)⟩⟩
  obtain ⟨t, ht⟩ := key 19 k [] (by simp only [b5_] at hk; omega) hk (by simp)
  refine ⟨t, aJ_ ?_⟩
  simp only [aB_, ay_]
  exact ⟨fun h => absurd (of_decide_eq_true h) h0, fun _ => dh_ (f := fun n N => aB_.loop6 n _ N k []) ht⟩
theorem ee_ {a : List Bs} {k : Int} (ha : a.length ≤ b5_) (hk : 0 ≤ k) (hb : k + 32 * ((cF_ szB) a : Nat) ≤ b5_) :
    ∃ k' a', k ≤ k' ∧ k' ≤ k + 32 * ((cF_ szB) a : Nat) ∧ a'.length = a.length ∧ Ev (fun n _ => an_ n a k) (k', a') ∧ Ev (fun n _ => ao_ n a' k) k' := by
  refine (jF_ [] szB (fun n N k i a => an_.loop3 n (fun xy3 xy4 => (some (xy3, xy4))) N k (i : Int) a) (fun n N a k i => ao_.loop3 n (fun xy2 => (some xy2)) N a k (i : Int)) (fun i a k hi ha hk hb => ?_) (fun a k => ?_) (fun a k => ?_) a k ha hk hb).elim fun k' ⟨a', h1, h2, h3, h4, h5⟩ => ⟨k', a', h1, h2, h3, aJ_ h4, aJ_ h5⟩
  · generalize hx : a.getD i [] = x at *
    simp only [szB] at hb ⊢
    obtain ⟨t0, ht0⟩ := fw_ (k) (by omega)
    refine ⟨k + 1, t0, by omega, by omega, fun F hF => ?_, fun b F hi' hb' hxb hF => ?_⟩
    · show Ev (fun n N => an_.step3 n (fun xy3 xy4 => (some (xy3, xy4))) (an_.loop3 n (fun xy3 xy4 => (some (xy3, xy4))) N) k (i : Int) a) F
      simp only [an_.step3, Int.toNat_natCast, ay_, bU_, List.length_set, List.set_set, ew_ [] hi, hx, aj_ ht0, di_ (k := k) (by omega) (by omega), W_up hi ha, decide_eq_true_eq, decide_eq_false_iff_not, Nat.beq_refl]
      refine ⟨fun _ => ?_, fun h => absurd hi (by simpa using h)⟩
      repeat' (first | exact hF | apply And.intro | intro _ | omega)
      all_goals (first | exact hF | (simp_all; done) | omega)
    · show Ev (fun n N => ao_.step3 n (fun xy2 => (some xy2)) (ao_.loop3 n (fun xy2 => (some xy2)) N) b k (i : Int)) F
      simp only [ao_.step3, Int.toNat_natCast, ay_, bU_, hxb, bne_self_eq_false, beq_self_eq_true, Bool.not_true, cond_false, aj_ ht0, di_ (k := k) (by omega) (by omega), W_up hi' hb', decide_eq_true_eq, decide_eq_false_iff_not]
      refine ⟨fun _ => ?_, fun h => absurd hi' (by simpa using h)⟩
      repeat' (first | exact hF | apply And.intro | intro _ | omega)
      all_goals (first | exact hF | (simp_all; done) | omega)
  · show Ev (fun n N => an_.step3 n (fun xy3 xy4 => (some (xy3, xy4))) (an_.loop3 n (fun xy3 xy4 => (some (xy3, xy4))) N) k (a.length : Int) a) _
    simp only [an_.step3, ay_, ax_]
    exact ⟨fun h => absurd (of_decide_eq_true h) (by omega), fun _ => trivial⟩
  · show Ev (fun n N => ao_.step3 n (fun xy2 => (some xy2)) (ao_.loop3 n (fun xy2 => (some xy2)) N) a k (a.length : Int)) _
    simp only [ao_.step3, ay_, ax_]
    exact ⟨fun h => absurd (of_decide_eq_true h) (by omega), fun _ => trivial⟩
theorem fU_ (a : List aa_) (k : Int) (ha : a.length ≤ b5_) (hk : 0 ≤ k) (hb : k + 32 * ((cF_ aa_.size) a : Nat) ≤ b5_) :
    ∃ k' a', k ≤ k' ∧ k' ≤ k + 32 * ((cF_ aa_.size) a : Nat) ∧ a'.length = a.length ∧ Ev (fun n _ => aq_ n a k) (k', a') ∧ Ev (fun n _ => ar_ n a' k) k' := by
  have hq : ∀ i, i < a.length → a.getD i aa_.dflt ∈ a := fun i hi => b6_ aa_.dflt hi
  obtain ⟨a0, ha0⟩ : ∃ a0, a0 = a := ⟨_, rfl⟩
  refine (h3_ (fun x => x ∈ a0) aa_.dflt aa_.size (fun n N k i a => aq_.loop3 n (aq_ n) (fun xy9 xy10 => (some (xy9, xy10))) N k (i : Int) a) (fun n N a k i => ar_.loop3 n (ar_ n) (fun xy4 => (some xy4)) N a k (i : Int)) (fun i a k hi hxm ha hk hb => ?_) (fun a k => ?_) (fun a k => ?_) a k (by rw [ha0]; exact hq) ha hk hb).elim fun k' ⟨a', h1, h2, h3, h4, h5⟩ => ⟨k', a', h1, h2, h3, aJ_ h4, aJ_ h5⟩
  · clear hq
    generalize hx : a.getD i aa_.dflt = x at *
    rw [ha0] at hxm
    have hdec := aa_.dec hxm
    simp only [aa_.size_eq] at hb ⊢
    obtain ⟨t2, ht2⟩ := fw_ ((k + 1) + 1) (by omega)
    obtain ⟨k3, y3, u3, v3, l3, e3, g3⟩ := fU_ x.list (((k + 1) + 1) + 1) (by have := cp_ aa_.size (x.list); omega) (by omega) (by omega)
    obtain ⟨k4, y4, u4, v4, l4, e4, g4⟩ := ee_ (a := x.names) (k := k3) (by have := cp_ szB (x.names); omega) (by omega) (by omega)
    refine ⟨k4, (aa_.mk k (k + 1) t2 y3 y4), by omega, by omega, fun F hF => ?_, fun b F hi' hb' hxb hF => ?_⟩
    · show Ev (fun n N => aq_.step3 n (aq_ n) (fun xy9 xy10 => (some (xy9, xy10))) (aq_.loop3 n (aq_ n) (fun xy9 xy10 => (some (xy9, xy10))) N) k (i : Int) a) F
      simp only [aq_.step3, Int.toNat_natCast, ay_, bU_, List.length_set, List.set_set, ew_ aa_.dflt hi, hx, aj_ ht2, aj_ e3, aj_ e4, aa_.re_eq, di_ (k := k) (by omega) (by omega), di_ (k := k + 1) (by omega) (by omega), di_ (k := (k + 1) + 1) (by omega) (by omega), l3, l4, W_up hi ha, decide_eq_true_eq, decide_eq_false_iff_not, Nat.beq_refl]
      refine ⟨fun _ => ?_, fun h => absurd hi (by simpa using h)⟩
      repeat' (first | exact hF | apply And.intro | intro _ | omega)
      all_goals (first | exact hF | (simp_all; done) | omega)
    · show Ev (fun n N => ar_.step3 n (ar_ n) (fun xy4 => (some xy4)) (ar_.loop3 n (ar_ n) (fun xy4 => (some xy4)) N) b k (i : Int)) F
      simp only [ar_.step3, Int.toNat_natCast, ay_, bU_, hxb, bne_self_eq_false, beq_self_eq_true, Bool.not_true, cond_false, aj_ g3, aj_ g4, aj_ ht2, aa_.re_eq, di_ (k := k) (by omega) (by omega), di_ (k := k + 1) (by omega) (by omega), di_ (k := (k + 1) + 1) (by omega) (by omega), l3, l4, W_up hi' hb', decide_eq_true_eq, decide_eq_false_iff_not]
      refine ⟨fun _ => ?_, fun h => absurd hi' (by simpa using h)⟩
      repeat' (first | exact hF | apply And.intro | intro _ | omega)
      all_goals (first | exact hF | (simp_all; done) | omega)
  · show Ev (fun n N => aq_.step3 n (aq_ n) (fun xy9 xy10 => (some (xy9, xy10))) (aq_.loop3 n (aq_ n) (fun xy9 xy10 => (some (xy9, xy10))) N) k (a.length : Int) a) _
    simp only [aq_.step3, ay_, ax_]
    exact ⟨fun h => absurd (of_decide_eq_true h) (by omega), fun _ => trivial⟩
  · show Ev (fun n N => ar_.step3 n (ar_ n) (fun xy4 => (some xy4)) (ar_.loop3 n (ar_ n) (fun xy4 => (some xy4)) N) a k (a.length : Int)) _
    simp only [ar_.step3, ay_, ax_]
    exact ⟨fun h => absurd (of_decide_eq_true h) (by omega), fun _ => trivial⟩
termination_by SizeOf.sizeOf a
decreasing_by assumption
theorem jH_ {a : List aa_} {k : Int} (ha : a.length ≤ b5_) (hk : 0 ≤ k) (hb : k + 32 * (cF_ aa_.size a : Nat) ≤ b5_) :
    ∃ k' a', k ≤ k' ∧ k' ≤ k + 32 * (cF_ aa_.size a : Nat) ∧ a'.length = a.length ∧ Ev (fun n _ => aq_ n a k) (k', a') ∧ Ev (fun n _ => ar_ n a' k) k' := fU_ a k ha hk hb
theorem md_ {a : List TOp} {k : Int} (ha : a.length ≤ b5_) (hk : 0 ≤ k) (hb : k + 32 * ((cF_ TOp.size) a : Nat) ≤ b5_) :
    ∃ k' a', k ≤ k' ∧ k' ≤ k + 32 * ((cF_ TOp.size) a : Nat) ∧ a'.length = a.length ∧ Ev (fun n _ => aT_ n a k) (k', a') ∧ Ev (fun n _ => aQ_ n a' k) k' := by
  refine (jF_ TOp.dflt TOp.size (fun n N k i a => aT_.loop3 n (fun xy12 xy13 => (some (xy12, xy13))) N k (i : Int) a) (fun n N a k i => aQ_.loop3 n (fun xy5 => (some xy5)) N a k (i : Int)) (fun i a k hi ha hk hb => ?_) (fun a k => ?_) (fun a k => ?_) a k ha hk hb).elim fun k' ⟨a', h1, h2, h3, h4, h5⟩ => ⟨k', a', h1, h2, h3, aJ_ h4, aJ_ h5⟩
  · generalize hx : a.getD i TOp.dflt = x at *
    simp only [TOp.size, aa_.size_eq] at hb ⊢
    obtain ⟨k1, y1, u1, v1, l1, e1, g1⟩ := ee_ (a := x.way) (k := k + 1) (by have := cp_ szB (x.way); omega) (by omega) (by omega)
    obtain ⟨t4, ht4⟩ := fw_ ((k1 + 1) + 1) (by omega)
    obtain ⟨k5, y5, u5, v5, l5, e5, g5⟩ := jH_ (a := x.value.list) (k := ((k1 + 1) + 1) + 1) (by have := cp_ aa_.size (x.value.list); omega) (by omega) (by omega)
    obtain ⟨k6, y6, u6, v6, l6, e6, g6⟩ := ee_ (a := x.value.names) (k := k5) (by have := cp_ szB (x.value.names); omega) (by omega) (by omega)
    refine ⟨k6, (TOp.mk k y1 (aa_.mk k1 (k1 + 1) t4 y5 y6)), by omega, by omega, fun F hF => ?_, fun b F hi' hb' hxb hF => ?_⟩
    · show Ev (fun n N => aT_.step3 n (fun xy12 xy13 => (some (xy12, xy13))) (aT_.loop3 n (fun xy12 xy13 => (some (xy12, xy13))) N) k (i : Int) a) F
      simp only [aT_.step3, Int.toNat_natCast, ay_, bU_, List.length_set, List.set_set, ew_ TOp.dflt hi, hx, aj_ e1, aj_ ht4, aj_ e5, aj_ e6, aa_.re_eq, TOp.eta, di_ (k := k) (by omega) (by omega), l1, di_ (k := k1) (by omega) (by omega), di_ (k := k1 + 1) (by omega) (by omega), di_ (k := (k1 + 1) + 1) (by omega) (by omega), l5, l6, W_up hi ha, decide_eq_true_eq, decide_eq_false_iff_not, Nat.beq_refl]
      refine ⟨fun _ => ?_, fun h => absurd hi (by simpa using h)⟩
      repeat' (first | exact hF | apply And.intro | intro _ | omega)
      all_goals (first | exact hF | (simp_all; done) | omega)
    · show Ev (fun n N => aQ_.step3 n (fun xy5 => (some xy5)) (aQ_.loop3 n (fun xy5 => (some xy5)) N) b k (i : Int)) F
      simp only [aQ_.step3, Int.toNat_natCast, ay_, bU_, hxb, bne_self_eq_false, beq_self_eq_true, Bool.not_true, cond_false, aj_ g1, aj_ g5, aj_ g6, aj_ ht4, aa_.re_eq, TOp.eta, di_ (k := k) (by omega) (by omega), l1, di_ (k := k1) (by omega) (by omega), di_ (k := k1 + 1) (by omega) (by omega), di_ (k := (k1 + 1) + 1) (by omega) (by omega), l5, l6, W_up hi' hb', decide_eq_true_eq, decide_eq_false_iff_not]
      refine ⟨fun _ => ?_, fun h => absurd hi' (by simpa using h)⟩
      repeat' (first | exact hF | apply And.intro | intro _ | omega)
      all_goals (first | exact hF | (simp_all; done) | omega)
  · show Ev (fun n N => aT_.step3 n (fun xy12 xy13 => (some (xy12, xy13))) (aT_.loop3 n (fun xy12 xy13 => (some (xy12, xy13))) N) k (a.length : Int) a) _
    simp only [aT_.step3, ay_, ax_]
    exact ⟨fun h => absurd (of_decide_eq_true h) (by omega), fun _ => trivial⟩
  · show Ev (fun n N => aQ_.step3 n (fun xy5 => (some xy5)) (aQ_.loop3 n (fun xy5 => (some xy5)) N) a k (a.length : Int)) _
    simp only [aQ_.step3, ay_, ax_]
    exact ⟨fun h => absurd (of_decide_eq_true h) (by omega), fun _ => trivial⟩
end Go.Pi
end
section
set_option linter.unusedVariables false
set_option maxRecDepth 100000
set_option linter.unusedSimpArgs false
namespace Go.Pi
def lenOps (l : List TOp) : Prop := l.length ≤ 4000000 ∧ ∀ o ∈ l, lenOp o
end Go.Pi
end
section
set_option linter.unusedVariables false
set_option maxRecDepth 100000
set_option linter.unusedSimpArgs false
namespace Go.Pi
def i7_ (old now : List am_) : List TOp := (en_ now (ju_ (bF_ now) old old.length old []) now.length).2
def dJ_ (docs : List aa_) (keys : List Int) (docs' : List aa_) (keys' : List Int) : List TOp := cond (kOk docs keys) (cond (kOk docs' keys') (i7_ (gc_ docs keys docs.length) (gc_ docs' keys' docs'.length)) []) []
structure KIs (docs : List aa_) (keys : List Int) : Prop where
  len : docs.length = keys.length
  ok : ∀ i, i < docs.length → c6_ (docs.getD i aa_.dflt) = true
  no : ∀ i, i < docs.length → keys.getD i 0 ∉ keys.take i
theorem k_is {docs : List aa_} {keys : List Int} (h : kOk docs keys = true) : KIs docs keys := by
  unfold kOk at h
  rw [Bool.and_eq_true, f8_] at h
  refine ⟨of_decide_eq_true h.1, fun i hi => ?_, fun i hi => ?_⟩
  · have := h.2 i hi
    rw [Bool.and_eq_true] at this; exact this.1
  · have := h.2 i hi
    rw [Bool.and_eq_true] at this
    simpa using this.2
theorem gU_ {docs : List aa_} {keys : List Int} {m i : Nat} (h : i < m) : (gc_ docs keys m).getD i am_.dflt = am_.mk (keys.getD i 0) (docs.getD i aa_.dflt) := by
  unfold gc_
  rw [ex_ (fun i => am_.mk (keys.getD i 0) (docs.getD i aa_.dflt)) 0 am_.dflt (by simpa using h)]
  have : (List.range m).getD i 0 = i := by
    rw [List.getD_eq_getElem?_getD, List.getElem?_range h]; rfl
  rw [this]
theorem hZ_ {α : Type} (d : α) (l : List α) : (List.range l.length).map (fun i => l.getD i d) = l := by
  apply List.ext_getElem?
  intro i
  by_cases h : i < l.length
  · rw [List.getElem?_map, List.getElem?_range h, List.getElem?_eq_getElem h]
    simp only [Option.map_some]
    rw [List.getD_eq_getElem?_getD, List.getElem?_eq_getElem h]; rfl
  · rw [List.getElem?_eq_none (by simpa using h), List.getElem?_eq_none (by omega)]
theorem gS_ {docs : List aa_} {keys : List Int} : (gc_ docs keys docs.length).map (·.value) = docs := by
  unfold gc_
  rw [List.map_map]
  exact hZ_ aa_.dflt docs
theorem jb_ {docs : List aa_} {keys : List Int} (h : docs.length = keys.length) : bF_ (gc_ docs keys docs.length) = keys := by
  unfold bF_ gc_
  rw [List.map_map, h]
  exact hZ_ 0 keys
theorem iL_ {α : Type} (d : α) {l : List α} {x : α} (h : x ∈ l) : ∃ i, i < l.length ∧ l.getD i d = x := by
  obtain ⟨i, hi, e⟩ := List.mem_iff_getElem.1 h
  exact ⟨i, hi, by rw [List.getD_eq_getElem?_getD, List.getElem?_eq_getElem hi]; exact e⟩
theorem iw_ {α : Type} (d : α) {l : List α} {i j : Nat} (h : i < j) (hj : j ≤ l.length) : l.getD i d ∈ l.take j := by
  have e : (l.take j).getD i d = l.getD i d := by rw [List.getD_eq_getElem?_getD, List.getD_eq_getElem?_getD, List.getElem?_take_of_lt h]
  rw [← e]; exact b6_ d (by simp; omega)
theorem fG_ {docs : List aa_} {keys : List Int} (h : KIs docs keys) : i0_ (gc_ docs keys docs.length) := by
  intro i j hij hj
  rw [dQ_] at hj
  rw [gU_ (by omega), gU_ hj]
  intro e
  have e : keys.getD i 0 = keys.getD j 0 := e
  exact h.no j hj (e ▸ iw_ 0 hij (by have := h.len; omega))
theorem iZ_ {l : List am_} (h : i0_ l) : ∀ x ∈ l, ∀ y ∈ l, x.key = y.key → x = y := by
  intro x hx y hy e
  obtain ⟨i, hi, ei⟩ := iL_ am_.dflt hx
  obtain ⟨j, hj, ej⟩ := iL_ am_.dflt hy
  rcases Nat.lt_trichotomy i j with hij | hij | hij
  · exact absurd (by rw [ei, ej, e]) (h i j hij hj)
  · subst hij; rw [← ei, ← ej]
  · exact absurd (by rw [ei, ej, e]) (h j i hij hi)
theorem gT_ {docs : List aa_} {keys : List Int} (h : KIs docs keys) (hJ : ∀ j ∈ docs, gb_ 6 j) : ∀ x ∈ gc_ docs keys docs.length, okK x := by
  intro x hx
  obtain ⟨i, hi, e⟩ := iL_ am_.dflt hx
  rw [dQ_] at hi
  rw [gU_ hi] at e
  rw [← e]
  exact ⟨h.ok i hi, hJ _ (b6_ aa_.dflt hi)⟩
section
variable {docs docs' : List aa_} {keys keys' : List Int} (hd : docs.length ≤ 1500000) (hd' : docs'.length ≤ 1500000) (hJ : ∀ j ∈ docs, gb_ 6 j) (hJ' : ∀ j ∈ docs', gb_ 6 j)
include hd hd' hJ hJ'
theorem jU_ : Ev (fun n _ => aL_ n docs keys docs' keys') (dJ_ docs keys docs' keys') := by
  refine aJ_ ?_
  simp only [aL_, aj_ (eX_ (keys := keys) (by omega) hJ), aj_ (eX_ (keys := keys') (by omega) hJ'), ay_, ax_, dJ_]
  cases h1 : kOk docs keys with
  | false => exact ⟨fun _ => rfl, fun h => (by cases h)⟩
  | true =>
    cases h2 : kOk docs' keys' with
    | false => exact ⟨fun h => (by cases h), fun _ => ⟨fun _ => rfl, fun h => (by cases h)⟩⟩
    | true =>
      refine ⟨fun h => (by cases h), fun _ => ⟨fun h => (by cases h), fun _ => ?_⟩⟩
      simp only [cond_true]
      have k1 := k_is h1
      have k2 := k_is h2
      have o1 := gT_ k1 hJ
      have o2 := gT_ k2 hJ'
      have l1 := dQ_ (docs := docs) (keys := keys) (m := docs.length)
      have l2 := dQ_ (docs := docs') (keys := keys') (m := docs'.length)
      generalize gc_ docs keys docs.length = old at o1 l1 ⊢
      generalize gc_ docs' keys' docs'.length = now at o2 l2 ⊢
      have hr := fO_ (bF_ now) old old.length old [] (Nat.le_refl _)
      have hm := gL_ (bF_ now) old old.length old []
      rw [W_dn (show old.length ≤ b5_ by simp only [b5_]; omega)]
      simp only [List.length_nil] at hr
      refine dh_ (f := fun n N => aL_.loop9 n (fun xy6 xy7 xy8 => (aL_.loop17 n (fun xy21 => (some xy21)) n (xy7.length : Int) 0 xy6 xy8 xy7)) N ((old.length : Int) - 1) old now []) (kH_ (old := old) (by omega) (fun n xy6 xy7 xy8 => (aL_.loop17 n (fun xy21 => (some xy21)) n (xy7.length : Int) 0 xy6 xy8 xy7)) _ old.length old [] rfl (Nat.le_refl _) (by omega) (by simp only [List.length_nil]; omega) ?_)
      exact impl_add (by omega) (by omega) (by omega) o2 fun x hx => o1 x (hm x hx)
theorem jl_ (hk : keys.length ≤ 1500000) (hk' : keys'.length ≤ 1500000) : Ev (fun n _ => cH_ n docs keys docs' keys') (dJ_ docs keys docs' keys') := by
  refine aJ_ ?_
  simp only [cH_, aj_ (fn_ (docs := docs) (keys := keys) (by omega) (by omega) hJ), aj_ (fn_ (docs := docs') (keys := keys') (by omega) (by omega) hJ'), ay_, ax_, dJ_]
  cases h1 : kOk docs keys with
  | false => exact ⟨fun _ => rfl, fun h => (by cases h)⟩
  | true =>
    cases h2 : kOk docs' keys' with
    | false => exact ⟨fun h => (by cases h), fun _ => ⟨fun _ => rfl, fun h => (by cases h)⟩⟩
    | true =>
      refine ⟨fun h => (by cases h), fun _ => ⟨fun h => (by cases h), fun _ => ?_⟩⟩
      simp only [cond_true]
      have k1 := k_is h1
      have k2 := k_is h2
      have o1 := gT_ k1 hJ
      have o2 := gT_ k2 hJ'
      have d1 := iZ_ (fG_ k1)
      have d2 := fG_ k2
      have l1 := dQ_ (docs := docs) (keys := keys) (m := docs.length)
      have l2 := dQ_ (docs := docs') (keys := keys') (m := docs'.length)
      have hR : Ev (fun n _ => as_ n docs keys docs' keys') (i7_ (gc_ docs keys docs.length) (gc_ docs' keys' docs'.length)) := by
        have v1 := gS_ (docs := docs) (keys := keys)
        have v2 := gS_ (docs := docs') (keys := keys')
        have e1 := jb_ k1.len
        have e2 := jb_ k2.len
        generalize gc_ docs keys docs.length = old at o1 l1 d1 v1 e1 ⊢
        generalize gc_ docs' keys' docs'.length = now at o2 l2 d2 v2 e2 ⊢
        subst e1 e2 v1 v2
        simp only [List.length_map] at l1 l2 hd hd'
        have hr := fO_ (bF_ now) old old.length old [] (Nat.le_refl _)
        have hm := gL_ (bF_ now) old old.length old []
        simp only [List.length_nil] at hr
        refine aJ_ ?_
        simp only [as_, cG_, List.nil_append, List.length_nil, co_, W_dn (show old.length ≤ b5_ by simp only [b5_]; omega)]
        refine ⟨by omega, ?_⟩
        refine dh_ (f := fun n N => as_.loop5 n (fun xy4 xy5 xy6 xy7 xy8 xy9 => (as_.loop13 n (fun xy21 => (some xy21)) n xy4 xy5 xy6 xy7 0 xy8 xy9)) N (old.map (·.value)) (bF_ old) (now.map (·.value)) (bF_ now) ((old.length : Int) - 1) [] (bF_ old)) (kt_ (old := old) (by omega) (by omega) _ _ (fun n xy4 xy5 xy6 xy7 xy8 xy9 => (as_.loop13 n (fun xy21 => (some xy21)) n xy4 xy5 xy6 xy7 0 xy8 xy9)) _ old.length old [] (Nat.le_refl _) (Nat.le_refl _) (by omega) (by simp only [List.length_nil]; omega) ?_)
        exact spec_add (by omega) (by omega) (by omega) (by omega) o2 o1 (fun x hx => hm x hx) d2 d1
      simp only [aj_ hR, ax_]
end
def opK (o : TOp) : Prop := (∃ t : Bs, t.length ≤ 25 ∧ o.way = [t]) ∧ cO_ 6 o.value ≤ 400 ∧ gb_ 6 o.value
theorem jA_ : cO_ 6 (aa_.mk 0 0 [] [] []) ≤ 400 := by decide
theorem gh_ {k : Nat} (h : k ≤ 4000000) : (Lib.itoa (k : Int)).length ≤ 25 := by
  have := Lib.itoa_length_le (k : Int) (by omega) (by omega); omega
theorem rmOp_ok {k : Nat} (h : k ≤ 4000000) : opK (rmOp k) := ⟨⟨_, gh_ h, rfl⟩, jA_, hc_ 6⟩
theorem iC_ (nk : List Int) (old : List am_) : ∀ k l ops, k ≤ 4000000 → (∀ o ∈ ops, opK o) → ∀ o ∈ (ju_ nk old k l ops).2, opK o
  | 0, l, ops, _, h => h
  | k + 1, l, ops, hk, h => by
    simp only [ju_]
    split
    · exact iC_ nk old k l ops (by omega) h
    · refine iC_ nk old k (del l k) _ (by omega) fun o ho => ?_
      rcases List.mem_append.1 ho with ho | ho
      · exact h o ho
      · rw [List.mem_singleton.1 ho]; exact rmOp_ok (by omega)
theorem mB_ {l : List am_} {i : Nat} {x : am_} (hl : l.length ≤ 4000000) (hi : i ≤ 4000000) (hx : okK x) : ∀ o ∈ (d9_ l i x).2, opK o := by
  have ha : ∀ k, k ≤ 4000000 → opK (addOp k x.value) := fun k hk => ⟨⟨_, gh_ hk, rfl⟩, fd_ hx, hx.2⟩
  have hr : ∀ k, k ≤ 4000000 → opK (repOp k x.value) := fun k hk => ⟨⟨_, gh_ hk, rfl⟩, fd_ hx, hx.2⟩
  unfold d9_
  by_cases h1 : kAt (bF_ l) x.key = (i : Int)
  · rw [if_pos h1]
    dsimp only
    cases dx_ 6 (l.getD i am_.dflt).value x.value with
    | true => intro o ho; cases ho
    | false => intro o ho; rw [List.mem_singleton.1 ho]; exact hr i hi
  · rw [if_neg h1]
    by_cases h2 : (i : Int) < kAt (bF_ l) x.key
    · rw [if_pos h2]
      obtain ⟨p, hp, h3, h4⟩ := jO_ h2
      intro o ho
      rw [hp, Int.toNat_natCast] at ho
      rcases List.mem_cons.1 ho with e | ho
      · rw [e]; exact rmOp_ok (by omega)
      · rw [List.mem_singleton.1 ho]; exact ha i hi
    · rw [if_neg h2]
      intro o ho
      rw [List.mem_singleton.1 ho]; exact ha i hi
theorem ki_ {now : List am_} {s : List am_ × List TOp} (hnl : now.length ≤ 1500000) (hsl : s.1.length ≤ 1500000) (hn : ∀ x ∈ now, okK x) (h : ∀ o ∈ s.2, opK o) : ∀ i, i ≤ now.length → ∀ o ∈ (en_ now s i).2, opK o
  | 0, _ => h
  | i + 1, hi => by
    intro o ho
    simp only [en_] at ho
    have hL := e5_ now s i
    rcases List.mem_append.1 ho with ho | ho
    · exact ki_ hnl hsl hn h i (by omega) o ho
    · exact mB_ (by omega) (by omega) (hn _ (b6_ am_.dflt (by omega))) o ho
theorem mJ_ {docs docs' : List aa_} {keys keys' : List Int} (hd : docs.length ≤ 1500000) (hd' : docs'.length ≤ 1500000) (hJ : ∀ j ∈ docs, gb_ 6 j) (hJ' : ∀ j ∈ docs', gb_ 6 j) : (∀ o ∈ dJ_ docs keys docs' keys', opK o) ∧ (dJ_ docs keys docs' keys').length ≤ docs.length + 2 * docs'.length := by
  unfold dJ_
  cases h1 : kOk docs keys with
  | false => exact ⟨fun o ho => (by cases ho), Nat.zero_le _⟩
  | true =>
    cases h2 : kOk docs' keys' with
    | false => exact ⟨fun o ho => (by cases ho), Nat.zero_le _⟩
    | true =>
      simp only [cond_true, i7_]
      have o2 := gT_ (k_is h2) hJ'
      have l1 := dQ_ (docs := docs) (keys := keys) (m := docs.length)
      have l2 := dQ_ (docs := docs') (keys := keys') (m := docs'.length)
      generalize gc_ docs keys docs.length = old at l1 ⊢
      generalize gc_ docs' keys' docs'.length = now at o2 l2 ⊢
      have hr := fO_ (bF_ now) old old.length old [] (Nat.le_refl _)
      have hL := e5_ now (ju_ (bF_ now) old old.length old []) now.length
      simp only [List.length_nil] at hr
      exact ⟨ki_ (by omega) (by omega) o2 (iC_ _ _ _ _ _ (by omega) fun o ho => (by cases ho)) now.length (Nat.le_refl _), by omega⟩
def iu_ (name : Bs) (o : TOp) : TOp := TOp.mk o.kind (name :: o.way) o.value
def ip_ (name : Bs) (l : List TOp) : List TOp := l.map (iu_ name)
def lenO (l : List TOp) : Prop := l.length ≤ 6000000 ∧ ∀ o ∈ l, o.way.length ≤ 1000000 ∧ cO_ 6 o.value ≤ 400
theorem iz_ {name : Bs} {l : List TOp} (h : lenO l) : Ev (fun n _ => bn_ n name l) (ip_ name l) := by
  refine aJ_ ?_
  have hl := h.1
  have ht : l.length ≤ b5_ := by simp only [b5_]; omega
  simp only [bn_]
  refine ev_map TOp.dflt l (iu_ name) (fun n N i (s : List TOp) => bn_.loop4 n (fun xy2 => (some xy2)) N name l (i : Int) s) _ (fun i s hi hs F hF => ?_) ?_
  · have ho := h.2 _ (b6_ TOp.dflt hi)
    have hC := ea_ 6 _ ho.2
    have hw := ho.1
    simp only [bn_.turn4, bn_.step4, cM_, Int.toNat_natCast, W_up hi ht, c8_ hi, cQ_ hi, cond_true, bU_, cG_, aj_ hC]
    exact ⟨trivial, trivial, by simp only [List.length_cons, List.length_nil]; omega, trivial, by simp only [List.length_cons, List.length_nil]; omega, hF⟩
  · simp only [bn_.turn4, bn_.step4, cX_, cond_false, ax_]; rfl
theorem iU_ {name : Bs} {l : List TOp} (h : lenO l) : Ev (fun n _ => bo_ n name l) (ip_ name l) := by
  refine aJ_ ?_
  have hl := h.1
  have ht : l.length ≤ b5_ := by simp only [b5_]; omega
  simp only [bo_]
  refine ev_map TOp.dflt l (iu_ name) (fun n N i (s : List TOp) => bo_.loop4 n (fun xy2 => (some xy2)) N name l (l.length : Int) (i : Int) s) _ (fun i s hi hs F hF => ?_) ?_
  · have ho := h.2 _ (b6_ TOp.dflt hi)
    have hw := ho.1
    have hT : Ev (fun n _ => bx_ n (l.getD i TOp.dflt).way) (l.getD i TOp.dflt).way := aJ_ (by simp only [bx_, cG_, ax_, List.nil_append, List.length_nil, and_true]; omega)
    have hC : Ev (fun n _ => ck_ n (l.getD i TOp.dflt)) (l.getD i TOp.dflt) := aJ_ (by simp only [ck_, cM_, aj_ hT, aj_ (dM_ 6 _ ho.2), ax_])
    simp only [bo_.turn4, bo_.step4, cM_, op_eta, Int.toNat_natCast, W_up hi ht, c8_ hi, cQ_ hi, cond_true, bU_, cG_, aj_ hC]
    exact ⟨trivial, by simp only [List.length_cons, List.length_nil]; omega, by simp only [List.length_cons, List.length_nil]; omega, hF⟩
  · simp only [bo_.turn4, bo_.step4, cX_, cond_false, ax_]; rfl
end Go.Pi
end
section
set_option linter.unusedVariables false
set_option maxRecDepth 100000
set_option linter.unusedSimpArgs false
namespace Go.Pi
theorem iG_ {k m : Int} {s : Bs} (h : gb_ 6 (aa_.mk k m s [] [])) : Ev (fun n _ => bA_ n k m s) (c3_ (aa_.mk k m s [] [])) := by
  refine aJ_ ?_
  simp only [bA_, cM_, aj_ (ef_ h), ay_, ax_, c3_, mb_]
  cases c6_ (aa_.mk k m s [] []) <;> simp
end Go.Pi
end
section
set_option linter.unusedVariables false
set_option maxRecDepth 100000
set_option linter.unusedSimpArgs false
namespace Go.Pi
def dk_ (v : bB_) : Nat := e9_ v.q v.rows.length
def cZ_ (v : bB_) : List aa_ := gI_ c3_ v.q v.rows (dP_ v) (dk_ v)
def c0_ (v : bB_) : List Int := (List.range (dk_ v)).map fun i => (v.rows.getD i TRow.dflt).id_
theorem dI_ (v : bB_) : dk_ v ≤ v.rows.length := kn_
theorem lA_ (v : bB_) (i : Nat) : ((List.range (i + 1)).map fun i => (v.rows.getD i TRow.dflt).id_) = ((List.range i).map fun i => (v.rows.getD i TRow.dflt).id_) ++ [(v.rows.getD i TRow.dflt).id_] := by
  rw [List.range_succ, List.map_append]; rfl
theorem kU_ {v : bB_} {i : Nat} (h : i < v.rows.length) : (dP_ v).getD i 0 = e8_ v.kids (v.rows.getD i TRow.dflt).id_ := ex_ (fun r : TRow => e8_ v.kids r.id_) TRow.dflt 0 h
section
variable {v : bB_} (h : lenV cap v) (hs : ∀ c ∈ v.q.show_, i64 c)
include h hs
theorem fX_ : Ev (fun n _ => bl_ n v) (cZ_ v, c0_ v) := by
  refine aJ_ ?_
  have h1 := h.1.2; have h2 := h.2.1.1; have h3 := h.2.2
  simp only [cap] at h1 h2 h3
  have hc := lc_ (v := v)
  have hm := dI_ v
  have hD := hh_ (q := v.q) (rows := v.rows) (kids := dP_ v) (by omega) hs h.2.1.top (by omega) (by simp only [b5_]; omega)
  have hl : (cZ_ v).length = dk_ v := ga_
  have hD : Ev (fun n _ => aV_ n v.q v.rows (dP_ v)) (cZ_ v) := hD
  simp only [bl_, aj_ (fY_ (v := v) (by simp only [b5_]; omega) (by simp only [capR]; omega)), aj_ hD, fy_, Int.toNat_natCast, List.drop_zero, hl]
  refine ⟨⟨by omega, by omega, by omega⟩, ?_⟩
  have htl : (v.rows.take (dk_ v)).length = dk_ v := by simp; omega
  unfold c0_
  generalize cZ_ v = docs at hl ⊢
  have := e2_ (fun i => (List.range i).map fun i => (v.rows.getD i TRow.dflt).id_) (dk_ v) (fun n N i (s : List Int) => bl_.loop5 n (fun xy3 xy4 => (some (xy3, xy4))) N (v.rows.take (dk_ v)) ((v.rows.take (dk_ v)).length : Int) (i : Int) docs s) (docs, (List.range (dk_ v)).map fun i => (v.rows.getD i TRow.dflt).id_) (fun i hi F hF => ?_) ?_
  · exact this
  · rw [lA_] at hF
    have hol : ((List.range i).map fun i => (v.rows.getD i TRow.dflt).id_).length = i := by simp
    have hil : i < (v.rows.take (dk_ v)).length := by omega
    have eg : (v.rows.take (dk_ v)).getD i TRow.dflt = v.rows.getD i TRow.dflt := by rw [List.getD_eq_getElem?_getD, List.getD_eq_getElem?_getD, List.getElem?_take_of_lt hi]
    generalize ((List.range i).map fun i => (v.rows.getD i TRow.dflt).id_) = s at hF hol ⊢
    simp only [bl_.turn5, bl_.step5, Int.toNat_natCast, eg, W_up hil (show (v.rows.take (dk_ v)).length ≤ b5_ by simp only [b5_]; omega), c8_ hil, cQ_ hil, cond_true, bU_, cG_]
    exact ⟨trivial, by simp only [List.length_cons, List.length_nil]; omega, hF⟩
  · have e : (((v.rows.take (dk_ v)).length : Nat) : Int) = (dk_ v : Int) := by rw [htl]
    simp only [bl_.turn5, bl_.step5, e, cX_, cond_false, ax_]
theorem eR_ : Ev (fun n _ => aN_ n v) (cZ_ v, c0_ v) := by
  refine aJ_ ?_
  have h1 := h.1.2; have h2 := h.2.1.1; have h3 := h.2.2
  simp only [cap] at h1 h2 h3
  have hm := dI_ v
  simp only [aN_]
  let S : Nat → List aa_ × List Int := fun i => (gI_ c3_ v.q v.rows (dP_ v) i, (List.range i).map fun i => (v.rows.getD i TRow.dflt).id_)
  have := e2_ S (dk_ v) (fun n N i (s : List aa_ × List Int) => aN_.loop5 n (fun xy4 xy5 => (some (xy4, xy5))) N (i : Int) v.q.table v.q.where_ v.q.order v.q.down v.q.first v.q.show_ v.q.kids v.q.kidTable v.q.kidCol v.rows v.kids s.1 s.2) (cZ_ v, c0_ v) (fun i hi F hF => ?_) ?_
  · exact this
  · have hir : i < v.rows.length := by omega
    simp only [S, is_, lA_, kU_ hir] at hF ⊢
    have hol := ga_ (g := c3_) (q := v.q) (rows := v.rows) (kids := dP_ v) (m := i)
    have hol2 : ((List.range i).map fun i => (v.rows.getD i TRow.dflt).id_).length = i := by simp
    generalize ((List.range i).map fun i => (v.rows.getD i TRow.dflt).id_) = s2 at hF hol2 ⊢
    generalize gI_ c3_ v.q v.rows (dP_ v) i = s1 at hF hol ⊢
    have e0 : bi_.mk v.q.table v.q.where_ v.q.order v.q.down v.q.first v.q.show_ v.q.kids v.q.kidTable v.q.kidCol = v.q := rfl
    have e1 : bB_.mk v.q v.rows v.kids = v := rfl
    have hK := hH_ (v := v) (id := (v.rows.getD i TRow.dflt).id_) (by simp only [b5_]; omega)
    have hrow := ia_ h.2.1.top i
    have hRd : Ev (fun n _ => ce_ n v.q (v.rows.getD i TRow.dflt) (e8_ v.kids (v.rows.getD i TRow.dflt).id_)) (c3_ (gH_ v.q (v.rows.getD i TRow.dflt) (e8_ v.kids (v.rows.getD i TRow.dflt).id_))) :=
      aJ_ (by simp only [ce_, cM_, aj_ (hG_ (q := v.q) (by omega) hs hrow), aj_ (kD_ (iN_ (q := v.q) (by omega) hs 6)), ax_])
    have hlt : decide ((i : Int) < (e9_ v.q v.rows.length : Int)) = true := decide_eq_true (by unfold dk_ at hi; omega)
    simp only [aN_.turn5, aN_.step5, e0, e1, cM_, Int.toNat_natCast, W_up hir (show v.rows.length ≤ b5_ by simp only [b5_]; omega), aj_ eI_, hlt, cQ_ hir, cond_true, bU_, aj_ hK, aj_ hRd, cG_]
    exact ⟨trivial, trivial, by simp only [List.length_cons, List.length_nil]; omega, trivial, by simp only [List.length_cons, List.length_nil]; omega, hF⟩
  · have e0 : bi_.mk v.q.table v.q.where_ v.q.order v.q.down v.q.first v.q.show_ v.q.kids v.q.kidTable v.q.kidCol = v.q := rfl
    have hlt : decide ((dk_ v : Int) < (e9_ v.q v.rows.length : Int)) = false := decide_eq_false (by unfold dk_; omega)
    simp only [aN_.turn5, aN_.step5, e0, aj_ eI_, hlt, cond_false, ax_]
    rfl
theorem dT_ : ∀ j ∈ cZ_ v, gb_ 6 j := by
  have h1 := h.1.2
  simp only [cap] at h1
  intro j hj
  obtain ⟨i, _, e⟩ := List.mem_map.1 hj
  rw [← e]
  unfold c3_
  cases c6_ (gH_ v.q (v.rows.getD i TRow.dflt) ((dP_ v).getD i 0)) with
  | true => exact iN_ (by omega) hs 6
  | false => exact hc_ 6
end
theorem dq_ (v : bB_) : (cZ_ v).length = dk_ v := ga_
theorem iq_ (v : bB_) : (c0_ v).length = dk_ v := by unfold c0_; simp
def eF_ (a b : bB_) : List TOp := cond (!decide (a.rows.length = b.rows.length)) [TOp.mk 3 [nmCount] (c3_ (gu_ b.rows.length))] []
def c1_ (a b : bB_) : List TOp := cond (eE_ a.q b.q) (eF_ a b ++ ip_ eV_ (dJ_ (cZ_ a) (c0_ a) (cZ_ b) (c0_ b))) []
theorem iV_ {n : Nat} : Ev (fun m _ => cA_ m (n : Int)) (c3_ (gu_ n)) := by
  refine aJ_ ?_
  have hl := gN_ (n := (n : Int)) 6
  unfold gu_ at hl ⊢
  simp only [cA_, cM_, aj_ (iG_ hl), ax_]
theorem iA_ {n : Nat} : Ev (fun m _ => cu_ m (n : Int)) (c3_ (gu_ n)) := by
  refine aJ_ ?_
  have := eb_ (gN_ (n := (n : Int)) 6)
  unfold c3_
  unfold gu_ at this ⊢
  simp only [cu_, aj_ this, ay_, ax_, mb_]
  cases c6_ (aa_.mk 2 (n : Int) [] [] []) <;> simp
theorem l5_ {j : aa_} : cO_ 6 (c3_ j) ≤ 400 := by
  unfold c3_
  cases h : c6_ j with
  | true => exact of_decide_eq_true h
  | false => exact jA_
section
variable {a b : bB_} (ha : lenV cap a) (hb : lenV cap b) (hsa : ∀ c ∈ a.q.show_, i64 c) (hsb : ∀ c ∈ b.q.show_, i64 c)
include ha hb hsa hsb
theorem fN_ : lenO (dJ_ (cZ_ a) (c0_ a) (cZ_ b) (c0_ b)) ∧ (∀ o ∈ dJ_ (cZ_ a) (c0_ a) (cZ_ b) (c0_ b), opK o) ∧ (dJ_ (cZ_ a) (c0_ a) (cZ_ b) (c0_ b)).length ≤ a.rows.length + 2 * b.rows.length := by
  have h1 := ha.2.1.1; have h2 := hb.2.1.1
  simp only [cap] at h1 h2
  have := dI_ a
  have := dI_ b
  obtain ⟨k1, k2⟩ := mJ_ (keys := c0_ a) (keys' := c0_ b) (by rw [dq_]; omega) (by rw [dq_]; omega) (dT_ ha hsa) (dT_ hb hsb)
  rw [dq_, dq_] at k2
  refine ⟨⟨by omega, fun o ho => ⟨?_, (k1 o ho).2.1⟩⟩, k1, by omega⟩
  obtain ⟨t, _, e⟩ := (k1 o ho).1
  rw [e]; exact (by decide : 1 ≤ 1000000)
theorem ge_ : Ev (fun n _ => bG_ n a b) (c1_ a b) := by
  refine aJ_ ?_
  have h1 := ha.2.1.1; have h2 := hb.2.1.1
  simp only [cap] at h1 h2
  have n1 := dI_ a
  have n2 := dI_ b
  obtain ⟨r1, _, r3⟩ := fN_ ha hb hsa hsb
  have hR := jl_ (docs := cZ_ a) (keys := c0_ a) (docs' := cZ_ b) (keys' := c0_ b) (by rw [dq_]; omega) (by rw [dq_]; omega) (dT_ ha hsa) (dT_ hb hsb) (by rw [iq_]; omega) (by rw [iq_]; omega)
  have hU := iz_ (name := eV_) r1
  have hq : lenQ b5_ a.q := ⟨Nat.le_trans ha.1.1 (by decide), Nat.le_trans ha.1.2 (by decide)⟩
  have hUl : (ip_ eV_ (dJ_ (cZ_ a) (c0_ a) (cZ_ b) (c0_ b))).length = (dJ_ (cZ_ a) (c0_ a) (cZ_ b) (c0_ b)).length := List.length_map _
  simp only [bG_, aj_ (gf_ hq), h2_, ay_, cM_, aj_ iA_, aj_ (eR_ ha hsa), aj_ (eR_ hb hsb), aj_ hR, aj_ hU, cG_, ax_, List.nil_append, List.length_nil, c1_, eF_]
  cases eE_ a.q b.q with
  | false => exact ⟨fun _ => rfl, fun h => (by cases h)⟩
  | true =>
    refine ⟨fun h => (by cases h), fun _ => ⟨fun hc => ⟨?_, ?_, ?_⟩, fun hc => ⟨?_, ?_⟩⟩⟩
    · simp only [List.length_cons, List.length_nil]; omega
    · simp only [List.length_cons, List.length_nil]; omega
    · rw [hc]; rfl
    · omega
    · rw [hc]; rfl
theorem gj_ : Ev (fun n _ => bE_ n a b) (c1_ a b) := by
  refine aJ_ ?_
  have h1 := ha.2.1.1; have h2 := hb.2.1.1
  simp only [cap] at h1 h2
  have n1 := dI_ a
  have n2 := dI_ b
  obtain ⟨r1, _, r3⟩ := fN_ ha hb hsa hsb
  have hR := jU_ (docs := cZ_ a) (keys := c0_ a) (docs' := cZ_ b) (keys' := c0_ b) (by rw [dq_]; omega) (by rw [dq_]; omega) (dT_ ha hsa) (dT_ hb hsb)
  have hU := iU_ (name := eV_) r1
  have hq : lenQ b5_ a.q := ⟨Nat.le_trans ha.1.1 (by decide), Nat.le_trans ha.1.2 (by decide)⟩
  have hUl : (ip_ eV_ (dJ_ (cZ_ a) (c0_ a) (cZ_ b) (c0_ b))).length = (dJ_ (cZ_ a) (c0_ a) (cZ_ b) (c0_ b)).length := List.length_map _
  simp only [bE_, aj_ (gk_ hq), h2_, ay_, cM_, aj_ iV_, aj_ (fX_ ha hsa), aj_ (fX_ hb hsb), aj_ hR, aj_ hU, cG_, ax_, List.nil_append, List.length_nil, c1_, eF_]
  cases eE_ a.q b.q with
  | false => exact ⟨fun _ => rfl, fun h => (by cases h)⟩
  | true =>
    refine ⟨fun h => (by cases h), fun _ => ⟨fun hc => ⟨?_, ?_, ?_⟩, fun hc => ⟨?_, ?_⟩⟩⟩
    · simp only [List.length_cons, List.length_nil]; omega
    · simp only [List.length_cons, List.length_nil]; omega
    · rw [hc]; rfl
    · omega
    · rw [hc]; rfl
theorem jJ_ (hab : a.rows.length + b.rows.length ≤ 1500000) : lenOps (c1_ a b) := by
  obtain ⟨r1, r2, r3⟩ := fN_ ha hb hsa hsb
  unfold c1_
  cases eE_ a.q b.q with
  | false => exact ⟨Nat.zero_le _, fun o ho => (by cases ho)⟩
  | true =>
    have hUl : (ip_ eV_ (dJ_ (cZ_ a) (c0_ a) (cZ_ b) (c0_ b))).length = (dJ_ (cZ_ a) (c0_ a) (cZ_ b) (c0_ b)).length := List.length_map _
    have hcl : (eF_ a b).length ≤ 1 := by unfold eF_; cases (!decide (a.rows.length = b.rows.length)) <;> simp
    refine ⟨by simp only [cond_true, List.length_append]; omega, fun o ho => ?_⟩
    rw [cond_true] at ho
    rcases List.mem_append.1 ho with ho | ho
    · unfold eF_ at ho
      cases hc : (!decide (a.rows.length = b.rows.length)) <;> rw [hc] at ho
      · cases ho
      · rw [List.mem_singleton.1 ho]
        refine ⟨⟨by show 1 ≤ b5_; decide, fun x hx => ?_⟩, ?_⟩
        · rw [List.mem_singleton.1 hx]; show 5 ≤ b5_; decide
        · show gb_ 6 (c3_ (gu_ b.rows.length))
          unfold c3_
          cases c6_ (gu_ b.rows.length) with
          | true => exact gN_ 6
          | false => exact hc_ 6
    · obtain ⟨o', ho', e⟩ := List.mem_map.1 ho
      obtain ⟨⟨t, ht, e2⟩, _, hv⟩ := r2 o' ho'
      rw [← e]
      refine ⟨⟨?_, fun x hx => ?_⟩, hv⟩
      · show (eV_ :: o'.way).length ≤ b5_
        rw [e2]; show 2 ≤ b5_; decide
      · have hx : x ∈ eV_ :: o'.way := hx
        rw [e2] at hx
        rcases List.mem_cons.1 hx with e3 | hx
        · rw [e3]; show 4 ≤ b5_; decide
        · rw [List.mem_singleton.1 hx]; simp only [b5_]; omega
end
end Go.Pi
end
section
set_option linter.unusedVariables false
set_option maxRecDepth 100000
set_option linter.unusedSimpArgs false
namespace Go.Pi
theorem lenQ_of {c : Nat} {q : bi_} (h : bi_.size q ≤ c) : lenQ c q := by
  have h1 := cp_ aO_.size q.where_
  have h2 := cp_ szI q.show_
  simp only [bi_.size] at h
  exact ⟨by omega, by omega⟩
theorem lenRow_of {r : TRow} : r.cells.length ≤ TRow.size r := cp_ szI r.cells
theorem lenR_of {c : Nat} {rows : List TRow} (h : cF_ TRow.size rows ≤ c) : lenR c rows := by
  have h1 := cp_ TRow.size rows
  exact ⟨by omega, fun x hx => by have := dF_ TRow.size hx; have := lenRow_of (r := x); omega⟩
theorem lenV_of {c : Nat} {v : bB_} (h : bB_.size v ≤ c) : lenV c v := by
  have h3 := cp_ TKid.size v.kids
  simp only [bB_.size] at h
  exact ⟨lenQ_of (by omega), lenR_of (by omega), by omega⟩
end Go.Pi
end
section
set_option linter.unusedVariables false
set_option maxRecDepth 100000
set_option linter.unusedSimpArgs false
namespace Go.Pi
theorem je_ : ∀ {l : List Bs} {c : Nat}, (∀ x ∈ l, x.length ≤ c) → d1_ szB l ≤ l.length * c
  | [], _, _ => Nat.zero_le _
  | x :: l, c, h => by
    have := je_ (l := l) fun y hy => h y (List.mem_cons_of_mem _ hy)
    have := h x (List.mem_cons_self ..)
    simp only [d1_, szB, List.length_cons, Nat.add_mul] at *; omega
theorem iP_ : ∀ (d : Nat) (j : aa_), cO_ d j ≤ 400 → aa_.size j ≤ 50000 * cO_ d j
  | 0, j, h => by simp only [cO_] at h; omega
  | d + 1, j, h => by
    obtain ⟨ho, hs⟩ := fP_ h
    have hl := gM_ h
    have hn := g8_ h
    have hsum : ∀ l : List aa_, (∀ x ∈ l, cO_ d x ≤ 400) → d1_ aa_.size l ≤ 50000 * d1_ (cO_ d) l := by
      intro l
      induction l with
      | nil => intro _; exact Nat.zero_le _
      | cons x l ih =>
        intro hx
        have h1 := iP_ d x (hx x (List.mem_cons_self ..))
        have h2 := ih fun y hy => hx y (List.mem_cons_of_mem _ hy)
        simp only [d1_]; omega
    have h1 := hsum j.list fun x hx => by have := gW_ (cO_ d) hx; omega
    have hF : FOwn j = true := by
      simp only [cO_] at h
      cases hf : FOwn j with
      | true => rfl
      | false => rw [hf, cond_false] at h; omega
    have hsl : j.s.length ≤ 60 := by
      unfold FOwn at hF
      simp only [Bool.and_eq_true, Bool.or_eq_true] at hF
      rcases hF.2.2.2.1 with e | e
      · have : j.s = [] := by simpa using e
        rw [this]; exact Nat.zero_le _
      · exact ho.text (by simpa using e)
    have hnt : d1_ szB j.names ≤ j.names.length * 60 := je_ fun x hx => by
      by_cases hk : j.kind = 5
      · obtain ⟨i, hi, e⟩ := List.mem_iff_getElem.1 hx
        have := gq_ (ho.obj hk).2 hi
        rw [List.getD_eq_getElem?_getD, List.getElem?_eq_getElem hi, Option.getD_some, e] at this
        exact this
      · have : j.names.length = 0 := by
          unfold FOwn at hF
          simp only [Bool.and_eq_true, Bool.or_eq_true] at hF
          rcases hF.2.1 with e | e
          · exact of_decide_eq_true e
          · exact absurd (by simpa using e) hk
        rw [List.eq_nil_of_length_eq_zero this] at hx; cases hx
    have e := aa_.size_eq j
    unfold cF_ at e
    rw [hs]
    omega
theorem opsSize : ∀ {l : List TOp}, (∀ o ∈ l, TOp.size o ≤ 20000100) → d1_ TOp.size l ≤ l.length * 20000100
  | [], _ => Nat.zero_le _
  | o :: l, h => by
    have := opsSize (l := l) fun y hy => h y (List.mem_cons_of_mem _ hy)
    have := h o (List.mem_cons_self ..)
    simp only [d1_, List.length_cons, Nat.add_mul] at *; omega
section
variable {a b : bB_} (ha : lenV cap a) (hb : lenV cap b) (hsa : ∀ c ∈ a.q.show_, i64 c) (hsb : ∀ c ∈ b.q.show_, i64 c) (hab : a.rows.length + b.rows.length ≤ 1500000)
include ha hb hsa hsb hab
theorem ma_ : cF_ TOp.size (c1_ a b) ≤ 4000000 * 20000101 := by
  have hL := jJ_ ha hb hsa hsb hab
  have hO : ∀ o ∈ c1_ a b, TOp.size o ≤ 20000100 := by
    obtain ⟨r1, r2, r3⟩ := fN_ ha hb hsa hsb
    intro o ho
    unfold c1_ at ho
    cases hq : eE_ a.q b.q <;> rw [hq] at ho
    · cases ho
    rw [cond_true] at ho
    rcases List.mem_append.1 ho with ho | ho
    · unfold eF_ at ho
      cases hc : (!decide (a.rows.length = b.rows.length)) <;> rw [hc] at ho
      · cases ho
      · rw [List.mem_singleton.1 ho]
        have h1 := l5_ (j := gu_ b.rows.length)
        have h2 := iP_ 6 _ h1
        have e : TOp.size (TOp.mk 3 [nmCount] (c3_ (gu_ b.rows.length))) = 6 + aa_.size (c3_ (gu_ b.rows.length)) := rfl
        omega
    · obtain ⟨o', ho', e⟩ := List.mem_map.1 ho
      obtain ⟨⟨t, ht, e2⟩, hv, _⟩ := r2 o' ho'
      have h2 := iP_ 6 _ hv
      rw [← e]
      have e3 : TOp.size (iu_ eV_ o') = cF_ szB (eV_ :: o'.way) + aa_.size o'.value := rfl
      rw [e3, e2]
      have e4 : cF_ szB [eV_, t] = 2 + (4 + (t.length + 0)) := rfl
      rw [e4]; omega
  have := opsSize hO
  have := hL.1
  unfold cF_
  have : (c1_ a b).length * 20000100 ≤ 4000000 * 20000100 := Nat.mul_le_mul_right _ hL.1
  omega
end
theorem jq_ {v : bB_} : v.rows.length ≤ bB_.size v := by
  have := cp_ TRow.size v.rows
  simp only [bB_.size]; omega
theorem i4_ {a b : bB_} (la : bB_.len a) (lb : bB_.len b) (hsa : ∀ c ∈ a.q.show_, i64 c) (hsb : ∀ c ∈ b.q.show_, i64 c) : ∃ n, laws_FnExactViewPatch n a b = some true := by
  refine ev_ex (aJ_ ?_)
  simp only [laws_FnExactViewPatch, aj_ (jh_ (a := a) (l := 1048576) la (by omega) (by omega)), ay_, ax_]
  refine ⟨fun _ => trivial, fun h => ?_⟩
  have hz := subS_ok (of_decide_eq_false h)
  have h := of_decide_eq_false h
  have hb : eH_ 1048576 a.size ≤ 1048576 := by unfold eH_; split <;> omega
  simp only [aj_ (jh_ (a := b) (l := eH_ 1048576 a.size) lb (by omega) hb), ay_, ax_]
  refine ⟨fun _ => trivial, fun h2 => ?_⟩
  have hz2 := subS_ok (of_decide_eq_false h2)
  have hs2 : (a.size : Int) + b.size ≤ 1048576 := by unfold eH_ at hz2; split at hz2 <;> omega
  have k1 : bB_.size a ≤ cap := by simp only [cap]; omega
  have k2 : bB_.size b ≤ cap := by simp only [cap]; omega
  have t1 : bB_.size a ≤ b5_ := by simp only [b5_]; omega
  have t2 : bB_.size b ≤ b5_ := by simp only [b5_]; omega
  have q1 := jq_ (v := a)
  have q2 := jq_ (v := b)
  have hL1 := lenV_of k1
  have hL2 := lenV_of k2
  have hg := ma_ hL1 hL2 hsa hsb (by omega)
  have t3 : cF_ TOp.size (c1_ a b) ≤ b5_ := by simp only [b5_]; omega
  have hgl := cp_ TOp.size (c1_ a b)
  obtain ⟨m1, y0, y1, y2, y3, a1, a2, b0, b1, b2, b3, a3, a4⟩ := g9_ (a := a) (k := 1) (by omega) (by simp only [b5_]; omega)
  obtain ⟨m2, z0, z1, z2, z3, c1, c2, d0, d1, d2, d3, c3, c4⟩ := g9_ (a := b) (k := m1) (by omega) (by simp only [b5_]; omega)
  obtain ⟨m3, w, e1, e2, e3, e4, e5⟩ := md_ (a := c1_ a b) (k := 1) (by simp only [b5_]; omega) (by omega) (by simp only [b5_]; omega)
  simp only [aj_ (jc_ k1), aj_ (jc_ k2), aj_ (ge_ hL1 hL2 hsa hsb), aj_ (gj_ hL1 hL2 hsa hsb), aj_ (eqOpS_ev t3), aj_ (j9_ t1), aj_ (j9_ t2), aj_ a3, aj_ c3, aj_ e4, aj_ e5, b0, b1, b2, b3, d0, d1, d2, d3, e3, Nat.beq_refl, beq_self_eq_true, bne_self_eq_false, Bool.not_true, cond_true, cond_false, ay_, ax_, decide_eq_true_eq, decide_eq_false_iff_not]
  repeat' (first | apply And.intro | intro _)
  all_goals (first | trivial | rfl | (exfalso; omega) | omega)
end Go.Pi
end
section
set_option linter.unusedVariables false
namespace Go.Pi
theorem dN_ {t : TC} {xs : List (El t)} (h : Good (.sl .v t xs)) : xs.length ≤ b5_ ∧ ∀ x ∈ xs, ∀ c ∈ ai_.enc .v t x, Good c := by
  cases h with
  | sl t xs h1 h2 => exact ⟨h1, h2⟩
end Go.Pi
end
section
set_option linter.unusedVariables false
namespace Go.Pi
theorem good_str {l : Bs} (h : Good (.s l)) : lenB l := by
  cases h with
  | s l h => exact h
theorem aO_.good {x : aO_} (h : ∀ c ∈ ([.i .i64 x.col, .i .i64 x.op, .i .i64 x.v] : List AV), Good c) : aO_.len x := trivial
theorem bi_.good {x : bi_} (h : ∀ c ∈ ([.i .i64 x.table, .sl .v .lCond x.where_, .i .i64 x.order, .b x.down, .i .i64 x.first, .sl .v .int x.show_, .b x.kids, .i .i64 x.kidTable, .i .i64 x.kidCol] : List AV), Good c) : bi_.len x := ⟨⟨(dN_ (t := .lCond) (h _ (.tail _ (.head _)))).1, fun x0 hx0 => aO_.good ((dN_ (t := .lCond) (h _ (.tail _ (.head _)))).2 x0 hx0)⟩, ⟨(dN_ (t := .int) (h _ (.tail _ (.tail _ (.tail _ (.tail _ (.tail _ (.head _)))))))).1, fun x0 hx0 => trivial⟩⟩
theorem TRow.good {x : TRow} (h : ∀ c ∈ ([.i .i64 x.id_, .sl .v .int x.cells] : List AV), Good c) : TRow.len x := ⟨(dN_ (t := .int) (h _ (.tail _ (.head _)))).1, fun x0 hx0 => trivial⟩
theorem TKid.good {x : TKid} (h : ∀ c ∈ ([.i .i64 x.id_, .i .i64 x.n_] : List AV), Good c) : TKid.len x := trivial
theorem bB_.good {x : bB_} (h : ∀ c ∈ ([.i .i64 x.q.table, .sl .v .lCond x.q.where_, .i .i64 x.q.order, .b x.q.down, .i .i64 x.q.first, .sl .v .int x.q.show_, .b x.q.kids, .i .i64 x.q.kidTable, .i .i64 x.q.kidCol, .sl .v .lRow x.rows, .sl .v .lKid x.kids] : List AV), Good c) : bB_.len x := ⟨⟨⟨(dN_ (t := .lCond) (h _ (.tail _ (.head _)))).1, fun x0 hx0 => aO_.good ((dN_ (t := .lCond) (h _ (.tail _ (.head _)))).2 x0 hx0)⟩, ⟨(dN_ (t := .int) (h _ (.tail _ (.tail _ (.tail _ (.tail _ (.tail _ (.head _)))))))).1, fun x0 hx0 => trivial⟩⟩, ⟨(dN_ (t := .lRow) (h _ (.tail _ (.tail _ (.tail _ (.tail _ (.tail _ (.tail _ (.tail _ (.tail _ (.tail _ (.head _)))))))))))).1, fun x0 hx0 => TRow.good ((dN_ (t := .lRow) (h _ (.tail _ (.tail _ (.tail _ (.tail _ (.tail _ (.tail _ (.tail _ (.tail _ (.tail _ (.head _)))))))))))).2 x0 hx0)⟩, ⟨(dN_ (t := .lKid) (h _ (.tail _ (.tail _ (.tail _ (.tail _ (.tail _ (.tail _ (.tail _ (.tail _ (.tail _ (.tail _ (.head _))))))))))))).1, fun x0 hx0 => TKid.good ((dN_ (t := .lKid) (h _ (.tail _ (.tail _ (.tail _ (.tail _ (.tail _ (.tail _ (.tail _ (.tail _ (.tail _ (.tail _ (.head _))))))))))))).2 x0 hx0)⟩⟩
end Go.Pi
end
section
set_option linter.unusedVariables false
namespace Go.Pi
theorem jW_ {l : List Int} (h : Good (.sl .v .int l)) : ∀ c ∈ l, -9223372036854775808 ≤ c ∧ c ≤ 9223372036854775807 := fun c hc => by
  have := (dN_ (t := .int) h).2 c hc (.i .i64 c) (.head _)
  cases this with
  | i k n h =>
    have h : (decide (IntKind.i64.min ≤ c) && decide (c ≤ IntKind.i64.max)) = true := h
    rw [Bool.and_eq_true, decide_eq_true_eq, decide_eq_true_eq] at h
    exact h
end Go.Pi
end
section
set_option linter.unusedVariables false
namespace Go.Pi
open Go.Proofs Go.Proofs.YthfipmaaojdmnaaGreatDoor
namespace laws_FnExactViewPatch
theorem pure_law : Pure := fun a b h0 h1 => i4_ (bB_.good h0) (bB_.good h1) (jW_ (h0 (.sl .v .int a.q.show_) (by simp))) (jW_ (h1 (.sl .v .int b.q.show_) (by simp)))
theorem proved : Rows.FnExactViewPatchCardSaid := card pure_law
end laws_FnExactViewPatch
end Go.Pi
end
namespace Go.Proofs.YthfipmaaojdmnaaGreatDoor
theorem fnExactViewPatch_holds : Rows.FnExactViewPatchCardSaid := Go.Pi.laws_FnExactViewPatch.proved
#print axioms fnExactViewPatch_holds
end Go.Proofs.YthfipmaaojdmnaaGreatDoor
