/- The law FnExactSessGo returns true at every input, and leaves its arguments as they were; no condition. Text 5 of 5. -/
import Derived.Test.YtpifpdljphobdaaSgD
section
set_option linter.unusedVariables false
set_option maxRecDepth 100000
set_option linter.unusedSimpArgs false
namespace Go.Pi
def TCond.size (s : TCond) : Nat := 0
def TCond.len (s : TCond) : Prop := True
def TQuery.size (s : TQuery) : Nat := (sizeL TCond.size) s.where_ + (sizeL szI) s.show_
def TQuery.len (s : TQuery) : Prop := (lenL TCond.len) s.where_ ∧ (lenL lenI) s.show_
def TRow.size (s : TRow) : Nat := (sizeL szI) s.cells
def TRow.len (s : TRow) : Prop := (lenL lenI) s.cells
def TKid.size (s : TKid) : Nat := 0
def TKid.len (s : TKid) : Prop := True
def TView.size (s : TView) : Nat := TQuery.size s.q + (sizeL TRow.size) s.rows + (sizeL TKid.size) s.kids
def TView.len (s : TView) : Prop := TQuery.len s.q ∧ (lenL TRow.len) s.rows ∧ (lenL TKid.len) s.kids
def TSess.size (s : TSess) : Nat := TView.size s.view + TView.size s.last
def TSess.len (s : TSess) : Prop := TView.len s.view ∧ TView.len s.last
def TChange.size (s : TChange) : Nat := TRow.size s.old + TRow.size s.new
def TChange.len (s : TChange) : Prop := TRow.len s.old ∧ TRow.len s.new
theorem szCondS_ev {a : List TCond} {l : Int} (ha : (lenL TCond.len) a) (h0 : 0 ≤ l) (h1 : l ≤ 1048576) : Ev (fun n _ => laws_szCondS n a l) (subS l ((sizeL TCond.size) a)) := by
  refine ev_succ ?_
  rw [show (sizeL TCond.size) a = a.length from by unfold sizeL; rw [sumL_zero TCond.size (fun _ => rfl)]; rfl]
  exact ev_szI h0 h1 ha.1
theorem szIntS_ev {a : List Int} {l : Int} (ha : (lenL lenI) a) (h0 : 0 ≤ l) (h1 : l ≤ 1048576) : Ev (fun n _ => laws_szIntS n a l) (subS l ((sizeL szI) a)) := by
  refine ev_succ ?_
  rw [show (sizeL szI) a = a.length from by unfold sizeL; rw [sumL_zero szI (fun _ => rfl)]; rfl]
  exact ev_szI h0 h1 ha.1
theorem szQuery_ev {a : TQuery} {l : Int} (ha : TQuery.len a) (h0 : 0 ≤ l) (h1 : l ≤ 1048576) : Ev (fun n _ => laws_szQuery n a l) (subS l (TQuery.size a)) := by
  refine ev_succ ?_
  have e : TQuery.size a = (sizeL TCond.size) a.where_ + ((sizeL szI) a.show_ + (0)) := by simp only [TQuery.size]; omega
  rw [e]; clear e
  have h0_0 := h0; have h0_1 := h1
  exact ev_sz h0_0 h0_1 (szCondS_ev (ha.1) h0_0 h0_1) fun r1 h1_0 h1_1 => ev_sz h1_0 h1_1 (szIntS_ev (ha.2) h1_0 h1_1) fun r2 h2_0 h2_1 => ev_szE h2_0
theorem szRow_ev {a : TRow} {l : Int} (ha : TRow.len a) (h0 : 0 ≤ l) (h1 : l ≤ 1048576) : Ev (fun n _ => laws_szRow n a l) (subS l (TRow.size a)) := by
  refine ev_succ ?_
  have e : TRow.size a = (sizeL szI) a.cells + (0) := by simp only [TRow.size]; omega
  rw [e]; clear e
  have h0_0 := h0; have h0_1 := h1
  exact ev_sz h0_0 h0_1 (szIntS_ev (ha) h0_0 h0_1) fun r1 h1_0 h1_1 => ev_szE h1_0
theorem szRowS_ev {a : List TRow} {l : Int} (ha : (lenL TRow.len) a) (h0 : 0 ≤ l) (h1 : l ≤ 1048576) : Ev (fun n _ => laws_szRowS n a l) (subS l ((sizeL TRow.size) a)) := by
  refine ev_succ ?_
  refine ev_szL (g := fun n N x => laws_szRowS.loop7 n (fun xy2 => (some xy2)) (n) a x 0) h0 h1 ha.1 fun l h0 h1 => sz_list TRow.dflt TRow.size (fun n N l i => laws_szRowS.loop7 n (fun xy2 => (some xy2)) (N) a l (i : Int)) a (fun i l hi h0 h1 t kk => ?_) (fun l => ?_) l h0 h1
  · show Ev (fun n N => laws_szRowS.step7 n (fun xy2 => (some xy2)) (laws_szRowS.loop7 n (fun xy2 => (some xy2)) N) a l (i : Int)) _
    simp only [laws_szRowS.step7, ev_cond, ev_inB, Int.toNat_natCast, W_up hi ha.1]
    refine ⟨fun _ => ?_, fun h => absurd hi (by simpa using h)⟩
    refine ⟨⟨by omega, by omega⟩, ?_⟩
    have := ev_sz (t := t) (g := fun n N x => laws_szRowS.loop7 n (fun xy2 => (some xy2)) (N) a x ((i + 1 : Nat) : Int)) h0 h1 (szRow_ev (ha.2 _ (getD_mem TRow.dflt hi)) h0 h1) kk
    simpa only [ev_cond, ev_some] using this
  · show Ev (fun n N => laws_szRowS.step7 n (fun xy2 => (some xy2)) (laws_szRowS.loop7 n (fun xy2 => (some xy2)) N) a l (a.length : Int)) _
    simp only [laws_szRowS.step7, ev_cond, ev_some]
    exact ⟨fun h => absurd (of_decide_eq_true h) (by omega), fun _ => trivial⟩
theorem szKidS_ev {a : List TKid} {l : Int} (ha : (lenL TKid.len) a) (h0 : 0 ≤ l) (h1 : l ≤ 1048576) : Ev (fun n _ => laws_szKidS n a l) (subS l ((sizeL TKid.size) a)) := by
  refine ev_succ ?_
  rw [show (sizeL TKid.size) a = a.length from by unfold sizeL; rw [sumL_zero TKid.size (fun _ => rfl)]; rfl]
  exact ev_szI h0 h1 ha.1
theorem szView_ev {a : TView} {l : Int} (ha : TView.len a) (h0 : 0 ≤ l) (h1 : l ≤ 1048576) : Ev (fun n _ => laws_szView n a l) (subS l (TView.size a)) := by
  refine ev_succ ?_
  have e : TView.size a = TQuery.size a.q + ((sizeL TRow.size) a.rows + ((sizeL TKid.size) a.kids + (0))) := by simp only [TView.size]; omega
  rw [e]; clear e
  have h0_0 := h0; have h0_1 := h1
  exact ev_sz h0_0 h0_1 (szQuery_ev (ha.1) h0_0 h0_1) fun r1 h1_0 h1_1 => ev_sz h1_0 h1_1 (szRowS_ev (ha.2.1) h1_0 h1_1) fun r2 h2_0 h2_1 => ev_sz h2_0 h2_1 (szKidS_ev (ha.2.2) h2_0 h2_1) fun r3 h3_0 h3_1 => ev_szE h3_0
theorem szSess_ev {a : TSess} {l : Int} (ha : TSess.len a) (h0 : 0 ≤ l) (h1 : l ≤ 1048576) : Ev (fun n _ => laws_szSess n a l) (subS l (TSess.size a)) := by
  refine ev_succ ?_
  have e : TSess.size a = TView.size a.view + (TView.size a.last + (0)) := by simp only [TSess.size]; omega
  rw [e]; clear e
  have h0_0 := h0; have h0_1 := h1
  exact ev_sz h0_0 h0_1 (szView_ev (ha.1) h0_0 h0_1) fun r1 h1_0 h1_1 => ev_sz h1_0 h1_1 (szView_ev (ha.2) h1_0 h1_1) fun r2 h2_0 h2_1 => ev_szE h2_0
theorem szChange_ev {a : TChange} {l : Int} (ha : TChange.len a) (h0 : 0 ≤ l) (h1 : l ≤ 1048576) : Ev (fun n _ => laws_szChange n a l) (subS l (TChange.size a)) := by
  refine ev_succ ?_
  have e : TChange.size a = TRow.size a.old + (TRow.size a.new + (0)) := by simp only [TChange.size]; omega
  rw [e]; clear e
  have h0_0 := h0; have h0_1 := h1
  exact ev_sz h0_0 h0_1 (szRow_ev (ha.1) h0_0 h0_1) fun r1 h1_0 h1_1 => ev_sz h1_0 h1_1 (szRow_ev (ha.2) h1_0 h1_1) fun r2 h2_0 h2_1 => ev_szE h2_0
theorem szChangeS_ev {a : List TChange} {l : Int} (ha : (lenL TChange.len) a) (h0 : 0 ≤ l) (h1 : l ≤ 1048576) : Ev (fun n _ => laws_szChangeS n a l) (subS l ((sizeL TChange.size) a)) := by
  refine ev_succ ?_
  refine ev_szL (g := fun n N x => laws_szChangeS.loop7 n (fun xy2 => (some xy2)) (n) a x 0) h0 h1 ha.1 fun l h0 h1 => sz_list TChange.dflt TChange.size (fun n N l i => laws_szChangeS.loop7 n (fun xy2 => (some xy2)) (N) a l (i : Int)) a (fun i l hi h0 h1 t kk => ?_) (fun l => ?_) l h0 h1
  · show Ev (fun n N => laws_szChangeS.step7 n (fun xy2 => (some xy2)) (laws_szChangeS.loop7 n (fun xy2 => (some xy2)) N) a l (i : Int)) _
    simp only [laws_szChangeS.step7, ev_cond, ev_inB, Int.toNat_natCast, W_up hi ha.1]
    refine ⟨fun _ => ?_, fun h => absurd hi (by simpa using h)⟩
    refine ⟨⟨by omega, by omega⟩, ?_⟩
    have := ev_sz (t := t) (g := fun n N x => laws_szChangeS.loop7 n (fun xy2 => (some xy2)) (N) a x ((i + 1 : Nat) : Int)) h0 h1 (szChange_ev (ha.2 _ (getD_mem TChange.dflt hi)) h0 h1) kk
    simpa only [ev_cond, ev_some] using this
  · show Ev (fun n N => laws_szChangeS.step7 n (fun xy2 => (some xy2)) (laws_szChangeS.loop7 n (fun xy2 => (some xy2)) N) a l (a.length : Int)) _
    simp only [laws_szChangeS.step7, ev_cond, ev_some]
    exact ⟨fun h => absurd (of_decide_eq_true h) (by omega), fun _ => trivial⟩
theorem toCond_ev {a : TCond} (ha : TCond.size a ≤ cap) : Ev (fun n _ => laws_toCond n a) a := by
  refine ev_succ ?_
  simp only [laws_toCond, ev_some]
theorem toCondS_ev {a : List TCond} (ha : (sizeL TCond.size) a ≤ cap) : Ev (fun n _ => laws_toCondS n a) a := by
  refine ev_succ ?_
  have hl := sizeL_len TCond.size a
  simp only [cap] at ha
  simp only [laws_toCondS, ev_cond, ev_none, decide_eq_true_eq, decide_eq_false_iff_not, not_true_eq_false]
  refine ⟨fun _ => ⟨fun _ => ⟨fun _ => ?_, fun h => absurd h (by omega)⟩, fun h => absurd h (by omega)⟩, fun h => h⟩
  refine ev_copy TCond.dflt a (fun n N i s => laws_toCondS.loop4 n (fun xy3 => (some xy3)) N a (i : Int) s) (fun i s hi hs k => ?_) ?_ _ (by simp)
  · show Ev (fun n N => laws_toCondS.step4 n (fun xy3 => (some xy3)) (laws_toCondS.loop4 n (fun xy3 => (some xy3)) N) a (i : Int) s) a
    simp only [laws_toCondS.step4, Int.toNat_natCast, ev_cond, ev_inB, ev_bind (toCond_ev (a := a.getD i TCond.dflt) (by have := sizeL_le TCond.size (getD_mem TCond.dflt hi); simp only [cap]; omega)), W_up hi (show a.length ≤ topN by simp only [topN]; omega)]
    exact ⟨fun _ => ⟨⟨by omega, by omega⟩, ⟨by omega, by omega⟩, k⟩, fun h => absurd hi (by simpa using h)⟩
  · show Ev (fun n N => laws_toCondS.step4 n (fun xy3 => (some xy3)) (laws_toCondS.loop4 n (fun xy3 => (some xy3)) N) a (a.length : Int) a) a
    simp only [laws_toCondS.step4, ev_cond, ev_some]
    exact ⟨fun h => absurd (of_decide_eq_true h) (by omega), fun _ => trivial⟩
theorem toIntS_ev {a : List Int} (ha : (sizeL szI) a ≤ cap) : Ev (fun n _ => laws_toIntS n a) a := by
  refine ev_succ ?_
  have hl := sizeL_len szI a
  simp only [cap] at ha
  simp only [laws_toIntS, ev_cond, ev_none, decide_eq_true_eq, decide_eq_false_iff_not, not_true_eq_false]
  refine ⟨fun _ => ⟨fun _ => ⟨fun _ => ?_, fun h => absurd h (by omega)⟩, fun h => absurd h (by omega)⟩, fun h => h⟩
  refine ev_copy 0 a (fun n N i s => laws_toIntS.loop4 n (fun xy2 => (some xy2)) N a (i : Int) s) (fun i s hi hs k => ?_) ?_ _ (by simp)
  · show Ev (fun n N => laws_toIntS.step4 n (fun xy2 => (some xy2)) (laws_toIntS.loop4 n (fun xy2 => (some xy2)) N) a (i : Int) s) a
    simp only [laws_toIntS.step4, Int.toNat_natCast, ev_cond, ev_inB, W_up hi (show a.length ≤ topN by simp only [topN]; omega)]
    exact ⟨fun _ => ⟨⟨by omega, by omega⟩, ⟨by omega, by omega⟩, k⟩, fun h => absurd hi (by simpa using h)⟩
  · show Ev (fun n N => laws_toIntS.step4 n (fun xy2 => (some xy2)) (laws_toIntS.loop4 n (fun xy2 => (some xy2)) N) a (a.length : Int) a) a
    simp only [laws_toIntS.step4, ev_cond, ev_some]
    exact ⟨fun h => absurd (of_decide_eq_true h) (by omega), fun _ => trivial⟩
theorem toQuery_ev {a : TQuery} (ha : TQuery.size a ≤ cap) : Ev (fun n _ => laws_toQuery n a) a := by
  refine ev_succ ?_
  simp only [TQuery.size] at ha
  have h0 := toCondS_ev (a := a.where_) (by omega)
  have h1 := toIntS_ev (a := a.show_) (by omega)
  simp only [laws_toQuery, ev_bind h0, ev_bind h1, ev_some]
theorem toRow_ev {a : TRow} (ha : TRow.size a ≤ cap) : Ev (fun n _ => laws_toRow n a) a := by
  refine ev_succ ?_
  simp only [TRow.size] at ha
  have h0 := toIntS_ev (a := a.cells) (by omega)
  simp only [laws_toRow, ev_bind h0, ev_some]
theorem toRowS_ev {a : List TRow} (ha : (sizeL TRow.size) a ≤ cap) : Ev (fun n _ => laws_toRowS n a) a := by
  refine ev_succ ?_
  have hl := sizeL_len TRow.size a
  simp only [cap] at ha
  simp only [laws_toRowS, ev_cond, ev_none, decide_eq_true_eq, decide_eq_false_iff_not, not_true_eq_false]
  refine ⟨fun _ => ⟨fun _ => ⟨fun _ => ?_, fun h => absurd h (by omega)⟩, fun h => absurd h (by omega)⟩, fun h => h⟩
  refine ev_copy TRow.dflt a (fun n N i s => laws_toRowS.loop4 n (fun xy3 => (some xy3)) N a (i : Int) s) (fun i s hi hs k => ?_) ?_ _ (by simp)
  · show Ev (fun n N => laws_toRowS.step4 n (fun xy3 => (some xy3)) (laws_toRowS.loop4 n (fun xy3 => (some xy3)) N) a (i : Int) s) a
    simp only [laws_toRowS.step4, Int.toNat_natCast, ev_cond, ev_inB, ev_bind (toRow_ev (a := a.getD i TRow.dflt) (by have := sizeL_le TRow.size (getD_mem TRow.dflt hi); simp only [cap]; omega)), W_up hi (show a.length ≤ topN by simp only [topN]; omega)]
    exact ⟨fun _ => ⟨⟨by omega, by omega⟩, ⟨by omega, by omega⟩, k⟩, fun h => absurd hi (by simpa using h)⟩
  · show Ev (fun n N => laws_toRowS.step4 n (fun xy3 => (some xy3)) (laws_toRowS.loop4 n (fun xy3 => (some xy3)) N) a (a.length : Int) a) a
    simp only [laws_toRowS.step4, ev_cond, ev_some]
    exact ⟨fun h => absurd (of_decide_eq_true h) (by omega), fun _ => trivial⟩
theorem toKid_ev {a : TKid} (ha : TKid.size a ≤ cap) : Ev (fun n _ => laws_toKid n a) a := by
  refine ev_succ ?_
  simp only [laws_toKid, ev_some]
theorem toKidS_ev {a : List TKid} (ha : (sizeL TKid.size) a ≤ cap) : Ev (fun n _ => laws_toKidS n a) a := by
  refine ev_succ ?_
  have hl := sizeL_len TKid.size a
  simp only [cap] at ha
  simp only [laws_toKidS, ev_cond, ev_none, decide_eq_true_eq, decide_eq_false_iff_not, not_true_eq_false]
  refine ⟨fun _ => ⟨fun _ => ⟨fun _ => ?_, fun h => absurd h (by omega)⟩, fun h => absurd h (by omega)⟩, fun h => h⟩
  refine ev_copy TKid.dflt a (fun n N i s => laws_toKidS.loop4 n (fun xy3 => (some xy3)) N a (i : Int) s) (fun i s hi hs k => ?_) ?_ _ (by simp)
  · show Ev (fun n N => laws_toKidS.step4 n (fun xy3 => (some xy3)) (laws_toKidS.loop4 n (fun xy3 => (some xy3)) N) a (i : Int) s) a
    simp only [laws_toKidS.step4, Int.toNat_natCast, ev_cond, ev_inB, ev_bind (toKid_ev (a := a.getD i TKid.dflt) (by have := sizeL_le TKid.size (getD_mem TKid.dflt hi); simp only [cap]; omega)), W_up hi (show a.length ≤ topN by simp only [topN]; omega)]
    exact ⟨fun _ => ⟨⟨by omega, by omega⟩, ⟨by omega, by omega⟩, k⟩, fun h => absurd hi (by simpa using h)⟩
  · show Ev (fun n N => laws_toKidS.step4 n (fun xy3 => (some xy3)) (laws_toKidS.loop4 n (fun xy3 => (some xy3)) N) a (a.length : Int) a) a
    simp only [laws_toKidS.step4, ev_cond, ev_some]
    exact ⟨fun h => absurd (of_decide_eq_true h) (by omega), fun _ => trivial⟩
theorem toView_ev {a : TView} (ha : TView.size a ≤ cap) : Ev (fun n _ => laws_toView n a) a := by
  refine ev_succ ?_
  simp only [TView.size] at ha
  have h0 := toQuery_ev (a := a.q) (by omega)
  have h1 := toRowS_ev (a := a.rows) (by omega)
  have h2 := toKidS_ev (a := a.kids) (by omega)
  simp only [laws_toView, ev_bind h0, ev_bind h1, ev_bind h2, ev_some]
theorem toSess_ev {a : TSess} (ha : TSess.size a ≤ cap) : Ev (fun n _ => laws_toSess n a) a := by
  refine ev_succ ?_
  simp only [TSess.size] at ha
  have h0 := toView_ev (a := a.view) (by omega)
  have h1 := toView_ev (a := a.last) (by omega)
  simp only [laws_toSess, ev_bind h0, ev_bind h1, ev_some]
theorem toChange_ev {a : TChange} (ha : TChange.size a ≤ cap) : Ev (fun n _ => laws_toChange n a) a := by
  refine ev_succ ?_
  simp only [TChange.size] at ha
  have h0 := toRow_ev (a := a.old) (by omega)
  have h1 := toRow_ev (a := a.new) (by omega)
  simp only [laws_toChange, ev_bind h0, ev_bind h1, ev_some]
theorem toChangeS_ev {a : List TChange} (ha : (sizeL TChange.size) a ≤ cap) : Ev (fun n _ => laws_toChangeS n a) a := by
  refine ev_succ ?_
  have hl := sizeL_len TChange.size a
  simp only [cap] at ha
  simp only [laws_toChangeS, ev_cond, ev_none, decide_eq_true_eq, decide_eq_false_iff_not, not_true_eq_false]
  refine ⟨fun _ => ⟨fun _ => ⟨fun _ => ?_, fun h => absurd h (by omega)⟩, fun h => absurd h (by omega)⟩, fun h => h⟩
  refine ev_copy TChange.dflt a (fun n N i s => laws_toChangeS.loop4 n (fun xy3 => (some xy3)) N a (i : Int) s) (fun i s hi hs k => ?_) ?_ _ (by simp)
  · show Ev (fun n N => laws_toChangeS.step4 n (fun xy3 => (some xy3)) (laws_toChangeS.loop4 n (fun xy3 => (some xy3)) N) a (i : Int) s) a
    simp only [laws_toChangeS.step4, Int.toNat_natCast, ev_cond, ev_inB, ev_bind (toChange_ev (a := a.getD i TChange.dflt) (by have := sizeL_le TChange.size (getD_mem TChange.dflt hi); simp only [cap]; omega)), W_up hi (show a.length ≤ topN by simp only [topN]; omega)]
    exact ⟨fun _ => ⟨⟨by omega, by omega⟩, ⟨by omega, by omega⟩, k⟩, fun h => absurd hi (by simpa using h)⟩
  · show Ev (fun n N => laws_toChangeS.step4 n (fun xy3 => (some xy3)) (laws_toChangeS.loop4 n (fun xy3 => (some xy3)) N) a (a.length : Int) a) a
    simp only [laws_toChangeS.step4, ev_cond, ev_some]
    exact ⟨fun h => absurd (of_decide_eq_true h) (by omega), fun _ => trivial⟩
theorem eqCond_ev {a : TCond} (ha : TCond.size a ≤ topN) : Ev (fun n _ => laws_eqCond n a a) true := by
  refine ev_succ ?_
  simp only [laws_eqCond, bne_self_eq_false, beq_self_eq_true, Bool.not_true, cond_false, ev_some]
theorem eqCondS_ev {a : List TCond} (ha : (sizeL TCond.size) a ≤ topN) : Ev (fun n _ => laws_eqCondS n a a) true := by
  refine ev_succ ?_
  have hl := sizeL_len TCond.size a
  simp only [laws_eqCondS, ev_cond, bne_self_eq_false]
  refine ⟨fun h => (by cases h), fun _ => ?_⟩
  refine ev_up1 (fun n N i => laws_eqCondS.loop6 n (some true) N a a (i : Int)) (fun _ => true) a.length fun i hi k => ?_
  show Ev (fun n N => laws_eqCondS.step6 n (some true) (laws_eqCondS.loop6 n (some true) N) a a (i : Int)) true
  by_cases h : i < a.length
  · simp only [laws_eqCondS.step6, Int.toNat_natCast, ev_cond, ev_inB, ev_bind (eqCond_ev (a := a.getD i TCond.dflt) (by have := sizeL_le TCond.size (getD_mem TCond.dflt h); omega)), bne_self_eq_false, beq_self_eq_true, Bool.not_true, W_up h (show a.length ≤ topN by omega)]
    exact ⟨fun _ => ⟨⟨by omega, by omega⟩, ⟨by omega, by omega⟩, fun h => (by cases h), fun _ => k h⟩, fun h' => absurd h (by simpa using h')⟩
  · simp only [laws_eqCondS.step6, ev_cond, ev_some]
    exact ⟨fun h' => absurd (of_decide_eq_true h') (by omega), fun _ => trivial⟩
theorem eqIntS_ev {a : List Int} (ha : (sizeL szI) a ≤ topN) : Ev (fun n _ => laws_eqIntS n a a) true := by
  refine ev_succ ?_
  have hl := sizeL_len szI a
  simp only [laws_eqIntS, ev_cond, bne_self_eq_false]
  refine ⟨fun h => (by cases h), fun _ => ?_⟩
  refine ev_up1 (fun n N i => laws_eqIntS.loop6 n (some true) N a a (i : Int)) (fun _ => true) a.length fun i hi k => ?_
  show Ev (fun n N => laws_eqIntS.step6 n (some true) (laws_eqIntS.loop6 n (some true) N) a a (i : Int)) true
  by_cases h : i < a.length
  · simp only [laws_eqIntS.step6, Int.toNat_natCast, ev_cond, ev_inB, bne_self_eq_false, beq_self_eq_true, Bool.not_true, W_up h (show a.length ≤ topN by omega)]
    exact ⟨fun _ => ⟨⟨by omega, by omega⟩, ⟨by omega, by omega⟩, fun h => (by cases h), fun _ => k h⟩, fun h' => absurd h (by simpa using h')⟩
  · simp only [laws_eqIntS.step6, ev_cond, ev_some]
    exact ⟨fun h' => absurd (of_decide_eq_true h') (by omega), fun _ => trivial⟩
theorem eqQuery_ev {a : TQuery} (ha : TQuery.size a ≤ topN) : Ev (fun n _ => laws_eqQuery n a a) true := by
  refine ev_succ ?_
  simp only [TQuery.size] at ha
  have h0 := eqCondS_ev (a := a.where_) (by omega)
  have h1 := eqIntS_ev (a := a.show_) (by omega)
  simp only [laws_eqQuery, ev_bind h0, ev_bind h1, bne_self_eq_false, beq_self_eq_true, Bool.not_true, cond_false, ev_some]
theorem eqRow_ev {a : TRow} (ha : TRow.size a ≤ topN) : Ev (fun n _ => laws_eqRow n a a) true := by
  refine ev_succ ?_
  simp only [TRow.size] at ha
  have h0 := eqIntS_ev (a := a.cells) (by omega)
  simp only [laws_eqRow, ev_bind h0, bne_self_eq_false, beq_self_eq_true, Bool.not_true, cond_false, ev_some]
theorem eqRowS_ev {a : List TRow} (ha : (sizeL TRow.size) a ≤ topN) : Ev (fun n _ => laws_eqRowS n a a) true := by
  refine ev_succ ?_
  have hl := sizeL_len TRow.size a
  simp only [laws_eqRowS, ev_cond, bne_self_eq_false]
  refine ⟨fun h => (by cases h), fun _ => ?_⟩
  refine ev_up1 (fun n N i => laws_eqRowS.loop6 n (some true) N a a (i : Int)) (fun _ => true) a.length fun i hi k => ?_
  show Ev (fun n N => laws_eqRowS.step6 n (some true) (laws_eqRowS.loop6 n (some true) N) a a (i : Int)) true
  by_cases h : i < a.length
  · simp only [laws_eqRowS.step6, Int.toNat_natCast, ev_cond, ev_inB, ev_bind (eqRow_ev (a := a.getD i TRow.dflt) (by have := sizeL_le TRow.size (getD_mem TRow.dflt h); omega)), bne_self_eq_false, beq_self_eq_true, Bool.not_true, W_up h (show a.length ≤ topN by omega)]
    exact ⟨fun _ => ⟨⟨by omega, by omega⟩, ⟨by omega, by omega⟩, fun h => (by cases h), fun _ => k h⟩, fun h' => absurd h (by simpa using h')⟩
  · simp only [laws_eqRowS.step6, ev_cond, ev_some]
    exact ⟨fun h' => absurd (of_decide_eq_true h') (by omega), fun _ => trivial⟩
theorem eqKid_ev {a : TKid} (ha : TKid.size a ≤ topN) : Ev (fun n _ => laws_eqKid n a a) true := by
  refine ev_succ ?_
  simp only [laws_eqKid, bne_self_eq_false, beq_self_eq_true, Bool.not_true, cond_false, ev_some]
theorem eqKidS_ev {a : List TKid} (ha : (sizeL TKid.size) a ≤ topN) : Ev (fun n _ => laws_eqKidS n a a) true := by
  refine ev_succ ?_
  have hl := sizeL_len TKid.size a
  simp only [laws_eqKidS, ev_cond, bne_self_eq_false]
  refine ⟨fun h => (by cases h), fun _ => ?_⟩
  refine ev_up1 (fun n N i => laws_eqKidS.loop6 n (some true) N a a (i : Int)) (fun _ => true) a.length fun i hi k => ?_
  show Ev (fun n N => laws_eqKidS.step6 n (some true) (laws_eqKidS.loop6 n (some true) N) a a (i : Int)) true
  by_cases h : i < a.length
  · simp only [laws_eqKidS.step6, Int.toNat_natCast, ev_cond, ev_inB, ev_bind (eqKid_ev (a := a.getD i TKid.dflt) (by have := sizeL_le TKid.size (getD_mem TKid.dflt h); omega)), bne_self_eq_false, beq_self_eq_true, Bool.not_true, W_up h (show a.length ≤ topN by omega)]
    exact ⟨fun _ => ⟨⟨by omega, by omega⟩, ⟨by omega, by omega⟩, fun h => (by cases h), fun _ => k h⟩, fun h' => absurd h (by simpa using h')⟩
  · simp only [laws_eqKidS.step6, ev_cond, ev_some]
    exact ⟨fun h' => absurd (of_decide_eq_true h') (by omega), fun _ => trivial⟩
theorem eqView_ev {a : TView} (ha : TView.size a ≤ topN) : Ev (fun n _ => laws_eqView n a a) true := by
  refine ev_succ ?_
  simp only [TView.size] at ha
  have h0 := eqQuery_ev (a := a.q) (by omega)
  have h1 := eqRowS_ev (a := a.rows) (by omega)
  have h2 := eqKidS_ev (a := a.kids) (by omega)
  simp only [laws_eqView, ev_bind h0, ev_bind h1, ev_bind h2, bne_self_eq_false, beq_self_eq_true, Bool.not_true, cond_false, ev_some]
theorem eqSess_ev {a : TSess} (ha : TSess.size a ≤ topN) : Ev (fun n _ => laws_eqSess n a a) true := by
  refine ev_succ ?_
  simp only [TSess.size] at ha
  have h0 := eqView_ev (a := a.view) (by omega)
  have h1 := eqView_ev (a := a.last) (by omega)
  simp only [laws_eqSess, ev_bind h0, ev_bind h1, bne_self_eq_false, beq_self_eq_true, Bool.not_true, cond_false, ev_some]
theorem eqChange_ev {a : TChange} (ha : TChange.size a ≤ topN) : Ev (fun n _ => laws_eqChange n a a) true := by
  refine ev_succ ?_
  simp only [TChange.size] at ha
  have h0 := eqRow_ev (a := a.old) (by omega)
  have h1 := eqRow_ev (a := a.new) (by omega)
  simp only [laws_eqChange, ev_bind h0, ev_bind h1, bne_self_eq_false, beq_self_eq_true, Bool.not_true, cond_false, ev_some]
theorem eqChangeS_ev {a : List TChange} (ha : (sizeL TChange.size) a ≤ topN) : Ev (fun n _ => laws_eqChangeS n a a) true := by
  refine ev_succ ?_
  have hl := sizeL_len TChange.size a
  simp only [laws_eqChangeS, ev_cond, bne_self_eq_false]
  refine ⟨fun h => (by cases h), fun _ => ?_⟩
  refine ev_up1 (fun n N i => laws_eqChangeS.loop6 n (some true) N a a (i : Int)) (fun _ => true) a.length fun i hi k => ?_
  show Ev (fun n N => laws_eqChangeS.step6 n (some true) (laws_eqChangeS.loop6 n (some true) N) a a (i : Int)) true
  by_cases h : i < a.length
  · simp only [laws_eqChangeS.step6, Int.toNat_natCast, ev_cond, ev_inB, ev_bind (eqChange_ev (a := a.getD i TChange.dflt) (by have := sizeL_le TChange.size (getD_mem TChange.dflt h); omega)), bne_self_eq_false, beq_self_eq_true, Bool.not_true, W_up h (show a.length ≤ topN by omega)]
    exact ⟨fun _ => ⟨⟨by omega, by omega⟩, ⟨by omega, by omega⟩, fun h => (by cases h), fun _ => k h⟩, fun h' => absurd h (by simpa using h')⟩
  · simp only [laws_eqChangeS.step6, ev_cond, ev_some]
    exact ⟨fun h' => absurd (of_decide_eq_true h') (by omega), fun _ => trivial⟩
theorem markCondS_ev {a : List TCond} {k : Int} (ha : a.length ≤ topN) (hk : 0 ≤ k) (hb : k + 32 * ((sizeL TCond.size) a : Nat) ≤ topN) :
    ∃ k' a', k ≤ k' ∧ k' ≤ k + 32 * ((sizeL TCond.size) a : Nat) ∧ a'.length = a.length ∧ Ev (fun n _ => laws_markCondS n a k) (k', a') ∧ Ev (fun n _ => laws_heldCondS n a' k) k' := by
  refine (mark_list TCond.dflt TCond.size (fun n N k i a => laws_markCondS.loop3 n (fun xy4 xy5 => (some (xy4, xy5))) N k (i : Int) a) (fun n N a k i => laws_heldCondS.loop3 n (fun xy1 => (some xy1)) N a k (i : Int)) (fun i a k hi ha hk hb => ?_) (fun a k => ?_) (fun a k => ?_) a k ha hk hb).elim fun k' ⟨a', h1, h2, h3, h4, h5⟩ => ⟨k', a', h1, h2, h3, ev_succ h4, ev_succ h5⟩
  · generalize hx : a.getD i TCond.dflt = x at *
    simp only [TCond.size] at hb ⊢
    
    refine ⟨((k + 1) + 1) + 1, (TCond.mk k (k + 1) ((k + 1) + 1)), by omega, by omega, fun F hF => ?_, fun b F hi' hb' hxb hF => ?_⟩
    · show Ev (fun n N => laws_markCondS.step3 n (fun xy4 xy5 => (some (xy4, xy5))) (laws_markCondS.loop3 n (fun xy4 xy5 => (some (xy4, xy5))) N) k (i : Int) a) F
      simp only [laws_markCondS.step3, Int.toNat_natCast, ev_cond, ev_inB, List.length_set, List.set_set, getD_put TCond.dflt hi, hx, W_next (k := k) (by omega) (by omega), W_next (k := k + 1) (by omega) (by omega), W_next (k := (k + 1) + 1) (by omega) (by omega), W_up hi ha, decide_eq_true_eq, decide_eq_false_iff_not, Nat.beq_refl]
      refine ⟨fun _ => ?_, fun h => absurd hi (by simpa using h)⟩
      repeat' (first | exact hF | apply And.intro | intro _ | omega)
      all_goals (first | exact hF | (simp_all; done) | omega)
    · show Ev (fun n N => laws_heldCondS.step3 n (fun xy1 => (some xy1)) (laws_heldCondS.loop3 n (fun xy1 => (some xy1)) N) b k (i : Int)) F
      simp only [laws_heldCondS.step3, Int.toNat_natCast, ev_cond, ev_inB, hxb, bne_self_eq_false, beq_self_eq_true, Bool.not_true, cond_false, W_next (k := k) (by omega) (by omega), W_next (k := k + 1) (by omega) (by omega), W_next (k := (k + 1) + 1) (by omega) (by omega), W_up hi' hb', decide_eq_true_eq, decide_eq_false_iff_not]
      refine ⟨fun _ => ?_, fun h => absurd hi' (by simpa using h)⟩
      repeat' (first | exact hF | apply And.intro | intro _ | omega)
      all_goals (first | exact hF | (simp_all; done) | omega)
  · show Ev (fun n N => laws_markCondS.step3 n (fun xy4 xy5 => (some (xy4, xy5))) (laws_markCondS.loop3 n (fun xy4 xy5 => (some (xy4, xy5))) N) k (a.length : Int) a) _
    simp only [laws_markCondS.step3, ev_cond, ev_some]
    exact ⟨fun h => absurd (of_decide_eq_true h) (by omega), fun _ => trivial⟩
  · show Ev (fun n N => laws_heldCondS.step3 n (fun xy1 => (some xy1)) (laws_heldCondS.loop3 n (fun xy1 => (some xy1)) N) a k (a.length : Int)) _
    simp only [laws_heldCondS.step3, ev_cond, ev_some]
    exact ⟨fun h => absurd (of_decide_eq_true h) (by omega), fun _ => trivial⟩
theorem markIntS_ev {a : List Int} {k : Int} (ha : a.length ≤ topN) (hk : 0 ≤ k) (hb : k + 32 * ((sizeL szI) a : Nat) ≤ topN) :
    ∃ k' a', k ≤ k' ∧ k' ≤ k + 32 * ((sizeL szI) a : Nat) ∧ a'.length = a.length ∧ Ev (fun n _ => laws_markIntS n a k) (k', a') ∧ Ev (fun n _ => laws_heldIntS n a' k) k' := by
  refine (mark_list 0 szI (fun n N k i a => laws_markIntS.loop3 n (fun xy2 xy3 => (some (xy2, xy3))) N k (i : Int) a) (fun n N a k i => laws_heldIntS.loop3 n (fun xy1 => (some xy1)) N a k (i : Int)) (fun i a k hi ha hk hb => ?_) (fun a k => ?_) (fun a k => ?_) a k ha hk hb).elim fun k' ⟨a', h1, h2, h3, h4, h5⟩ => ⟨k', a', h1, h2, h3, ev_succ h4, ev_succ h5⟩
  · generalize hx : a.getD i 0 = x at *
    simp only [szI] at hb ⊢
    
    refine ⟨k + 1, k, by omega, by omega, fun F hF => ?_, fun b F hi' hb' hxb hF => ?_⟩
    · show Ev (fun n N => laws_markIntS.step3 n (fun xy2 xy3 => (some (xy2, xy3))) (laws_markIntS.loop3 n (fun xy2 xy3 => (some (xy2, xy3))) N) k (i : Int) a) F
      simp only [laws_markIntS.step3, Int.toNat_natCast, ev_cond, ev_inB, List.length_set, List.set_set, getD_put 0 hi, hx, W_next (k := k) (by omega) (by omega), W_up hi ha, decide_eq_true_eq, decide_eq_false_iff_not, Nat.beq_refl]
      refine ⟨fun _ => ?_, fun h => absurd hi (by simpa using h)⟩
      repeat' (first | exact hF | apply And.intro | intro _ | omega)
      all_goals (first | exact hF | (simp_all; done) | omega)
    · show Ev (fun n N => laws_heldIntS.step3 n (fun xy1 => (some xy1)) (laws_heldIntS.loop3 n (fun xy1 => (some xy1)) N) b k (i : Int)) F
      simp only [laws_heldIntS.step3, Int.toNat_natCast, ev_cond, ev_inB, hxb, bne_self_eq_false, beq_self_eq_true, Bool.not_true, cond_false, W_next (k := k) (by omega) (by omega), W_up hi' hb', decide_eq_true_eq, decide_eq_false_iff_not]
      refine ⟨fun _ => ?_, fun h => absurd hi' (by simpa using h)⟩
      repeat' (first | exact hF | apply And.intro | intro _ | omega)
      all_goals (first | exact hF | (simp_all; done) | omega)
  · show Ev (fun n N => laws_markIntS.step3 n (fun xy2 xy3 => (some (xy2, xy3))) (laws_markIntS.loop3 n (fun xy2 xy3 => (some (xy2, xy3))) N) k (a.length : Int) a) _
    simp only [laws_markIntS.step3, ev_cond, ev_some]
    exact ⟨fun h => absurd (of_decide_eq_true h) (by omega), fun _ => trivial⟩
  · show Ev (fun n N => laws_heldIntS.step3 n (fun xy1 => (some xy1)) (laws_heldIntS.loop3 n (fun xy1 => (some xy1)) N) a k (a.length : Int)) _
    simp only [laws_heldIntS.step3, ev_cond, ev_some]
    exact ⟨fun h => absurd (of_decide_eq_true h) (by omega), fun _ => trivial⟩
theorem markQuery_ev {a : TQuery} {k : Int} (hk : 0 ≤ k) (hb : k + 32 * (TQuery.size a : Nat) ≤ topN) :
    ∃ k' y0 y1, k ≤ k' ∧ k' ≤ k + 32 * (TQuery.size a : Nat) ∧ y0.length = a.where_.length ∧ y1.length = a.show_.length ∧ Ev (fun n _ => laws_markQuery n a k) (k', y0, y1) ∧ Ev (fun n _ => laws_heldQuery n { a with where_ := y0, show_ := y1 } k) k' := by
  simp only [TQuery.size] at hb ⊢
  obtain ⟨k1, y0, u1, v1, ly0, e1, g1⟩ := markCondS_ev (a := a.where_) (k := k) (by have := sizeL_len TCond.size (a.where_); omega) (by omega) (by omega)
  obtain ⟨k5, y1, u5, v5, ly1, e5, g5⟩ := markIntS_ev (a := a.show_) (k := k1) (by have := sizeL_len szI (a.show_); omega) (by omega) (by omega)
  refine ⟨k5, y0, y1, by omega, by omega, ly0, ly1, ev_succ ?_, ev_succ ?_⟩
  · simp only [laws_markQuery, ev_bind e1, ev_bind e5, ly0, ly1, Nat.beq_refl, List.length_nil, cond_true, ev_some]
  · simp only [laws_heldQuery, ev_bind g1, ev_bind g5, ev_cond, ev_some, decide_eq_true_eq, decide_eq_false_iff_not]
    repeat' (first | apply And.intro | intro _)
    all_goals (first | trivial | rfl | (exfalso; omega) | omega)
theorem markRowS_ev {a : List TRow} {k : Int} (ha : a.length ≤ topN) (hk : 0 ≤ k) (hb : k + 32 * ((sizeL TRow.size) a : Nat) ≤ topN) :
    ∃ k' a', k ≤ k' ∧ k' ≤ k + 32 * ((sizeL TRow.size) a : Nat) ∧ a'.length = a.length ∧ Ev (fun n _ => laws_markRowS n a k) (k', a') ∧ Ev (fun n _ => laws_heldRowS n a' k) k' := by
  refine (mark_list TRow.dflt TRow.size (fun n N k i a => laws_markRowS.loop3 n (fun xy4 xy5 => (some (xy4, xy5))) N k (i : Int) a) (fun n N a k i => laws_heldRowS.loop3 n (fun xy2 => (some xy2)) N a k (i : Int)) (fun i a k hi ha hk hb => ?_) (fun a k => ?_) (fun a k => ?_) a k ha hk hb).elim fun k' ⟨a', h1, h2, h3, h4, h5⟩ => ⟨k', a', h1, h2, h3, ev_succ h4, ev_succ h5⟩
  · generalize hx : a.getD i TRow.dflt = x at *
    simp only [TRow.size] at hb ⊢
    obtain ⟨k1, y1, u1, v1, l1, e1, g1⟩ := markIntS_ev (a := x.cells) (k := k + 1) (by have := sizeL_len szI (x.cells); omega) (by omega) (by omega)
    refine ⟨k1, (TRow.mk k y1), by omega, by omega, fun F hF => ?_, fun b F hi' hb' hxb hF => ?_⟩
    · show Ev (fun n N => laws_markRowS.step3 n (fun xy4 xy5 => (some (xy4, xy5))) (laws_markRowS.loop3 n (fun xy4 xy5 => (some (xy4, xy5))) N) k (i : Int) a) F
      simp only [laws_markRowS.step3, Int.toNat_natCast, ev_cond, ev_inB, List.length_set, List.set_set, getD_put TRow.dflt hi, hx, ev_bind e1, W_next (k := k) (by omega) (by omega), l1, W_up hi ha, decide_eq_true_eq, decide_eq_false_iff_not, Nat.beq_refl]
      refine ⟨fun _ => ?_, fun h => absurd hi (by simpa using h)⟩
      repeat' (first | exact hF | apply And.intro | intro _ | omega)
      all_goals (first | exact hF | (simp_all; done) | omega)
    · show Ev (fun n N => laws_heldRowS.step3 n (fun xy2 => (some xy2)) (laws_heldRowS.loop3 n (fun xy2 => (some xy2)) N) b k (i : Int)) F
      simp only [laws_heldRowS.step3, Int.toNat_natCast, ev_cond, ev_inB, hxb, bne_self_eq_false, beq_self_eq_true, Bool.not_true, cond_false, ev_bind g1, W_next (k := k) (by omega) (by omega), l1, W_up hi' hb', decide_eq_true_eq, decide_eq_false_iff_not]
      refine ⟨fun _ => ?_, fun h => absurd hi' (by simpa using h)⟩
      repeat' (first | exact hF | apply And.intro | intro _ | omega)
      all_goals (first | exact hF | (simp_all; done) | omega)
  · show Ev (fun n N => laws_markRowS.step3 n (fun xy4 xy5 => (some (xy4, xy5))) (laws_markRowS.loop3 n (fun xy4 xy5 => (some (xy4, xy5))) N) k (a.length : Int) a) _
    simp only [laws_markRowS.step3, ev_cond, ev_some]
    exact ⟨fun h => absurd (of_decide_eq_true h) (by omega), fun _ => trivial⟩
  · show Ev (fun n N => laws_heldRowS.step3 n (fun xy2 => (some xy2)) (laws_heldRowS.loop3 n (fun xy2 => (some xy2)) N) a k (a.length : Int)) _
    simp only [laws_heldRowS.step3, ev_cond, ev_some]
    exact ⟨fun h => absurd (of_decide_eq_true h) (by omega), fun _ => trivial⟩
theorem markKidS_ev {a : List TKid} {k : Int} (ha : a.length ≤ topN) (hk : 0 ≤ k) (hb : k + 32 * ((sizeL TKid.size) a : Nat) ≤ topN) :
    ∃ k' a', k ≤ k' ∧ k' ≤ k + 32 * ((sizeL TKid.size) a : Nat) ∧ a'.length = a.length ∧ Ev (fun n _ => laws_markKidS n a k) (k', a') ∧ Ev (fun n _ => laws_heldKidS n a' k) k' := by
  refine (mark_list TKid.dflt TKid.size (fun n N k i a => laws_markKidS.loop3 n (fun xy3 xy4 => (some (xy3, xy4))) N k (i : Int) a) (fun n N a k i => laws_heldKidS.loop3 n (fun xy1 => (some xy1)) N a k (i : Int)) (fun i a k hi ha hk hb => ?_) (fun a k => ?_) (fun a k => ?_) a k ha hk hb).elim fun k' ⟨a', h1, h2, h3, h4, h5⟩ => ⟨k', a', h1, h2, h3, ev_succ h4, ev_succ h5⟩
  · generalize hx : a.getD i TKid.dflt = x at *
    simp only [TKid.size] at hb ⊢
    
    refine ⟨(k + 1) + 1, (TKid.mk k (k + 1)), by omega, by omega, fun F hF => ?_, fun b F hi' hb' hxb hF => ?_⟩
    · show Ev (fun n N => laws_markKidS.step3 n (fun xy3 xy4 => (some (xy3, xy4))) (laws_markKidS.loop3 n (fun xy3 xy4 => (some (xy3, xy4))) N) k (i : Int) a) F
      simp only [laws_markKidS.step3, Int.toNat_natCast, ev_cond, ev_inB, List.length_set, List.set_set, getD_put TKid.dflt hi, hx, W_next (k := k) (by omega) (by omega), W_next (k := k + 1) (by omega) (by omega), W_up hi ha, decide_eq_true_eq, decide_eq_false_iff_not, Nat.beq_refl]
      refine ⟨fun _ => ?_, fun h => absurd hi (by simpa using h)⟩
      repeat' (first | exact hF | apply And.intro | intro _ | omega)
      all_goals (first | exact hF | (simp_all; done) | omega)
    · show Ev (fun n N => laws_heldKidS.step3 n (fun xy1 => (some xy1)) (laws_heldKidS.loop3 n (fun xy1 => (some xy1)) N) b k (i : Int)) F
      simp only [laws_heldKidS.step3, Int.toNat_natCast, ev_cond, ev_inB, hxb, bne_self_eq_false, beq_self_eq_true, Bool.not_true, cond_false, W_next (k := k) (by omega) (by omega), W_next (k := k + 1) (by omega) (by omega), W_up hi' hb', decide_eq_true_eq, decide_eq_false_iff_not]
      refine ⟨fun _ => ?_, fun h => absurd hi' (by simpa using h)⟩
      repeat' (first | exact hF | apply And.intro | intro _ | omega)
      all_goals (first | exact hF | (simp_all; done) | omega)
  · show Ev (fun n N => laws_markKidS.step3 n (fun xy3 xy4 => (some (xy3, xy4))) (laws_markKidS.loop3 n (fun xy3 xy4 => (some (xy3, xy4))) N) k (a.length : Int) a) _
    simp only [laws_markKidS.step3, ev_cond, ev_some]
    exact ⟨fun h => absurd (of_decide_eq_true h) (by omega), fun _ => trivial⟩
  · show Ev (fun n N => laws_heldKidS.step3 n (fun xy1 => (some xy1)) (laws_heldKidS.loop3 n (fun xy1 => (some xy1)) N) a k (a.length : Int)) _
    simp only [laws_heldKidS.step3, ev_cond, ev_some]
    exact ⟨fun h => absurd (of_decide_eq_true h) (by omega), fun _ => trivial⟩
theorem markView_ev {a : TView} {k : Int} (hk : 0 ≤ k) (hb : k + 32 * (TView.size a : Nat) ≤ topN) :
    ∃ k' y0 y1 y2 y3, k ≤ k' ∧ k' ≤ k + 32 * (TView.size a : Nat) ∧ y0.length = a.q.where_.length ∧ y1.length = a.q.show_.length ∧ y2.length = a.rows.length ∧ y3.length = a.kids.length ∧ Ev (fun n _ => laws_markView n a k) (k', y0, y1, y2, y3) ∧ Ev (fun n _ => laws_heldView n (TView.mk { a.q with where_ := y0, show_ := y1 } y2 y3) k) k' := by
  simp only [TView.size] at hb ⊢
  obtain ⟨k0, y0, y1, u0, v0, ly0, ly1, e0, g0⟩ := markQuery_ev (a := a.q) (k := k) (by omega) (by omega)
  obtain ⟨k1, y2, u1, v1, ly2, e1, g1⟩ := markRowS_ev (a := a.rows) (k := k0) (by have := sizeL_len TRow.size (a.rows); omega) (by omega) (by omega)
  obtain ⟨k2, y3, u2, v2, ly3, e2, g2⟩ := markKidS_ev (a := a.kids) (k := k1) (by have := sizeL_len TKid.size (a.kids); omega) (by omega) (by omega)
  refine ⟨k2, y0, y1, y2, y3, by omega, by omega, ly0, ly1, ly2, ly3, ev_succ ?_, ev_succ ?_⟩
  · simp only [laws_markView, ev_bind e0, ev_bind e1, ev_bind e2, ly0, ly1, ly2, ly3, Nat.beq_refl, List.length_nil, cond_true, ev_some]
  · simp only [laws_heldView, ev_bind g0, ev_bind g1, ev_bind g2, ev_cond, ev_some, decide_eq_true_eq, decide_eq_false_iff_not]
    repeat' (first | apply And.intro | intro _)
    all_goals (first | trivial | rfl | (exfalso; omega) | omega)
theorem markSess_ev {a : TSess} {k : Int} (hk : 0 ≤ k) (hb : k + 32 * (TSess.size a : Nat) ≤ topN) :
    ∃ k' y0 y1 y2 y3 y4 y5 y6 y7, k ≤ k' ∧ k' ≤ k + 32 * (TSess.size a : Nat) ∧ y0.length = a.view.q.where_.length ∧ y1.length = a.view.q.show_.length ∧ y2.length = a.view.rows.length ∧ y3.length = a.view.kids.length ∧ y4.length = a.last.q.where_.length ∧ y5.length = a.last.q.show_.length ∧ y6.length = a.last.rows.length ∧ y7.length = a.last.kids.length ∧ Ev (fun n _ => laws_markSess n a k) (k', y0, y1, y2, y3, y4, y5, y6, y7) ∧ Ev (fun n _ => laws_heldSess n { a with view := (TView.mk { a.view.q with where_ := y0, show_ := y1 } y2 y3), last := (TView.mk { a.last.q with where_ := y4, show_ := y5 } y6 y7) } k) k' := by
  simp only [TSess.size] at hb ⊢
  obtain ⟨k0, y0, y1, y2, y3, u0, v0, ly0, ly1, ly2, ly3, e0, g0⟩ := markView_ev (a := a.view) (k := k) (by omega) (by omega)
  obtain ⟨k2, y4, y5, y6, y7, u2, v2, ly4, ly5, ly6, ly7, e2, g2⟩ := markView_ev (a := a.last) (k := k0) (by omega) (by omega)
  refine ⟨k2, y0, y1, y2, y3, y4, y5, y6, y7, by omega, by omega, ly0, ly1, ly2, ly3, ly4, ly5, ly6, ly7, ev_succ ?_, ev_succ ?_⟩
  · simp only [laws_markSess, ev_bind e0, ev_bind e2, ly0, ly1, ly2, ly3, ly4, ly5, ly6, ly7, Nat.beq_refl, List.length_nil, cond_true, ev_some]
  · simp only [laws_heldSess, ev_bind g0, ev_bind g2, ev_cond, ev_some, decide_eq_true_eq, decide_eq_false_iff_not]
    repeat' (first | apply And.intro | intro _)
    all_goals (first | trivial | rfl | (exfalso; omega) | omega)
theorem markChangeS_ev {a : List TChange} {k : Int} (ha : a.length ≤ topN) (hk : 0 ≤ k) (hb : k + 32 * ((sizeL TChange.size) a : Nat) ≤ topN) :
    ∃ k' a', k ≤ k' ∧ k' ≤ k + 32 * ((sizeL TChange.size) a : Nat) ∧ a'.length = a.length ∧ Ev (fun n _ => laws_markChangeS n a k) (k', a') ∧ True := by
  refine (mark_list1 TChange.dflt TChange.size (fun n N k i a => laws_markChangeS.loop3 n (fun xy10 xy11 => (some (xy10, xy11))) N k (i : Int) a) (fun i a k hi ha hk hb => ?_) (fun a k => ?_) a k ha hk hb).elim fun k' ⟨a', h1, h2, h3, h4, h5⟩ => ⟨k', a', h1, h2, h3, ev_succ h4, h5⟩
  · generalize hx : a.getD i TChange.dflt = x at *
    simp only [TChange.size, TRow.size] at hb ⊢
    obtain ⟨k4, y4, u4, v4, l4, e4, g4⟩ := markIntS_ev (a := x.old.cells) (k := (((k + 1) + 1) + 1) + 1) (by have := sizeL_len szI (x.old.cells); omega) (by omega) (by omega)
    obtain ⟨k6, y6, u6, v6, l6, e6, g6⟩ := markIntS_ev (a := x.new.cells) (k := k4 + 1) (by have := sizeL_len szI (x.new.cells); omega) (by omega) (by omega)
    refine ⟨k6, (TChange.mk k (Int.tmod (k + 1) 3 == 0) (Int.tmod ((k + 1) + 1) 3 == 0) (TRow.mk (((k + 1) + 1) + 1) y4) (TRow.mk k4 y6)), by omega, by omega, fun F hF => ?_⟩
    · show Ev (fun n N => laws_markChangeS.step3 n (fun xy10 xy11 => (some (xy10, xy11))) (laws_markChangeS.loop3 n (fun xy10 xy11 => (some (xy10, xy11))) N) k (i : Int) a) F
      simp only [laws_markChangeS.step3, Int.toNat_natCast, ev_cond, ev_inB, List.length_set, List.set_set, getD_put TChange.dflt hi, hx, ev_bind e4, ev_bind e6, W_next (k := k) (by omega) (by omega), W_next (k := k + 1) (by omega) (by omega), W_next (k := (k + 1) + 1) (by omega) (by omega), W_next (k := ((k + 1) + 1) + 1) (by omega) (by omega), l4, W_next (k := k4) (by omega) (by omega), l6, W_up hi ha, decide_eq_true_eq, decide_eq_false_iff_not, Nat.beq_refl]
      refine ⟨fun _ => ?_, fun h => absurd hi (by simpa using h)⟩
      repeat' (first | exact hF | apply And.intro | intro _ | omega)
      all_goals (first | exact hF | (simp_all; done) | omega)
  · show Ev (fun n N => laws_markChangeS.step3 n (fun xy10 xy11 => (some (xy10, xy11))) (laws_markChangeS.loop3 n (fun xy10 xy11 => (some (xy10, xy11))) N) k (a.length : Int) a) _
    simp only [laws_markChangeS.step3, ev_cond, ev_some]
    exact ⟨fun h => absurd (of_decide_eq_true h) (by omega), fun _ => trivial⟩
end Go.Pi
end
section
set_option linter.unusedVariables false
set_option maxRecDepth 100000
set_option linter.unusedSimpArgs false
namespace Go.Pi
def FChanges (v : TView) (l : List TChange) : TView := l.foldl FChange v
theorem FChange_len {c : Nat} {v : TView} {x : TChange} (h : lenV c v) (hx : lenC c x) : lenV (c + 2) (FChange v x) := by
  have hr : lenR (c + 1) (FVRows v x) := by
    have h1 := FDrop_len (id := x.old.id_) h.2.1
    unfold FVRows
    cases (x.table == v.q.table) <;> cases (x.has && FMatches v.q x.new) <;> cases x.had <;> simp only [cond_true, cond_false]
    all_goals (first | exact FPut_len h1 hx.2 | exact FPut_len h.2.1 hx.2 | exact h1.upto (by omega) | exact h.2.1.upto (by omega))
  have hk : (FVKids v x).length ≤ c + 2 := by
    have h0 := h.2.2
    have h1 := FKid_len (kids := v.kids) (id := FCell x.old v.q.kidCol) (by_ := -1)
    have h2 := FKid_len (kids := v.kids) (id := FCell x.new v.q.kidCol) (by_ := 1)
    have h3 := FKid_len (kids := FKid v.kids (FCell x.old v.q.kidCol) (-1)) (id := FCell x.new v.q.kidCol) (by_ := 1)
    unfold FVKids
    cases (v.q.kids && (x.table == v.q.kidTable)) <;> cases x.has <;> cases x.had <;> simp only [cond_true, cond_false] <;> omega
  exact ⟨⟨Nat.le_trans h.1.1 (by omega), Nat.le_trans h.1.2 (by omega)⟩, hr.upto (by omega), hk⟩
theorem FChanges_len {c : Nat} {v : TView} {l : List TChange} (h : lenV c v) (hl : ∀ x ∈ l, lenC c x) : lenV (c + 2 * l.length) (FChanges v l) := by
  have key : ∀ (l : List TChange) (d : Nat) (v : TView), c ≤ d → lenV d v → (∀ x ∈ l, lenC c x) → lenV (d + 2 * l.length) (FChanges v l) := by
    intro l
    induction l with
    | nil => intro d v _ h _; exact h
    | cons x l ih =>
      intro d v hd h hl
      have hx := hl x (List.mem_cons_self ..)
      have := ih (d + 2) (FChange v x) (by omega) (FChange_len h ⟨Nat.le_trans hx.1 hd, Nat.le_trans hx.2 hd⟩) (fun y hy => hl y (List.mem_cons_of_mem _ hy))
      simp only [List.length_cons]
      rw [show d + 2 * (l.length + 1) = d + 2 + 2 * l.length by omega]
      exact this
  exact key l c v (Nat.le_refl _) h hl
section
variable {v : TView} {l : List TChange} (h : lenV cap v) (hl : l.length ≤ cap) (hx : ∀ x ∈ l, lenC cap x)
include h hl hx
omit hl in
theorem changes_step {i : Nat} (hi : i < l.length) : lenV (cap + 2 * i) (FChanges v (l.take i)) ∧ lenC (cap + 2 * i) (l.getD i TChange.dflt) ∧ FChanges v (l.take (i + 1)) = FChange (FChanges v (l.take i)) (l.getD i TChange.dflt) := by
  refine ⟨?_, ?_, ?_⟩
  · have := FChanges_len (l := l.take i) h fun x h => hx x (List.mem_of_mem_take h)
    rwa [List.length_take, Nat.min_eq_left (by omega)] at this
  · have := hx _ (getD_mem TChange.dflt hi)
    exact ⟨Nat.le_trans this.1 (by omega), Nat.le_trans this.2 (by omega)⟩
  · rw [take_next TChange.dflt hi]; simp only [FChanges, List.foldl_append, List.foldl_cons, List.foldl_nil]
theorem spec_ViewChanges_ev : Ev (fun n _ => spec_ViewChanges n v l) (FChanges v l) := by
  refine ev_succ ?_
  simp only [cap] at hl
  have ht : l.length ≤ topN := by simp only [topN]; omega
  simp only [spec_ViewChanges, l13Copy_b (h.upto (show cap ≤ capR by decide))]
  refine ev_seq (fun i => FChanges v (l.take i)) l.length (fun n N i (s : TView) => spec_ViewChanges.loop4 n (fun xy3 xy4 xy5 xy6 xy7 xy8 xy9 xy10 xy11 xy12 xy13 xy14 xy15 xy16 xy17 xy18 xy19 xy20 => (some (TView.mk (TQuery.mk xy10 xy17 xy11 xy12 xy13 xy18 xy14 xy15 xy16) xy19 xy20))) N l (i : Int) 0 0 false 0 false 0 0 s.q.table s.q.order s.q.down s.q.first s.q.kids s.q.kidTable s.q.kidCol s.q.where_ s.q.show_ s.rows s.kids) _ (fun i hi F hF => ?_) ?_
  · obtain ⟨a, b, e⟩ := changes_step h hx hi
    have hs := spec_ViewChange_ev a b (by simp only [capR, cap]; omega)
    rw [e] at hF
    simp only [spec_ViewChanges.turn4, spec_ViewChanges.step4, Int.toNat_natCast, W_up hi ht, ev_cond, ev_inB, lt_up hi, in_up hi]
    refine ⟨fun _ => ⟨trivial, ?_⟩, fun h => by cases h⟩
    exact (ev_bind hs).2 hF
  · simp only [spec_ViewChanges.turn4, spec_ViewChanges.step4, lt_end, cond_false, ev_some, List.take_length]
theorem impl_ViewChanges_ev : Ev (fun n _ => impl_ViewChanges n v l) (FChanges v l) := by
  refine ev_succ ?_
  simp only [cap] at hl
  have ht : l.length ≤ topN := by simp only [topN]; omega
  simp only [impl_ViewChanges, copyView_b (h.upto (show cap ≤ capR by decide))]
  refine ev_seq (fun i => FChanges v (l.take i)) l.length (fun n N i (s : TView) => impl_ViewChanges.loop4 n (fun xy3 xy4 xy5 xy6 xy7 xy8 xy9 xy10 xy11 xy12 xy13 xy14 xy15 xy16 xy17 xy18 xy19 xy20 => (some (TView.mk (TQuery.mk xy10 xy17 xy11 xy12 xy13 xy18 xy14 xy15 xy16) xy19 xy20))) N l (l.length : Int) (i : Int) 0 0 false 0 false 0 0 s.q.table s.q.order s.q.down s.q.first s.q.kids s.q.kidTable s.q.kidCol s.q.where_ s.q.show_ s.rows s.kids) _ (fun i hi F hF => ?_) ?_
  · obtain ⟨a, b, e⟩ := changes_step h hx hi
    have hs := impl_ViewChange_ev a b (by simp only [capR, cap]; omega)
    rw [e] at hF
    simp only [impl_ViewChanges.turn4, impl_ViewChanges.step4, Int.toNat_natCast, W_up hi ht, ev_cond, ev_inB, lt_up hi, in_up hi]
    refine ⟨fun _ => ⟨trivial, ?_⟩, fun h => by cases h⟩
    exact (ev_bind hs).2 hF
  · simp only [impl_ViewChanges.turn4, impl_ViewChanges.step4, lt_end, cond_false, ev_some, List.take_length]
end
def FSessGo (x : TSess) (l : List TChange) : TSess := { x with view := FChanges x.view l, version := W (x.version + 1) }
section
variable {x : TSess} {l : List TChange} (h : lenS cap x) (hl : l.length ≤ cap) (hx : ∀ x ∈ l, lenC cap x)
include h hl hx
omit hl hx in
theorem lenS.toR : lenS capR x := ⟨h.1.upto (by decide), h.2.upto (by decide)⟩
theorem spec_SessGo_ev : Ev (fun n _ => spec_SessGo n x l) (FSessGo x l) := by
  refine ev_succ ?_
  simp only [spec_SessGo, l16Copy_b (lenS.toR h), ev_bind (spec_ViewChanges_ev h.1 hl hx), ev_some]
  rfl
theorem impl_SessGo_ev : Ev (fun n _ => impl_SessGo n x l) (FSessGo x l) := by
  refine ev_succ ?_
  simp only [impl_SessGo, copySess_b (lenS.toR h), ev_bind (impl_ViewChanges_ev h.1 hl hx), ev_some]
  rfl
end
theorem sumL_bound {α : Type} (f : α → Nat) (m : Nat) : ∀ (a : List α), (∀ x ∈ a, f x ≤ m) → sumL f a ≤ a.length * m
  | [], _ => by simp [sumL]
  | x :: a, h => by
    have := sumL_bound f m a fun y hy => h y (List.mem_cons_of_mem _ hy)
    have h1 := h x (List.mem_cons_self ..)
    simp only [sumL, List.length_cons, Nat.add_mul]; omega
theorem lenQ_of {c : Nat} {q : TQuery} (h : TQuery.size q ≤ c) : lenQ c q := by
  have h1 := sizeL_len TCond.size q.where_
  have h2 := sizeL_len szI q.show_
  simp only [TQuery.size] at h
  exact ⟨by omega, by omega⟩
theorem lenRow_of {r : TRow} : r.cells.length ≤ TRow.size r := sizeL_len szI r.cells
theorem lenR_of {c : Nat} {rows : List TRow} (h : sizeL TRow.size rows ≤ c) : lenR c rows := by
  have h1 := sizeL_len TRow.size rows
  exact ⟨by omega, fun x hx => by have := sizeL_le TRow.size hx; have := lenRow_of (r := x); omega⟩
theorem lenV_of {c : Nat} {v : TView} (h : TView.size v ≤ c) : lenV c v := by
  have h3 := sizeL_len TKid.size v.kids
  simp only [TView.size] at h
  exact ⟨lenQ_of (by omega), lenR_of (by omega), by omega⟩
theorem lenS_of {c : Nat} {x : TSess} (h : TSess.size x ≤ c) : lenS c x := by
  simp only [TSess.size] at h
  exact ⟨lenV_of (by omega), lenV_of (by omega)⟩
theorem lenC_of {c : Nat} {l : List TChange} (h : sizeL TChange.size l ≤ c) : ∀ x ∈ l, lenC c x := fun x hx => by
  have := sizeL_le TChange.size hx
  have h1 := lenRow_of (r := x.old)
  have h2 := lenRow_of (r := x.new)
  simp only [TChange.size] at this
  exact ⟨by omega, by omega⟩
theorem TQuery.size_le {c : Nat} {q : TQuery} (h : lenQ c q) : TQuery.size q ≤ 2 * c := by
  have h1 := h.1; have h2 := h.2
  simp only [TQuery.size, sizeL, sumL_zero szI (fun _ => rfl), sumL_zero TCond.size (fun _ => rfl)]; omega
theorem TView.size_le {v : TView} (h : lenV 3145728 v) : TView.size v ≤ 10000000000000 := by
  have h1 := TQuery.size_le h.1
  have h2 := h.2.2
  have h3 := h.2.1.1
  have h4 := sumL_bound TRow.size 3145728 v.rows fun x hx => by
    have := h.2.1.2 x hx
    simp only [TRow.size, sizeL, sumL_zero szI (fun _ => rfl)]; omega
  simp only [TView.size, sizeL, sumL_zero TKid.size (fun _ => rfl)]; omega
theorem SessGo_law {x : TSess} {l : List TChange} (hx : TSess.len x) (hl : lenL TChange.len l) : ∃ n, laws_FnExactSessGo n x l = some true := by
  refine ev_ex (ev_succ ?_)
  simp only [laws_FnExactSessGo, ev_bind (szSess_ev (a := x) (l := 1048576) hx (by omega) (by omega)), ev_cond, ev_some]
  refine ⟨fun _ => trivial, fun h => ?_⟩
  have hz := subS_ok (of_decide_eq_false h)
  have h := of_decide_eq_false h
  have hb : subS 1048576 x.size ≤ 1048576 := by unfold subS; split <;> omega
  simp only [ev_bind (szChangeS_ev (a := l) (l := subS 1048576 x.size) hl (by omega) hb), ev_cond, ev_some]
  refine ⟨fun _ => trivial, fun h2 => ?_⟩
  have hz2 := subS_ok (of_decide_eq_false h2)
  have k1 : TSess.size x ≤ cap := by simp only [cap]; omega
  have k2 : sizeL TChange.size l ≤ cap := by simp only [cap]; omega
  have hS := lenS_of k1
  have hC := lenC_of k2
  have hL : l.length ≤ cap := Nat.le_trans (sizeL_len TChange.size l) k2
  have hV := FChanges_len (l := l) hS.1 hC
  have g1 := TView.size_le (hV.upto (show cap + 2 * l.length ≤ 3145728 by simp only [cap] at hL ⊢; omega))
  have g2 := TView.size_le (hS.2.upto (show cap ≤ 3145728 by decide))
  have hg : TSess.size (FSessGo x l) ≤ 20000000000000 := by simp only [FSessGo, TSess.size]; omega
  simp only [cap] at k1 k2
  obtain ⟨m1, y0, y1, y2, y3, y4, y5, y6, y7, a1, a2, b0, b1, b2, b3, b4, b5, b6, b7, a3, a4⟩ := markSess_ev (a := x) (k := 1) (by omega) (by simp only [topN]; omega)
  obtain ⟨m2, z, c1, c2, c3, c4, c5⟩ := markChangeS_ev (a := l) (k := m1) (by have := sizeL_len TChange.size l; simp only [topN]; omega) (by omega) (by simp only [topN]; omega)
  obtain ⟨m3, w0, w1, w2, w3, w4, w5, w6, w7, d1, d2, f0, f1, f2, f3, f4, f5, f6, f7, d3, d4⟩ := markSess_ev (a := FSessGo x l) (k := 1) (by omega) (by simp only [topN]; omega)
  have t1 : TSess.size x ≤ topN := by simp only [topN]; omega
  have t2 : sizeL TChange.size l ≤ topN := by simp only [topN]; omega
  have t3 : TSess.size (FSessGo x l) ≤ topN := by simp only [topN]; omega
  have q1 : TSess.size x ≤ cap := k1
  have q2 : sizeL TChange.size l ≤ cap := k2
  simp only [ev_bind (toSess_ev q1), ev_bind (toChangeS_ev q2), ev_bind (spec_SessGo_ev hS hL hC), ev_bind (impl_SessGo_ev hS hL hC), ev_bind (eqSess_ev t3), ev_bind (eqSess_ev t1), ev_bind (eqChangeS_ev t2), ev_bind a3, ev_bind c4, ev_bind d3, ev_bind d4, b0, b1, b2, b3, b4, b5, b6, b7, c3, f0, f1, f2, f3, f4, f5, f6, f7, Nat.beq_refl, beq_self_eq_true, bne_self_eq_false, Bool.not_true, cond_true, cond_false, ev_cond, ev_some, decide_eq_true_eq, decide_eq_false_iff_not]
  repeat' (first | apply And.intro | intro _)
  all_goals (first | trivial | rfl | (exfalso; omega) | omega)
end Go.Pi
end
section
set_option linter.unusedVariables false
namespace Go.Pi
/-! the lengths, out of what an argument was read to be -/
theorem good_sl {t : TC} {xs : List (El t)} (h : Good (.sl .v t xs)) : xs.length ≤ topN ∧ ∀ x ∈ xs, ∀ c ∈ Coding.enc .v t x, Good c := by
  cases h with
  | sl t xs h1 h2 => exact ⟨h1, h2⟩
end Go.Pi
end
section
set_option linter.unusedVariables false
namespace Go.Pi
theorem TCond.good {x : TCond} (h : ∀ c ∈ ([.i .i64 x.col, .i .i64 x.op, .i .i64 x.v] : List AV), Good c) : TCond.len x := trivial
theorem TQuery.good {x : TQuery} (h : ∀ c ∈ ([.i .i64 x.table, .sl .v .lCond x.where_, .i .i64 x.order, .b x.down, .i .i64 x.first, .sl .v .int x.show_, .b x.kids, .i .i64 x.kidTable, .i .i64 x.kidCol] : List AV), Good c) : TQuery.len x := ⟨⟨(good_sl (t := .lCond) (h _ (.tail _ (.head _)))).1, fun x hx => TCond.good ((good_sl (t := .lCond) (h _ (.tail _ (.head _)))).2 x hx)⟩, ⟨(good_sl (t := .int) (h _ (.tail _ (.tail _ (.tail _ (.tail _ (.tail _ (.head _)))))))).1, fun x hx => trivial⟩⟩
theorem TRow.good {x : TRow} (h : ∀ c ∈ ([.i .i64 x.id_, .sl .v .int x.cells] : List AV), Good c) : TRow.len x := ⟨(good_sl (t := .int) (h _ (.tail _ (.head _)))).1, fun x hx => trivial⟩
theorem TKid.good {x : TKid} (h : ∀ c ∈ ([.i .i64 x.id_, .i .i64 x.n_] : List AV), Good c) : TKid.len x := trivial
theorem TView.good {x : TView} (h : ∀ c ∈ ([.i .i64 x.q.table, .sl .v .lCond x.q.where_, .i .i64 x.q.order, .b x.q.down, .i .i64 x.q.first, .sl .v .int x.q.show_, .b x.q.kids, .i .i64 x.q.kidTable, .i .i64 x.q.kidCol, .sl .v .lRow x.rows, .sl .v .lKid x.kids] : List AV), Good c) : TView.len x := ⟨⟨⟨(good_sl (t := .lCond) (h _ (.tail _ (.head _)))).1, fun x hx => TCond.good ((good_sl (t := .lCond) (h _ (.tail _ (.head _)))).2 x hx)⟩, ⟨(good_sl (t := .int) (h _ (.tail _ (.tail _ (.tail _ (.tail _ (.tail _ (.head _)))))))).1, fun x hx => trivial⟩⟩, ⟨(good_sl (t := .lRow) (h _ (.tail _ (.tail _ (.tail _ (.tail _ (.tail _ (.tail _ (.tail _ (.tail _ (.tail _ (.head _)))))))))))).1, fun x hx => TRow.good ((good_sl (t := .lRow) (h _ (.tail _ (.tail _ (.tail _ (.tail _ (.tail _ (.tail _ (.tail _ (.tail _ (.tail _ (.head _)))))))))))).2 x hx)⟩, ⟨(good_sl (t := .lKid) (h _ (.tail _ (.tail _ (.tail _ (.tail _ (.tail _ (.tail _ (.tail _ (.tail _ (.tail _ (.tail _ (.head _))))))))))))).1, fun x hx => TKid.good ((good_sl (t := .lKid) (h _ (.tail _ (.tail _ (.tail _ (.tail _ (.tail _ (.tail _ (.tail _ (.tail _ (.tail _ (.tail _ (.head _))))))))))))).2 x hx)⟩⟩
theorem TSess.good {x : TSess} (h : ∀ c ∈ ([.i .i64 x.view.q.table, .sl .v .lCond x.view.q.where_, .i .i64 x.view.q.order, .b x.view.q.down, .i .i64 x.view.q.first, .sl .v .int x.view.q.show_, .b x.view.q.kids, .i .i64 x.view.q.kidTable, .i .i64 x.view.q.kidCol, .sl .v .lRow x.view.rows, .sl .v .lKid x.view.kids, .i .i64 x.version, .i .i64 x.last.q.table, .sl .v .lCond x.last.q.where_, .i .i64 x.last.q.order, .b x.last.q.down, .i .i64 x.last.q.first, .sl .v .int x.last.q.show_, .b x.last.q.kids, .i .i64 x.last.q.kidTable, .i .i64 x.last.q.kidCol, .sl .v .lRow x.last.rows, .sl .v .lKid x.last.kids, .i .i64 x.lastVersion, .b x.began] : List AV), Good c) : TSess.len x := ⟨⟨⟨⟨(good_sl (t := .lCond) (h _ (.tail _ (.head _)))).1, fun x hx => TCond.good ((good_sl (t := .lCond) (h _ (.tail _ (.head _)))).2 x hx)⟩, ⟨(good_sl (t := .int) (h _ (.tail _ (.tail _ (.tail _ (.tail _ (.tail _ (.head _)))))))).1, fun x hx => trivial⟩⟩, ⟨(good_sl (t := .lRow) (h _ (.tail _ (.tail _ (.tail _ (.tail _ (.tail _ (.tail _ (.tail _ (.tail _ (.tail _ (.head _)))))))))))).1, fun x hx => TRow.good ((good_sl (t := .lRow) (h _ (.tail _ (.tail _ (.tail _ (.tail _ (.tail _ (.tail _ (.tail _ (.tail _ (.tail _ (.head _)))))))))))).2 x hx)⟩, ⟨(good_sl (t := .lKid) (h _ (.tail _ (.tail _ (.tail _ (.tail _ (.tail _ (.tail _ (.tail _ (.tail _ (.tail _ (.tail _ (.head _))))))))))))).1, fun x hx => TKid.good ((good_sl (t := .lKid) (h _ (.tail _ (.tail _ (.tail _ (.tail _ (.tail _ (.tail _ (.tail _ (.tail _ (.tail _ (.tail _ (.head _))))))))))))).2 x hx)⟩⟩, ⟨⟨⟨(good_sl (t := .lCond) (h _ (.tail _ (.tail _ (.tail _ (.tail _ (.tail _ (.tail _ (.tail _ (.tail _ (.tail _ (.tail _ (.tail _ (.tail _ (.tail _ (.head _)))))))))))))))).1, fun x hx => TCond.good ((good_sl (t := .lCond) (h _ (.tail _ (.tail _ (.tail _ (.tail _ (.tail _ (.tail _ (.tail _ (.tail _ (.tail _ (.tail _ (.tail _ (.tail _ (.tail _ (.head _)))))))))))))))).2 x hx)⟩, ⟨(good_sl (t := .int) (h _ (.tail _ (.tail _ (.tail _ (.tail _ (.tail _ (.tail _ (.tail _ (.tail _ (.tail _ (.tail _ (.tail _ (.tail _ (.tail _ (.tail _ (.tail _ (.tail _ (.tail _ (.head _)))))))))))))))))))).1, fun x hx => trivial⟩⟩, ⟨(good_sl (t := .lRow) (h _ (.tail _ (.tail _ (.tail _ (.tail _ (.tail _ (.tail _ (.tail _ (.tail _ (.tail _ (.tail _ (.tail _ (.tail _ (.tail _ (.tail _ (.tail _ (.tail _ (.tail _ (.tail _ (.tail _ (.tail _ (.tail _ (.head _)))))))))))))))))))))))).1, fun x hx => TRow.good ((good_sl (t := .lRow) (h _ (.tail _ (.tail _ (.tail _ (.tail _ (.tail _ (.tail _ (.tail _ (.tail _ (.tail _ (.tail _ (.tail _ (.tail _ (.tail _ (.tail _ (.tail _ (.tail _ (.tail _ (.tail _ (.tail _ (.tail _ (.tail _ (.head _)))))))))))))))))))))))).2 x hx)⟩, ⟨(good_sl (t := .lKid) (h _ (.tail _ (.tail _ (.tail _ (.tail _ (.tail _ (.tail _ (.tail _ (.tail _ (.tail _ (.tail _ (.tail _ (.tail _ (.tail _ (.tail _ (.tail _ (.tail _ (.tail _ (.tail _ (.tail _ (.tail _ (.tail _ (.tail _ (.head _))))))))))))))))))))))))).1, fun x hx => TKid.good ((good_sl (t := .lKid) (h _ (.tail _ (.tail _ (.tail _ (.tail _ (.tail _ (.tail _ (.tail _ (.tail _ (.tail _ (.tail _ (.tail _ (.tail _ (.tail _ (.tail _ (.tail _ (.tail _ (.tail _ (.tail _ (.tail _ (.tail _ (.tail _ (.tail _ (.head _))))))))))))))))))))))))).2 x hx)⟩⟩⟩
theorem TChange.good {x : TChange} (h : ∀ c ∈ ([.i .i64 x.table, .b x.had, .b x.has, .i .i64 x.old.id_, .sl .v .int x.old.cells, .i .i64 x.new.id_, .sl .v .int x.new.cells] : List AV), Good c) : TChange.len x := ⟨⟨(good_sl (t := .int) (h _ (.tail _ (.tail _ (.tail _ (.tail _ (.head _))))))).1, fun x hx => trivial⟩, ⟨(good_sl (t := .int) (h _ (.tail _ (.tail _ (.tail _ (.tail _ (.tail _ (.tail _ (.head _))))))))).1, fun x hx => trivial⟩⟩
theorem good_ChangeS {a : List TChange} (h : Good (.sl .v .lChange a)) : (lenL TChange.len) a := ⟨(good_sl (t := .lChange) h).1, fun x hx => TChange.good ((good_sl (t := .lChange) h).2 x hx)⟩
end Go.Pi
end
section
set_option linter.unusedVariables false
namespace Go.Pi
open Go.Proofs Go.Proofs.Ytpifpdljphobdaa
namespace laws_FnExactSessGo
theorem pure_law : Pure := fun x l h0 h1 => SessGo_law (TSess.good h0) (good_ChangeS (h1 _ (.head _)))
theorem proved : Rows.FnExactSessGoSaid := over pure_law
end laws_FnExactSessGo
end Go.Pi
end
namespace Go.Proofs.Ytpifpdljphobdaa
theorem fnExactSessGo_holds : Rows.FnExactSessGoSaid := Go.Pi.laws_FnExactSessGo.proved
#print axioms fnExactSessGo_holds
end Go.Proofs.Ytpifpdljphobdaa
