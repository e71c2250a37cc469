/- The card of FnExactShorter: the law returns true at every input, and leaves its arguments unchanged; no condition. Text 5 of 6. -/
import Derived.Test.YthfipmaaojdmnaaGreatDoorShD
import Derived.Shelf.Strings.Replace
import Derived.ChangeArms
import Derived.DataReads
import Derived.ChangeOld
import Derived.Test.YthfipmaaojdmnaaGreatDoorRows
import Derived.ProofKit
import Derived.OpenShut
import Derived.LaidLaws
import Derived.JoinedOf
import Derived.JoinedAt
import Derived.ChangeVars
import Derived.ChangeMaps5
import Derived.Stop.LaidErr
import Derived.Test.YthfipmaaojdmnaaGreatDoorTie
import Derived.Test.YthfipmaaojdmnaaGreatDoorCards
import Derived.IntWalk
import Derived.Lib.ItoaLen
section
set_option linter.unusedVariables false
set_option linter.unusedSimpArgs false
namespace Go.Proofs
open Go.Shelf Go.RowKit Go.Lib Go.Pi
section
variable {P : Program}
theorem ns_ (TS TE : TypeId) (TI : TypeId) (Z : Value) (i0 : TypeInfo) (uS : P.underlying TS = some (.slice TE)) (uI : P.underlying TI = some (.int .i64)) (hi0 : P.info? TE = some i0) (hz2 : i0.zero = some Z) (hz0 : i0.size = 5) (hz1 : i0.bytes = 80) (hZK : Z.cells.size = 5)
    (w : World) (g n c i : Nat) (cur : Array Value) (hg : w.heap[g]? = some (.cells cur TE (0, 0))) (hs : cur.size = c * 5) (hnc : n ≤ c) (hi : i < n)
    (gv m vc : Nat) (curv : Array Value) (Tv : TypeId) (hgv : w.heap[gv]? = some (.cells curv Tv (0, 0))) (hmv : m * 5 ≤ curv.size) (us : List Value) (hul : us = curv.toList.take (m * 5)) (h1u : ∀ v ∈ us, v.oneCell' = true) (hm : 0 < m) (hroom : c < n + m)
    (hbig : (n + m) * 80 ≤ 140737488355328) (h1 : ∀ v ∈ cur.toList.take (n * 5), v.oneCell' = true) :
    ∃ G N W1 R1 W2 A, Hid (N = w.heap.size) ∧ n + m ≤ G ∧ G ≤ maxLen ∧
      (∀ ty, (Builtin.append_ #[TS, TI] ty #[.slice (some ⟨g, 0, none⟩) i c, .int .i64 ((n : Int) + (m : Int) - (i : Int))]).run P w = .ok (.slice (some ⟨N, 0, none⟩) (n + m) G) W1) ∧
      (∀ ty dc, (Builtin.copy_ #[TS, TS] ty #[.slice (some ⟨N, i * 5, none⟩) (n + m - i) dc, .slice (some ⟨gv, 0, none⟩) m vc]).run P W1 = .ok (goInt m) (W1.setRow N R1)) ∧
      (W1.setRow N R1).drew = W2 ∧
      (∀ ty dc sc, (Builtin.copy_ #[TS, TS] ty #[.slice (some ⟨N, (i + m) * 5, none⟩) (n + m - (i + m)) dc, .slice (some ⟨g, i * 5, none⟩) (n - i) sc]).run P W2 = .ok (goInt (n - i)) (W2.setRow N A)) ∧
      Hid (n + m ≤ G ∧ G ≤ maxLen ∧ (W2.setRow N A).heap[w.heap.size]? = some (.cells A TE (0, 0)) ∧ A.size = G * 5 ∧ A.toList.take ((n + m) * 5) = (cur.toList.take (n * 5)).take (i * 5) ++ us ++ (cur.toList.take (n * 5)).drop (i * 5) ∧ w.grownBy (W2.setRow N A) none) := by
  have hul2 : us.length = m * 5 := by rw [hul, List.length_take, Array.length_toList]; omega
  have hsz : (P.info? TE).map (·.size) = some 5 := by rw [hi0]; simp [hz0]
  have hgd : w.drew.heap[g]? = some (.cells cur TE (0, 0)) := hg
  have hgl : g < w.heap.size := (Array.getElem?_eq_some_iff.1 hg).1
  have hgvl : gv < w.heap.size := (Array.getElem?_eq_some_iff.1 hgv).1
  obtain ⟨olds, holds⟩ : ∃ olds, olds = (cur.toList.take (n * 5)).take (i * 5) := ⟨_, rfl⟩
  have hol : olds.length = i * 5 := by rw [holds]; simp [hs]; omega
  obtain ⟨G, hG⟩ : ∃ G, G = grownCap w (n + m) c TE := ⟨_, rfl⟩
  have hGn : n + m ≤ G := by rw [hG]; exact grownCap_ge w _ _ _
  have hGm : G ≤ maxLen := by rw [hG]; exact grownCap_le_maxLen w (n + m) c TE (by unfold maxLen; omega)
  obtain ⟨ROW, hROW⟩ : ∃ ROW : Array Value, ROW = olds.toArray ++ Builtin.zeroCells Z.cells (n + m - i) ++ Builtin.zeroCells Z.cells (G - (n + m)) := ⟨_, rfl⟩
  have hRl : ROW.size = G * 5 := by rw [hROW]; simp [Builtin.zeroCells, hol, hZK]; omega
  have hRt : ROW.toList.take (i * 5) = olds := by
    rw [hROW]; simp only [Array.toList_append, List.append_assoc]
    rw [List.take_append_of_le_length (by simp [hol]), List.take_of_length_le (by simp [hol])]
  have hkk : (n : Int) + (m : Int) - (i : Int) = ((n + m - i : Nat) : Int) := by omega
  have hrz : ∀ ty, (Builtin.append_ #[TS, TI] ty #[.slice (some ⟨g, 0, none⟩) i c, .int .i64 ((n : Int) + (m : Int) - (i : Int))]).run P w =
      .ok (.slice (some ⟨w.heap.size, 0, none⟩) (n + m) G) (w.drew.alloc (.cells ROW TE)) := fun ty => by
    have h := Lib.run_append_grow_zeros (P := P) w TS TI ty TE i0 _ .i64 .i64 uS uI hi0 hz2 (some ⟨g, 0, none⟩) i c olds (by
      rw [hz0]
      exact run_firstCells_some w.drew 5 i ⟨g, 0, none⟩ i c olds hol (fun j v hj => by
        have hj2 := (List.getElem?_eq_some_iff.1 hj).1
        rw [holds, List.getElem?_take_of_lt (by omega), List.getElem?_take_of_lt (by omega), Array.getElem?_toList] at hj
        rw [Addr.add_lit, Nat.zero_add]
        simp only [World.cell?, hgd]
        exact hj)) (n + m - i) (by omega) (by omega) (by omega) (by omega) (by rw [hz1]; omega) (by rw [hz1, show i + (n + m - i) = n + m by omega]; exact growslice_fits hroom hbig)
    rw [show i + (n + m - i) = n + m by omega, ← hG, ← hROW] at h
    rw [hkk]
    exact h
  obtain ⟨N, hN⟩ : ∃ N, N = w.heap.size := ⟨_, rfl⟩
  rw [← hN] at hrz
  obtain ⟨W1, hW1⟩ : ∃ W1, W1 = w.drew.alloc (.cells ROW TE) := ⟨_, rfl⟩
  rw [← hW1] at hrz
  have hN1 : W1.heap[N]? = some (.cells ROW TE (0, 0)) := by rw [hW1, hN]; exact heap_alloc_new w.drew _
  have hold : ∀ b, b < w.heap.size → W1.heap[b]? = w.heap[b]? := fun b hb => by rw [hW1]; exact heap_alloc_old w.drew _ hb
  have hgr1 : w.grownBy W1 none := by rw [hW1]; exact ⟨rfl, rfl, rfl, by simp, fun k hk _ => heap_alloc_old w.drew _ hk⟩
  obtain ⟨R1, hR1⟩ : ∃ R1, R1 = (ROW.toList.take (i * 5) ++ us ++ ROW.toList.drop (i * 5 + us.length)).toArray := ⟨_, rfl⟩
  have hR1s : R1.size = G * 5 := by rw [hR1]; simp [hul2, hRl]; omega
  have hcp1 : ∀ ty dc, (Builtin.copy_ #[TS, TS] ty #[.slice (some ⟨N, i * 5, none⟩) (n + m - i) dc, .slice (some ⟨gv, 0, none⟩) m vc]).run P W1 = .ok (goInt m) (W1.setRow N R1) := fun ty dc => by
    have := cZ_ (P := P) W1 TS TS ty TE 5 N (i * 5) (n + m - i) dc ⟨gv, 0, none⟩ m vc ROW TE us uS hsz hN1 (by rw [hul2]; simp only [Nat.min_def]; split <;> omega)
      (fun j v hj => by
        have hj2 := (List.getElem?_eq_some_iff.1 hj).1
        rw [hul, List.getElem?_take_of_lt (by omega), Array.getElem?_toList] at hj
        rw [Addr.add_lit, Nat.zero_add]
        simp only [World.cell?, hold gv hgvl, hgv]
        exact hj) (by rw [hul2, hRl]; omega) h1u
    rw [this, hR1]
    congr 2
    simp only [Nat.min_def]; split <;> omega
  obtain ⟨W2, hW2⟩ : ∃ W2, W2 = (W1.setRow N R1).drew := ⟨_, rfl⟩
  have hN2 : W2.heap[N]? = some (.cells R1 TE (0, 0)) := by rw [hW2]; exact setRow_heap _ _ _ _ _ _ hN1
  have hg2 : W2.heap[g]? = some (.cells cur TE (0, 0)) := by
    rw [hW2]; show (W1.setRow N R1).heap[g]? = _
    rw [setRow_other _ _ _ _ (by omega), hold g hgl]; exact hg
  obtain ⟨mv, hmv2⟩ : ∃ mv, mv = (cur.toList.take (n * 5)).drop (i * 5) := ⟨_, rfl⟩
  have hml : mv.length = (n - i) * 5 := by rw [hmv2]; simp [hs]; omega
  obtain ⟨A, hA⟩ : ∃ A, A = (R1.toList.take ((i + m) * 5) ++ mv ++ R1.toList.drop ((i + m) * 5 + mv.length)).toArray := ⟨_, rfl⟩
  have hcp2 : ∀ ty dc sc, (Builtin.copy_ #[TS, TS] ty #[.slice (some ⟨N, (i + m) * 5, none⟩) (n + m - (i + m)) dc, .slice (some ⟨g, i * 5, none⟩) (n - i) sc]).run P W2 = .ok (goInt (n - i)) (W2.setRow N A) := fun ty dc sc => by
    have := cZ_ (P := P) W2 TS TS ty TE 5 N ((i + m) * 5) (n + m - (i + m)) dc ⟨g, i * 5, none⟩ (n - i) sc R1 TE mv uS hsz hN2 (by rw [hml]; simp only [Nat.min_def]; split <;> omega)
      (fun j v hj => by
        have hj2 := (List.getElem?_eq_some_iff.1 hj).1
        rw [hmv2, List.getElem?_drop, List.getElem?_take_of_lt (by omega), Array.getElem?_toList] at hj
        rw [Addr.add_lit]
        simp only [World.cell?, hg2]
        exact hj) (by rw [hml, hR1s]; omega) (fun v hv => h1 v (by rw [hmv2] at hv; exact List.mem_of_mem_drop hv))
    rw [this, hA]
    congr 2
    simp only [Nat.min_def]; split <;> omega
  have kA : Hid (n + m ≤ G ∧ G ≤ maxLen ∧ (W2.setRow N A).heap[w.heap.size]? = some (.cells A TE (0, 0)) ∧ A.size = G * 5 ∧ A.toList.take ((n + m) * 5) = (cur.toList.take (n * 5)).take (i * 5) ++ us ++ (cur.toList.take (n * 5)).drop (i * 5) ∧ w.grownBy (W2.setRow N A) none) := by
    refine ⟨hGn, hGm, by rw [← hN]; exact setRow_heap _ _ _ _ _ _ hN2, by rw [hA]; simp [hml, hR1s]; omega, ?_, ?_⟩
    · have e1 : R1.toList.take ((i + m) * 5) = olds ++ us := by
        rw [hR1]; simp only [List.toList_toArray]
        rw [List.take_append_of_le_length (by simp [hul2, hRl]; omega), List.take_of_length_le (by simp [hul2, hRl]; omega), hRt]
      rw [hA]; simp only [List.toList_toArray]
      rw [e1, List.take_append_of_le_length (by simp [hol, hul2, hml]; omega), List.take_of_length_le (by simp [hol, hul2, hml]; omega), holds, hmv2]
    · refine ⟨by rw [hW2]; exact hgr1.os, by rw [hW2]; exact hgr1.tape, by rw [hW2]; exact hgr1.output, ?_, fun k hk hne => ?_⟩
      · have : (W2.setRow N A).heap.size = W1.heap.size := by rw [hW2]; simp [World.setRow, World.drew]
        rw [this]; exact hgr1.size
      · rw [setRow_other _ _ _ _ (by omega), hW2]
        show (W1.setRow N R1).heap[k]? = _
        rw [setRow_other _ _ _ _ (by omega)]; exact hold k hk
  exact ⟨G, N, W1, R1, W2, A, hN, hGn, hGm, hrz, hcp1, hW2.symm, hcp2, kA⟩
end
set_option maxRecDepth 1000000 in
theorem InsEnd279 (w : World) (S : Value) (n : Nat) (vals : List Value) (hS : w.ownsRow 0 49 5 S n vals) (gv m vc : Nat) (us : List Value) (hul : us.length = m * 5) (hus : ∀ j u, us[j]? = some u → w.cell? ⟨gv, j, none⟩ = some u) (h1u : ∀ v ∈ us, v.oneCell' = true) (hm : 0 < m) (hb : (n + m) * 80 ≤ 140737488355328) :
    Calls Tryz.prog 279 #[S, .int .i64 n, .slice (some ⟨gv, 0, none⟩) m vc] w fun e w' => ∃ R, e = .returned R ∧ w'.ownsRow 0 49 5 R (n + m) (vals ++ us) ∧ gi_ w w' (fun b => cD_ S b ≠ 0) ∧
      ∀ b, cD_ R b ≠ 0 → (w.heap.size ≤ b ∨ cD_ S b ≠ 0) ∧ b < w'.heap.size := by
  obtain ⟨i0, hi0⟩ := Option.isSome_iff_exists.1 (show (Tryz.prog.info? 49).isSome = true by kernel_rfl)
  have hz0 : i0.size = 5 := by
    have : (Tryz.prog.info? 49).map (·.size) = some 5 := by kernel_rfl
    rw [hi0] at this; simpa using this
  have hz1 : i0.bytes = 80 := by
    have : (Tryz.prog.info? 49).map (·.bytes) = some 80 := by kernel_rfl
    rw [hi0] at this; simpa using this
  have hz2 : i0.zero = some (.agg #[.int .i64 0, .int .i64 0, .string ByteArray.empty, .slice none 0 0, .slice none 0 0]) := by
    have : (Tryz.prog.info? 49).bind (·.zero) = some (.agg #[.int .i64 0, .int .i64 0, .string ByteArray.empty, .slice none 0 0, .slice none 0 0]) := by kernel_rfl
    rw [hi0] at this; simpa using this
  have hz3 : ¬ ((m : Int) = 0) := by omega
  have mixed : Tryz.prog.follows .mixedOrders = true := by kernel_rfl
  have key : ∀ ty, ∃ v' w', (Builtin.append_ #[46, 46] ty #[S, .slice (some ⟨gv, 0, none⟩) m vc]).run Tryz.prog w = .ok v' w' ∧ w'.ownsRow 0 49 5 v' (n + m) (vals ++ us) ∧ gi_ w w' (fun b => cD_ S b ≠ 0) ∧
      ∀ b, cD_ v' b ≠ 0 → (w.heap.size ≤ b ∨ cD_ S b ≠ 0) ∧ b < w'.heap.size := fun ty => by
    have := dJ_ (P := Tryz.prog) w 46 ty 49 i0 _ Tryz.underlying46 hi0 hz2 (by rw [hz0]; rfl) (by rw [hz0]; decide) S n vals (by rw [hz0]; exact hS) (.slice (some ⟨gv, 0, none⟩) m vc) m us (by rw [hz0]; exact hul) (.inl ⟨_, _, rfl, fun j u h => by rw [Addr.add_lit, Nat.zero_add]; exact hus j u h⟩) h1u (by unfold maxLen; omega) (by rw [hz1]; exact hb)
    rw [hz0] at this
    exact this
  obtain ⟨v', w', k1, k2, k3⟩ := key 46
  rcases hS.2 with ⟨rfl, rfl⟩ | ⟨g, c, cur, rfl, -, hg, hnc, hcm, hcs, htake⟩
  · clear key hS hus hz2 hi0 hz0 hz1
    go_enter Tryz.func279, Tryz.ntmps279
    go_wp2_with (at_builtin; refine Lib.wpList_append_run _ rfl _ _ 46 46 rfl _ _ rfl rfl _ _ k1 ?_)
    go_ret
    exact ⟨_, rfl, k2, k3⟩
  · clear key hS hus hz2 hg htake hcs hi0 hz0 hz1
    unfold maxLen at hcm
    go_enter Tryz.func279, Tryz.ntmps279
    go_wp2_with (at_builtin; refine Lib.wpList_append_run _ rfl _ _ 46 46 rfl _ _ rfl rfl _ _ k1 ?_)
    all_goals (go_ret; exact ⟨_, rfl, k2, k3⟩)
set_option maxRecDepth 1000000 in
theorem nQ_ (w : World) (S : Value) (n i : Nat) (vals : List Value) (hS : w.ownsRow 0 49 5 S n vals) (U : Value) (us : List Value) (hU : w.ownsRow 0 49 5 U 0 us) (hi : i ≤ n) :
    Calls Tryz.prog 279 #[S, .int .i64 i, U] w fun e w' => e = .returned S ∧ w' = w := by
  rcases hS.2 with ⟨rfl, rfl⟩ | ⟨g, c, cur, rfl, -, hg, hnc, hcm, hcs, htake⟩
  · have hi0 : i = 0 := by omega
    subst hi0
    rcases hU.2 with ⟨rfl, -⟩ | ⟨gv, vc, curv, rfl, -, hgv, hmc, hcm, hcs, htake⟩
    · clear hS hU
      go_enter Tryz.func279, Tryz.ntmps279
      go_wp2_with fail
      go_ret
      exact ⟨rfl, rfl⟩
    · clear hS hU hgv hcs htake
      go_enter Tryz.func279, Tryz.ntmps279
      go_wp2_with fail
      go_ret
      exact ⟨rfl, rfl⟩
  · unfold maxLen at hcm
    have hic : i ≤ c := by omega
    rcases hU.2 with ⟨rfl, -⟩ | ⟨gv, vc, curv, rfl, -, hgv, hmc, hcm2, hcs2, htake2⟩
    · clear hS hU hg hcs htake
      go_enter Tryz.func279, Tryz.ntmps279
      go_wp2_with fail
      all_goals (go_ret; exact ⟨rfl, rfl⟩)
    · clear hS hU hg hcs htake hgv hcs2 htake2
      go_enter Tryz.func279, Tryz.ntmps279
      go_wp2_with fail
      all_goals (go_ret; exact ⟨rfl, rfl⟩)
set_option maxRecDepth 1000000 in
theorem mc_ (w : World) (g n c i : Nat) (cur : Array Value) (hg : w.heap[g]? = some (.cells cur 49 (0, 0))) (hs : cur.size = c * 5) (hc : c ≤ 9223372036854775807) (hi : i < n)
    (gv m vc : Nat) (curv : Array Value) (Tv : TypeId) (hgv : w.heap[gv]? = some (.cells curv Tv (0, 0))) (hmv : m * 5 ≤ curv.size) (hne : gv ≠ g) (us : List Value) (hul : us = curv.toList.take (m * 5)) (h1u : ∀ v ∈ us, v.oneCell' = true) (hm : 0 < m) (hroom : n + m ≤ c)
    (h1 : ∀ v ∈ cur.toList.take (n * 5), v.oneCell' = true) :
    Calls Tryz.prog 279 #[.slice (some ⟨g, 0, none⟩) n c, .int .i64 i, .slice (some ⟨gv, 0, none⟩) m vc] w fun e w' => e = .returned (.slice (some ⟨g, 0, none⟩) (n + m) c) ∧
      ∃ A, w' = w.drew.setRow g A ∧ A.size = cur.size ∧ A.toList.take ((n + m) * 5) = (cur.toList.take (n * 5)).take (i * 5) ++ us ++ (cur.toList.take (n * 5)).drop (i * 5) := by
  have hsz : (Tryz.prog.info? 49).map (·.size) = some 5 := by kernel_rfl
  have hul2 : us.length = m * 5 := by rw [hul, List.length_take, Array.length_toList]; omega
  have hov : ∀ lb cb, (callFunc 304 #[.slice (some ⟨gv, 0, none⟩) m vc, .slice (some ⟨g, (i + m) * 5, none⟩) lb cb]).run Tryz.prog w = .ok (.value (.bool false)) w := fun lb cb => by
    rw [run_callFunc_extern Tryz.func304 (by kernel_rfl) (by kernel_rfl) (by kernel_rfl) (e := Extern.SlicesOverlaps.overlaps #[46, 46] #[4]) (by kernel_rfl),
      Lib.run_overlaps_apart w 46 4 49 Tryz.underlying46 5 Tryz.sizeOf49 ⟨gv, 0, none⟩ ⟨g, (i + m) * 5, none⟩ m vc lb cb hne Tv 49 curv.size cur.size (by simp [World.shape?, hgv]) (by simp [World.shape?, hg]) (by omega) (by simp [World.frozen?, hgv]) (by simp [World.frozen?, hgv])]
    rfl
  obtain ⟨mv, hmv2⟩ : ∃ mv, mv = (cur.toList.take (n * 5)).drop (i * 5) := ⟨_, rfl⟩
  have hml : mv.length = (n - i) * 5 := by rw [hmv2]; simp [hs]; omega
  have hgd : w.drew.heap[g]? = some (.cells cur 49 (0, 0)) := hg
  obtain ⟨B, hB⟩ : ∃ B, B = (cur.toList.take ((i + m) * 5) ++ mv ++ cur.toList.drop ((i + m) * 5 + mv.length)).toArray := ⟨_, rfl⟩
  have hcp1 : ∀ ty dc sc, (Builtin.copy_ #[46, 46] ty #[.slice (some ⟨g, (i + m) * 5, none⟩) (n + m - (i + m)) dc, .slice (some ⟨g, i * 5, none⟩) (n + m - i) sc]).run Tryz.prog w.drew = .ok (goInt (n - i)) (w.drew.setRow g B) := fun ty dc sc => by
    have := cZ_ (P := Tryz.prog) w.drew 46 46 ty 49 5 g ((i + m) * 5) (n + m - (i + m)) dc ⟨g, i * 5, none⟩ (n + m - i) sc cur 49 mv Tryz.underlying46 hsz hgd (by rw [hml]; simp only [Nat.min_def]; split <;> omega)
      (fun j v hj => by
        have hj2 := (List.getElem?_eq_some_iff.1 hj).1
        rw [hmv2, List.getElem?_drop, List.getElem?_take_of_lt (by omega), Array.getElem?_toList] at hj
        rw [Addr.add_lit]
        simp only [World.cell?, hgd]
        exact hj) (by rw [hml, hs]; omega) (fun v hv => h1 v (by rw [hmv2] at hv; exact List.mem_of_mem_drop hv))
    rw [this, hB]
    congr 2
    simp only [Nat.min_def]; split <;> omega
  have hBs : B.size = cur.size := by rw [hB]; simp [hml, hs]; omega
  have hgB : (w.drew.setRow g B).heap[g]? = some (.cells B 49 (0, 0)) := setRow_heap _ _ _ _ _ _ hgd
  obtain ⟨A, hA⟩ : ∃ A, A = (B.toList.take (i * 5) ++ us ++ B.toList.drop (i * 5 + us.length)).toArray := ⟨_, rfl⟩
  have hcp2 : ∀ ty dc, (Builtin.copy_ #[46, 46] ty #[.slice (some ⟨g, i * 5, none⟩) (n + m - i) dc, .slice (some ⟨gv, 0, none⟩) m vc]).run Tryz.prog (w.drew.setRow g B) = .ok (goInt m) (w.drew.setRow g A) := fun ty dc => by
    have := cZ_ (P := Tryz.prog) (w.drew.setRow g B) 46 46 ty 49 5 g (i * 5) (n + m - i) dc ⟨gv, 0, none⟩ m vc B 49 us Tryz.underlying46 hsz hgB (by rw [hul2]; simp only [Nat.min_def]; split <;> omega)
      (fun j v hj => by
        have hj2 := (List.getElem?_eq_some_iff.1 hj).1
        rw [hul, List.getElem?_take_of_lt (by omega), Array.getElem?_toList] at hj
        rw [Addr.add_lit, Nat.zero_add]
        have e : (w.drew.setRow g B).heap[gv]? = some (.cells curv Tv (0, 0)) := by rw [setRow_other _ _ _ _ hne]; exact hgv
        simp only [World.cell?, e]
        exact hj) (by rw [hul2, hBs, hs]; omega) h1u
    rw [this, hA, setRow_setRow]
    congr 2
    simp only [Nat.min_def]; split <;> omega
  have kA : Hid (A.size = cur.size ∧ A.toList.take ((n + m) * 5) = (cur.toList.take (n * 5)).take (i * 5) ++ us ++ mv) := by
    have e1 : B.toList.take (i * 5) = (cur.toList.take (n * 5)).take (i * 5) := by
      rw [hB]; simp only [List.toList_toArray, List.append_assoc]
      rw [List.take_append_of_le_length (by simp [hs]; omega), List.take_take, List.take_take]
      congr 1; omega
    have e2 : (B.toList.drop (i * 5 + us.length)).take mv.length = mv := by
      rw [hB]; simp only [List.toList_toArray, List.append_assoc]
      rw [List.drop_append, List.drop_eq_nil_of_le (by simp [hul2, hs]; omega), List.nil_append, List.length_take, show i * 5 + us.length - min ((i + m) * 5) cur.toList.length = 0 by simp [hul2, hs]; omega, List.drop_zero, List.take_append_of_le_length (Nat.le_refl _), List.take_of_length_le (Nat.le_refl _)]
    refine ⟨by rw [hA]; simp [hul2, hBs, hs]; omega, ?_⟩
    rw [hA]; simp only [List.toList_toArray]
    rw [List.take_append, List.take_of_length_le (by simp [hul2, hBs, hs]; omega), e1]
    congr 1
    rw [show (n + m) * 5 - (List.take (i * 5) (List.take (n * 5) cur.toList) ++ us).length = mv.length by simp [hul2, hml, hs]; omega]
    exact e2
  rw [hmv2] at kA
  have hnc : n ≤ c := by omega
  have hic : i ≤ c := by omega
  have hz1 : ¬ ((m : Int) = 0) := by omega
  have hz2 : ¬ ((i : Int) = (n : Int)) := by omega
  have mixed : Tryz.prog.follows .mixedOrders = true := by kernel_rfl
  have hw1 : IntKind.i64.wrap ((i : Int) + (m : Int)) = (i : Int) + (m : Int) := by rw [IntKind.wrap_i64]; omega
  have hb1 : (0 : Int) ≤ (i : Int) + (m : Int) := by omega
  have hin : i ≤ n := by omega
  have htn : ((i : Int) + (m : Int)).toNat = i + m := by omega
  have hb2 : ¬ (c = i + m) := by omega
  have hb3 : (i : Int) ≤ (n : Int) + (m : Int) := by omega
  have hb4 : ¬ (c = i) := by omega
  clear hB hBs hgB hA hmv2 hml hgd hg hgv hul hul2 h1 h1u hsz hs hmv
  go_enter Tryz.func279, Tryz.ntmps279
  go_wp2_with (simp only [hov])
  go_region_law_o (refine do_ rfl _ _ 46 46 rfl _ _ (by simp [Act.eval, Act.put]) (by simp [Act.eval, Act.put]) (hcp1 _ _ _) ?_)
  go_wp2_with (at_builtin; refine d3_ _ rfl _ _ 46 46 rfl _ _ rfl rfl (hcp2 _ _) ?_)
  go_ret
  exact ⟨rfl, A, rfl, kA.out.1, kA.out.2⟩
set_option maxRecDepth 1000000 in
theorem nT_ (w : World) (g n c i : Nat) (cur : Array Value) (hg : w.heap[g]? = some (.cells cur 49 (0, 0))) (hs : cur.size = c * 5) (hnc : n ≤ c) (hi : i < n)
    (gv m vc : Nat) (curv : Array Value) (Tv : TypeId) (hgv : w.heap[gv]? = some (.cells curv Tv (0, 0))) (hmv : m * 5 ≤ curv.size) (us : List Value) (hul : us = curv.toList.take (m * 5)) (h1u : ∀ v ∈ us, v.oneCell' = true) (hm : 0 < m) (hroom : c < n + m)
    (hbig : (n + m) * 80 ≤ 140737488355328) (h1 : ∀ v ∈ cur.toList.take (n * 5), v.oneCell' = true) :
    Calls Tryz.prog 279 #[.slice (some ⟨g, 0, none⟩) n c, .int .i64 i, .slice (some ⟨gv, 0, none⟩) m vc] w fun e w' => ∃ C A, e = .returned (.slice (some ⟨w.heap.size, 0, none⟩) (n + m) C) ∧ n + m ≤ C ∧ C ≤ maxLen ∧
      w'.heap[w.heap.size]? = some (.cells A 49 (0, 0)) ∧ A.size = C * 5 ∧ A.toList.take ((n + m) * 5) = (cur.toList.take (n * 5)).take (i * 5) ++ us ++ (cur.toList.take (n * 5)).drop (i * 5) ∧ w.grownBy w' none := by
  obtain ⟨i0, hi0⟩ := Option.isSome_iff_exists.1 (show (Tryz.prog.info? 49).isSome = true by kernel_rfl)
  have hz0 : i0.size = 5 := by
    have : (Tryz.prog.info? 49).map (·.size) = some 5 := by kernel_rfl
    rw [hi0] at this; simpa using this
  have hz1 : i0.bytes = 80 := by
    have : (Tryz.prog.info? 49).map (·.bytes) = some 80 := by kernel_rfl
    rw [hi0] at this; simpa using this
  have hz2 : i0.zero = some (.agg #[.int .i64 0, .int .i64 0, .string ByteArray.empty, .slice none 0 0, .slice none 0 0]) := by
    have : (Tryz.prog.info? 49).bind (·.zero) = some (.agg #[.int .i64 0, .int .i64 0, .string ByteArray.empty, .slice none 0 0, .slice none 0 0]) := by kernel_rfl
    rw [hi0] at this; simpa using this
  obtain ⟨G, N, W1, R1, W2, A, hNN, hGn, hGm, hrz, hcp1, hW2', hcp2, kA⟩ := ns_ 46 49 3 _ i0 Tryz.underlying46 Tryz.underlying3 hi0 hz2 hz0 hz1 rfl w g n c i cur hg hs hnc hi gv m vc curv Tv hgv hmv us hul h1u hm hroom hbig h1
  have hic : i ≤ c := by omega
  have hz3 : ¬ ((m : Int) = 0) := by omega
  have hz4 : ¬ ((i : Int) = (n : Int)) := by omega
  have hz5 : (c : Int) < (n : Int) + (m : Int) := by omega
  have mixed : Tryz.prog.follows .mixedOrders = true := by kernel_rfl
  have hG63 : G ≤ 9223372036854775807 := by unfold maxLen at hGm; omega
  have hw1 : IntKind.i64.wrap ((n : Int) + (m : Int)) = (n : Int) + (m : Int) := by rw [IntKind.wrap_i64]; omega
  have hw2 : IntKind.i64.wrap ((n : Int) + (m : Int) - (i : Int)) = (n : Int) + (m : Int) - (i : Int) := by rw [IntKind.wrap_i64]; omega
  have hw3 : IntKind.i64.wrap ((i : Int) + (m : Int)) = (i : Int) + (m : Int) := by rw [IntKind.wrap_i64]; omega
  have hb1 : (0 : Int) ≤ (i : Int) + (m : Int) := by omega
  have htn : ((i : Int) + (m : Int)).toNat = i + m := by omega
  have hGi : ¬ (G = i) := by omega
  have hGim : ¬ (G = i + m) := by omega
  have hb3 : (i : Int) ≤ (n : Int) + (m : Int) := by omega
  have hb4 : ¬ (c = i) := by omega
  have hinm : i ≤ n + m := by omega
  have himn : i + m ≤ n + m := by omega
  have hin : i ≤ n := by omega
  clear hul h1 h1u hg hgv hs hmv hz0 hz1 hz2 hi0 hbig
  go_enter Tryz.func279, Tryz.ntmps279
  go_wp2_with (at_builtin; refine Lib.wpList_append_run _ rfl _ _ 46 3 rfl _ _ rfl rfl _ _ (hrz _) ?_)
  go_region_law_o (simp only [hW2']; refine do_ rfl _ _ 46 46 rfl _ _ (by simp [Act.eval, Act.put]) (by simp [Act.eval, Act.put]) (hcp2 _ _ _) ?_)
  go_wp2_with fail
  go_ret
  exact ⟨G, A, by rw [hNN.out]; rfl, kA.out⟩
theorem insM279 : InsM Tryz.prog 279 49 5 80 := by
  intro w S n vals U m us i hS hU hdis hi h1 h1u hb
  have hvl := hS.1
  by_cases hm : m = 0
  · subst hm
    have hus : us = [] := by have := hU.1; rw [Nat.zero_mul] at this; exact List.eq_nil_of_length_eq_zero this
    subst hus
    refine (nQ_ w S n i vals hS U [] hU hi).mono ?_
    rintro e w' ⟨rfl, rfl⟩
    refine ⟨S, rfl, by rw [List.append_nil, List.take_append_drop]; exact hS, ⟨rfl, rfl, rfl, Nat.le_refl _, fun _ _ _ => rfl⟩, fun b hb => ⟨.inr hb, jD_ hS b hb⟩⟩
  · rcases hU.2 with ⟨rfl, h0⟩ | ⟨gv, vc, curv, rfl, -, hgv, hmc, hcm, hcs, htake⟩
    · exact absurd h0 hm
    · by_cases hin : i = n
      · subst hin
        rw [List.take_of_length_le (by omega), List.drop_eq_nil_of_le (by omega), List.append_nil]
        exact InsEnd279 w S i vals hS gv m vc us hU.1 (fun j u h => by have := hU.cells (g := gv) rfl j u h; rwa [Addr.add_lit, Nat.zero_add] at this) h1u (by omega) hb
      · rcases hS.2 with ⟨rfl, h0⟩ | ⟨g, c, cur, rfl, -, hg, hnc, hcm', hcs', htake'⟩
        · omega
        · have hne : gv ≠ g := fun e => by subst e; have := hdis gv (by simp [cD_]); simp [cD_] at this
          have hmv : m * 5 ≤ curv.size := by rw [hcs]; exact Nat.mul_le_mul_right _ hmc
          by_cases hroom : n + m ≤ c
          · refine (mc_ w g n c i cur hg hcs' (by unfold maxLen at hcm'; omega) (by omega) gv m vc curv 49 hgv hmv hne us htake.symm h1u (by omega) hroom (by rw [htake']; exact h1)).mono ?_
            rintro e w' ⟨rfl, A, rfl, hA, ht⟩
            rw [htake'] at ht
            have hgd : w.drew.heap[g]? = some (.cells cur 49 (0, 0)) := hg
            have hA2 := setRow_heap w.drew g cur A _ _ hgd
            refine ⟨_, rfl, ⟨by rw [← ht]; simp [hA, hcs']; omega, .inr ⟨g, c, A, rfl, Nat.zero_le _, hA2, hroom, hcm', by rw [hA, hcs'], ht⟩⟩, ⟨rfl, rfl, rfl, gR_ w g A, fun b _ hn => ?_⟩, fun b hb => ⟨.inr hb, ?_⟩⟩
            · rw [setRow_other _ _ _ _ (fun e => hn (by subst e; simp [cD_]))]; rfl
            · have : g = b := by simp only [cD_] at hb; exact Classical.byContradiction fun h => hb (if_neg h)
              subst this
              exact (Array.getElem?_eq_some_iff.1 hA2).1
          · refine (nT_ w g n c i cur hg hcs' hnc (by omega) gv m vc curv 49 hgv hmv us htake.symm h1u (by omega) (by omega) hb (by rw [htake']; exact h1)).mono ?_
            rintro e w' ⟨C, A, rfl, hC, hCm, hN, hA, ht, hgr⟩
            rw [htake'] at ht
            refine ⟨_, rfl, ⟨by rw [← ht]; simp [hA]; omega, .inr ⟨_, C, A, rfl, Nat.zero_le _, hN, hC, hCm, hA, ht⟩⟩, ⟨hgr.os, hgr.tape, hgr.output, hgr.size, fun b hb _ => hgr.block b hb (by simp)⟩, fun b hb => ?_⟩
            have : w.heap.size = b := by simp only [cD_] at hb; exact Classical.byContradiction fun h => hb (if_neg h)
            subst this
            exact ⟨.inl (Nat.le_refl _), (Array.getElem?_eq_some_iff.1 hN).1⟩
end Go.Proofs
namespace Go.Pi
open Go.Proofs
theorem bv_.ok (n : Nat) (_ : CxOk E (cx n bv_.d.nt)) (_ : KPar (cx n bv_.d.nt)) : bv_.d.Ok E (bv_.F (n + 1)) := fun _ _ h => lF_ (t := .iJson) (m1 := .d) (m2 := .d) (by decide) (by decide) insM279 h
end Go.Pi
end
section
set_option linter.unusedVariables false
set_option linter.unusedSimpArgs false
namespace Go.Proofs
open Go.Shelf
def Tryz.lays155_ren : Go.Shelf.Ren := ⟨fun | 155 => 283 | 154 => 310 | 138 => 328 | 165 => 250 | 143 => 329 | 166 => 251 | 197 => 330 | 169 => 252 | 195 => 338 | 218 => 339 | 240 => 285 | 241 => 286 | 219 => 287 | 260 => 340 | 276 => 311 | 277 => 312 | 217 => 313 | 225 => 314 | 224 => 315 | 267 => 316 | 266 => 331 | 314 => 332 | n => n, fun | 9 => 9 | 3 => 3 | 4 => 4 | 72 => 249 | 0 => 0 | 76 => 197 | 105 => 307 | 21 => 21 | 5 => 5 | 70 => 247 | 20 => 20 | 37 => 22 | 75 => 196 | 127 => 273 | 164 => 292 | 46 => 205 | 119 => 318 | 139 => 321 | 138 => 320 | 146 => 309 | 51 => 304 | 80 => 251 | n => n, fun | 1 => 2 | 3 => 6 | 4 => 7 | n => n⟩
theorem Tryz.lays155 : Go.Proofs.Lays.n155 Tryz.prog Tryz.lays155_ren := {
  mixed := by kernel_rfl
  f138 := Tryz.func328.trans (congrArg some (by kernel_rfl))
  f143 := Tryz.func329.trans (congrArg some (by kernel_rfl))
  f154 := Tryz.func310.trans (congrArg some (by kernel_rfl))
  f155 := Tryz.func283.trans (congrArg some (by kernel_rfl))
  f165 := Tryz.func250.trans (congrArg some (by kernel_rfl))
  f166 := Tryz.func251.trans (congrArg some (by kernel_rfl))
  f169 := Tryz.func252.trans (congrArg some (by kernel_rfl))
  f195 := Tryz.func338.trans (congrArg some (by kernel_rfl))
  f197 := Tryz.func330.trans (congrArg some (by kernel_rfl))
  f217 := Tryz.func313.trans (congrArg some (by kernel_rfl))
  f218 := Tryz.func339.trans (congrArg some (by kernel_rfl))
  f219 := Tryz.func287.trans (congrArg some (by kernel_rfl))
  f224 := Tryz.func315.trans (congrArg some (by kernel_rfl))
  f225 := Tryz.func314.trans (congrArg some (by kernel_rfl))
  f240 := Tryz.func285.trans (congrArg some (by kernel_rfl))
  f241 := Tryz.func286.trans (congrArg some (by kernel_rfl))
  f260 := Tryz.func340.trans (congrArg some (by kernel_rfl))
  f266 := Tryz.func331.trans (congrArg some (by kernel_rfl))
  f267 := Tryz.func316.trans (congrArg some (by kernel_rfl))
  f276 := Tryz.func311.trans (congrArg some (by kernel_rfl))
  f277 := Tryz.func312.trans (congrArg some (by kernel_rfl))
  f314 := Tryz.func332.trans (congrArg some (by kernel_rfl))
  t0 := Tryz.underlying0
  a0 := Tryz.isAgg0
  z0 := Tryz.sizeOf0
  v0 := Tryz.zeroValue0
  t3 := Tryz.underlying3
  a3 := Tryz.isAgg3
  z3 := Tryz.sizeOf3
  v3 := Tryz.zeroValue3
  t4 := Tryz.underlying4
  a4 := Tryz.isAgg4
  z4 := Tryz.sizeOf4
  v4 := Tryz.zeroValue4
  t5 := Tryz.underlying5
  a5 := Tryz.isAgg5
  z5 := Tryz.sizeOf5
  v5 := Tryz.zeroValue5
  t9 := Tryz.underlying9
  a9 := Tryz.isAgg9
  z9 := Tryz.sizeOf9
  v9 := Tryz.zeroValue9
  t20 := Tryz.underlying20
  a20 := Tryz.isAgg20
  z20 := Tryz.sizeOf20
  v20 := Tryz.zeroValue20
  t21 := Tryz.underlying21
  a21 := Tryz.isAgg21
  z21 := Tryz.sizeOf21
  v21 := Tryz.zeroValue21
  t37 := Tryz.underlying22
  a37 := Tryz.isAgg22
  z37 := Tryz.sizeOf22
  v37 := Tryz.zeroValue22
  t46 := Tryz.underlying205
  a46 := Tryz.isAgg205
  z46 := Tryz.sizeOf205
  v46 := Tryz.zeroValue205
  t51 := Tryz.underlying304
  a51 := Tryz.isAgg304
  z51 := Tryz.sizeOf304
  v51 := Tryz.zeroValue304
  t70 := Tryz.underlying247
  a70 := Tryz.isAgg247
  z70 := Tryz.sizeOf247
  v70 := Tryz.zeroValue247
  t72 := Tryz.underlying249
  a72 := Tryz.isAgg249
  z72 := Tryz.sizeOf249
  v72 := Tryz.zeroValue249
  t75 := Tryz.underlying196
  a75 := Tryz.isAgg196
  z75 := Tryz.sizeOf196
  v75 := Tryz.zeroValue196
  t76 := Tryz.underlying197
  a76 := Tryz.isAgg197
  z76 := Tryz.sizeOf197
  v76 := Tryz.zeroValue197
  t105 := Tryz.underlying307
  a105 := Tryz.isAgg307
  z105 := Tryz.sizeOf307
  v105 := Tryz.zeroValue307
  t119 := Tryz.underlying318
  a119 := Tryz.isAgg318
  z119 := Tryz.sizeOf318
  t127 := Tryz.underlying273
  a127 := Tryz.isAgg273
  z127 := Tryz.sizeOf273
  v127 := Tryz.zeroValue273
  t138 := Tryz.underlying320
  a138 := Tryz.isAgg320
  z138 := Tryz.sizeOf320
  v138 := Tryz.zeroValue320
  t139 := Tryz.underlying321
  a139 := Tryz.isAgg321
  z139 := Tryz.sizeOf321
  v139 := Tryz.zeroValue321
  t146 := Tryz.underlying309
  a146 := Tryz.isAgg309
  z146 := Tryz.sizeOf309
  v146 := Tryz.zeroValue309
  t164 := Tryz.underlying292
  a164 := Tryz.isAgg292
  z164 := Tryz.sizeOf292
  v164 := Tryz.zeroValue292
  g1 := by kernel_rfl
  g3 := by kernel_rfl
  g4 := by kernel_rfl }
theorem Tryz.Builder_Extra_155 : Builder.Extra Tryz.prog Tryz.lays155_ren := {
  sizeBuilder := by kernel_rfl
  liesBuilder := by kernel_rfl
  t5 := Tryz.underlying5
  a5 := Tryz.isAgg5
  z5 := Tryz.sizeOf5
  v5 := Tryz.zeroValue5
  infoByte := by kernel_rfl
  cellsByte := by kernel_rfl
  sizeByte := by kernel_rfl
  neB5 := by decide }
open Go.RowKit Go.Sort Go.Lib in
theorem Tryz.strings_ReplaceAll (s old new : ByteArray) (m : Int) (w : World) (hs : s.size < 4294967281) (hm : w.cell? ⟨2, 0, none⟩ = some (.int .i64 m)) (h1 : 1 ≤ old.size) (hlen : s.size + Lib.countB s old * new.size ≤ 140737488355328) :
    Calls Tryz.prog 283 #[.string s, .string old, .string new] w fun e w' =>
      e = .returned (.string ⟨(Lib.replaceAll s.data.toList old.data.toList new.data.toList).toArray⟩) ∧ Below w.heap.size w w' := Any.strings_ReplaceAll Tryz.lays155 Tryz.Builder_Extra_155 s old new m w hs hm h1 hlen
end Go.Proofs
namespace Go.Pi
open Go.Proofs
theorem strings_ReplaceAll.ok (n : Nat) (_ : CxOk E (cx n strings_ReplaceAll.d.nt)) (_ : KPar (cx n strings_ReplaceAll.d.nt)) : strings_ReplaceAll.d.Ok E (strings_ReplaceAll.F (n + 1)) := fun _ _ h => nRepl_ok (g := 2) (fun s old new m w h1 h2 h3 h4 => Tryz.strings_ReplaceAll s old new m w h1 h2 h3 h4) (.tail _ (.head _)) h
end Go.Pi
end
section
set_option linter.unusedVariables false
set_option maxRecDepth 100000
namespace Go.Pi
open Go.Proofs
theorem kpar (n nt : Nat) : KPar (cx n nt) := KH_par (l := KL n) ⟨FD.kp, FD.kp, FD.kp, FD.kp, FD.kp, FD.kp, FD.kp, FD.kp, FD.kp, FD.kp, FD.kp, FD.kp, FD.kp, FD.kp, FD.kp, FD.kp, FD.kp, FD.kp, FD.kp, FD.kp, FD.kp, FD.kp, FD.kp, FD.kp, FD.kp, FD.kp, FD.kp, FD.kp, FD.kp, FD.kp, FD.kp, FD.kp, FD.kp, FD.kp, FD.kp, FD.kp, FD.kp, FD.kp, FD.kp, FD.kp, FD.kp, FD.kp, FD.kp, FD.kp, FD.kp, FD.kp, FD.kp, FD.kp, FD.kp, FD.kp, FD.kp, FD.kp, FD.kp, FD.kp, FD.kp, FD.kp, FD.kp, FD.kp, FD.kp, FD.kp, FD.kp, FD.kp, FD.kp, FD.kp, FD.kp, FD.kp, FD.kp, FD.kp, FD.kp, FD.kp, FD.kp, FD.kp, FD.kp, FD.kp, FD.kp, FD.kp, FD.kp, FD.kp, FD.kp, FD.kp, FD.kp, FD.kp, FD.kp, FD.kp, FD.kp, FD.kp, FD.kp, FD.kp, FD.kp, FD.kp, FD.kp, FD.kp, FD.kp, FD.kp, FD.kp, FD.kp, FD.kp, FD.kp, FD.kp, FD.kp, FD.kp, FD.kp, FD.kp, FD.kp, FD.kp, FD.kp, FD.kp, FD.kp, FD.kp, FD.kp, FD.kp, FD.kp, FD.kp, FD.kp, FD.kp, FD.kp, FD.kp, FD.kp, FD.kp, FD.kp, FD.kp, FD.kp, FD.kp, FD.kp, FD.kp, FD.kp, FD.kp, FD.kp, FD.kp, FD.kp, FD.kp, FD.kp, FD.kp, trivial⟩
structure AllOk (n : Nat) : Prop where
  h0 : cc_.d.Ok E (cc_.F n)
  h1 : cr_.d.Ok E (cr_.F n)
  h2 : cb_.d.Ok E (cb_.F n)
  h3 : cS_.d.Ok E (cS_.F n)
  h4 : aY_.d.Ok E (aY_.F n)
  h5 : cx_.d.Ok E (cx_.F n)
  h6 : cq_.d.Ok E (cq_.F n)
  h7 : cp_.d.Ok E (cp_.F n)
  h8 : aN_.d.Ok E (aN_.F n)
  h9 : aX_.d.Ok E (aX_.F n)
  h10 : b2_.d.Ok E (b2_.F n)
  h11 : cJ_.d.Ok E (cJ_.F n)
  h12 : a1_.d.Ok E (a1_.F n)
  h13 : cK_.d.Ok E (cK_.F n)
  h14 : a2_.d.Ok E (a2_.F n)
  h15 : bV_.d.Ok E (bV_.F n)
  h16 : aT_.d.Ok E (aT_.F n)
  h17 : bc_.d.Ok E (bc_.F n)
  h18 : bG_.d.Ok E (bG_.F n)
  h19 : a0_.d.Ok E (a0_.F n)
  h20 : af_.d.Ok E (af_.F n)
  h21 : cC_.d.Ok E (cC_.F n)
  h22 : aA_.d.Ok E (aA_.F n)
  h23 : bR_.d.Ok E (bR_.F n)
  h24 : cI_.d.Ok E (cI_.F n)
  h25 : cG_.d.Ok E (cG_.F n)
  h26 : cH_.d.Ok E (cH_.F n)
  h27 : bM_.d.Ok E (bM_.F n)
  h28 : a6_.d.Ok E (a6_.F n)
  h29 : aD_.d.Ok E (aD_.F n)
  h30 : cm_.d.Ok E (cm_.F n)
  h31 : bQ_.d.Ok E (bQ_.F n)
  h32 : bg_.d.Ok E (bg_.F n)
  h33 : aW_.d.Ok E (aW_.F n)
  h34 : bK_.d.Ok E (bK_.F n)
  h35 : cn_.d.Ok E (cn_.F n)
  h36 : aL_.d.Ok E (aL_.F n)
  h37 : bq_.d.Ok E (bq_.F n)
  h38 : aw_.d.Ok E (aw_.F n)
  h39 : bD_.d.Ok E (bD_.F n)
  h40 : aj_.d.Ok E (aj_.F n)
  h41 : aQ_.d.Ok E (aQ_.F n)
  h42 : bL_.d.Ok E (bL_.F n)
  h43 : as_.d.Ok E (as_.F n)
  h44 : cT_.d.Ok E (cT_.F n)
  h45 : bk_.d.Ok E (bk_.F n)
  h46 : bF_.d.Ok E (bF_.F n)
  h47 : br_.d.Ok E (br_.F n)
  h48 : bZ_.d.Ok E (bZ_.F n)
  h49 : aq_.d.Ok E (aq_.F n)
  h50 : co_.d.Ok E (co_.F n)
  h51 : aM_.d.Ok E (aM_.F n)
  h52 : ay_.d.Ok E (ay_.F n)
  h53 : ca_.d.Ok E (ca_.F n)
  h54 : aC_.d.Ok E (aC_.F n)
  h55 : aE_.d.Ok E (aE_.F n)
  h56 : bm_.d.Ok E (bm_.F n)
  h57 : b0_.d.Ok E (b0_.F n)
  h58 : b1_.d.Ok E (b1_.F n)
  h59 : ao_.d.Ok E (ao_.F n)
  h60 : av_.d.Ok E (av_.F n)
  h61 : bI_.d.Ok E (bI_.F n)
  h62 : aH_.d.Ok E (aH_.F n)
  h63 : bh_.d.Ok E (bh_.F n)
  h64 : ar_.d.Ok E (ar_.F n)
  h65 : ak_.d.Ok E (ak_.F n)
  h66 : cN_.d.Ok E (cN_.F n)
  h67 : aR_.d.Ok E (aR_.F n)
  h68 : bW_.d.Ok E (bW_.F n)
  h69 : bN_.d.Ok E (bN_.F n)
  h70 : cO_.d.Ok E (cO_.F n)
  h71 : bf_.d.Ok E (bf_.F n)
  h72 : az_.d.Ok E (az_.F n)
  h73 : b5_.d.Ok E (b5_.F n)
  h74 : au_.d.Ok E (au_.F n)
  h75 : a8_.d.Ok E (a8_.F n)
  h76 : strconv_Itoa.d.Ok E (strconv_Itoa.F n)
  h77 : ct_.d.Ok E (ct_.F n)
  h78 : cv_.d.Ok E (cv_.F n)
  h79 : bp_.d.Ok E (bp_.F n)
  h80 : bw_.d.Ok E (bw_.F n)
  h81 : a7_.d.Ok E (a7_.F n)
  h82 : ae_.d.Ok E (ae_.F n)
  h83 : bo_.d.Ok E (bo_.F n)
  h84 : bv_.d.Ok E (bv_.F n)
  h85 : bi_.d.Ok E (bi_.F n)
  h86 : a3_.d.Ok E (a3_.F n)
  h87 : aO_.d.Ok E (aO_.F n)
  h88 : bj_.d.Ok E (bj_.F n)
  h89 : aS_.d.Ok E (aS_.F n)
  h90 : bS_.d.Ok E (bS_.F n)
  h91 : ab_.d.Ok E (ab_.F n)
  h92 : cB_.d.Ok E (cB_.F n)
  h93 : ci_.d.Ok E (ci_.F n)
  h94 : a5_.d.Ok E (a5_.F n)
  h95 : ah_.d.Ok E (ah_.F n)
  h96 : ad_.d.Ok E (ad_.F n)
  h97 : cj_.d.Ok E (cj_.F n)
  h98 : by_.d.Ok E (by_.F n)
  h99 : aB_.d.Ok E (aB_.F n)
  h100 : a4_.d.Ok E (a4_.F n)
  h101 : aK_.d.Ok E (aK_.F n)
  h102 : cu_.d.Ok E (cu_.F n)
  h103 : bl_.d.Ok E (bl_.F n)
  h104 : bH_.d.Ok E (bH_.F n)
  h105 : cf_.d.Ok E (cf_.F n)
  h106 : bt_.d.Ok E (bt_.F n)
  h107 : b4_.d.Ok E (b4_.F n)
  h108 : strings_ReplaceAll.d.Ok E (strings_ReplaceAll.F n)
  h109 : aV_.d.Ok E (aV_.F n)
  h110 : cw_.d.Ok E (cw_.F n)
  h111 : aP_.d.Ok E (aP_.F n)
  h112 : ba_.d.Ok E (ba_.F n)
  h113 : strings_Join.d.Ok E (strings_Join.F n)
  h114 : aG_.d.Ok E (aG_.F n)
  h115 : cg_.d.Ok E (cg_.F n)
  h116 : bJ_.d.Ok E (bJ_.F n)
  h117 : bT_.d.Ok E (bT_.F n)
  h118 : ac_.d.Ok E (ac_.F n)
  h119 : ai_.d.Ok E (ai_.F n)
  h120 : cP_.d.Ok E (cP_.F n)
  h121 : b6_.d.Ok E (b6_.F n)
  h122 : b7_.d.Ok E (b7_.F n)
  h123 : cs_.d.Ok E (cs_.F n)
  h124 : aU_.d.Ok E (aU_.F n)
  h125 : a9_.d.Ok E (a9_.F n)
  h126 : b3_.d.Ok E (b3_.F n)
  h127 : cL_.d.Ok E (cL_.F n)
  h128 : bd_.d.Ok E (bd_.F n)
  h129 : cM_.d.Ok E (cM_.F n)
  h130 : be_.d.Ok E (be_.F n)
  h131 : ce_.d.Ok E (ce_.F n)
  h132 : laws_FnExactShorter.d.Ok E (laws_FnExactShorter.F n)
theorem kok (n nt : Nat) (a : AllOk n) : KOk E (cx n nt) := KH_ok (l := KL n) ⟨FD.kf (d := laws_FnExactShorter.d) Tryz.func5 (by kernel_rfl) (by kernel_rfl) (by kernel_rfl) a.h132, FD.kf (d := bf_.d) Tryz.func11 (by kernel_rfl) (by kernel_rfl) (by kernel_rfl) a.h71, FD.kf (d := a6_.d) Tryz.func12 (by kernel_rfl) (by kernel_rfl) (by kernel_rfl) a.h28, FD.kf (d := b6_.d) Tryz.func15 (by kernel_rfl) (by kernel_rfl) (by kernel_rfl) a.h121, FD.kf (d := b0_.d) Tryz.func16 (by kernel_rfl) (by kernel_rfl) (by kernel_rfl) a.h57, FD.kf (d := cq_.d) Tryz.func18 (by kernel_rfl) (by kernel_rfl) (by kernel_rfl) a.h6, FD.kf (d := bF_.d) Tryz.func19 (by kernel_rfl) (by kernel_rfl) (by kernel_rfl) a.h46, FD.kf (d := bV_.d) Tryz.func20 (by kernel_rfl) (by kernel_rfl) (by kernel_rfl) a.h15, FD.kf (d := bH_.d) Tryz.func21 (by kernel_rfl) (by kernel_rfl) (by kernel_rfl) a.h104, FD.kf (d := ce_.d) Tryz.func23 (by kernel_rfl) (by kernel_rfl) (by kernel_rfl) a.h131, FD.kf (d := b1_.d) Tryz.func27 (by kernel_rfl) (by kernel_rfl) (by kernel_rfl) a.h58, FD.kf (d := b7_.d) Tryz.func28 (by kernel_rfl) (by kernel_rfl) (by kernel_rfl) a.h122, FD.kf (d := cP_.d) Tryz.func44 (by kernel_rfl) (by kernel_rfl) (by kernel_rfl) a.h120, FD.kf (d := az_.d) Tryz.func45 (by kernel_rfl) (by kernel_rfl) (by kernel_rfl) a.h72, FD.kf (d := bm_.d) Tryz.func46 (by kernel_rfl) (by kernel_rfl) (by kernel_rfl) a.h56, FD.kf (d := aE_.d) Tryz.func47 (by kernel_rfl) (by kernel_rfl) (by kernel_rfl) a.h55, FD.kf (d := cb_.d) Tryz.func48 (by kernel_rfl) (by kernel_rfl) (by kernel_rfl) a.h2, FD.kf (d := aY_.d) Tryz.func49 (by kernel_rfl) (by kernel_rfl) (by kernel_rfl) a.h4, FD.kf (d := cx_.d) Tryz.func50 (by kernel_rfl) (by kernel_rfl) (by kernel_rfl) a.h5, FD.kf (d := bG_.d) Tryz.func51 (by kernel_rfl) (by kernel_rfl) (by kernel_rfl) a.h18, FD.kf (d := cI_.d) Tryz.func52 (by kernel_rfl) (by kernel_rfl) (by kernel_rfl) a.h24, FD.kf (d := aL_.d) Tryz.func53 (by kernel_rfl) (by kernel_rfl) (by kernel_rfl) a.h36, FD.kf (d := bk_.d) Tryz.func54 (by kernel_rfl) (by kernel_rfl) (by kernel_rfl) a.h45, FD.kf (d := cT_.d) Tryz.func55 (by kernel_rfl) (by kernel_rfl) (by kernel_rfl) a.h44, FD.kf (d := b2_.d) Tryz.func56 (by kernel_rfl) (by kernel_rfl) (by kernel_rfl) a.h10, FD.kf (d := a1_.d) Tryz.func57 (by kernel_rfl) (by kernel_rfl) (by kernel_rfl) a.h12, FD.kf (d := a2_.d) Tryz.func58 (by kernel_rfl) (by kernel_rfl) (by kernel_rfl) a.h14, FD.kf (d := bI_.d) Tryz.func59 (by kernel_rfl) (by kernel_rfl) (by kernel_rfl) a.h61, FD.kf (d := cO_.d) Tryz.func60 (by kernel_rfl) (by kernel_rfl) (by kernel_rfl) a.h70, FD.kf (d := bj_.d) Tryz.func61 (by kernel_rfl) (by kernel_rfl) (by kernel_rfl) a.h88, FD.kf (d := bl_.d) Tryz.func62 (by kernel_rfl) (by kernel_rfl) (by kernel_rfl) a.h103, FD.kf (d := aK_.d) Tryz.func63 (by kernel_rfl) (by kernel_rfl) (by kernel_rfl) a.h101, FD.kf (d := b3_.d) Tryz.func65 (by kernel_rfl) (by kernel_rfl) (by kernel_rfl) a.h126, FD.kf (d := bd_.d) Tryz.func66 (by kernel_rfl) (by kernel_rfl) (by kernel_rfl) a.h128, FD.kf (d := be_.d) Tryz.func67 (by kernel_rfl) (by kernel_rfl) (by kernel_rfl) a.h130, FD.kf (d := aC_.d) Tryz.func76 (by kernel_rfl) (by kernel_rfl) (by kernel_rfl) a.h54, FD.kf (d := ca_.d) Tryz.func77 (by kernel_rfl) (by kernel_rfl) (by kernel_rfl) a.h53, FD.kf (d := bJ_.d) Tryz.func78 (by kernel_rfl) (by kernel_rfl) (by kernel_rfl) a.h116, FD.kf (d := cg_.d) Tryz.func79 (by kernel_rfl) (by kernel_rfl) (by kernel_rfl) a.h115, FD.kf (d := aH_.d) Tryz.func98 (by kernel_rfl) (by kernel_rfl) (by kernel_rfl) a.h62, FD.kf (d := bh_.d) Tryz.func99 (by kernel_rfl) (by kernel_rfl) (by kernel_rfl) a.h63, FD.kf (d := aO_.d) Tryz.func110 (by kernel_rfl) (by kernel_rfl) (by kernel_rfl) a.h87, FD.kf (d := ai_.d) Tryz.func111 (by kernel_rfl) (by kernel_rfl) (by kernel_rfl) a.h119, FD.kf (d := bT_.d) Tryz.func112 (by kernel_rfl) (by kernel_rfl) (by kernel_rfl) a.h117, FD.kf (d := bN_.d) Tryz.func113 (by kernel_rfl) (by kernel_rfl) (by kernel_rfl) a.h69, FD.kf (d := bM_.d) Tryz.func114 (by kernel_rfl) (by kernel_rfl) (by kernel_rfl) a.h27, FD.kf (d := aW_.d) Tryz.func115 (by kernel_rfl) (by kernel_rfl) (by kernel_rfl) a.h33, FD.kf (d := bK_.d) Tryz.func116 (by kernel_rfl) (by kernel_rfl) (by kernel_rfl) a.h34, FD.kf (d := bQ_.d) Tryz.func117 (by kernel_rfl) (by kernel_rfl) (by kernel_rfl) a.h31, FD.kf (d := cc_.d) Tryz.func118 (by kernel_rfl) (by kernel_rfl) (by kernel_rfl) a.h0, FD.kf (d := cr_.d) Tryz.func119 (by kernel_rfl) (by kernel_rfl) (by kernel_rfl) a.h1, FD.kf (d := cS_.d) Tryz.func120 (by kernel_rfl) (by kernel_rfl) (by kernel_rfl) a.h3, FD.kf (d := aT_.d) Tryz.func121 (by kernel_rfl) (by kernel_rfl) (by kernel_rfl) a.h16, FD.kf (d := bc_.d) Tryz.func122 (by kernel_rfl) (by kernel_rfl) (by kernel_rfl) a.h17, FD.kf (d := bR_.d) Tryz.func123 (by kernel_rfl) (by kernel_rfl) (by kernel_rfl) a.h23, FD.kf (d := cn_.d) Tryz.func124 (by kernel_rfl) (by kernel_rfl) (by kernel_rfl) a.h35, FD.kf (d := aQ_.d) Tryz.func125 (by kernel_rfl) (by kernel_rfl) (by kernel_rfl) a.h41, FD.kf (d := aw_.d) Tryz.func126 (by kernel_rfl) (by kernel_rfl) (by kernel_rfl) a.h38, FD.kf (d := as_.d) Tryz.func127 (by kernel_rfl) (by kernel_rfl) (by kernel_rfl) a.h43, FD.kf (d := aN_.d) Tryz.func128 (by kernel_rfl) (by kernel_rfl) (by kernel_rfl) a.h8, FD.kf (d := aX_.d) Tryz.func129 (by kernel_rfl) (by kernel_rfl) (by kernel_rfl) a.h9, FD.kf (d := cJ_.d) Tryz.func130 (by kernel_rfl) (by kernel_rfl) (by kernel_rfl) a.h11, FD.kf (d := cK_.d) Tryz.func131 (by kernel_rfl) (by kernel_rfl) (by kernel_rfl) a.h13, FD.kf (d := ao_.d) Tryz.func132 (by kernel_rfl) (by kernel_rfl) (by kernel_rfl) a.h59, FD.kf (d := av_.d) Tryz.func133 (by kernel_rfl) (by kernel_rfl) (by kernel_rfl) a.h60, FD.kf (d := cu_.d) Tryz.func134 (by kernel_rfl) (by kernel_rfl) (by kernel_rfl) a.h102, FD.kf (d := aS_.d) Tryz.func135 (by kernel_rfl) (by kernel_rfl) (by kernel_rfl) a.h89, FD.kf (d := cB_.d) Tryz.func136 (by kernel_rfl) (by kernel_rfl) (by kernel_rfl) a.h92, FD.kf (d := ci_.d) Tryz.func137 (by kernel_rfl) (by kernel_rfl) (by kernel_rfl) a.h93, FD.kf (d := a5_.d) Tryz.func138 (by kernel_rfl) (by kernel_rfl) (by kernel_rfl) a.h94, FD.kf (d := cj_.d) Tryz.func139 (by kernel_rfl) (by kernel_rfl) (by kernel_rfl) a.h97, FD.kf (d := aB_.d) Tryz.func140 (by kernel_rfl) (by kernel_rfl) (by kernel_rfl) a.h99, FD.kf (d := a4_.d) Tryz.func141 (by kernel_rfl) (by kernel_rfl) (by kernel_rfl) a.h100, FD.kf (d := aU_.d) Tryz.func143 (by kernel_rfl) (by kernel_rfl) (by kernel_rfl) a.h124, FD.kf (d := a9_.d) Tryz.func144 (by kernel_rfl) (by kernel_rfl) (by kernel_rfl) a.h125, FD.kf (d := cL_.d) Tryz.func145 (by kernel_rfl) (by kernel_rfl) (by kernel_rfl) a.h127, FD.kf (d := cM_.d) Tryz.func146 (by kernel_rfl) (by kernel_rfl) (by kernel_rfl) a.h129, FD.kf (d := co_.d) Tryz.func149 (by kernel_rfl) (by kernel_rfl) (by kernel_rfl) a.h50, FD.kf (d := ay_.d) Tryz.func150 (by kernel_rfl) (by kernel_rfl) (by kernel_rfl) a.h52, FD.kf (d := aP_.d) Tryz.func151 (by kernel_rfl) (by kernel_rfl) (by kernel_rfl) a.h111, FD.kf (d := bW_.d) Tryz.func152 (by kernel_rfl) (by kernel_rfl) (by kernel_rfl) a.h68, FD.kf (d := aG_.d) Tryz.func153 (by kernel_rfl) (by kernel_rfl) (by kernel_rfl) a.h114, FD.kf (d := aD_.d) Tryz.func155 (by kernel_rfl) (by kernel_rfl) (by kernel_rfl) a.h29, FD.kf (d := bZ_.d) Tryz.func158 (by kernel_rfl) (by kernel_rfl) (by kernel_rfl) a.h48, FD.kf (d := ct_.d) Tryz.func170 (by kernel_rfl) (by kernel_rfl) (by kernel_rfl) a.h77, FD.kf (d := cv_.d) Tryz.func180 (by kernel_rfl) (by kernel_rfl) (by kernel_rfl) a.h78, FD.kf (d := b5_.d) Tryz.func184 (by kernel_rfl) (by kernel_rfl) (by kernel_rfl) a.h73, FD.kf (d := a3_.d) Tryz.func185 (by kernel_rfl) (by kernel_rfl) (by kernel_rfl) a.h86, FD.kf (d := ac_.d) Tryz.func186 (by kernel_rfl) (by kernel_rfl) (by kernel_rfl) a.h118, FD.kf (d := cH_.d) Tryz.func187 (by kernel_rfl) (by kernel_rfl) (by kernel_rfl) a.h26, FD.kf (d := cG_.d) Tryz.func188 (by kernel_rfl) (by kernel_rfl) (by kernel_rfl) a.h25, FD.kf (d := bg_.d) Tryz.func189 (by kernel_rfl) (by kernel_rfl) (by kernel_rfl) a.h32, FD.kf (d := cm_.d) Tryz.func190 (by kernel_rfl) (by kernel_rfl) (by kernel_rfl) a.h30, FD.kf (d := aA_.d) Tryz.func191 (by kernel_rfl) (by kernel_rfl) (by kernel_rfl) a.h22, FD.kf (d := bq_.d) Tryz.func192 (by kernel_rfl) (by kernel_rfl) (by kernel_rfl) a.h37, FD.kf (d := bD_.d) Tryz.func193 (by kernel_rfl) (by kernel_rfl) (by kernel_rfl) a.h39, FD.kf (d := aj_.d) Tryz.func194 (by kernel_rfl) (by kernel_rfl) (by kernel_rfl) a.h40, FD.kf (d := bL_.d) Tryz.func195 (by kernel_rfl) (by kernel_rfl) (by kernel_rfl) a.h42, FD.kf (d := cp_.d) Tryz.func196 (by kernel_rfl) (by kernel_rfl) (by kernel_rfl) a.h7, FD.kf (d := by_.d) Tryz.func197 (by kernel_rfl) (by kernel_rfl) (by kernel_rfl) a.h98, FD.kf (d := a8_.d) Tryz.func198 (by kernel_rfl) (by kernel_rfl) (by kernel_rfl) a.h75, FD.kf (d := ab_.d) Tryz.func199 (by kernel_rfl) (by kernel_rfl) (by kernel_rfl) a.h91, FD.kf (d := bS_.d) Tryz.func200 (by kernel_rfl) (by kernel_rfl) (by kernel_rfl) a.h90, FD.kf (d := strconv_Itoa.d) Tryz.func201 (by kernel_rfl) (by kernel_rfl) (by kernel_rfl) a.h76, FD.kf (d := ah_.d) Tryz.func202 (by kernel_rfl) (by kernel_rfl) (by kernel_rfl) a.h95, FD.kf (d := ad_.d) Tryz.func203 (by kernel_rfl) (by kernel_rfl) (by kernel_rfl) a.h96, FD.kf (d := cs_.d) Tryz.func206 (by kernel_rfl) (by kernel_rfl) (by kernel_rfl) a.h123, FD.kf (d := br_.d) Tryz.func207 (by kernel_rfl) (by kernel_rfl) (by kernel_rfl) a.h47, FD.kf (d := aq_.d) Tryz.func208 (by kernel_rfl) (by kernel_rfl) (by kernel_rfl) a.h49, FD.kf (d := aM_.d) Tryz.func209 (by kernel_rfl) (by kernel_rfl) (by kernel_rfl) a.h51, FD.kf (d := cw_.d) Tryz.func210 (by kernel_rfl) (by kernel_rfl) (by kernel_rfl) a.h110, FD.kf (d := aR_.d) Tryz.func211 (by kernel_rfl) (by kernel_rfl) (by kernel_rfl) a.h67, FD.kf (d := ba_.d) Tryz.func212 (by kernel_rfl) (by kernel_rfl) (by kernel_rfl) a.h112, FD.kf (d := strings_Join.d) Tryz.func213 (by kernel_rfl) (by kernel_rfl) (by kernel_rfl) a.h113, FD.kf (d := cC_.d) Tryz.func219 (by kernel_rfl) (by kernel_rfl) (by kernel_rfl) a.h21, FD.kf (d := cf_.d) Tryz.func227 (by kernel_rfl) (by kernel_rfl) (by kernel_rfl) a.h105, FD.kf (d := bi_.d) Tryz.func240 (by kernel_rfl) (by kernel_rfl) (by kernel_rfl) a.h85, FD.kf (d := a0_.d) Tryz.func241 (by kernel_rfl) (by kernel_rfl) (by kernel_rfl) a.h19, FD.kf (d := af_.d) Tryz.func242 (by kernel_rfl) (by kernel_rfl) (by kernel_rfl) a.h20, FD.kf (d := au_.d) Tryz.func243 (by kernel_rfl) (by kernel_rfl) (by kernel_rfl) a.h74, FD.kf (d := bt_.d) Tryz.func246 (by kernel_rfl) (by kernel_rfl) (by kernel_rfl) a.h106, FD.kf (d := b4_.d) Tryz.func247 (by kernel_rfl) (by kernel_rfl) (by kernel_rfl) a.h107, FD.kf (d := aV_.d) Tryz.func248 (by kernel_rfl) (by kernel_rfl) (by kernel_rfl) a.h109, FD.kf (d := cN_.d) Tryz.func249 (by kernel_rfl) (by kernel_rfl) (by kernel_rfl) a.h66, FD.kf (d := ae_.d) Tryz.func277 (by kernel_rfl) (by kernel_rfl) (by kernel_rfl) a.h82, FD.kf (d := bo_.d) Tryz.func278 (by kernel_rfl) (by kernel_rfl) (by kernel_rfl) a.h83, FD.kf (d := bv_.d) Tryz.func279 (by kernel_rfl) (by kernel_rfl) (by kernel_rfl) a.h84, FD.kf (d := ar_.d) Tryz.func282 (by kernel_rfl) (by kernel_rfl) (by kernel_rfl) a.h64, FD.kf (d := strings_ReplaceAll.d) Tryz.func283 (by kernel_rfl) (by kernel_rfl) (by kernel_rfl) a.h108, FD.kf (d := ak_.d) Tryz.func284 (by kernel_rfl) (by kernel_rfl) (by kernel_rfl) a.h65, FD.kf (d := bw_.d) Tryz.func300 (by kernel_rfl) (by kernel_rfl) (by kernel_rfl) a.h80, FD.kf (d := a7_.d) Tryz.func301 (by kernel_rfl) (by kernel_rfl) (by kernel_rfl) a.h81, FD.kf (d := bp_.d) Tryz.func320 (by kernel_rfl) (by kernel_rfl) (by kernel_rfl) a.h79, trivial⟩
theorem cY_ (n nt : Nat) (a : AllOk n) : CxOk E (cx n nt) := ⟨ttOk, tcOk, u8Ok, kok n nt a⟩
theorem bB_ : ∀ n, AllOk n
  | 0 => ⟨fun _ _ h => (by cases h), fun _ _ h => (by cases h), fun _ _ h => (by cases h), fun _ _ h => (by cases h), fun _ _ h => (by cases h), fun _ _ h => (by cases h), fun _ _ h => (by cases h), fun _ _ h => (by cases h), fun _ _ h => (by cases h), fun _ _ h => (by cases h), fun _ _ h => (by cases h), fun _ _ h => (by cases h), fun _ _ h => (by cases h), fun _ _ h => (by cases h), fun _ _ h => (by cases h), fun _ _ h => (by cases h), fun _ _ h => (by cases h), fun _ _ h => (by cases h), fun _ _ h => (by cases h), fun _ _ h => (by cases h), fun _ _ h => (by cases h), fun _ _ h => (by cases h), fun _ _ h => (by cases h), fun _ _ h => (by cases h), fun _ _ h => (by cases h), fun _ _ h => (by cases h), fun _ _ h => (by cases h), fun _ _ h => (by cases h), fun _ _ h => (by cases h), fun _ _ h => (by cases h), fun _ _ h => (by cases h), fun _ _ h => (by cases h), fun _ _ h => (by cases h), fun _ _ h => (by cases h), fun _ _ h => (by cases h), fun _ _ h => (by cases h), fun _ _ h => (by cases h), fun _ _ h => (by cases h), fun _ _ h => (by cases h), fun _ _ h => (by cases h), fun _ _ h => (by cases h), fun _ _ h => (by cases h), fun _ _ h => (by cases h), fun _ _ h => (by cases h), fun _ _ h => (by cases h), fun _ _ h => (by cases h), fun _ _ h => (by cases h), fun _ _ h => (by cases h), fun _ _ h => (by cases h), fun _ _ h => (by cases h), fun _ _ h => (by cases h), fun _ _ h => (by cases h), fun _ _ h => (by cases h), fun _ _ h => (by cases h), fun _ _ h => (by cases h), fun _ _ h => (by cases h), fun _ _ h => (by cases h), fun _ _ h => (by cases h), fun _ _ h => (by cases h), fun _ _ h => (by cases h), fun _ _ h => (by cases h), fun _ _ h => (by cases h), fun _ _ h => (by cases h), fun _ _ h => (by cases h), fun _ _ h => (by cases h), fun _ _ h => (by cases h), fun _ _ h => (by cases h), fun _ _ h => (by cases h), fun _ _ h => (by cases h), fun _ _ h => (by cases h), fun _ _ h => (by cases h), fun _ _ h => (by cases h), fun _ _ h => (by cases h), fun _ _ h => (by cases h), fun _ _ h => (by cases h), fun _ _ h => (by cases h), fun _ _ h => (by cases h), fun _ _ h => (by cases h), fun _ _ h => (by cases h), fun _ _ h => (by cases h), fun _ _ h => (by cases h), fun _ _ h => (by cases h), fun _ _ h => (by cases h), fun _ _ h => (by cases h), fun _ _ h => (by cases h), fun _ _ h => (by cases h), fun _ _ h => (by cases h), fun _ _ h => (by cases h), fun _ _ h => (by cases h), fun _ _ h => (by cases h), fun _ _ h => (by cases h), fun _ _ h => (by cases h), fun _ _ h => (by cases h), fun _ _ h => (by cases h), fun _ _ h => (by cases h), fun _ _ h => (by cases h), fun _ _ h => (by cases h), fun _ _ h => (by cases h), fun _ _ h => (by cases h), fun _ _ h => (by cases h), fun _ _ h => (by cases h), fun _ _ h => (by cases h), fun _ _ h => (by cases h), fun _ _ h => (by cases h), fun _ _ h => (by cases h), fun _ _ h => (by cases h), fun _ _ h => (by cases h), fun _ _ h => (by cases h), fun _ _ h => (by cases h), fun _ _ h => (by cases h), fun _ _ h => (by cases h), fun _ _ h => (by cases h), fun _ _ h => (by cases h), fun _ _ h => (by cases h), fun _ _ h => (by cases h), fun _ _ h => (by cases h), fun _ _ h => (by cases h), fun _ _ h => (by cases h), fun _ _ h => (by cases h), fun _ _ h => (by cases h), fun _ _ h => (by cases h), fun _ _ h => (by cases h), fun _ _ h => (by cases h), fun _ _ h => (by cases h), fun _ _ h => (by cases h), fun _ _ h => (by cases h), fun _ _ h => (by cases h), fun _ _ h => (by cases h), fun _ _ h => (by cases h), fun _ _ h => (by cases h), fun _ _ h => (by cases h), fun _ _ h => (by cases h), fun _ _ h => (by cases h)⟩
  | n + 1 => ⟨cc_.ok n (cY_ n _ (bB_ n)) (kpar n _), cr_.ok n (cY_ n _ (bB_ n)) (kpar n _), cb_.ok n (cY_ n _ (bB_ n)) (kpar n _), cS_.ok n (cY_ n _ (bB_ n)) (kpar n _), aY_.ok n (cY_ n _ (bB_ n)) (kpar n _), cx_.ok n (cY_ n _ (bB_ n)) (kpar n _), cq_.ok n (cY_ n _ (bB_ n)) (kpar n _), cp_.ok n (cY_ n _ (bB_ n)) (kpar n _), aN_.ok n (cY_ n _ (bB_ n)) (kpar n _), aX_.ok n (cY_ n _ (bB_ n)) (kpar n _), b2_.ok n (cY_ n _ (bB_ n)) (kpar n _), cJ_.ok n (cY_ n _ (bB_ n)) (kpar n _), a1_.ok n (cY_ n _ (bB_ n)) (kpar n _), cK_.ok n (cY_ n _ (bB_ n)) (kpar n _), a2_.ok n (cY_ n _ (bB_ n)) (kpar n _), bV_.ok n (cY_ n _ (bB_ n)) (kpar n _), aT_.ok n (cY_ n _ (bB_ n)) (kpar n _), bc_.ok n (cY_ n _ (bB_ n)) (kpar n _), bG_.ok n (cY_ n _ (bB_ n)) (kpar n _), a0_.ok n (cY_ n _ (bB_ n)) (kpar n _), af_.ok n (cY_ n _ (bB_ n)) (kpar n _), cC_.ok n (cY_ n _ (bB_ n)) (kpar n _), aA_.ok n (cY_ n _ (bB_ n)) (kpar n _), bR_.ok n (cY_ n _ (bB_ n)) (kpar n _), cI_.ok n (cY_ n _ (bB_ n)) (kpar n _), cG_.ok n (cY_ n _ (bB_ n)) (kpar n _), cH_.ok n (cY_ n _ (bB_ n)) (kpar n _), bM_.ok n (cY_ n _ (bB_ n)) (kpar n _), a6_.ok n (cY_ n _ (bB_ n)) (kpar n _), aD_.ok n (cY_ n _ (bB_ n)) (kpar n _), cm_.ok n (cY_ n _ (bB_ n)) (kpar n _), bQ_.ok n (cY_ n _ (bB_ n)) (kpar n _), bg_.ok n (cY_ n _ (bB_ n)) (kpar n _), aW_.ok n (cY_ n _ (bB_ n)) (kpar n _), bK_.ok n (cY_ n _ (bB_ n)) (kpar n _), cn_.ok n (cY_ n _ (bB_ n)) (kpar n _), aL_.ok n (cY_ n _ (bB_ n)) (kpar n _), bq_.ok n (cY_ n _ (bB_ n)) (kpar n _), aw_.ok n (cY_ n _ (bB_ n)) (kpar n _), bD_.ok n (cY_ n _ (bB_ n)) (kpar n _), aj_.ok n (cY_ n _ (bB_ n)) (kpar n _), aQ_.ok n (cY_ n _ (bB_ n)) (kpar n _), bL_.ok n (cY_ n _ (bB_ n)) (kpar n _), as_.ok n (cY_ n _ (bB_ n)) (kpar n _), cT_.ok n (cY_ n _ (bB_ n)) (kpar n _), bk_.ok n (cY_ n _ (bB_ n)) (kpar n _), bF_.ok n (cY_ n _ (bB_ n)) (kpar n _), br_.ok n (cY_ n _ (bB_ n)) (kpar n _), bZ_.ok n (cY_ n _ (bB_ n)) (kpar n _), aq_.ok n (cY_ n _ (bB_ n)) (kpar n _), co_.ok n (cY_ n _ (bB_ n)) (kpar n _), aM_.ok n (cY_ n _ (bB_ n)) (kpar n _), ay_.ok n (cY_ n _ (bB_ n)) (kpar n _), ca_.ok n (cY_ n _ (bB_ n)) (kpar n _), aC_.ok n (cY_ n _ (bB_ n)) (kpar n _), aE_.ok n (cY_ n _ (bB_ n)) (kpar n _), bm_.ok n (cY_ n _ (bB_ n)) (kpar n _), b0_.ok n (cY_ n _ (bB_ n)) (kpar n _), b1_.ok n (cY_ n _ (bB_ n)) (kpar n _), ao_.ok n (cY_ n _ (bB_ n)) (kpar n _), av_.ok n (cY_ n _ (bB_ n)) (kpar n _), bI_.ok n (cY_ n _ (bB_ n)) (kpar n _), aH_.ok n (cY_ n _ (bB_ n)) (kpar n _), bh_.ok n (cY_ n _ (bB_ n)) (kpar n _), ar_.ok n (cY_ n _ (bB_ n)) (kpar n _), ak_.ok n (cY_ n _ (bB_ n)) (kpar n _), cN_.ok n (cY_ n _ (bB_ n)) (kpar n _), aR_.ok n (cY_ n _ (bB_ n)) (kpar n _), bW_.ok n (cY_ n _ (bB_ n)) (kpar n _), bN_.ok n (cY_ n _ (bB_ n)) (kpar n _), cO_.ok n (cY_ n _ (bB_ n)) (kpar n _), bf_.ok n (cY_ n _ (bB_ n)) (kpar n _), az_.ok n (cY_ n _ (bB_ n)) (kpar n _), b5_.ok n (cY_ n _ (bB_ n)) (kpar n _), au_.ok n (cY_ n _ (bB_ n)) (kpar n _), a8_.ok n (cY_ n _ (bB_ n)) (kpar n _), strconv_Itoa.ok n (cY_ n _ (bB_ n)) (kpar n _), ct_.ok n (cY_ n _ (bB_ n)) (kpar n _), cv_.ok n (cY_ n _ (bB_ n)) (kpar n _), bp_.ok n (cY_ n _ (bB_ n)) (kpar n _), bw_.ok n (cY_ n _ (bB_ n)) (kpar n _), a7_.ok n (cY_ n _ (bB_ n)) (kpar n _), ae_.ok n (cY_ n _ (bB_ n)) (kpar n _), bo_.ok n (cY_ n _ (bB_ n)) (kpar n _), bv_.ok n (cY_ n _ (bB_ n)) (kpar n _), bi_.ok n (cY_ n _ (bB_ n)) (kpar n _), a3_.ok n (cY_ n _ (bB_ n)) (kpar n _), aO_.ok n (cY_ n _ (bB_ n)) (kpar n _), bj_.ok n (cY_ n _ (bB_ n)) (kpar n _), aS_.ok n (cY_ n _ (bB_ n)) (kpar n _), bS_.ok n (cY_ n _ (bB_ n)) (kpar n _), ab_.ok n (cY_ n _ (bB_ n)) (kpar n _), cB_.ok n (cY_ n _ (bB_ n)) (kpar n _), ci_.ok n (cY_ n _ (bB_ n)) (kpar n _), a5_.ok n (cY_ n _ (bB_ n)) (kpar n _), ah_.ok n (cY_ n _ (bB_ n)) (kpar n _), ad_.ok n (cY_ n _ (bB_ n)) (kpar n _), cj_.ok n (cY_ n _ (bB_ n)) (kpar n _), by_.ok n (cY_ n _ (bB_ n)) (kpar n _), aB_.ok n (cY_ n _ (bB_ n)) (kpar n _), a4_.ok n (cY_ n _ (bB_ n)) (kpar n _), aK_.ok n (cY_ n _ (bB_ n)) (kpar n _), cu_.ok n (cY_ n _ (bB_ n)) (kpar n _), bl_.ok n (cY_ n _ (bB_ n)) (kpar n _), bH_.ok n (cY_ n _ (bB_ n)) (kpar n _), cf_.ok n (cY_ n _ (bB_ n)) (kpar n _), bt_.ok n (cY_ n _ (bB_ n)) (kpar n _), b4_.ok n (cY_ n _ (bB_ n)) (kpar n _), strings_ReplaceAll.ok n (cY_ n _ (bB_ n)) (kpar n _), aV_.ok n (cY_ n _ (bB_ n)) (kpar n _), cw_.ok n (cY_ n _ (bB_ n)) (kpar n _), aP_.ok n (cY_ n _ (bB_ n)) (kpar n _), ba_.ok n (cY_ n _ (bB_ n)) (kpar n _), strings_Join.ok n (cY_ n _ (bB_ n)) (kpar n _), aG_.ok n (cY_ n _ (bB_ n)) (kpar n _), cg_.ok n (cY_ n _ (bB_ n)) (kpar n _), bJ_.ok n (cY_ n _ (bB_ n)) (kpar n _), bT_.ok n (cY_ n _ (bB_ n)) (kpar n _), ac_.ok n (cY_ n _ (bB_ n)) (kpar n _), ai_.ok n (cY_ n _ (bB_ n)) (kpar n _), cP_.ok n (cY_ n _ (bB_ n)) (kpar n _), b6_.ok n (cY_ n _ (bB_ n)) (kpar n _), b7_.ok n (cY_ n _ (bB_ n)) (kpar n _), cs_.ok n (cY_ n _ (bB_ n)) (kpar n _), aU_.ok n (cY_ n _ (bB_ n)) (kpar n _), a9_.ok n (cY_ n _ (bB_ n)) (kpar n _), b3_.ok n (cY_ n _ (bB_ n)) (kpar n _), cL_.ok n (cY_ n _ (bB_ n)) (kpar n _), bd_.ok n (cY_ n _ (bB_ n)) (kpar n _), cM_.ok n (cY_ n _ (bB_ n)) (kpar n _), be_.ok n (cY_ n _ (bB_ n)) (kpar n _), ce_.ok n (cY_ n _ (bB_ n)) (kpar n _), laws_FnExactShorter.ok n (cY_ n _ (bB_ n)) (kpar n _)⟩
end Go.Pi
end
section
set_option linter.unusedVariables false
namespace Go.Pi
inductive Kd where
  | i (k : IntKind)
  | b
  | s
  | sl (t : TC)
def kdsL (P : Program) (rec_ : TypeId → Option (List Kd)) : List Field → Nat → Option (List Kd)
  | [], _ => some []
  | f :: fs, off => cond (Nat.beq f.offset off) (match rec_ f.type with
    | some ks => cond (Nat.beq (P.cellsOf f.type) ks.length) (match kdsL P rec_ fs (off + ks.length) with
      | some r => some (ks ++ r)
      | none => none) none
    | none => none) none
def kds (P : Program) (hs_ : TypeId → Option TC) : Nat → TypeId → Option (List Kd)
  | 0, _ => none
  | d + 1, T => match P.underlying T with
    | some (.int k) => some [.i k]
    | some .bool => some [.b]
    | some .string => some [.s]
    | some (.slice e) => match hs_ e with
      | some t => some [.sl t]
      | none => none
    | some (.struct fs) => match kdsL P (kds P hs_ d) fs.toList 0 with
      | some ks => cond (Nat.beq (P.cellsOf T) ks.length) (some ks) none
      | none => none
    | _ => none
inductive Good [am_] : AV → Prop
  | i (k n) : (Lit.int k n).wf = true → Good (.i k n)
  | b (q) : Good (.b q)
  | s (l) : l.length ≤ maxLen → Good (.s l)
  | sl (t xs) : xs.length ≤ maxLen → (∀ x ∈ xs, ∀ c ∈ am_.enc .v t x, Good c) → Good (.sl .v t xs)
def KindOk : Kd → AV → Prop
  | .i k, a => ∃ n, a = .i k n
  | .b, a => ∃ q, a = .b q
  | .s, a => ∃ l, a = .s l
  | .sl t, a => ∃ xs, a = .sl .v t xs
def ht_ : List Kd → List AV → Prop
  | [], [] => True
  | k :: ks, a :: l => KindOk k a ∧ ht_ ks l
  | _, _ => False
section
variable {H : Type} {enc : TypeId × Value → H} {P : Program} {w : World} {spare : Nat → Bool}
def lr_ (enc : TypeId × Value → H) (P : Program) (w : World) (spare : Nat → Bool) (eid : TC → TypeId) (F : Nat) : Kd → Value → Prop
  | .i k, v => ∃ n, v = .int k n ∧ (Lit.int k n).wf = true
  | .b, v => ∃ q, v = .bool q
  | .s, v => ∃ s : ByteArray, v = .string s ∧ s.size ≤ maxLen
  | .sl t, v => v = .slice none 0 0 ∨ ∃ (a : Addr) (len cap N : Nat), v = .slice (some a) len cap ∧ len ≤ cap ∧ cap ≤ maxLen ∧ N < F ∧
      ∀ i, i < len → ∃ cs x, w.cells? 0 (a.add (i * P.cellsOf (eid t))) (P.cellsOf (eid t)) = some cs ∧ DataW.trod enc P w 0 spare true N (eid t) cs = some x
def dP_ (enc : TypeId × Value → H) (P : Program) (w : World) (spare : Nat → Bool) (eid : TC → TypeId) (F : Nat) : List Kd → List Value → Prop
  | [], [] => True
  | k :: ks, v :: vs => lr_ enc P w spare eid F k v ∧ dP_ enc P w spare eid F ks vs
  | _, _ => False
theorem lr_.mono {eid : TC → TypeId} {F F' : Nat} (hF : F ≤ F') {k : Kd} {v : Value} (h : lr_ enc P w spare eid F k v) : lr_ enc P w spare eid F' k v := by
  cases k with
  | sl t =>
    rcases h with h | ⟨a, len, cap, N, h1, h2, h3, h4, h5⟩
    · exact .inl h
    · exact .inr ⟨a, len, cap, N, h1, h2, h3, Nat.lt_of_lt_of_le h4 hF, h5⟩
  | _ => exact h
theorem dP_.mono {eid : TC → TypeId} {F F' : Nat} (hF : F ≤ F') : ∀ {ks : List Kd} {vs : List Value}, dP_ enc P w spare eid F ks vs → dP_ enc P w spare eid F' ks vs
  | [], [], _ => trivial
  | k :: ks, v :: vs, h => ⟨h.1.mono hF, dP_.mono hF h.2⟩
  | [], _ :: _, h => h.elim
  | _ :: _, [], h => h.elim
theorem dP_.append {eid : TC → TypeId} {F : Nat} : ∀ {ks : List Kd} {vs : List Value} {ks' : List Kd} {vs' : List Value}, dP_ enc P w spare eid F ks vs → dP_ enc P w spare eid F ks' vs' → dP_ enc P w spare eid F (ks ++ ks') (vs ++ vs')
  | [], [], _, _, _, h => h
  | k :: ks, v :: vs, _, _, h, h' => ⟨h.1, dP_.append h.2 h'⟩
  | [], _ :: _, _, _, h, _ => h.elim
  | _ :: _, [], _, _, h, _ => h.elim
theorem jf_ {hs_ : TypeId → Option TC} {eid : TC → TypeId} {n : Nat} {rec_ : TypeId → Option (List Kd)} {cs : List Value} (hrec : ∀ T ks cs x, rec_ T = some ks → DataW.trod enc P w 0 spare true n T cs = some x → dP_ enc P w spare eid n ks cs) :
    ∀ (fs : List Field) (off : Nat) (ks : List Kd), kdsL P rec_ fs off = some ks → (∀ f ∈ fs, ∃ x, DataW.trod enc P w 0 spare true n f.type ((cs.drop f.offset).take (P.cellsOf f.type)) = some x) → off + ks.length = cs.length → dP_ enc P w spare eid n ks (cs.drop off)
  | [], off, ks, h, _, hl => by
    simp only [kdsL, Option.some.injEq] at h
    subst h
    rw [List.drop_eq_nil_of_le (by simp at hl; omega)]
    trivial
  | f :: fs, off, ks, h, hx, hl => by
    simp only [kdsL] at h
    obtain ⟨h1, h2⟩ := cd_ h
    have h1 := cW_.1 h1
    cases hr : rec_ f.type with
    | none => rw [hr] at h2; cases h2
    | some k1 =>
      rw [hr] at h2
      obtain ⟨h3, h4⟩ := cd_ h2
      have h3 := cW_.1 h3
      cases hk : kdsL P rec_ fs (off + k1.length) with
      | none => rw [hk] at h4; cases h4
      | some r =>
        rw [hk] at h4
        simp only [Option.some.injEq] at h4
        subst h4
        obtain ⟨x, hx1⟩ := hx f (List.mem_cons_self ..)
        have h5 := hrec _ _ _ _ hr hx1
        have h6 := jf_ (hs_ := hs_) hrec fs (off + k1.length) r hk (fun g hg => hx g (List.mem_cons_of_mem _ hg)) (by simp at hl; omega)
        rw [h1, h3] at h5
        have : cs.drop off = (cs.drop off).take k1.length ++ cs.drop (off + k1.length) := by rw [← List.drop_drop, List.take_append_drop]
        rw [this]
        exact h5.append h6
theorem jt_ {hs_ : TypeId → Option TC} {eid : TC → TypeId} (hcode : ∀ e t, hs_ e = some t → eid t = e) : ∀ (d F : Nat) (T : TypeId) (ks : List Kd) (cs : List Value) (x : DataW H × List MemPlace), kds P hs_ d T = some ks → DataW.trod enc P w 0 spare true F T cs = some x → dP_ enc P w spare eid F ks cs
  | 0, F, T, ks, cs, x, hk, h => by cases hk
  | d + 1, F, T, ks, cs, x, hk, h => by
    simp only [kds] at hk
    cases hu : P.underlying T with
    | none => rw [hu] at hk; cases hk
    | some u =>
      rw [hu] at hk
      cases u <;> simp only at hk <;> (try (cases hk; done))
      case bool =>
        cases hk
        obtain ⟨q, rfl, _⟩ := DataW.trod_bool hu h
        exact ⟨⟨q, rfl⟩, trivial⟩
      case int k =>
        cases hk
        obtain ⟨n, rfl, _, hw⟩ := DataW.trod_int hu h
        exact ⟨⟨n, rfl, hw⟩, trivial⟩
      case string =>
        cases hk
        obtain ⟨s, rfl, _, hs⟩ := DataW.trod_string hu h
        exact ⟨⟨s, rfl, hs⟩, trivial⟩
      case slice e =>
        cases hc : hs_ e with
        | none => rw [hc] at hk; cases hk
        | some t =>
          rw [hc] at hk
          cases hk
          have he := hcode e t hc
          rcases DataW.trod_slice hu h with ⟨rfl, _⟩ | ⟨a, len, cap, elems, fT_, n, hF, rfl, _, _, hl, hm, hlen, hel, _, _⟩
          · exact ⟨.inl rfl, trivial⟩
          · refine ⟨.inr ⟨a, len, cap, n, rfl, hl, hm, by omega, fun i hi => ?_⟩, trivial⟩
            have h1 := hel i hi
            rw [List.getElem?_eq_getElem (by omega)] at h1
            rw [Option.bind_eq_some_iff] at h1
            obtain ⟨cs, k1, k2⟩ := h1
            exact ⟨cs, _, by rw [he]; exact k1, by rw [he]; exact k2⟩
      case struct fs =>
        obtain ⟨xs, n, hF, _, hcl, hxl, hx⟩ := DataW.trod_struct hu h
        cases hks : kdsL P (kds P hs_ d) fs.toList 0 with
        | none => rw [hks] at hk; cases hk
        | some ks' =>
          rw [hks] at hk
          obtain ⟨h1, h2⟩ := cd_ hk
          have h1 := cW_.1 h1
          cases h2
          subst hF
          have := jf_ (hs_ := hs_) (eid := eid) (n := n) (cs := cs) (fun T ks cs x k1 k2 => jt_ hcode d n T ks cs x k1 k2) fs.toList 0 ks hks (fun f hf => by
            obtain ⟨i, hi⟩ := List.getElem?_of_mem hf
            have hi' : fs[i]? = some f := by simpa using hi
            have h3 := hx i f hi'
            have hlt : i < xs.length := by rw [hxl]; exact (Array.getElem?_eq_some_iff.1 hi').1
            rw [List.getElem?_eq_getElem hlt] at h3
            exact ⟨_, h3⟩) (by omega)
          exact (this.mono (Nat.le_succ n))
end
end Go.Pi
end
section
set_option linter.unusedVariables false
namespace Go.Pi
variable [am_]
open am_
variable {H : Type} {enc' : TypeId × Value → H} {E : Env} {w : World} {spare : Nat → Bool}
abbrev NoF : Nat → Prop := fun _ => False
omit [am_] in
theorem hV_ : ∀ {ks : List Kd} {l c : List AV}, ht_ ks l → sims .v l c → c = l
  | [], [], [], _, _ => rfl
  | k :: ks, a :: l, b :: c, h, hs => by
    have e := hV_ h.2 hs.2
    subst e
    have h1 := h.1
    have h2 := hs.1
    cases k <;> obtain ⟨x, rfl⟩ := h1 <;> simp only [AV.sim] at h2 <;> rw [h2]
  | [], [], _ :: _, _, h => h.elim
  | [], _ :: _, _, h, _ => h.elim
  | _ :: _, [], _, h, _ => h.elim
  | _ :: _, _ :: _, [], _, h => h.elim
structure iy_ (E : Env) (hs_ : TypeId → Option TC) (kinds : TC → List Kd) (d : Nat) : Prop where
  codeOk : ∀ e t, hs_ e = some t → E.eid t = e
  kdsOk : ∀ t, kds E.P hs_ d (E.eid t) = some (kinds t)
  dec : ∀ t l, ht_ (kinds t) l → ∃ y, dec t l = some y
  cells : ∀ t, E.P.cellsOf (E.eid t) = t.width
theorem ku_ [an_] {t : TC} {N : Nat} (hel : ∀ cs x, DataW.trod enc' E.P w 0 spare true N (E.eid t) cs = some x → ∃ y : El t, RL E w NoF (enc .v t y) cs (fun _ => 0) ∧ ∀ c ∈ enc .v t y, Good c) {b o : Nat} (hW : E.P.cellsOf (E.eid t) = t.width) :
    ∀ len, (∀ i, i < len → ∃ cs x, w.cells? 0 ((⟨b, o, none⟩ : Addr).add (i * E.P.cellsOf (E.eid t))) (E.P.cellsOf (E.eid t)) = some cs ∧ DataW.trod enc' E.P w 0 spare true N (E.eid t) cs = some x) →
    ∃ (xs : List (El t)) (vals : List Value), xs.length = len ∧ vals.length = len * t.width ∧ RL E w NoF (bn_ .v t xs) vals (fun _ => 0) ∧ w.rangeAt b o vals ∧ ∀ x ∈ xs, ∀ c ∈ enc .v t x, Good c
  | 0, _ => ⟨[], [], rfl, by simp, RL.nil (fun _ => 0) fun _ => rfl, fun j v h => by simp at h, fun x hx => by cases hx⟩
  | len + 1, h => by
    obtain ⟨xs, vals, h1, h2, h3, h4, h5⟩ := ku_ hel hW len fun i hi => h i (by omega)
    obtain ⟨cs, x, k1, k2⟩ := h len (Nat.lt_succ_self _)
    obtain ⟨y, j1, j2⟩ := hel cs x k2
    obtain ⟨_, hl, hc⟩ := World.cells?_some k1
    rw [hW] at hl hc
    refine ⟨xs ++ [y], vals ++ cs, by simp [h1], by rw [List.length_append, h2, hl]; exact (Nat.succ_mul _ _).symm, ?_, fun j v hj => ?_, fun x hx => ?_⟩
    · rw [cy_]
      refine RL.append h3 (φ' := fun _ => 0) ?_ (fun b => rfl)
      simpa [bn_] using j1
    · by_cases hlt : j < vals.length
      · rw [List.getElem?_append_left hlt] at hj
        exact h4 j v hj
      · rw [List.getElem?_append_right (by omega)] at hj
        have hjl : j - vals.length < t.width := by rw [← hl]; exact (List.getElem?_eq_some_iff.1 hj).1
        have := hc (j - vals.length) hjl
        rw [Addr.add_mid, Addr.add_mid, hj] at this
        rw [← this]
        congr 2
        omega
    · rcases List.mem_append.1 hx with hx | hx
      · exact h5 x hx
      · rw [List.mem_singleton] at hx; subst hx; exact j2
theorem cell_open [an_] {hs_ : TypeId → Option TC} {kinds : TC → List Kd} {d : Nat} (hk : iy_ E hs_ kinds d) {F : Nat} (ih : ∀ N, N < F → ∀ t cs x, DataW.trod enc' E.P w 0 spare true N (E.eid t) cs = some x → ∃ y : El t, RL E w NoF (enc .v t y) cs (fun _ => 0) ∧ ∀ c ∈ enc .v t y, Good c) {k : Kd} {v : Value} (h : lr_ enc' E.P w spare E.eid F k v) :
    ∃ a, KindOk k a ∧ RL E w NoF [a] [v] (fun _ => 0) ∧ Good a := by
  cases k with
  | i k => obtain ⟨n, rfl, hw⟩ := h; exact ⟨.i k n, ⟨n, rfl⟩, .scal _ _ _ _ _ rfl (.nil _ fun _ => rfl), .i _ _ hw⟩
  | b => obtain ⟨q, rfl⟩ := h; exact ⟨.b q, ⟨q, rfl⟩, .scal _ _ _ _ _ rfl (.nil _ fun _ => rfl), .b _⟩
  | s =>
    obtain ⟨s, rfl, hs⟩ := h
    refine ⟨.s s.data.toList, ⟨_, rfl⟩, .scal _ _ _ _ _ ?_ (.nil _ fun _ => rfl), .s _ ?_⟩
    · show Value.string s = .string ⟨s.data.toList.toArray⟩
      simp
    · rw [Array.length_toList]; exact hs
  | sl t =>
    rcases h with rfl | ⟨a, len, cap, N, rfl, hl, hm, hN, hel⟩
    · exact ⟨.sl .v t [], ⟨_, rfl⟩, .view t [] none 0 0 [] (fun _ => 0) _ _ _ ⟨rfl, Nat.le_refl _⟩ (.nil _ fun _ => rfl) (fun _ => rfl) (fun hp => by omega) (.nil _ fun _ => rfl), .sl _ _ (Nat.zero_le _) (fun x hx => by cases hx)⟩
    · cases len with
      | zero => exact ⟨.sl .v t [], ⟨_, rfl⟩, .view t [] (some a) 0 cap [] (fun _ => 0) _ _ _ ⟨rfl, hl⟩ (.nil _ fun _ => rfl) (fun _ => rfl) (fun hp => by omega) (.nil _ fun _ => rfl), .sl _ _ (Nat.zero_le _) (fun x hx => by cases hx)⟩
      | succ len =>
        have hW := hk.cells t
        have hpos : 0 < t.width := an_.pos t
        obtain ⟨cs0, x0, k1, _⟩ := hel 0 (Nat.succ_pos _)
        obtain ⟨_, hl0, hc0⟩ := World.cells?_some k1
        have hcell := hc0 0 (by rw [hW]; exact hpos)
        rw [List.getElem?_eq_getElem (by rw [hl0, hW]; exact hpos)] at hcell
        have ha : a.spot = none := by
          have h0 : (a.add (0 * E.P.cellsOf (E.eid t))).add 0 = a := by simp [Addr.add]
          rw [h0] at hcell
          unfold World.cell? at hcell
          split at hcell
          · cases hs : a.spot with
            | none => rfl
            | some q => simp [hs] at hcell
          · cases hcell
        obtain ⟨b, o, sp⟩ := a
        simp only at ha
        subst ha
        have hb : b < w.heap.size := World.cells?_block k1 (by rw [hW]; exact hpos) |> fun h => by simpa [Addr.add] using h
        obtain ⟨xs, vals, e1, e2, e3, e4, e5⟩ := ku_ (ih N hN t) hW (len + 1) hel
        refine ⟨.sl .v t xs, ⟨_, rfl⟩, ?_, .sl _ _ (by omega) e5⟩
        exact .view t xs (some ⟨b, o, none⟩) (len + 1) cap vals (fun _ => 0) _ _ _ ⟨e1.symm, hl⟩ e3 (fun _ => rfl) (fun _ => ⟨b, o, rfl, e4, hb, fun h => h⟩) (.nil _ fun _ => rfl)
theorem hh_ [an_] {hs_ : TypeId → Option TC} {kinds : TC → List Kd} {d : Nat} (hk : iy_ E hs_ kinds d) {F : Nat} (ih : ∀ N, N < F → ∀ t cs x, DataW.trod enc' E.P w 0 spare true N (E.eid t) cs = some x → ∃ y : El t, RL E w NoF (enc .v t y) cs (fun _ => 0) ∧ ∀ c ∈ enc .v t y, Good c) :
    ∀ {ks : List Kd} {vs : List Value}, dP_ enc' E.P w spare E.eid F ks vs → ∃ l, ht_ ks l ∧ RL E w NoF l vs (fun _ => 0) ∧ ∀ c ∈ l, Good c
  | [], [], _ => ⟨[], trivial, .nil _ fun _ => rfl, fun c hc => by cases hc⟩
  | k :: ks, v :: vs, h => by
    obtain ⟨a, h1, h2, h3⟩ := cell_open hk ih h.1
    obtain ⟨l, k1, k2, k3⟩ := hh_ hk ih h.2
    refine ⟨a :: l, ⟨h1, k1⟩, RL.cons h2 k2 (fun b => rfl), fun c hc => ?_⟩
    rcases List.mem_cons.1 hc with rfl | hc
    · exact h3
    · exact k3 c hc
  | [], _ :: _, h => h.elim
  | _ :: _, [], h => h.elim
theorem el_open [an_] {hs_ : TypeId → Option TC} {kinds : TC → List Kd} {d : Nat} (hk : iy_ E hs_ kinds d) : ∀ (F : Nat) (t : TC) (cs : List Value) (x : DataW H × List MemPlace), DataW.trod enc' E.P w 0 spare true F (E.eid t) cs = some x →
    ∃ y : El t, RL E w NoF (enc .v t y) cs (fun _ => 0) ∧ ∀ c ∈ enc .v t y, Good c := by
  intro F
  induction F using Nat.strongRecOn with
  | _ F ih =>
    intro t cs x h
    have h1 := jt_ hk.codeOk d F _ _ _ _ (hk.kdsOk t) h
    obtain ⟨l, h2, h3, h4⟩ := hh_ hk ih h1
    obtain ⟨y, hy⟩ := hk.dec t l h2
    have h5 := an_.dec .v t l y hy
    have h6 := hV_ h2 h5
    exact ⟨y, by rw [h6]; exact h3, by rw [h6]; exact h4⟩
theorem m5_ [an_] {hs_ : TypeId → Option TC} {kinds : TC → List Kd} {d : Nat} (hk : iy_ E hs_ kinds d) {T : TypeId} {ks : List Kd} (hT : kds E.P hs_ d T = some ks) {v : Value} {dd : DataW H} {ps : List MemPlace} (h : DataW.Trod enc' E.P w 0 spare true T v dd ps) :
    ∃ l, ht_ ks l ∧ RL E w NoF l v.cells.toList (fun _ => 0) ∧ ∀ c ∈ l, Good c := by
  obtain ⟨F, hF⟩ := h
  exact hh_ hk (fun N _ => el_open hk N) (jt_ hk.codeOk d F T ks _ _ hT hF)
end Go.Pi
end
section
set_option linter.unusedVariables false
namespace Go.Pi
open Go.RowKit
variable [am_]
open am_
omit [am_] in
theorem bA_ {k : Kd} {ks : List Kd} {l : List AV} (h : ht_ (k :: ks) l) : ∃ a l', l = a :: l' ∧ KindOk k a ∧ ht_ ks l' := by
  cases l with
  | nil => exact h.elim
  | cons a l => exact ⟨a, l, rfl, h.1, h.2⟩
omit [am_] in
theorem c6_ {l : List AV} (h : ht_ [] l) : l = [] := by
  cases l with
  | nil => rfl
  | cons a l => exact h.elim
def codeL (eid : TC → TypeId) : List TC → TypeId → Option TC
  | [], _ => none
  | t :: ts, e => cond (Nat.beq (eid t) e) (some t) (codeL eid ts e)
omit [am_] in
theorem m0_ {eid : TC → TypeId} {e : TypeId} {t : TC} : ∀ ts, codeL eid ts e = some t → eid t = e
  | [], h => by cases h
  | u :: ts, h => by
    simp only [codeL] at h
    cases hb : Nat.beq (eid u) e with
    | true => rw [hb] at h; cases h; exact cW_.1 hb
    | false => rw [hb] at h; exact m0_ ts h
theorem law_true [an_] {E : Env} {f : FuncId} {avs : List AV} {outs : List AV} {ps : List PS} (h : dI_ E f avs (.b true) outs ps) {w : World} (hgl : Glob E w NoF) {Vs : List Value} (hr : RL E w NoF avs Vs (fun _ => 0)) :
    Calls E.P f Vs.toArray w fun e W' => e = .returned (.bool true) ∧ Below w.heap.size w W' := by
  refine (h w NoF Vs _ hr (fun _ => Nat.zero_le _) (fun b hb => hb.elim) hgl).mono fun e W' ⟨V, φ', he, h1, _, _, e1, e2, e3, e4, e5⟩ => ⟨?_, e1, e2, e3, e4, fun k hk => e5 k hk rfl⟩
  cases h1 with
  | scal a v l vs φ hs _ => rw [he, show V = .bool true from hs]
theorem ag_open {E : Env} {w : World} {l : List AV} {cs : Array Value} (h : RL E w NoF l (Value.agg cs).cells.toList (fun _ => 0)) {l' : List AV} {vs : List Value} (h' : RL E w NoF l' vs (fun _ => 0)) :
    RL E w NoF (.ag l :: l') (.agg cs :: vs) (fun _ => 0) := by
  have := RL.ag (E := E) (w := w) (F := NoF) l cs.toList (fun _ => 0) l' vs (fun _ => 0) (fun _ => 0) h h' (fun b => rfl)
  simpa using this
end Go.Pi
end
section
set_option linter.unusedVariables false
set_option maxRecDepth 100000
namespace Go.Pi
open Go.Proofs Go.Proofs.YthfipmaaojdmnaaGreatDoor
open Go.ChangeShapes Go.WideShapes Go.ChangeAt Go.RowKit
def hs_ : TypeId → Option TC := codeL eid [.u8, .int, .str, .lCond, .lRow, .lKid, .iCond, .iRow, .iKid, .iOp, .iJson, .ikeyed]
def kinds : TC → List Kd
  | .u8 => [.i .u8]
  | .int => [.i .i64]
  | .str => [.s]
  | .lCond => [.i .i64, .i .i64, .i .i64]
  | .lRow => [.i .i64, .sl .int]
  | .lKid => [.i .i64, .i .i64]
  | .iCond => [.i .i64, .i .i64, .i .i64]
  | .iRow => [.i .i64, .sl .int]
  | .iKid => [.i .i64, .i .i64]
  | .iOp => [.i .i64, .sl .str, .i .i64, .i .i64, .s, .sl .iJson, .sl .str]
  | .iJson => [.i .i64, .i .i64, .s, .sl .iJson, .sl .str]
  | .ikeyed => [.i .i64, .i .i64, .i .i64, .s, .sl .iJson, .sl .str]
theorem kindsOk : iy_ E hs_ kinds 12 where
  codeOk := fun e t h => m0_ _ h
  kdsOk := by intro t; cases t <;> kernel_rfl
  cells := by intro t; cases t <;> kernel_rfl
  dec := by
    intro t l h
    cases t with
    | u8 =>
      iterate 1 (replace h := bA_ h; obtain ⟨_, _, rfl, ⟨_, rfl⟩, h⟩ := h)
      replace h := c6_ h; subst h; exact ⟨_, rfl⟩
    | int =>
      iterate 1 (replace h := bA_ h; obtain ⟨_, _, rfl, ⟨_, rfl⟩, h⟩ := h)
      replace h := c6_ h; subst h; exact ⟨_, rfl⟩
    | str =>
      iterate 1 (replace h := bA_ h; obtain ⟨_, _, rfl, ⟨_, rfl⟩, h⟩ := h)
      replace h := c6_ h; subst h; exact ⟨_, rfl⟩
    | lCond =>
      iterate 3 (replace h := bA_ h; obtain ⟨_, _, rfl, ⟨_, rfl⟩, h⟩ := h)
      replace h := c6_ h; subst h; exact ⟨_, rfl⟩
    | lRow =>
      iterate 2 (replace h := bA_ h; obtain ⟨_, _, rfl, ⟨_, rfl⟩, h⟩ := h)
      replace h := c6_ h; subst h; exact ⟨_, rfl⟩
    | lKid =>
      iterate 2 (replace h := bA_ h; obtain ⟨_, _, rfl, ⟨_, rfl⟩, h⟩ := h)
      replace h := c6_ h; subst h; exact ⟨_, rfl⟩
    | iCond =>
      iterate 3 (replace h := bA_ h; obtain ⟨_, _, rfl, ⟨_, rfl⟩, h⟩ := h)
      replace h := c6_ h; subst h; exact ⟨_, rfl⟩
    | iRow =>
      iterate 2 (replace h := bA_ h; obtain ⟨_, _, rfl, ⟨_, rfl⟩, h⟩ := h)
      replace h := c6_ h; subst h; exact ⟨_, rfl⟩
    | iKid =>
      iterate 2 (replace h := bA_ h; obtain ⟨_, _, rfl, ⟨_, rfl⟩, h⟩ := h)
      replace h := c6_ h; subst h; exact ⟨_, rfl⟩
    | iOp =>
      iterate 7 (replace h := bA_ h; obtain ⟨_, _, rfl, ⟨_, rfl⟩, h⟩ := h)
      replace h := c6_ h; subst h; exact ⟨_, rfl⟩
    | iJson =>
      iterate 5 (replace h := bA_ h; obtain ⟨_, _, rfl, ⟨_, rfl⟩, h⟩ := h)
      replace h := c6_ h; subst h; exact ⟨_, rfl⟩
    | ikeyed =>
      iterate 6 (replace h := bA_ h; obtain ⟨_, _, rfl, ⟨_, rfl⟩, h⟩ := h)
      replace h := c6_ h; subst h; exact ⟨_, rfl⟩
namespace laws_FnExactShorter
theorem own : ownKnob Tryz.prog.godebug = none := by kernel_rfl
theorem laidOut : laidOutB Tryz.prog = true := by kernel_rfl
def tab1 : DataW Unit → List Value
  | .lit (.int k n) => [Value.int k n]
  | _ => []
def tab2 : DataW Unit → List Value
  | .agg l => l.flatMap tab1
  | d => tab1 d
def tabOf : DataW Unit → Array Value
  | .agg l => (l.flatMap tab2).toArray
  | _ => #[]
def Pure : Prop := ∀ (aA : bs_) (aB : bs_), (∀ c ∈ ([.i .i64 aA.q.table, .sl .v .lCond aA.q.where_, .i .i64 aA.q.order, .b aA.q.down, .i .i64 aA.q.first, .sl .v .int aA.q.show_, .b aA.q.kids, .i .i64 aA.q.kidTable, .i .i64 aA.q.kidCol, .sl .v .lRow aA.rows, .sl .v .lKid aA.kids] : List AV), Good c) → (∀ c ∈ ([.i .i64 aB.q.table, .sl .v .lCond aB.q.where_, .i .i64 aB.q.order, .b aB.q.down, .i .i64 aB.q.first, .sl .v .int aB.q.show_, .b aB.q.kids, .i .i64 aB.q.kidTable, .i .i64 aB.q.kidCol, .sl .v .lRow aB.rows, .sl .v .lKid aB.kids] : List AV), Good c) → ∃ n, Go.Pi.laws_FnExactShorter n aA aB = some true
noncomputable def kK_ (os : Os) : World :=
  let w0 := World.holding Tryz.prog os ⟨#[], #[], []⟩
  let put := fun (h : Array Obj) (g : Nat) (cs : Array Value) => h.modify g fun
    | .cells _ t frozen => .cells cs t frozen
    | o => o
  { w0 with heap := put (put (put (put (put (w0.heap) 4 (tabOf Rows.laid_math_bits_deBruijn32tab)) 5 (tabOf Rows.laid_math_bits_deBruijn64tab)) 3 (tabOf Rows.laid_internal_strconv_uint64pow10)) 7 (tabOf Rows.laid_unicode_utf8_acceptRanges)) 6 (tabOf Rows.laid_unicode_utf8_first) }
theorem jM_ (os : Os) (args : Array Value) : laidMet Tryz.prog Rows.fnExactShorterRow.laid ((kK_ os).forCall (fun _ _ => 0) ⟨#[], args, []⟩).memory :=
  laidMet_of_run' 8 (by kernel_rfl) (by kernel_rfl)
theorem lifted (hp : Pure) (os : Os) (started : os.Started) (H : Type) (enc : TypeId × Value → H) :
    ReturnsInHanded {} Tryz.checked os 5 .any (fun w args => (Rows.fnExactShorterSpec.pre enc Tryz.prog Tryz.f5 Rows.fnExactShorterRow.domain false w args ∧ laidMet Tryz.prog Rows.fnExactShorterRow.laid w) ∧ sizedMet enc Tryz.prog Tryz.f5 (OpenSpec.ofChange Rows.fnExactShorterSpec) false w args) (Rows.fnExactShorterSpec.post enc Tryz.prog Tryz.f5 false true false false) := by
  refine returnsInHanded_of_calls own started (by kernel_rfl) (ChangeSpec.witness_at (enc := enc) (C := Tryz.checked) (os := os) (X := fun w _ => laidMet Tryz.prog Rows.fnExactShorterRow.laid w) false (kK_ os) #[.agg #[.int .i64 0, .slice none 0 0, .int .i64 0, .bool false, .int .i64 0, .slice none 0 0, .bool false, .int .i64 0, .int .i64 0, .slice none 0 0, .slice none 0 0], .agg #[.int .i64 0, .slice none 0 0, .int .i64 0, .bool false, .int .i64 0, .slice none 0 0, .bool false, .int .i64 0, .int .i64 0, .slice none 0 0, .slice none 0 0]] 8 rfl (by kernel_rfl) (by kernel_rfl) (by kernel_rfl) (by kernel_rfl) (by kernel_rfl) (jM_ os _)) ?_
  intro w0 tape inp _ hsh _ hok hpre _
  obtain ⟨_, _, _, fn', hfn', _, _, _, _, hval0⟩ := hok
  obtain rfl : fn' = Tryz.f5 := Option.some.inj (hfn'.symm.trans Tryz.func5)
  obtain ⟨⟨⟨ds, gs, before, hw0, hcnd⟩, hL0⟩, hz⟩ := hpre
  have hW := DataW.Whole.of_heap (w' := w0.forCall tape inp) (by rfl) hw0
  have hL : laidMet Tryz.prog Rows.fnExactShorterRow.laid (w0.forCall tape inp) := hL0.of_heap (by rfl)
  clear hw0 hL0 hz hfn' hcnd
  generalize w0.forCall tape inp = W at hsh hval0 hW hL ⊢
  generalize inp.args = args at hval0 hW ⊢
  generalize w0.heap.size = base at hval0
  suffices hgo : Calls Tryz.prog 5 args W fun e W' => ∃ v, e = .returned v ∧ Rows.fnExactShorterSpec.post enc Tryz.prog Tryz.f5 false true false false W args v W' from hgo.mono fun e W' ⟨v, he, hp⟩ => by subst he; exact ChangeSpec.post_blind hp
  have hval : ∀ (j : Nat) t v, Tryz.f5.params[j]? = some t → args[j]? = some v → Value.okWide Tryz.prog W .any base t v := hval0
  have hW' := hW
  obtain ⟨p, q, hA0, hV, rfl, hfz, hnd⟩ := hW
  have hA : DataW.TrodAll enc Tryz.prog W 0 (fun _ => true) true Tryz.f5.params.toList args.toList ds p := hA0
  rw [Tryz.params5] at hA hval
  obtain ⟨v0, vs0, d0, ds0, p0, q0, hargs, rfl, rfl, h0, r0⟩ := trodAll_cons hA
  obtain ⟨v1, vs1, d1, ds1, p1, q1, rfl, rfl, rfl, h1, r1⟩ := trodAll_cons r0
  obtain ⟨rfl, rfl, rfl⟩ := trodAll_nil r1
  obtain rfl : args = #[v0, v1] := by cases args; simp_all
  obtain ⟨rfl, rfl⟩ := trodVars_none hV
  obtain ⟨c0, rfl, -⟩ := okWide_struct Tryz.underlying58 (hval 0 58 v0 rfl rfl)
  have lt0 : ∀ x ∈ p0, x.block < W.heap.size := by obtain ⟨m, hm⟩ := h0; exact DataW.trod_lt m _ _ _ hm
  obtain ⟨l0, k0, e0, g0⟩ := m5_ kindsOk (T := 58) (ks := [.i .i64, .sl .lCond, .i .i64, .b, .i .i64, .sl .int, .b, .i .i64, .i .i64, .sl .lRow, .sl .lKid]) (by kernel_rfl) h0
  obtain ⟨c1, rfl, -⟩ := okWide_struct Tryz.underlying58 (hval 1 58 v1 rfl rfl)
  have lt1 : ∀ x ∈ p1, x.block < W.heap.size := by obtain ⟨m, hm⟩ := h1; exact DataW.trod_lt m _ _ _ hm
  obtain ⟨l1, k1, e1, g1⟩ := m5_ kindsOk (T := 58) (ks := [.i .i64, .sl .lCond, .i .i64, .b, .i .i64, .sl .int, .b, .i .i64, .i .i64, .sl .lRow, .sl .lKid]) (by kernel_rfl) h1
  replace k0 := bA_ k0; obtain ⟨_, _, rfl, ⟨z0, rfl⟩, k0⟩ := k0
  replace k0 := bA_ k0; obtain ⟨_, _, rfl, ⟨z1, rfl⟩, k0⟩ := k0
  replace k0 := bA_ k0; obtain ⟨_, _, rfl, ⟨z2, rfl⟩, k0⟩ := k0
  replace k0 := bA_ k0; obtain ⟨_, _, rfl, ⟨z3, rfl⟩, k0⟩ := k0
  replace k0 := bA_ k0; obtain ⟨_, _, rfl, ⟨z4, rfl⟩, k0⟩ := k0
  replace k0 := bA_ k0; obtain ⟨_, _, rfl, ⟨z5, rfl⟩, k0⟩ := k0
  replace k0 := bA_ k0; obtain ⟨_, _, rfl, ⟨z6, rfl⟩, k0⟩ := k0
  replace k0 := bA_ k0; obtain ⟨_, _, rfl, ⟨z7, rfl⟩, k0⟩ := k0
  replace k0 := bA_ k0; obtain ⟨_, _, rfl, ⟨z8, rfl⟩, k0⟩ := k0
  replace k0 := bA_ k0; obtain ⟨_, _, rfl, ⟨z9, rfl⟩, k0⟩ := k0
  replace k0 := bA_ k0; obtain ⟨_, _, rfl, ⟨z10, rfl⟩, k0⟩ := k0
  replace k0 := c6_ k0; subst k0
  replace k1 := bA_ k1; obtain ⟨_, _, rfl, ⟨z11, rfl⟩, k1⟩ := k1
  replace k1 := bA_ k1; obtain ⟨_, _, rfl, ⟨z12, rfl⟩, k1⟩ := k1
  replace k1 := bA_ k1; obtain ⟨_, _, rfl, ⟨z13, rfl⟩, k1⟩ := k1
  replace k1 := bA_ k1; obtain ⟨_, _, rfl, ⟨z14, rfl⟩, k1⟩ := k1
  replace k1 := bA_ k1; obtain ⟨_, _, rfl, ⟨z15, rfl⟩, k1⟩ := k1
  replace k1 := bA_ k1; obtain ⟨_, _, rfl, ⟨z16, rfl⟩, k1⟩ := k1
  replace k1 := bA_ k1; obtain ⟨_, _, rfl, ⟨z17, rfl⟩, k1⟩ := k1
  replace k1 := bA_ k1; obtain ⟨_, _, rfl, ⟨z18, rfl⟩, k1⟩ := k1
  replace k1 := bA_ k1; obtain ⟨_, _, rfl, ⟨z19, rfl⟩, k1⟩ := k1
  replace k1 := bA_ k1; obtain ⟨_, _, rfl, ⟨z20, rfl⟩, k1⟩ := k1
  replace k1 := bA_ k1; obtain ⟨_, _, rfl, ⟨z21, rfl⟩, k1⟩ := k1
  replace k1 := c6_ k1; subst k1
  have hT : Lib.TabIs Tryz.prog W "internal/strconv.uint64pow10" .u64 Lib.pow10Tab := Lib.tabIs_of_head (t := 303) (e := 275) (n := 20) im_ (by kernel_rfl) (by kernel_rfl) (by kernel_rfl) (by kernel_rfl) (by kernel_rfl) (show laidMet Tryz.prog ((_, Lib.tabData .u64 Lib.pow10Tab) :: _) W from hL.tail.tail)
  obtain ⟨mx, hmx⟩ := cell_of_shapedOpen_int (g := 2) (t := 3) (k := .i64) (zero := #[.int .i64 0]) hsh (by decide +kernel) (by kernel_rfl) rfl (by kernel_rfl) (by kernel_rfl) (by kernel_rfl)
  have hgl : Glob E W NoF := fun p hp => by
    rcases List.mem_cons.1 hp with rfl | hp
    · obtain ⟨T, fr, h⟩ := tab_glob hT im_; exact ⟨⟨_, T, fr, h, rfl⟩, fun h => h.elim⟩
    rcases List.mem_singleton.1 hp with rfl
    exact ⟨int_glob hmx, fun h => h.elim⟩
  obtain ⟨n, hn⟩ := hp (bs_.mk (aZ_.mk z0 z1 z2 z3 z4 z5 z6 z7 z8) z9 z10) (bs_.mk (aZ_.mk z11 z12 z13 z14 z15 z16 z17 z18 z19) z20 z21) g0 g1
  refine (law_true ((bB_ n).h132 ((z0, z1, z2, z3, z4, z5, z6, z7, z8, z9, z10, ()), (z11, z12, z13, z14, z15, z16, z17, z18, z19, z20, z21, ()), ()) _ hn) hgl (ag_open e0 (ag_open e1 (.nil _ fun _ => rfl)))).mono fun e W' ⟨he, bel⟩ => ?_
  subst he
  exact ⟨_, rfl, _, _, _, [], _, [], hW', trodAll_mk1 (shut_bool Tryz.underlying4 _), (trodAll_cons_mk (Below.trod laidOut (by kernel_rfl) (of_decide_eq_true (by kernel_rfl)) h0 bel lt0) (trodAll_cons_mk (Below.trod laidOut (by kernel_rfl) (of_decide_eq_true (by kernel_rfl)) h1 bel lt1) trodAll_mk0)), rfl, bel.frame _, fun h => by cases h⟩
theorem jf0 : (Rows.fnExactShorterRow.wf (OpenSpec.ofChange Rows.fnExactShorterSpec)) = true := by kernel_rfl
theorem jf1 : (laidOutB Tryz.prog) = true := by kernel_rfl
theorem jf2 : (mapsRowed Tryz.prog) = true := by kernel_rfl
theorem jf3 : (Tryz.f5.params.all (Tryz.prog.readableRec ·)) = true := by kernel_rfl
theorem jf4 : (namedTie Tryz.prog Rows.fnExactShorterRow.named Rows.fnExactShorterSpec.vars) = true := by kernel_rfl
theorem jf5 : ((Rows.fnExactShorterRow.stops == [])) = true := by kernel_rfl
theorem jf6 : ((Tryz.prog.stops == [])) = true := by kernel_rfl
theorem jf7 : ((Rows.fnExactShorterRow.knobs == [])) = true := by kernel_rfl
theorem jf8 : ((Tryz.prog.stopKnobs == [])) = true := by kernel_rfl
theorem jf9 : ((Rows.fnExactShorterRow.inPlace == Tryz.prog.inPlace 5)) = true := by kernel_rfl
theorem jf10 : ((Rows.fnExactShorterRow.unfollowed == Tryz.prog.unfollowed 5)) = true := by kernel_rfl
theorem jf11 : ((Rows.fnExactShorterRow.recurses == Tryz.prog.recurses 5)) = true := by kernel_rfl
theorem jf12 : ((Rows.fnExactShorterRow.named == Tryz.prog.varsNamed 5)) = true := by kernel_rfl
theorem jf13 : ((Rows.fnExactShorterRow.maps == (Tryz.f5.params.toList ++ Rows.fnExactShorterSpec.plain.varTypes Tryz.prog).any (Tryz.prog.mapsRec ·))) = true := by kernel_rfl
theorem jf14 : ((Rows.fnExactShorterRow.ifaces == (Tryz.f5.params.toList ++ Rows.fnExactShorterSpec.plain.varTypes Tryz.prog).any (Tryz.prog.ifacesRec ·))) = true := by kernel_rfl
theorem jf15 : ((Rows.fnExactShorterRow.mapsOut == Tryz.prog.mapsAmong Tryz.f5.resultTypes.toList)) = true := by kernel_rfl
theorem jf16 : ((Rows.fnExactShorterRow.loops == (Tryz.f5.params.toList ++ Rows.fnExactShorterSpec.plain.varTypes Tryz.prog).any (Tryz.prog.loopsFrom ·))) = true := by kernel_rfl
theorem jf17 : ((Rows.fnExactShorterRow.wideKeys == (Tryz.f5.params.toList ++ Rows.fnExactShorterSpec.plain.varTypes Tryz.prog ++ Tryz.f5.resultTypes.toList).any (Tryz.prog.wideKeysFrom ·))) = true := by kernel_rfl
theorem jf18 : (Rows.fnExactShorterSpec.vars.all (Tryz.prog.varReadable ·)) = true := by kernel_rfl
theorem jf19 : (Tryz.f5.resultTypes.all (fun t => Tryz.prog.readableRec t && decide (t < Tryz.prog.types.size))) = true := by kernel_rfl
theorem jf20 : ((Rows.fnExactShorterRow.ifacesOut == Tryz.f5.resultTypes.toList.any (Tryz.prog.ifacesRec ·))) = true := by kernel_rfl
theorem jf21 : ((Rows.fnExactShorterRow.loopsOut == Tryz.f5.resultTypes.toList.any (Tryz.prog.loopsFrom ·))) = true := by kernel_rfl
theorem jf22 : ((Rows.fnExactShorterRow.plainKeys == Tryz.prog.plainKeys)) = true := by kernel_rfl
theorem jf23 : (Rows.fnExactShorterRow.shortTexts.isNone) = true := by kernel_rfl
theorem jf24 : (Tryz.prog.stopsHeard) = true := by kernel_rfl
theorem jf25 : (Tryz.prog.mayEnter) = true := by kernel_rfl
theorem jf26 : ((Rows.fnExactShorterRow.lifted == Tryz.prog.liftsFinal)) = true := by kernel_rfl
theorem jf27 : ((Tryz.prog.make == some Rows.fnExactShorterRow.make)) = true := by kernel_rfl
theorem jf28 : ((Rows.fnExactShorterRow.kinds == (if Rows.fnExactShorterRow.domain.isEmpty then [] else Tryz.f5.params.toList.map fun t => match Tryz.prog.underlying t with | some (.int k) => some k | _ => none))) = true := by kernel_rfl
theorem jf29 : ((Rows.fnExactShorterRow.pinned == Rows.fnExactShorterRow.pinnedBy)) = true := by kernel_rfl
theorem jf30 : ((Rows.fnExactShorterRow.veiled == (Tryz.f5.params.toList ++ Rows.fnExactShorterSpec.plain.varTypes Tryz.prog ++ Tryz.f5.resultTypes.toList).any (Tryz.prog.veiledRec ·))) = true := by kernel_rfl
theorem jf31 : (Rows.fnExactShorterRow.veiledFits Tryz.prog Tryz.f5.params.toList (Tryz.f5.params.toList ++ Rows.fnExactShorterSpec.plain.varTypes Tryz.prog ++ Tryz.f5.resultTypes.toList)) = true := by kernel_rfl
theorem gh_ {a b : Bool} (h : a = true) (k : b = true) : (a && b) = true := by rw [h, k]; rfl
theorem facts : joinedFacts Tryz.pinned.checked.prog 5 Tryz.f5 Rows.fnExactShorterSpec Rows.fnExactShorterRow = true := (gh_ (gh_ (gh_ (gh_ (gh_ (gh_ (gh_ (gh_ (gh_ (gh_ (gh_ (gh_ (gh_ (gh_ (gh_ (gh_ (gh_ (gh_ (gh_ (gh_ (gh_ (gh_ (gh_ (gh_ (gh_ (gh_ (gh_ (gh_ (gh_ (gh_ (gh_ jf0 jf1) jf2) jf3) jf4) jf5) jf6) jf7) jf8) jf9) jf10) jf11) jf12) jf13) jf14) jf15) jf16) jf17) jf18) jf19) jf20) jf21) jf22) jf23) jf24) jf25) jf26) jf27) jf28) jf29) jf30) jf31)
theorem over (hp : Pure) : Rows.fnExactShorterRow.holds Tryz.pinned (OpenSpec.ofChange Rows.fnExactShorterSpec) :=
  OpenClaim.holds_of_wide 5 Tryz.f5 rfl rfl rfl rfl rfl rfl rfl ⟨rfl, rfl, rfl, rfl, rfl⟩ rfl rfl rfl rfl rfl (by kernel_rfl) Tryz.func5 facts
    (of_decide_eq_true (by kernel_rfl)) (by unfold Func.isWrapper; first | (rw [if_pos (by decide +kernel)]; kernel_rfl) | (rw [if_neg (by decide +kernel)]; exact ⟨rfl, rfl⟩))
    (fun os started H enc _ => lifted hp os started H enc)
end laws_FnExactShorter
theorem laws_FnExactShorter.card (hp : laws_FnExactShorter.Pure) : Rows.FnExactShorterCardSaid :=
  Claim7.holds_tied_plain_at .later [] [.data, .data, .data, .data, .pinned] true (true, "304d6da51f0c7175cb2df9d547ed57e6da802ed516144d25710dbb5a57e39f95") true
    (laws_FnExactShorter.over hp) (fun _ h => by cases h) (by kernel_rfl) (fun _ h => by cases h) fnExactShorter_row_tie rfl ⟨rfl, rfl⟩ (by kernel_rfl) rfl
    (fun f fn hf hfn => by
      obtain rfl : f = 5 := Option.some.inj ((show Tryz.prog.funcNamed "loop.example/g00198/laws.FnExactShorter" = some 5 by kernel_rfl).symm.trans hf) |>.symm
      obtain rfl : fn = Tryz.f5 := (Option.some.inj (Tryz.func5.symm.trans hfn)).symm
      exact ⟨by kernel_rfl, fun j t ht => by
        rw [Tryz.params5] at ht
        have hm : t ∈ ([58, 58] : List TypeId) := List.mem_of_getElem? (show ([58, 58] : List TypeId)[j]? = some t by simpa using ht)
        have := List.all_eq_true.1 (show ([58, 58] : List TypeId).all (fun t => !Tryz.prog.wantsStandIn t) = true by kernel_rfl) t hm
        exact (by simpa using this : Tryz.prog.wantsStandIn t = false)⟩)
    (by kernel_rfl)
end Go.Pi
end
section
set_option linter.unusedVariables false
namespace Go.Pi
section
variable {α β : Type}
def Ev (f : Nat → Nat → Option α) (v : α) : Prop := ∃ M, ∀ n N, M ≤ n → M ≤ N → f n N = some v
theorem al_ {v w : α} : Ev (fun _ _ => some v) w ↔ v = w :=
  ⟨fun ⟨M, h⟩ => Option.some.inj (h M M (Nat.le_refl _) (Nat.le_refl _)), fun h => ⟨0, fun _ _ _ _ => by rw [h]⟩⟩
theorem dn_ {f : Nat → Nat → Option α} {v w : α} (h : Ev f v) : Ev f w ↔ v = w := by
  constructor
  · rintro ⟨M', h'⟩
    obtain ⟨M, h⟩ := h
    have a := h (max M M') (max M M') (by omega) (by omega)
    have b := h' (max M M') (max M M') (by omega) (by omega)
    rw [a] at b
    exact Option.some.inj b
  · rintro rfl; exact h
theorem ag_ {f : Nat → Nat → Option α} {a : α} (h : Ev f a) {g : Nat → Nat → α → Option β} {v : β} : Ev (fun n N => (f n N).bind (g n N)) v ↔ Ev (fun n N => g n N a) v := by
  obtain ⟨M, h⟩ := h
  constructor
  · rintro ⟨M', h'⟩
    refine ⟨max M M', fun n N h1 h2 => ?_⟩
    have := h' n N (by omega) (by omega)
    simp only [h n N (by omega) (by omega), Option.bind_some] at this
    exact this
  · rintro ⟨M', h'⟩
    refine ⟨max M M', fun n N h1 h2 => ?_⟩
    simp only [h n N (by omega) (by omega), Option.bind_some]
    exact h' n N (by omega) (by omega)
theorem c3_ {v : α} : Ev (fun _ _ => none) v ↔ False := by
  simp only [iff_false]
  rintro ⟨M, h⟩
  cases h M M (Nat.le_refl _) (Nat.le_refl _)
theorem ax_ {c : Bool} {f g : Nat → Nat → Option α} {v : α} : Ev (fun n N => cond c (f n N) (g n N)) v ↔ (c = true → Ev f v) ∧ (c = false → Ev g v) := by
  cases c <;> simp
theorem bO_ {i : Int} {len : Nat} {f : Nat → Nat → Option α} {v : α} : Ev (fun n N => inB i len (f n N)) v ↔ (0 ≤ i ∧ i < (len : Int)) ∧ Ev f v := by
  unfold inB
  rw [ax_, ax_]
  by_cases h1 : 0 ≤ i <;> by_cases h2 : i < (len : Int) <;> simp [h1, h2, c3_]
theorem aF_ {f : Nat → Nat → Option α} {v : α} (h : Ev (fun n N => f (n + 1) N) v) : Ev f v := by
  obtain ⟨M, h⟩ := h
  refine ⟨M + 1, fun n N h1 h2 => ?_⟩
  obtain ⟨m, rfl⟩ : ∃ m, n = m + 1 := ⟨n - 1, by omega⟩
  exact h m N (by omega) (by omega)
theorem dw_ {f : Nat → Nat → Option α} {v : α} (h : Ev f v) : Ev (fun n _ => f n n) v := by
  obtain ⟨M, h⟩ := h
  exact ⟨M, fun n N h1 h2 => h n n h1 h1⟩
theorem cA_ {f : Nat → Nat → Option α} {v : α} (h : Ev (fun n N => f n (N + 1)) v) : Ev f v := by
  obtain ⟨M, h⟩ := h
  refine ⟨M + 1, fun n N h1 h2 => ?_⟩
  obtain ⟨m, rfl⟩ : ∃ m, N = m + 1 := ⟨N - 1, by omega⟩
  exact h n m (by omega) (by omega)
theorem ev_ex {f : Nat → Option α} {v : α} (h : Ev (fun n _ => f n) v) : ∃ n, f n = some v := by
  obtain ⟨M, h⟩ := h
  exact ⟨M, h M M (Nat.le_refl _) (Nat.le_refl _)⟩
theorem ev_up {σ : Type} (L : Nat → Nat → Nat → σ → Option α) (F : Nat → σ → α) (I : Nat → σ → Prop) (len : Nat)
    (h : ∀ i s, I i s → i ≤ len → (∀ s', I (i + 1) s' → i < len → Ev (fun n N => L n N (i + 1) s') (F (i + 1) s')) → Ev (fun n N => L n (N + 1) i s) (F i s)) :
    ∀ s, I 0 s → Ev (fun n _ => L n n 0 s) (F 0 s) := by
  have key : ∀ d i s, d + i = len → I i s → Ev (fun n N => L n N i s) (F i s) := by
    intro d
    induction d with
    | zero => exact fun i s hd hI => cA_ (h i s hI (by omega) fun s' _ hl => absurd hl (by omega))
    | succ d ih => exact fun i s hd hI => cA_ (h i s hI (by omega) fun s' hI' _ => ih (i + 1) s' (by omega) hI')
  exact fun s hI => dw_ (f := fun n N => L n N 0 s) (key len 0 s (by omega) hI)
theorem mT_ (L : Nat → Nat → Nat → Option α) (F : Nat → α) (len : Nat)
    (h : ∀ i, i ≤ len → (i < len → Ev (fun n N => L n N (i + 1)) (F (i + 1))) → Ev (fun n N => L n (N + 1) i) (F i)) :
    Ev (fun n _ => L n n 0) (F 0) :=
  ev_up (σ := Unit) (fun n N i _ => L n N i) (fun i _ => F i) (fun _ _ => True) len (fun i s _ hi k => h i hi fun hl => k () trivial hl) () trivial
end
abbrev b9_ : Nat := 9223372036854775807
theorem W_id {n : Int} (h : -9223372036854775808 ≤ n) (h' : n < 9223372036854775808) : W n = n := by
  show IntKind.i64.wrap n = n
  rw [IntKind.wrap_i64]; omega
theorem W_up {i : Nat} {len : Nat} (h : i < len) (hl : len ≤ b9_) : W ((i : Int) + 1) = ((i + 1 : Nat) : Int) := by
  rw [W_id (by omega) (by simp only [b9_] at hl; omega)]; omega
theorem lb_ {α : Type} (d : α) {a : List α} {i : Nat} (h : i < a.length) : a.drop i = a.getD i d :: a.drop (i + 1) := by
  rw [List.drop_eq_getElem_cons h, List.getD_eq_getElem?_getD, List.getElem?_eq_getElem h]; rfl
theorem drop_end {α : Type} {a : List α} {i : Nat} (h : a.length ≤ i) : a.drop i = [] := List.drop_eq_nil_of_le h
theorem bX_ {α : Type} (d : α) {a : List α} {i : Nat} (h : i < a.length) : a.getD i d ∈ a := by
  rw [List.getD_eq_getElem?_getD, List.getElem?_eq_getElem h]; exact List.getElem_mem h
end Go.Pi
end
section
set_option linter.unusedVariables false
set_option maxRecDepth 100000
namespace Go.Pi
abbrev aY_.K7 : Type := Int → Option Int
theorem aY_.turn7 {n N : Nat} {k : Int → Option Int} {x0 x1 x2} : aY_.loop7 n k (N + 1) x0 x1 x2 = aY_.step7 n k (aY_.loop7 n k N) x0 x1 x2 := rfl
abbrev aN_.K4 : Type := (List bb_) → Option (List bb_)
theorem aN_.turn4 {n N : Nat} {k : (List bb_) → Option (List bb_)} {x0 x1 x2} : aN_.loop4 n k (N + 1) x0 x1 x2 = aN_.step4 n k (aN_.loop4 n k N) x0 x1 x2 := rfl
abbrev aX_.K4 : Type := (List Int) → Option (List Int)
theorem aX_.turn4 {n N : Nat} {k : (List Int) → Option (List Int)} {x0 x1 x2} : aX_.loop4 n k (N + 1) x0 x1 x2 = aX_.step4 n k (aX_.loop4 n k N) x0 x1 x2 := rfl
abbrev a1_.K4 : Type := (List TRow) → Option (List TRow)
theorem a1_.turn4 {n N : Nat} {k : (List TRow) → Option (List TRow)} {x0 x1 x2} : a1_.loop4 n k (N + 1) x0 x1 x2 = a1_.step4 n k (a1_.loop4 n k N) x0 x1 x2 := rfl
abbrev a2_.K4 : Type := (List TKid) → Option (List TKid)
theorem a2_.turn4 {n N : Nat} {k : (List TKid) → Option (List TKid)} {x0 x1 x2} : a2_.loop4 n k (N + 1) x0 x1 x2 = a2_.step4 n k (a2_.loop4 n k N) x0 x1 x2 := rfl
abbrev aT_.K3 : Type := (List bb_) → (List bb_) → Option Bool
theorem aT_.turn3 {n N : Nat} {k : (List bb_) → (List bb_) → Option Bool} {x0 x1 x2} : aT_.loop3 n k (N + 1) x0 x1 x2 = aT_.step3 n k (aT_.loop3 n k N) x0 x1 x2 := rfl
abbrev bc_.K3 : Type := (List Int) → (List Int) → Option Bool
theorem bc_.turn3 {n N : Nat} {k : (List Int) → (List Int) → Option Bool} {x0 x1 x2} : bc_.loop3 n k (N + 1) x0 x1 x2 = bc_.step3 n k (bc_.loop3 n k N) x0 x1 x2 := rfl
abbrev a0_.K3 : Type := Bs → Option Bool
theorem a0_.turn3 {n N : Nat} {k : Bs → Option Bool} {x0 x1} : a0_.loop3 n k (N + 1) x0 x1 = a0_.step3 n k (a0_.loop3 n k N) x0 x1 := rfl
abbrev af_.K6 : Type := Int → Int → Bs → (List aa_) → (List Bs) → Option Bool
theorem af_.turn6 {n N : Nat} {k : Int → Int → Bs → (List aa_) → (List Bs) → Option Bool} {x0 x1 x2 x3 x4 x5} : af_.loop6 n k (N + 1) x0 x1 x2 x3 x4 x5 = af_.step6 n k (af_.loop6 n k N) x0 x1 x2 x3 x4 x5 := rfl
abbrev aA_.K23_1 : Type := Int → Int → Int → Int → Bs → (List aa_) → (List Bs) → Option Int
theorem aA_.turn23 {n N : Nat} {k0 : aa_ → Int → Option Int} {k1 : Int → Int → Int → Int → Bs → (List aa_) → (List Bs) → Option Int} {x0 x1 x2 x3 x4 x5 x6 x7 x8} : aA_.loop23 n k0 k1 (N + 1) x0 x1 x2 x3 x4 x5 x6 x7 x8 = aA_.step23 n k0 k1 (aA_.loop23 n k0 k1 N) x0 x1 x2 x3 x4 x5 x6 x7 x8 := rfl
abbrev a6_.K3 : Type := Option Int
theorem a6_.turn3 {n N : Nat} {k : Option Int} {x0 x1 x2 x3 x4 x5 x6 x7 x8 x9 x10 x11 x12} : a6_.loop3 n k (N + 1) x0 x1 x2 x3 x4 x5 x6 x7 x8 x9 x10 x11 x12 = a6_.step3 n k (a6_.loop3 n k N) x0 x1 x2 x3 x4 x5 x6 x7 x8 x9 x10 x11 x12 := rfl
abbrev aD_.K7 : Type := Bool → Bs → Option Bs
theorem aD_.turn7 {n N : Nat} {k : Bool → Bs → Option Bs} {x0 x1 x2} : aD_.loop7 n k (N + 1) x0 x1 x2 = aD_.step7 n k (aD_.loop7 n k N) x0 x1 x2 := rfl
abbrev bg_.K5 : Type := Bs → Bool → Int → Int → Bs → (List aa_) → (List Bs) → Int → Int → Bs → Int → Int → Bs → (List aa_) → (List Bs) → Option aa_
theorem bg_.turn5 {n N : Nat} {k : Bs → Bool → Int → Int → Bs → (List aa_) → (List Bs) → Int → Int → Bs → Int → Int → Bs → (List aa_) → (List Bs) → Option aa_} {x0 x1 x2 x3 x4 x5 x6 x7 x8 x9 x10 x11 x12 x13 x14 x15 x16 x17 x18 x19 x20} : bg_.loop5 n k (N + 1) x0 x1 x2 x3 x4 x5 x6 x7 x8 x9 x10 x11 x12 x13 x14 x15 x16 x17 x18 x19 x20 = bg_.step5 n k (bg_.loop5 n k N) x0 x1 x2 x3 x4 x5 x6 x7 x8 x9 x10 x11 x12 x13 x14 x15 x16 x17 x18 x19 x20 := rfl
abbrev aW_.K4 : Type := Int → Int → (List bb_) → Int → Bool → Int → (List Int) → Bool → Int → Int → Int → (List Int) → Int → Int → Bs → Int → Int → Bs → (List aa_) → (List Bs) → Option aa_
theorem aW_.turn4 {n N : Nat} {k : Int → Int → (List bb_) → Int → Bool → Int → (List Int) → Bool → Int → Int → Int → (List Int) → Int → Int → Bs → Int → Int → Bs → (List aa_) → (List Bs) → Option aa_} {x0 x1 x2 x3 x4 x5 x6 x7 x8 x9 x10 x11 x12 x13 x14 x15 x16 x17 x18 x19 x20} : aW_.loop4 n k (N + 1) x0 x1 x2 x3 x4 x5 x6 x7 x8 x9 x10 x11 x12 x13 x14 x15 x16 x17 x18 x19 x20 = aW_.step4 n k (aW_.loop4 n k N) x0 x1 x2 x3 x4 x5 x6 x7 x8 x9 x10 x11 x12 x13 x14 x15 x16 x17 x18 x19 x20 := rfl
abbrev aL_.K5 : Type := (List aa_) → (List Int) → Option ((List aa_) × (List Int))
theorem aL_.turn5 {n N : Nat} {k : (List aa_) → (List Int) → Option ((List aa_) × (List Int))} {x0 x1 x2 x3 x4 x5 x6 x7 x8 x9 x10 x11 x12 x13} : aL_.loop5 n k (N + 1) x0 x1 x2 x3 x4 x5 x6 x7 x8 x9 x10 x11 x12 x13 = aL_.step5 n k (aL_.loop5 n k N) x0 x1 x2 x3 x4 x5 x6 x7 x8 x9 x10 x11 x12 x13 := rfl
abbrev bq_.K3 : Type := Option Int
theorem bq_.turn3 {n N : Nat} {k : Option Int} {x0 x1 x2} : bq_.loop3 n k (N + 1) x0 x1 x2 = bq_.step3 n k (bq_.loop3 n k N) x0 x1 x2 := rfl
abbrev aw_.K3 : Type := (List Int) → (List aa_) → Option Bool
theorem aw_.turn3 {n N : Nat} {k : (List Int) → (List aa_) → Option Bool} {x0 x1 x2} : aw_.loop3 n k (N + 1) x0 x1 x2 = aw_.step3 n k (aw_.loop3 n k N) x0 x1 x2 := rfl
abbrev aw_.K11 : Type := (List Int) → (List aa_) → Option Bool
theorem aw_.turn11 {n N : Nat} {k : (List Int) → (List aa_) → Option Bool} {x0 x1 x2} : aw_.loop11 n k (N + 1) x0 x1 x2 = aw_.step11 n k (aw_.loop11 n k N) x0 x1 x2 := rfl
abbrev aj_.K6_1 : Type := Int → Int → Bs → (List aa_) → (List Bs) → Int → Int → Bs → (List aa_) → (List Bs) → Option Bool
theorem aj_.turn6 {n N : Nat} {k0 : aa_ → aa_ → Option Bool} {k1 : Int → Int → Bs → (List aa_) → (List Bs) → Int → Int → Bs → (List aa_) → (List Bs) → Option Bool} {x0 x1 x2 x3 x4 x5 x6 x7 x8 x9 x10} : aj_.loop6 n k0 k1 (N + 1) x0 x1 x2 x3 x4 x5 x6 x7 x8 x9 x10 = aj_.step6 n k0 k1 (aj_.loop6 n k0 k1 N) x0 x1 x2 x3 x4 x5 x6 x7 x8 x9 x10 := rfl
abbrev aj_.K14_1 : Type := Option Bool
theorem aj_.turn14 {n N : Nat} {k0 : aa_ → aa_ → Option Bool} {k1 : Option Bool} {x0 x1 x2 x3 x4 x5 x6 x7 x8 x9 x10} : aj_.loop14 n k0 k1 (N + 1) x0 x1 x2 x3 x4 x5 x6 x7 x8 x9 x10 = aj_.step14 n k0 k1 (aj_.loop14 n k0 k1 N) x0 x1 x2 x3 x4 x5 x6 x7 x8 x9 x10 := rfl
abbrev aQ_.K4_1 : Type := Int → Int → Bs → Int → Int → Bs → (List aa_) → (List Bs) → Option aa_
theorem aQ_.turn4 {n N : Nat} {k0 : aa_ → Option aa_} {k1 : Int → Int → Bs → Int → Int → Bs → (List aa_) → (List Bs) → Option aa_} {x0 x1 x2 x3 x4 x5 x6 x7 x8 x9 x10 x11 x12 x13} : aQ_.loop4 n k0 k1 (N + 1) x0 x1 x2 x3 x4 x5 x6 x7 x8 x9 x10 x11 x12 x13 = aQ_.step4 n k0 k1 (aQ_.loop4 n k0 k1 N) x0 x1 x2 x3 x4 x5 x6 x7 x8 x9 x10 x11 x12 x13 := rfl
abbrev as_.K5 : Type := (List aa_) → (List Int) → (List aa_) → (List Int) → (List TOp) → (List Int) → Option (List TOp)
theorem as_.turn5 {n N : Nat} {k : (List aa_) → (List Int) → (List aa_) → (List Int) → (List TOp) → (List Int) → Option (List TOp)} {x0 x1 x2 x3 x4 x5 x6} : as_.loop5 n k (N + 1) x0 x1 x2 x3 x4 x5 x6 = as_.step5 n k (as_.loop5 n k N) x0 x1 x2 x3 x4 x5 x6 := rfl
abbrev as_.K13 : Type := (List TOp) → Option (List TOp)
theorem as_.turn13 {n N : Nat} {k : (List TOp) → Option (List TOp)} {x0 x1 x2 x3 x4 x5 x6} : as_.loop13 n k (N + 1) x0 x1 x2 x3 x4 x5 x6 = as_.step13 n k (as_.loop13 n k N) x0 x1 x2 x3 x4 x5 x6 := rfl
abbrev bk_.K4 : Type := (List TOp) → Option (List TOp)
theorem bk_.turn4 {n N : Nat} {k : (List TOp) → Option (List TOp)} {x0 x1 x2 x3} : bk_.loop4 n k (N + 1) x0 x1 x2 x3 = bk_.step4 n k (bk_.loop4 n k N) x0 x1 x2 x3 := rfl
abbrev br_.K6 : Type := Int → (List Bs) → Int → Int → Bs → (List aa_) → (List Bs) → Option Bool
theorem br_.turn6 {n N : Nat} {k : Int → (List Bs) → Int → Int → Bs → (List aa_) → (List Bs) → Option Bool} {x0 x1 x2 x3 x4 x5 x6 x7} : br_.loop6 n k (N + 1) x0 x1 x2 x3 x4 x5 x6 x7 = br_.step6 n k (br_.loop6 n k N) x0 x1 x2 x3 x4 x5 x6 x7 := rfl
abbrev aq_.K10 : Type := (List Bs) → Int → (List Int) → Option Bs
theorem aq_.turn10 {n N : Nat} {k : (List Bs) → Int → (List Int) → Option Bs} {x0 x1 x2 x3} : aq_.loop10 n k (N + 1) x0 x1 x2 x3 = aq_.step10 n k (aq_.loop10 n k N) x0 x1 x2 x3 := rfl
abbrev aq_.K4 : Type := (List Int) → Option Bs
theorem aq_.turn4 {n N : Nat} {k : (List Int) → Option Bs} {x0 x1 x2} : aq_.loop4 n k (N + 1) x0 x1 x2 = aq_.step4 n k (aq_.loop4 n k N) x0 x1 x2 := rfl
abbrev aM_.K4 : Type := (List Int) → Option Bs
theorem aM_.turn4 {n N : Nat} {k : (List Int) → Option Bs} {x0 x1 x2} : aM_.loop4 n k (N + 1) x0 x1 x2 = aM_.step4 n k (aM_.loop4 n k N) x0 x1 x2 := rfl
abbrev ay_.K17_1 : Type := Bs → Int → Int → Bs → (List aa_) → (List Bs) → Option Bs
theorem ay_.turn17 {n N : Nat} {k0 : aa_ → Option Bs} {k1 : Bs → Int → Int → Bs → (List aa_) → (List Bs) → Option Bs} {x0 x1 x2 x3 x4 x5 x6} : ay_.loop17 n k0 k1 (N + 1) x0 x1 x2 x3 x4 x5 x6 = ay_.step17 n k0 k1 (ay_.loop17 n k0 k1 N) x0 x1 x2 x3 x4 x5 x6 := rfl
abbrev aC_.K4 : Type := Int → Int → Bs → (List aa_) → Option Int
theorem aC_.turn4 {n N : Nat} {k : Int → Int → Bs → (List aa_) → Option Int} {x0 x1 x2 x3 x4 x5} : aC_.loop4 n k (N + 1) x0 x1 x2 x3 x4 x5 = aC_.step4 n k (aC_.loop4 n k N) x0 x1 x2 x3 x4 x5 := rfl
abbrev aE_.K4 : Type := (List Int) → Option (List Int)
theorem aE_.turn4 {n N : Nat} {k : (List Int) → Option (List Int)} {x0 x1 x2 x3 x4 x5 x6 x7 x8 x9 x10 x11 x12} : aE_.loop4 n k (N + 1) x0 x1 x2 x3 x4 x5 x6 x7 x8 x9 x10 x11 x12 = aE_.step4 n k (aE_.loop4 n k N) x0 x1 x2 x3 x4 x5 x6 x7 x8 x9 x10 x11 x12 := rfl
abbrev bm_.K4 : Type := (List TRow) → Int → Int → Bs → Int → Int → Bs → (List aa_) → Option aa_
theorem bm_.turn4 {n N : Nat} {k : (List TRow) → Int → Int → Bs → Int → Int → Bs → (List aa_) → Option aa_} {x0 x1 x2 x3 x4 x5 x6 x7 x8 x9 x10 x11 x12 x13 x14 x15 x16 x17 x18} : bm_.loop4 n k (N + 1) x0 x1 x2 x3 x4 x5 x6 x7 x8 x9 x10 x11 x12 x13 x14 x15 x16 x17 x18 = bm_.step4 n k (bm_.loop4 n k N) x0 x1 x2 x3 x4 x5 x6 x7 x8 x9 x10 x11 x12 x13 x14 x15 x16 x17 x18 := rfl
abbrev ao_.K6 : Type := Option Bool
theorem ao_.turn6 {n N : Nat} {k : Option Bool} {x0 x1 x2 x3} : ao_.loop6 n k (N + 1) x0 x1 x2 x3 = ao_.step6 n k (ao_.loop6 n k N) x0 x1 x2 x3 := rfl
abbrev av_.K6 : Type := Option Bool
theorem av_.turn6 {n N : Nat} {k : Option Bool} {x0 x1 x2 x3} : av_.loop6 n k (N + 1) x0 x1 x2 x3 = av_.step6 n k (av_.loop6 n k N) x0 x1 x2 x3 := rfl
abbrev ar_.K3 : Type := Bs → Option Bool
theorem ar_.turn3 {n N : Nat} {k : Bs → Option Bool} {x0 x1 x2} : ar_.loop3 n k (N + 1) x0 x1 x2 = ar_.step3 n k (ar_.loop3 n k N) x0 x1 x2 := rfl
abbrev ak_.K3 : Type := Option Bool
theorem ak_.turn3 {n N : Nat} {k : Option Bool} {x0 x1 x2 x3} : ak_.loop3 n k (N + 1) x0 x1 x2 x3 = ak_.step3 n k (ak_.loop3 n k N) x0 x1 x2 x3 := rfl
abbrev aR_.K7_1 : Type := Int → Option Int
theorem aR_.turn7 {n N : Nat} {k0 : aa_ → Int → Option Int} {k1 : Int → Option Int} {x0 x1 x2 x3 x4} : aR_.loop7 n k0 k1 (N + 1) x0 x1 x2 x3 x4 = aR_.step7 n k0 k1 (aR_.loop7 n k0 k1 N) x0 x1 x2 x3 x4 := rfl
abbrev bf_.K3 : Type := Option Int
theorem bf_.turn3 {n N : Nat} {k : Option Int} {x0 x1 x2 x3} : bf_.loop3 n k (N + 1) x0 x1 x2 x3 = bf_.step3 n k (bf_.loop3 n k N) x0 x1 x2 x3 := rfl
abbrev az_.K4 : Type := (List Int) → Option (List Int)
theorem az_.turn4 {n N : Nat} {k : (List Int) → Option (List Int)} {x0 x1 x2 x3 x4 x5 x6 x7 x8 x9 x10 x11 x12 x13 x14} : az_.loop4 n k (N + 1) x0 x1 x2 x3 x4 x5 x6 x7 x8 x9 x10 x11 x12 x13 x14 = az_.step4 n k (az_.loop4 n k N) x0 x1 x2 x3 x4 x5 x6 x7 x8 x9 x10 x11 x12 x13 x14 := rfl
abbrev au_.K3 : Type := Option Int
theorem au_.turn3 {n N : Nat} {k : Option Int} {x0 x1 x2 x3} : au_.loop3 n k (N + 1) x0 x1 x2 x3 = au_.step3 n k (au_.loop3 n k N) x0 x1 x2 x3 := rfl
abbrev ae_.K4 : Type := (List Bs) → Bs → Int → Int → Option (Int × Bool)
theorem ae_.turn4 {n N : Nat} {k : (List Bs) → Bs → Int → Int → Option (Int × Bool)} {x0 x1 x2 x3 x4} : ae_.loop4 n k (N + 1) x0 x1 x2 x3 x4 = ae_.step4 n k (ae_.loop4 n k N) x0 x1 x2 x3 x4 := rfl
abbrev bi_.K4 : Type := Int → Int → Bs → Int → Int → Bs → (List aa_) → (List Bs) → Option aa_
theorem bi_.turn4 {n N : Nat} {k : Int → Int → Bs → Int → Int → Bs → (List aa_) → (List Bs) → Option aa_} {x0 x1 x2 x3 x4 x5 x6 x7 x8 x9 x10 x11} : bi_.loop4 n k (N + 1) x0 x1 x2 x3 x4 x5 x6 x7 x8 x9 x10 x11 = bi_.step4 n k (bi_.loop4 n k N) x0 x1 x2 x3 x4 x5 x6 x7 x8 x9 x10 x11 := rfl
abbrev a3_.K4 : Type := Int → Int → (List bb_) → Int → Bool → Int → (List Int) → Bool → Int → Int → Int → Int → Bs → (List Bs) → (List Int) → Option aa_
theorem a3_.turn4 {n N : Nat} {k : Int → Int → (List bb_) → Int → Bool → Int → (List Int) → Bool → Int → Int → Int → Int → Bs → (List Bs) → (List Int) → Option aa_} {x0 x1 x2 x3 x4 x5 x6 x7 x8 x9 x10 x11 x12 x13 x14 x15 x16 x17 x18 x19} : a3_.loop4 n k (N + 1) x0 x1 x2 x3 x4 x5 x6 x7 x8 x9 x10 x11 x12 x13 x14 x15 x16 x17 x18 x19 = a3_.step4 n k (a3_.loop4 n k N) x0 x1 x2 x3 x4 x5 x6 x7 x8 x9 x10 x11 x12 x13 x14 x15 x16 x17 x18 x19 := rfl
abbrev aO_.K4 : Type := (List aa_) → Option (List aa_)
theorem aO_.turn4 {n N : Nat} {k : (List aa_) → Option (List aa_)} {x0 x1 x2 x3 x4 x5 x6 x7 x8 x9 x10 x11 x12 x13} : aO_.loop4 n k (N + 1) x0 x1 x2 x3 x4 x5 x6 x7 x8 x9 x10 x11 x12 x13 = aO_.step4 n k (aO_.loop4 n k N) x0 x1 x2 x3 x4 x5 x6 x7 x8 x9 x10 x11 x12 x13 := rfl
abbrev bj_.K5 : Type := (List aa_) → (List Int) → Option ((List aa_) × (List Int))
theorem bj_.turn5 {n N : Nat} {k : (List aa_) → (List Int) → Option ((List aa_) × (List Int))} {x0 x1 x2 x3 x4} : bj_.loop5 n k (N + 1) x0 x1 x2 x3 x4 = bj_.step5 n k (bj_.loop5 n k N) x0 x1 x2 x3 x4 := rfl
abbrev aS_.K7 : Type := (List ap_) → Option ((List ap_) × Bool)
theorem aS_.turn7 {n N : Nat} {k : (List ap_) → Option ((List ap_) × Bool)} {x0 x1 x2 x3 x4} : aS_.loop7 n k (N + 1) x0 x1 x2 x3 x4 = aS_.step7 n k (aS_.loop7 n k N) x0 x1 x2 x3 x4 := rfl
abbrev ab_.K3 : Type := Option Int
theorem ab_.turn3 {n N : Nat} {k : Option Int} {x0 x1 x2 x3} : ab_.loop3 n k (N + 1) x0 x1 x2 x3 = ab_.step3 n k (ab_.loop3 n k N) x0 x1 x2 x3 := rfl
abbrev ah_.K6 : Type := Option Bool
theorem ah_.turn6 {n N : Nat} {k : Option Bool} {x0 x1 x2 x3} : ah_.loop6 n k (N + 1) x0 x1 x2 x3 = ah_.step6 n k (ah_.loop6 n k N) x0 x1 x2 x3 := rfl
abbrev ad_.K6_1 : Type := Option Bool
theorem ad_.turn6 {n N : Nat} {k0 : aa_ → aa_ → Option Bool} {k1 : Option Bool} {x0 x1 x2 x3} : ad_.loop6 n k0 k1 (N + 1) x0 x1 x2 x3 = ad_.step6 n k0 k1 (ad_.loop6 n k0 k1 N) x0 x1 x2 x3 := rfl
abbrev aB_.K4_1 : Type := Int → Int → Bs → Int → Int → Bs → (List aa_) → (List Bs) → Option aa_
theorem aB_.turn4 {n N : Nat} {k0 : aa_ → Option aa_} {k1 : Int → Int → Bs → Int → Int → Bs → (List aa_) → (List Bs) → Option aa_} {x0 x1 x2 x3 x4 x5 x6 x7 x8 x9 x10} : aB_.loop4 n k0 k1 (N + 1) x0 x1 x2 x3 x4 x5 x6 x7 x8 x9 x10 = aB_.step4 n k0 k1 (aB_.loop4 n k0 k1 N) x0 x1 x2 x3 x4 x5 x6 x7 x8 x9 x10 := rfl
abbrev aK_.K9 : Type := (List ap_) → (List ap_) → (List TOp) → Option (List TOp)
theorem aK_.turn9 {n N : Nat} {k : (List ap_) → (List ap_) → (List TOp) → Option (List TOp)} {x0 x1 x2 x3} : aK_.loop9 n k (N + 1) x0 x1 x2 x3 = aK_.step9 n k (aK_.loop9 n k N) x0 x1 x2 x3 := rfl
abbrev aK_.K17 : Type := (List TOp) → Option (List TOp)
theorem aK_.turn17 {n N : Nat} {k : (List TOp) → Option (List TOp)} {x0 x1 x2 x3 x4} : aK_.loop17 n k (N + 1) x0 x1 x2 x3 x4 = aK_.step17 n k (aK_.loop17 n k N) x0 x1 x2 x3 x4 := rfl
abbrev bl_.K4 : Type := (List TOp) → Option (List TOp)
theorem bl_.turn4 {n N : Nat} {k : (List TOp) → Option (List TOp)} {x0 x1 x2 x3 x4} : bl_.loop4 n k (N + 1) x0 x1 x2 x3 x4 = bl_.step4 n k (bl_.loop4 n k N) x0 x1 x2 x3 x4 := rfl
abbrev bt_.K3 : Type := Int → (List Bs) → Int → Int → Bs → (List aa_) → (List Bs) → Option Bool
theorem bt_.turn3 {n N : Nat} {k : Int → (List Bs) → Int → Int → Bs → (List aa_) → (List Bs) → Option Bool} {x0 x1 x2 x3 x4 x5 x6 x7 x8 x9} : bt_.loop3 n k (N + 1) x0 x1 x2 x3 x4 x5 x6 x7 x8 x9 = bt_.step3 n k (bt_.loop3 n k N) x0 x1 x2 x3 x4 x5 x6 x7 x8 x9 := rfl
abbrev aV_.K4 : Type := Bs → Option Bs
theorem aV_.turn4 {n N : Nat} {k : Bs → Option Bs} {x0 x1 x2 x3} : aV_.loop4 n k (N + 1) x0 x1 x2 x3 = aV_.step4 n k (aV_.loop4 n k N) x0 x1 x2 x3 := rfl
abbrev aP_.K4 : Type := Int → Int → Bs → Int → Int → Bs → (List aa_) → Option (aa_ × Bool)
theorem aP_.turn4 {n N : Nat} {k : Int → Int → Bs → Int → Int → Bs → (List aa_) → Option (aa_ × Bool)} {x0 x1 x2 x3 x4 x5 x6 x7 x8 x9} : aP_.loop4 n k (N + 1) x0 x1 x2 x3 x4 x5 x6 x7 x8 x9 = aP_.step4 n k (aP_.loop4 n k N) x0 x1 x2 x3 x4 x5 x6 x7 x8 x9 := rfl
abbrev ba_.K4 : Type := (List Int) → Option Bs
theorem ba_.turn4 {n N : Nat} {k : (List Int) → Option Bs} {x0 x1 x2 x3} : ba_.loop4 n k (N + 1) x0 x1 x2 x3 = ba_.step4 n k (ba_.loop4 n k N) x0 x1 x2 x3 := rfl
abbrev aG_.K4_1 : Type := Int → Int → Bs → (List aa_) → (List Bs) → (List Bs) → Option Bs
theorem aG_.turn4 {n N : Nat} {k0 : aa_ → Option Bs} {k1 : Int → Int → Bs → (List aa_) → (List Bs) → (List Bs) → Option Bs} {x0 x1 x2 x3 x4 x5 x6 x7 x8} : aG_.loop4 n k0 k1 (N + 1) x0 x1 x2 x3 x4 x5 x6 x7 x8 = aG_.step4 n k0 k1 (aG_.loop4 n k0 k1 N) x0 x1 x2 x3 x4 x5 x6 x7 x8 := rfl
abbrev ac_.K3 : Type := Option Int
theorem ac_.turn3 {n N : Nat} {k : Option Int} {x0 x1 x2} : ac_.loop3 n k (N + 1) x0 x1 x2 = ac_.step3 n k (ac_.loop3 n k N) x0 x1 x2 := rfl
abbrev aU_.K6 : Type := Option Bool
theorem aU_.turn6 {n N : Nat} {k : Option Bool} {x0 x1 x2} : aU_.loop6 n k (N + 1) x0 x1 x2 = aU_.step6 n k (aU_.loop6 n k N) x0 x1 x2 := rfl
abbrev a9_.K6 : Type := Option Bool
theorem a9_.turn6 {n N : Nat} {k : Option Bool} {x0 x1 x2} : a9_.loop6 n k (N + 1) x0 x1 x2 = a9_.step6 n k (a9_.loop6 n k N) x0 x1 x2 := rfl
abbrev bd_.K6 : Type := Option Bool
theorem bd_.turn6 {n N : Nat} {k : Option Bool} {x0 x1 x2} : bd_.loop6 n k (N + 1) x0 x1 x2 = bd_.step6 n k (bd_.loop6 n k N) x0 x1 x2 := rfl
abbrev be_.K6 : Type := Option Bool
theorem be_.turn6 {n N : Nat} {k : Option Bool} {x0 x1 x2} : be_.loop6 n k (N + 1) x0 x1 x2 = be_.step6 n k (be_.loop6 n k N) x0 x1 x2 := rfl
end Go.Pi
end
section
set_option linter.unusedVariables false
set_option maxRecDepth 100000
set_option linter.unusedSimpArgs false
namespace Go.Pi
def ek_ (p : Nat → Bool) : Nat → Nat → Bool
  | 0, _ => true
  | d + 1, i => p i && ek_ p d (i + 1)
def gU_ (p : Nat → Bool) (len : Nat) : Bool := ek_ p len 0
theorem d7_ (L : Nat → Nat → Nat → Option Bool) (p : Nat → Bool) {len : Nat} {v : Bool}
    (h : ∀ i w, i < len → Ev (fun n N => L n N (i + 1)) w → Ev (fun n N => L n (N + 1) i) (p i && w)) (h2 : Ev (fun n N => L n (N + 1) len) v) :
    Ev (fun n _ => L n n 0) (gU_ p len && v) := by
  have key : ∀ d i, d + i = len → Ev (fun n N => L n N i) (ek_ p d i && v) := by
    intro d
    induction d with
    | zero => intro i hd; obtain rfl : i = len := by omega
              simpa [ek_] using cA_ (f := fun n N => L n N i) h2
    | succ d ih => intro i hd
                   have := h i _ (by omega) (ih (i + 1) (by omega))
                   rw [← Bool.and_assoc] at this
                   exact cA_ (f := fun n N => L n N i) this
  exact dw_ (f := fun n N => L n N 0) (key len 0 (by omega))
theorem eb_ {α : Type} {f : Nat → Nat → Option α} {v w : α} (h : Ev f v) (e : v = w) : Ev f w := e ▸ h
def inn (x lo hi : Int) : Bool := decide (lo ≤ x) && decide (x ≤ hi)
theorem inn_iff {x lo hi : Int} : inn x lo hi = true ↔ lo ≤ x ∧ x ≤ hi := by simp [inn]
theorem l1In_ev {x lo hi : Int} : Ev (fun n _ => cC_ n x lo hi) (inn x lo hi) := by
  refine aF_ ?_
  simp only [cC_, ax_, al_, inn]
  grind
theorem within_ev {x lo hi : Int} : Ev (fun n _ => aH_ n x lo hi) (inn x lo hi) := by
  refine aF_ ?_
  simp only [aH_, ax_, al_, inn]
  grind
section
variable {β : Type} {x lo hi : Int} {g : Nat → Nat → Bool → Option β} {v : β}
theorem l1In_b : Ev (fun n N => (cC_ n x lo hi).bind (g n N)) v ↔ Ev (fun n N => g n N (inn x lo hi)) v := ag_ l1In_ev
theorem gn_ : Ev (fun n N => (aH_ n x lo hi).bind (g n N)) v ↔ Ev (fun n N => g n N (inn x lo hi)) v := ag_ within_ev
theorem isNum_b : Ev (fun n N => (bh_ n x).bind (g n N)) v ↔ Ev (fun n N => g n N (inn x (-1000000000) 1000000000)) v :=
  ag_ (aF_ (by simp only [bh_, gn_, al_]))
end
theorem c2_ {i len : Nat} (h : i < len) : decide ((i : Int) < (len : Int)) = true := by simp; omega
theorem cU_ {len : Nat} : decide ((len : Int) < (len : Int)) = false := by simp
theorem cE_ {i len : Nat} (h : i < len) : ((0 : Int) ≤ (i : Int) ∧ (i : Int) < (len : Int)) ↔ True := by simp; omega
end Go.Pi
end
section
set_option linter.unusedVariables false
namespace Go.Pi
abbrev cap : Nat := 1048576
def eo_ {α : Type} (f : α → Nat) : List α → Nat
  | [] => 0
  | x :: xs => f x + eo_ f xs
def de_ {α : Type} (f : α → Nat) (l : List α) : Nat := l.length + eo_ f l
def mG_ {α : Type} (P : α → Prop) (l : List α) : Prop := l.length ≤ b9_ ∧ ∀ x ∈ l, P x
def szI (_ : Int) : Nat := 0
def szB (s : Bs) : Nat := s.length
def lenI (_ : Int) : Prop := True
def lenB (s : Bs) : Prop := s.length ≤ b9_
theorem fi_ {α : Type} (f : α → Nat) (d : α) {a : List α} {i : Nat} (h : i < a.length) : eo_ f (a.drop i) = f (a.getD i d) + eo_ f (a.drop (i + 1)) := by
  rw [lb_ d h]; rfl
theorem gr_ {α : Type} (f : α → Nat) (x : α) : ∀ (a : List α) (i : Nat), eo_ f ((a.set i x).drop (i + 1)) = eo_ f (a.drop (i + 1))
  | [], _ => rfl
  | _ :: _, 0 => rfl
  | _ :: a, i + 1 => by simpa using gr_ f x a i
theorem hN_ {α : Type} (f : α → Nat) {a : List α} {x : α} (h : x ∈ a) : f x ≤ eo_ f a := by
  induction a with
  | nil => cases h
  | cons y a ih =>
    simp only [eo_]
    rcases List.mem_cons.1 h with rfl | h
    · omega
    · have := ih h; omega
theorem eR_ {α : Type} (f : α → Nat) {a : List α} {x : α} (h : x ∈ a) : 1 + f x ≤ de_ f a := by
  unfold de_
  have := hN_ f h
  have := List.length_pos_of_mem h
  omega
theorem dh_ {α : Type} (f : α → Nat) (a : List α) : a.length ≤ de_ f a := by unfold de_; omega
theorem gq_ {α : Type} (f : α → Nat) (h : ∀ x, f x = 0) : ∀ a : List α, eo_ f a = 0
  | [] => rfl
  | x :: a => by simp only [eo_, h, gq_ f h a]
theorem take_set {α : Type} (d : α) {a s : List α} {i : Nat} (h : i < a.length) (hs : s.length = a.length) (ht : s.take i = a.take i) : (s.set i (a.getD i d)).take (i + 1) = a.take (i + 1) := by
  rw [List.take_add_one, List.take_add_one, List.take_set_of_le (Nat.le_refl i), ht, List.getElem?_set_self (by omega), List.getD_eq_getElem?_getD, List.getElem?_eq_getElem h]
  rfl
theorem getD_put {α : Type} (d : α) {a : List α} {i : Nat} (h : i < a.length) (x : α) : (a.set i x).getD i d = x := by
  rw [List.getD_eq_getElem?_getD, List.getElem?_set_self h]; rfl
def fb_ (l : Int) (s : Nat) : Int := if (s : Int) ≤ l then l - s else -1
theorem kk_ {l : Int} (h : 0 ≤ l) : fb_ l 0 = l := by unfold fb_; rw [if_pos (by omega)]; omega
theorem jv_ {l : Int} {s t : Nat} (h0 : 0 ≤ l) : (fb_ l s < 0 → fb_ l (s + t) = -1) ∧ (¬ fb_ l s < 0 → (0 ≤ fb_ l s ∧ fb_ l s ≤ l) ∧ fb_ (fb_ l s) t = fb_ l (s + t)) := by
  unfold fb_
  constructor <;> intro h
  · split at h
    · omega
    · rw [if_neg (by omega)]
  · split at h
    · rename_i h1
      rw [if_pos h1]
      refine ⟨by omega, ?_⟩
      by_cases h2 : (t : Int) ≤ l - s
      · rw [if_pos h2, if_pos (by omega)]; omega
      · rw [if_neg h2, if_neg (by omega)]
    · omega
theorem subS_ok {l : Int} {s : Nat} (h : ¬ fb_ l s < 0) : (s : Int) ≤ l := by
  unfold fb_ at h; split at h <;> omega
section
variable {α β : Type}
theorem lU_ {f : Nat → Nat → Option Int} {g : Nat → Nat → Int → Option Int} {l : Int} {s t : Nat} (h0 : 0 ≤ l) (h1 : l ≤ 1048576) (h : Ev f (fb_ l s)) (k : ∀ r, 0 ≤ r → r ≤ 1048576 → Ev (fun n N => g n N r) (fb_ r t)) :
    Ev (fun n N => (f n N).bind fun x => cond (decide (x < 0)) (some (-1)) (g n N x)) (fb_ l (s + t)) := by
  rw [ag_ h, ax_]
  obtain ⟨a, b⟩ := jv_ (l := l) (s := s) (t := t) h0
  refine ⟨fun h => ?_, fun h => ?_⟩
  · rw [a (of_decide_eq_true h)]; exact al_.2 rfl
  · obtain ⟨⟨b1, b2⟩, b3⟩ := b (of_decide_eq_false h)
    rw [← b3]
    exact k _ b1 (by omega)
theorem mU_ {l : Int} (h : 0 ≤ l) : Ev (fun _ _ => some l) (fb_ l 0) := by rw [kk_ h]; exact al_.2 rfl
theorem ev_szL {l : Int} {m t : Nat} (h0 : 0 ≤ l) (h1 : l ≤ 1048576) (hm : m ≤ b9_) {g : Nat → Nat → Int → Option Int} (k : ∀ r, 0 ≤ r → r ≤ 1048576 → Ev (fun n N => g n N r) (fb_ r t)) :
    Ev (fun n N => cond (decide (W (l - (m : Int)) < 0)) (some (-1)) (g n N (W (l - (m : Int))))) (fb_ l (m + t)) := by
  simp only [b9_] at hm
  rw [W_id (by omega) (by omega)]
  have e : l - (m : Int) < 0 ∨ l - m = fb_ l m := by unfold fb_; split <;> omega
  rw [ax_]
  refine ⟨fun h => ?_, fun h => ?_⟩
  · have h := of_decide_eq_true h
    rw [(jv_ h0).1 (by unfold fb_; rw [if_neg (by omega)]; omega)]
    exact al_.2 rfl
  · have h := of_decide_eq_false h
    have e := e.resolve_left h
    have := (jv_ (l := l) (s := m) (t := t) h0).2 (by rw [← e]; exact h)
    rw [← this.2, ← e]
    exact k _ (by omega) (by omega)
theorem ev_szI {l : Int} {m : Nat} (h0 : 0 ≤ l) (h1 : l ≤ 1048576) (hm : m ≤ b9_) :
    Ev (fun _ _ => cond (decide (W (l - (m : Int)) < 0)) (some (-1)) (some (W (l - (m : Int))))) (fb_ l m) :=
  ev_szL (t := 0) (g := fun _ _ x => some x) h0 h1 hm fun r a b => mU_ a
theorem sz_list (d : α) (f : α → Nat) (L : Nat → Nat → Int → Nat → Option Int) (a : List α)
    (h1 : ∀ i l, i < a.length → 0 ≤ l → l ≤ 1048576 → ∀ t, (∀ r, 0 ≤ r → r ≤ 1048576 → Ev (fun n N => L n N r (i + 1)) (fb_ r t)) → Ev (fun n N => L n (N + 1) l i) (fb_ l (f (a.getD i d) + t)))
    (h2 : ∀ l, Ev (fun n N => L n (N + 1) l a.length) l) (l : Int) (hl : 0 ≤ l) (hl' : l ≤ 1048576) : Ev (fun n _ => L n n l 0) (fb_ l (eo_ f a)) := by
  have key : ∀ j i, j + i = a.length → ∀ l, 0 ≤ l → l ≤ 1048576 → Ev (fun n N => L n N l i) (fb_ l (eo_ f (a.drop i))) := by
    intro j
    induction j with
    | zero =>
      intro i hi l h0 _
      rw [drop_end (by omega)]
      refine cA_ ?_
      have : i = a.length := by omega
      subst this
      rw [show eo_ f [] = 0 from rfl, kk_ h0]
      exact h2 l
    | succ j ih =>
      intro i hi l h0 h1'
      rw [fi_ f d (by omega)]
      exact cA_ (h1 i l (by omega) h0 h1' _ fun r a b => ih (i + 1) (by omega) r a b)
  have := key a.length 0 (by omega) l hl hl'
  rw [List.drop_zero] at this
  exact dw_ (f := fun n N => L n N l 0) this
theorem jY_ (d : α) (a : List α) (L : Nat → Nat → Nat → List α → Option (List α))
    (h1 : ∀ i s, i < a.length → s.length = a.length → Ev (fun n N => L n N (i + 1) (s.set i (a.getD i d))) a → Ev (fun n N => L n (N + 1) i s) a)
    (h2 : Ev (fun n N => L n (N + 1) a.length a) a) (s : List α) (hs : s.length = a.length) : Ev (fun n _ => L n n 0 s) a := by
  refine ev_up L (fun _ _ => a) (fun i s => s.length = a.length ∧ s.take i = a.take i) a.length (fun i s hI hi k => ?_) s ⟨hs, by simp⟩
  by_cases h : i < a.length
  · exact h1 i s h hI.1 (k _ ⟨by simp [hI.1], take_set d h hI.1 hI.2⟩ h)
  · have e : i = a.length := by omega
    subst e
    have : s = a := by
      have := hI.2
      rwa [List.take_of_length_le (by omega), List.take_of_length_le (Nat.le_refl _)] at this
    subst this
    exact h2
def Mk (f : Nat → Nat → Option (Int × α)) (g : Nat → Nat → α → Option Int) (k : Int) (m : Nat) (P : α → Prop) : Prop :=
  ∃ k' a', k ≤ k' ∧ k' ≤ k + 32 * m ∧ Ev f (k', a') ∧ Ev (fun n N => g n N a') k' ∧ P a'
theorem mark_list (d : α) (f : α → Nat) (LM : Nat → Nat → Int → Nat → List α → Option (Int × List α)) (LH : Nat → Nat → List α → Int → Nat → Option Int)
    (hm : ∀ i (a : List α) (k : Int), i < a.length → a.length ≤ b9_ → 0 ≤ k → k + 32 * (1 + f (a.getD i d) : Nat) ≤ b9_ →
      ∃ k' x', k ≤ k' ∧ k' ≤ k + 32 * (1 + f (a.getD i d) : Nat) ∧ (∀ F, Ev (fun n N => LM n N k' (i + 1) (a.set i x')) F → Ev (fun n N => LM n (N + 1) k i a) F) ∧
        ∀ (b : List α) F, i < b.length → b.length ≤ b9_ → b.getD i d = x' → Ev (fun n N => LH n N b k' (i + 1)) F → Ev (fun n N => LH n (N + 1) b k i) F)
    (em : ∀ (a : List α) k, Ev (fun n N => LM n (N + 1) k a.length a) (k, a)) (eh : ∀ (a : List α) k, Ev (fun n N => LH n (N + 1) a k a.length) k)
    (a : List α) (k : Int) (ha : a.length ≤ b9_) (hk : 0 ≤ k) (hb : k + 32 * (de_ f a : Nat) ≤ b9_) :
    ∃ k' a', k ≤ k' ∧ k' ≤ k + 32 * (de_ f a : Nat) ∧ a'.length = a.length ∧ Ev (fun n _ => LM n n k 0 a) (k', a') ∧ Ev (fun n _ => LH n n a' k 0) k' := by
  have key : ∀ j i (a : List α) (k : Int), j + i = a.length → a.length ≤ b9_ → 0 ≤ k → k + 32 * ((j + eo_ f (a.drop i) : Nat) : Int) ≤ b9_ →
      ∃ k' a', k ≤ k' ∧ k' ≤ k + 32 * ((j + eo_ f (a.drop i) : Nat) : Int) ∧ a'.length = a.length ∧ a'.take i = a.take i ∧ Ev (fun n N => LM n N k i a) (k', a') ∧ Ev (fun n N => LH n N a' k i) k' := by
    intro j
    induction j with
    | zero =>
      intro i a k hi _ hk _
      have : i = a.length := by omega
      subst this
      exact ⟨k, a, by omega, by omega, rfl, rfl, cA_ (em a k), cA_ (eh a k)⟩
    | succ j ih =>
      intro i a k hi ha hk hb
      rw [fi_ f d (by omega)] at hb ⊢
      obtain ⟨k1, x', p1, p2, p3, p4⟩ := hm i a k (by omega) ha hk (by omega)
      obtain ⟨k2, a', q1, q2, q3, q4, q5, q6⟩ := ih (i + 1) (a.set i x') k1 (by rw [List.length_set]; omega) (by rw [List.length_set]; exact ha) (by omega) (by rw [gr_]; omega)
      rw [gr_] at q2
      rw [List.length_set] at q3
      have hlt : i < a'.length := by omega
      have hx : a'.getD i d = x' := by
        have e := congrArg (fun l => l[i]?) q4
        simp only [List.getElem?_take, if_pos (Nat.lt_succ_self i), List.getElem?_set_self (show i < a.length by omega)] at e
        rw [List.getD_eq_getElem?_getD, e]; rfl
      refine ⟨k2, a', by omega, by omega, q3, ?_, cA_ (p3 _ q5), cA_ (p4 a' k2 hlt (by omega) hx q6)⟩
      have e := congrArg (List.take i) q4
      simp only [List.take_take, Nat.min_eq_left (Nat.le_succ i), List.take_set_of_le (Nat.le_refl i)] at e
      exact e
  obtain ⟨k', a', h1, h2, h3, _, h5, h6⟩ := key a.length 0 a k (by omega) ha hk (by rw [List.drop_zero]; unfold de_ at hb; omega)
  refine ⟨k', a', h1, by rw [List.drop_zero] at h2; unfold de_; omega, h3, dw_ (f := fun n N => LM n N k 0 a) h5, dw_ (f := fun n N => LH n N a' k 0) h6⟩
theorem mark_list1 (d : α) (f : α → Nat) (LM : Nat → Nat → Int → Nat → List α → Option (Int × List α))
    (hm : ∀ i (a : List α) (k : Int), i < a.length → a.length ≤ b9_ → 0 ≤ k → k + 32 * (1 + f (a.getD i d) : Nat) ≤ b9_ →
      ∃ k' x', k ≤ k' ∧ k' ≤ k + 32 * (1 + f (a.getD i d) : Nat) ∧ (∀ F, Ev (fun n N => LM n N k' (i + 1) (a.set i x')) F → Ev (fun n N => LM n (N + 1) k i a) F))
    (em : ∀ (a : List α) k, Ev (fun n N => LM n (N + 1) k a.length a) (k, a))
    (a : List α) (k : Int) (ha : a.length ≤ b9_) (hk : 0 ≤ k) (hb : k + 32 * (de_ f a : Nat) ≤ b9_) :
    ∃ k' a', k ≤ k' ∧ k' ≤ k + 32 * (de_ f a : Nat) ∧ a'.length = a.length ∧ Ev (fun n _ => LM n n k 0 a) (k', a') ∧ True := by
  have key : ∀ j i (a : List α) (k : Int), j + i = a.length → a.length ≤ b9_ → 0 ≤ k → k + 32 * ((j + eo_ f (a.drop i) : Nat) : Int) ≤ b9_ →
      ∃ k' a', k ≤ k' ∧ k' ≤ k + 32 * ((j + eo_ f (a.drop i) : Nat) : Int) ∧ a'.length = a.length ∧ Ev (fun n N => LM n N k i a) (k', a') := by
    intro j
    induction j with
    | zero =>
      intro i a k hi _ hk _
      have : i = a.length := by omega
      subst this
      exact ⟨k, a, by omega, by omega, rfl, cA_ (em a k)⟩
    | succ j ih =>
      intro i a k hi ha hk hb
      rw [fi_ f d (by omega)] at hb ⊢
      obtain ⟨k1, x', p1, p2, p3⟩ := hm i a k (by omega) ha hk (by omega)
      obtain ⟨k2, a', q1, q2, q3, q5⟩ := ih (i + 1) (a.set i x') k1 (by rw [List.length_set]; omega) (by rw [List.length_set]; exact ha) (by omega) (by rw [gr_]; omega)
      rw [gr_] at q2
      rw [List.length_set] at q3
      exact ⟨k2, a', by omega, by omega, q3, cA_ (p3 _ q5)⟩
  obtain ⟨k', a', h1, h2, h3, h5⟩ := key a.length 0 a k (by omega) ha hk (by rw [List.drop_zero]; unfold de_ at hb; omega)
  exact ⟨k', a', h1, by rw [List.drop_zero] at h2; unfold de_; omega, h3, dw_ (f := fun n N => LM n N k 0 a) h5, trivial⟩
end
theorem W_next {k : Int} (h : 0 ≤ k) (h' : k + 1 ≤ b9_) : W (k + 1) = k + 1 := W_id (by omega) (by simp only [b9_] at h'; omega)
end Go.Pi
end
section
set_option linter.unusedVariables false
set_option maxRecDepth 100000
set_option linter.unusedSimpArgs false
namespace Go.Pi
theorem W_dn {i : Nat} (h : i ≤ b9_) : W ((i : Int) - 1) = (i : Int) - 1 := by
  rw [W_id (by omega) (by simp only [b9_] at h; omega)]
theorem mo_ {i : Nat} : ((i : Int) - 1).toNat = i - 1 := by omega
theorem gI_ {x lo hi : Int} (h : inn x lo hi = true) : lo ≤ x ∧ x ≤ hi := inn_iff.1 h
def e0_ {α : Type} (s : Nat → α → α) (v : α) : Nat → Nat → α
  | 0, _ => v
  | d + 1, i => s i (e0_ s v d (i + 1))
theorem hg_ {α : Type} (L : Nat → Nat → Nat → Option α) (s : Nat → α → α) {len : Nat} {v : α}
    (h : ∀ i w, i < len → Ev (fun n N => L n N (i + 1)) w → Ev (fun n N => L n (N + 1) i) (s i w)) (h2 : Ev (fun n N => L n (N + 1) len) v) :
    Ev (fun n _ => L n n 0) (e0_ s v len 0) := by
  have key : ∀ d i, d + i = len → Ev (fun n N => L n N i) (e0_ s v d i) := by
    intro d
    induction d with
    | zero => intro i hd; obtain rfl : i = len := by omega
              exact cA_ (f := fun n N => L n N i) h2
    | succ d ih => intro i hd
                   exact cA_ (f := fun n N => L n N i) (h i _ (by omega) (ih (i + 1) (by omega)))
  exact dw_ (f := fun n N => L n N 0) (key len 0 (by omega))
theorem bY_ {α : Type} {n b : Nat} {f : Nat → Nat → Option α} {v : α} : Ev (fun m N => ch_ n b (f m N)) v ↔ n * b ≤ 140737488355328 ∧ Ev f v := by
  unfold ch_
  rw [ax_]
  by_cases h : n * b ≤ 140737488355328 <;> simp [h, c3_]
theorem mV_ {α β γ : Type} (d : α) (a : List α) (f : α → β) (L : Nat → Nat → Nat → List β → Option γ) (v : γ)
    (h1 : ∀ i s, i < a.length → s.length = i → ∀ F, Ev (fun n N => L n N (i + 1) (s ++ [f (a.getD i d)])) F → Ev (fun n N => L n (N + 1) i s) F)
    (h2 : Ev (fun n N => L n (N + 1) a.length (a.map f)) v) : Ev (fun n _ => L n n 0 []) v := by
  have key : ∀ j i, j + i = a.length → Ev (fun n N => L n N i ((a.take i).map f)) v := by
    intro j
    induction j with
    | zero =>
      intro i hi
      have : i = a.length := by omega
      subst this
      rw [List.take_of_length_le (Nat.le_refl _)]
      exact cA_ h2
    | succ j ih =>
      intro i hi
      refine cA_ (h1 i _ (by omega) (by simp; omega) _ ?_)
      have := ih (i + 1) (by omega)
      rw [List.take_add_one, List.map_append] at this
      have e : a[i]?.toList = [a.getD i d] := by
        rw [List.getD_eq_getElem?_getD, List.getElem?_eq_getElem (by omega)]; rfl
      rw [e] at this
      exact this
  have := key a.length 0 (by omega)
  exact dw_ (f := fun n N => L n N 0 []) this
abbrev capR : Nat := 1073741824
theorem dE_ {α γ : Type} (S : Nat → α) (len : Nat) (L : Nat → Nat → Nat → α → Option γ) (v : γ)
    (h1 : ∀ i, i < len → ∀ F, Ev (fun n N => L n N (i + 1) (S (i + 1))) F → Ev (fun n N => L n (N + 1) i (S i)) F)
    (h2 : Ev (fun n N => L n (N + 1) len (S len)) v) : Ev (fun n _ => L n n 0 (S 0)) v := by
  have key : ∀ j i, j + i = len → Ev (fun n N => L n N i (S i)) v := by
    intro j
    induction j with
    | zero =>
      intro i hi
      have : i = len := by omega
      subst this
      exact cA_ h2
    | succ j ih => exact fun i hi => cA_ (h1 i (by omega) _ (ih (i + 1) (by omega)))
  exact dw_ (f := fun n N => L n N 0 (S 0)) (key len 0 (by omega))
theorem dg_ {α : Type} (d : α) {a : List α} {i : Nat} (h : i < a.length) : a.take (i + 1) = a.take i ++ [a.getD i d] := by
  rw [List.take_add_one, List.getD_eq_getElem?_getD, List.getElem?_eq_getElem h]; rfl
theorem et_ {α : Type} (d : α) (P : α → Bool) : ∀ (rows : List α), e0_ (fun i (x : Int) => cond (P (rows.getD i d)) (i : Int) x) (-1) rows.length 0 = if rows.findIdx P < rows.length then (rows.findIdx P : Int) else -1 := by
  intro rows
  have key : ∀ j i, j + i = rows.length → (∀ k, k < i → P (rows.getD k d) = false) → e0_ (fun i (x : Int) => cond (P (rows.getD i d)) (i : Int) x) (-1) j i = if rows.findIdx P < rows.length then (rows.findIdx P : Int) else -1 := by
    intro j
    induction j with
    | zero =>
      intro i hi hk
      have : ¬ rows.findIdx P < rows.length := by
        intro h
        have h1 := List.findIdx_getElem (w := h)
        have h2 := hk _ (show rows.findIdx P < i by omega)
        rw [List.getD_eq_getElem?_getD, List.getElem?_eq_getElem h] at h2
        simp only [Option.getD_some] at h2
        rw [h1] at h2; cases h2
      rw [if_neg this]; rfl
    | succ j ih =>
      intro i hi hk
      simp only [e0_]
      cases hp : P (rows.getD i d) with
      | true =>
        have hlt : i < rows.length := by omega
        rw [List.getD_eq_getElem?_getD, List.getElem?_eq_getElem hlt] at hp
        have e : rows.findIdx P = i := by
          apply Nat.le_antisymm
          · exact Nat.le_of_not_lt fun h => by have := List.not_of_lt_findIdx h; rw [Option.getD_some] at hp; rw [hp] at this; cases this
          · exact Nat.le_of_not_lt fun h => by
              have h2 := hk _ h
              have hl : rows.findIdx P < rows.length := by omega
              rw [List.getD_eq_getElem?_getD, List.getElem?_eq_getElem hl] at h2
              rw [Option.getD_some, List.findIdx_getElem (w := hl)] at h2; cases h2
        rw [e, if_pos hlt]; rfl
      | false =>
        rw [cond_false]
        exact ih (i + 1) (by omega) fun k hk' => by
          by_cases e : k = i
          · subst e; exact hp
          · exact hk k (by omega)
  exact key rows.length 0 (by omega) fun k hk => by omega
theorem gd_ {α : Type} {lo hi : Int} {len : Nat} {f : Nat → Nat → Option α} {v : α} : Ev (fun n N => iP_ lo hi len (f n N)) v ↔ (0 ≤ lo ∧ lo ≤ hi ∧ hi ≤ (len : Int)) ∧ Ev f v := by
  unfold iP_
  simp only [ax_, c3_]
  by_cases h1 : 0 ≤ lo <;> by_cases h2 : lo ≤ hi <;> by_cases h3 : hi ≤ (len : Int) <;> simp [h1, h2, h3]
theorem ev_ {p : Nat → Bool} {len : Nat} : gU_ p len = true ↔ ∀ i, i < len → p i = true := by
  have key : ∀ d i, d + i = len → (ek_ p d i = true ↔ ∀ k, i ≤ k → k < len → p k = true) := by
    intro d
    induction d with
    | zero => intro i hi; simp only [ek_, true_iff]; intro k h1 h2; omega
    | succ d ih =>
      intro i hi
      simp only [ek_, Bool.and_eq_true, ih (i + 1) (by omega)]
      constructor
      · rintro ⟨h1, h2⟩ k h3 h4
        by_cases e : k = i
        · subst e; exact h1
        · exact h2 k (by omega) h4
      · exact fun h => ⟨h i (Nat.le_refl _) (by omega), fun k h1 h2 => h k (by omega) h2⟩
  have := key len 0 (by omega)
  unfold gU_
  rw [this]
  exact ⟨fun h i hi => h i (Nat.zero_le _) hi, fun h i _ hi => h i hi⟩
end Go.Pi
end
section
set_option linter.unusedVariables false
set_option maxRecDepth 100000
set_option linter.unusedSimpArgs false
namespace Go.Pi
theorem bP_ (j : aa_) : aa_.re j = j := by cases j; rfl
def hA_ (s : Bs) : Bool := gU_ (fun i => inn ((s.getD i 0).toNat : Int) 32 126) s.length && decide ((s.length : Int) ≤ 60)
theorem byte_W (b : UInt8) : W ((b.toNat : Int)) = (b.toNat : Int) := W_id (by omega) (by have := b.toNat_lt; omega)
theorem ex_ {s : Bs} (hs : s.length ≤ b9_) : Ev (fun n _ => a0_ n s) (hA_ s) := by
  refine aF_ ?_
  simp only [a0_]
  refine d7_ (fun n N i => a0_.loop3 n (fun xy1 => (some (decide ((xy1.length : Int) ≤ 60)))) N s (i : Int)) _ (fun i w hi ih => ?_) ?_
  · simp only [a0_.turn3, a0_.step3, Int.toNat_natCast, ax_, bO_, al_, W_up hi hs, dn_ ih, c2_ hi, cE_ hi]
    clear ih
    simp only [inn]
    by_cases h1 : (((s.getD i 0).toNat : Nat) : Int) < 32 <;> by_cases h2 : (((s.getD i 0).toNat : Nat) : Int) > 126 <;> simp [h1, h2] <;> (intros; omega)
  · simp only [a0_.turn3, a0_.step3, cU_, cond_false, al_]
theorem eB_ {s : Bs} (hs : s.length ≤ b9_) : Ev (fun n _ => ar_ n s) (hA_ s) := by
  refine aF_ ?_
  simp only [ar_]
  refine d7_ (fun n N i => ar_.loop3 n (fun xy1 => (some (decide ((xy1.length : Int) ≤ 60)))) N s (s.length : Int) (i : Int)) _ (fun i w hi ih => ?_) ?_
  · simp only [ar_.turn3, ar_.step3, Int.toNat_natCast, ax_, bO_, gn_, byte_W, al_, W_up hi hs, dn_ ih, c2_ hi, cE_ hi]
    clear ih
    grind
  · simp only [ar_.turn3, ar_.step3, cU_, cond_false, al_]
def lenNs (c : Nat) (l : List Bs) : Prop := l.length ≤ c ∧ ∀ x ∈ l, x.length ≤ c
theorem gN_ {c : Nat} {l : List Bs} (h : lenNs c l) (i : Nat) : (l.getD i []).length ≤ c := by
  by_cases hi : i < l.length
  · exact h.2 _ (bX_ [] hi)
  · rw [List.getD_eq_getElem?_getD, List.getElem?_eq_none (by omega)]; exact Nat.zero_le _
def hv_ (l : List Bs) : Bool := gU_ (fun i => hA_ (l.getD i []) && (decide (i = 0) || Op.bytesLess (l.getD (i - 1) []) (l.getD i []))) l.length
theorem ig_ {l : List Bs} (h : lenNs b9_ l) : Ev (fun n _ => ak_ n l) (hv_ l) := by
  refine aF_ ?_
  simp only [ak_]
  refine eb_ (d7_ (fun n N i => ak_.loop3 n (some true) N l l (l.length : Int) (i : Int)) (fun i => hA_ (l.getD i []) && (decide (i = 0) || Op.bytesLess (l.getD (i - 1) []) (l.getD i []))) (len := l.length) (v := true) (fun i w hi ih => ?_) ?_) (by rw [Bool.and_true]; rfl)
  · simp only [ak_.turn3, ak_.step3, Int.toNat_natCast, W_up hi h.1, W_dn (i := i) (by have := h.1; omega), mo_, ax_, bO_, ag_ (eB_ (gN_ h i)), al_, dn_ ih, c2_ hi, cE_ hi]
    clear ih
    repeat' (first | apply And.intro | intro _)
    all_goals (try rw [Bool.eq_iff_iff])
    all_goals (try simp only [Bool.not_eq_true', Bool.not_eq_false', decide_eq_true_eq, decide_eq_false_iff_not, Bool.and_eq_true, Bool.or_eq_true, Bool.and_eq_false_iff, Bool.or_eq_false_iff] at *)
    all_goals grind
  · simp only [ak_.turn3, ak_.step3, cU_, cond_false, al_]
def mh_ (j : aa_) : Bool := cond (j.kind != 5) ((j.names.length : Int) == 0) (hv_ j.names && ((j.names.length : Int) == (j.list.length : Int)))
theorem hR_ {j : aa_} (h : lenNs b9_ j.names) : Ev (fun n _ => af_ n j) (mh_ j) := by
  refine aF_ ?_
  have hl : Ev (fun n _ => af_.loop6 n (fun xy2 xy3 xy4 xy5 xy6 => (some ((xy6.length : Int) == (xy5.length : Int)))) n 0 j.kind j.n_ j.s j.list j.names) (hv_ j.names && ((j.names.length : Int) == (j.list.length : Int))) := by
    refine d7_ (fun n N i => af_.loop6 n (fun xy2 xy3 xy4 xy5 xy6 => (some ((xy6.length : Int) == (xy5.length : Int)))) N (i : Int) j.kind j.n_ j.s j.list j.names) _ (fun i w hi ih => ?_) ?_
    · simp only [af_.turn6, af_.step6, Int.toNat_natCast, W_up hi h.1, W_dn (i := i) (by have := h.1; omega), mo_, ax_, bO_, ag_ (ex_ (gN_ h i)), al_, dn_ ih, c2_ hi, cE_ hi]
      clear ih
      repeat' (first | apply And.intro | intro _)
      all_goals (try rw [Bool.eq_iff_iff])
      all_goals (try simp only [Bool.not_eq_true', Bool.not_eq_false', decide_eq_true_eq, decide_eq_false_iff_not, Bool.and_eq_true, Bool.or_eq_true, Bool.and_eq_false_iff, Bool.or_eq_false_iff] at *)
      all_goals grind
    · simp only [af_.turn6, af_.step6, cU_, cond_false, al_]
  simp only [af_, ax_, al_, dn_ hl, mh_]
  cases (j.kind != 5) <;> simp
end Go.Pi
end
section
set_option linter.unusedVariables false
set_option maxRecDepth 100000
set_option linter.unusedSimpArgs false
namespace Go.Pi
theorem ib_ (k : Int) : k = 0 ∨ k = 1 ∨ k = 2 ∨ k = 3 ∨ k = 4 ∨ k = 5 ∨ (k ≠ 0 ∧ k ≠ 1 ∧ k ≠ 2 ∧ k ≠ 3 ∧ k ≠ 4 ∧ k ≠ 5) := by omega
theorem jL_ {α : Type} (l : List α) : decide (l.length = 0) = !decide ((l.length : Int) > 0) := by
  by_cases hz : l.length = 0
  · rw [hz]; rfl
  · rw [decide_eq_false hz, decide_eq_true (show (l.length : Int) > 0 by omega)]; rfl
def FOwnK (j : aa_) : Bool :=
  cond (j.kind == 1) (inn j.n_ 0 1) (cond (j.kind == 2) (inn j.n_ (-1000000000) 1000000000) (cond (j.kind == 3) (hA_ j.s) (cond (j.kind == 5) (((j.names.length : Int) == (j.list.length : Int)) && hv_ j.names) ((j.kind == 0) || (j.kind == 4)))))
def FOwn (j : aa_) : Bool :=
  (decide (j.list.length = 0) || ((j.kind == 4) || (j.kind == 5))) && ((decide (j.names.length = 0) || (j.kind == 5)) && (((j.n_ == 0) || ((j.kind == 1) || (j.kind == 2))) && (((j.s == []) || (j.kind == 3)) && FOwnK j)))
def lenJ1 (j : aa_) : Prop := j.s.length ≤ b9_ ∧ lenNs b9_ j.names
theorem jR_ {j : aa_} (h : lenJ1 j) : Ev (fun n _ => cN_ n j) (FOwn j) := by
  refine aF_ ?_
  simp only [cN_, ax_, gn_, isNum_b, ag_ (eB_ h.1), ag_ (ig_ h.2), al_]
  unfold FOwn FOwnK
  have e1 := jL_ j.list
  have e2 := jL_ j.names
  rw [e1, e2]
  generalize decide ((j.list.length : Int) > 0) = a
  generalize decide ((j.names.length : Int) > 0) = b
  generalize (j.s == []) = c
  have e3 : (j.n_ != 0) = !(j.n_ == 0) := rfl
  rw [e3]
  generalize hd : (j.n_ == 0) = d
  generalize hA_ j.s = ft
  generalize hv_ j.names = fn
  generalize ((j.names.length : Int) == (j.list.length : Int)) = eq
  rcases ib_ j.kind with hk | hk | hk | hk | hk | hk | ⟨k0, k1, k2, k3, k4, k5⟩
  all_goals (first | simp only [hk] | simp only [beq_eq_false_iff_ne.2 k0, beq_eq_false_iff_ne.2 k1, beq_eq_false_iff_ne.2 k2, beq_eq_false_iff_ne.2 k3, beq_eq_false_iff_ne.2 k4, beq_eq_false_iff_ne.2 k5, bne])
  all_goals (cases a <;> cases b <;> cases c <;> cases d <;> simp)
  all_goals (cases eq <;> simp)
def cF_ : Nat → aa_ → Nat
  | 0, _ => 401
  | d + 1, j => cond (FOwn j) (min 401 (1 + eo_ (cF_ d) j.list)) 401
theorem m9_ : ∀ (d : Nat) (j : aa_), cF_ d j ≤ 401
  | 0, _ => Nat.le_refl _
  | d + 1, j => by
    simp only [cF_]
    cases FOwn j <;> simp only [cond_true, cond_false] <;> omega
def eP_ : Nat → aa_ → Prop
  | 0, _ => True
  | d + 1, j => lenJ1 j ∧ j.list.length ≤ b9_ ∧ ∀ x ∈ j.list, eP_ d x
theorem getD_json {d : Nat} {l : List aa_} (h : ∀ x ∈ l, eP_ d x) {i : Nat} (hi : i < l.length) : eP_ d (l.getD i aa_.dflt) := h _ (bX_ _ hi)
theorem f4_ : ∀ (d : Nat) (j : aa_), d ≤ 1000 → eP_ d j → Ev (fun n _ => aR_ n j (d : Int)) (cF_ d j : Int)
  | 0, j, _, _ => by
    refine aF_ ?_
    simp only [aR_, ax_, al_]
    exact ⟨fun _ => rfl, fun h => by simp at h⟩
  | d + 1, j, hd, h => by
    refine aF_ ?_
    have hW : W (((d + 1 : Nat) : Int) - 1) = (d : Int) := by rw [W_id (by omega) (by omega)]; omega
    simp only [aR_, bP_, ax_, ag_ (jR_ h.1), al_, cF_]
    refine ⟨fun hc => by have := of_decide_eq_true hc; omega, fun _ => ?_⟩
    cases ho : FOwn j with
    | false => exact ⟨fun _ => rfl, fun h => by cases h⟩
    | true =>
      refine ⟨fun h => (by cases h), fun _ => ?_⟩
      have ht := h.2.1
      have key : ∀ (k i : Nat) (s : Nat), k + i = j.list.length → s ≤ 400 → Ev (fun n N => aR_.loop7 n (aR_ n) (fun xy3 => some xy3) N ((d + 1 : Nat) : Int) (s : Int) j.list (j.list.length : Int) (i : Int)) ((min 401 (s + eo_ (cF_ d) (j.list.drop i)) : Nat) : Int) := by
        intro k
        induction k with
        | zero =>
          intro i s hi hs
          have : i = j.list.length := by omega
          subst this
          refine cA_ ?_
          simp only [aR_.turn7, aR_.step7, cU_, cond_false, al_, List.drop_length, eo_]
          omega
        | succ k ih =>
          intro i s hi hs
          have hlt : i < j.list.length := by omega
          refine cA_ ?_
          have hc := f4_ d (j.list.getD i aa_.dflt) (by omega) (getD_json h.2.2 hlt)
          have hle := m9_ d (j.list.getD i aa_.dflt)
          have hw : W ((s : Int) + (cF_ d (j.list.getD i aa_.dflt) : Int)) = ((s + cF_ d (j.list.getD i aa_.dflt) : Nat) : Int) := by rw [W_id (by omega) (by omega)]; omega
          simp only [aR_.turn7, aR_.step7, bP_, Int.toNat_natCast, hW, W_up hlt ht, ax_, bO_, c2_ hlt, cE_ hlt, ag_ hc, hw, al_]
          rw [fi_ (cF_ d) aa_.dflt hlt]
          refine ⟨fun _ => ⟨trivial, fun hg => ?_, fun hg => ?_⟩, fun h => (by cases h)⟩
          · have := of_decide_eq_true hg; omega
          · have := of_decide_eq_false hg
            rw [show s + (cF_ d (j.list.getD i aa_.dflt) + eo_ (cF_ d) (j.list.drop (i + 1))) = (s + cF_ d (j.list.getD i aa_.dflt)) + eo_ (cF_ d) (j.list.drop (i + 1)) by omega]
            exact ih (i + 1) _ (by omega) (by omega)
      have := key j.list.length 0 1 (by omega) (by omega)
      rw [List.drop_zero] at this
      exact dw_ (f := fun n N => aR_.loop7 n (aR_ n) (fun xy3 => some xy3) N ((d + 1 : Nat) : Int) 1 j.list (j.list.length : Int) 0) this
def cV_ (j : aa_) : Bool := decide (cF_ 6 j ≤ 400)
theorem dY_ {j : aa_} (h : eP_ 6 j) : Ev (fun n _ => bW_ n j) (cV_ j) := by
  refine aF_ ?_
  have e : Ev (fun n _ => aR_ n j 6) (cF_ 6 j : Int) := f4_ 6 j (by omega) h
  simp only [bW_, bP_, ag_ e, al_, cV_]
  by_cases hq : cF_ 6 j ≤ 400
  · rw [decide_eq_true hq, decide_eq_true (by omega)]
  · rw [decide_eq_false hq, decide_eq_false (by omega)]
end Go.Pi
end
section
set_option linter.unusedVariables false
set_option maxRecDepth 100000
set_option linter.unusedSimpArgs false
namespace Go.Pi
def Great (d : Nat) (j : aa_) : Prop := ∃ v : Nat, v ≤ 401 + 401 * d ∧ min 401 v = cF_ d j ∧ Ev (fun n _ => aA_ n j (d : Int)) (v : Int)
theorem nx_ {d : Nat} {l : List aa_} (hd : d ≤ 1000) (ht : l.length ≤ b9_) (ih : ∀ x ∈ l, Great d x) (kd nn : Int) (s : Bs) (ns : List Bs) :
    ∃ w : Nat, w ≤ 401 + 401 * (d + 1) ∧ min 401 w = min 401 (1 + eo_ (cF_ d) l) ∧ ∀ (K : Nat → aA_.K23_1) (F : Int), Ev (fun n N => K n 401 (w : Int) kd nn s l ns) F → Ev (fun n _ => aA_.loop23 n (aA_ n) (K n) n ((d + 1 : Nat) : Int) 401 1 0 kd nn s l ns) F := by
  have hW : W (((d + 1 : Nat) : Int) - 1) = (d : Int) := by rw [W_id (by omega) (by omega)]; omega
  have key : ∀ (k i : Nat) (m : Nat), k + i = l.length → m ≤ 401 + 401 * (d + 1) → ∃ w : Nat, w ≤ 401 + 401 * (d + 1) ∧ min 401 w = min 401 (m + eo_ (cF_ d) (l.drop i)) ∧ ∀ (K : Nat → aA_.K23_1) (F : Int), Ev (fun n N => K n 401 (w : Int) kd nn s l ns) F →
      Ev (fun n N => aA_.loop23 n (aA_ n) (K n) N ((d + 1 : Nat) : Int) 401 (m : Int) (i : Int) kd nn s l ns) F := by
    intro k
    induction k with
    | zero =>
      intro i m hi hm
      have : i = l.length := by omega
      subst this
      refine ⟨m, hm, by simp [eo_], fun K F hF => cA_ ?_⟩
      simp only [aA_.turn23, aA_.step23, cU_, cond_false]
      exact hF
    | succ k ihk =>
      intro i m hi hm
      have hlt : i < l.length := by omega
      by_cases hg : m ≤ 400
      · obtain ⟨v, hv1, hv2, hv3⟩ := ih _ (bX_ aa_.dflt hlt)
        have hw : W ((m : Int) + (v : Int)) = ((m + v : Nat) : Int) := by rw [W_id (by omega) (by omega)]; omega
        obtain ⟨w, a1, a2, a3⟩ := ihk (i + 1) (m + v) (by omega) (by omega)
        refine ⟨w, a1, ?_, fun K F hF => cA_ ?_⟩
        · rw [a2, fi_ (cF_ d) aa_.dflt hlt, ← hv2]; omega
        · simp only [aA_.turn23, aA_.step23, bP_, Int.toNat_natCast, hW, W_up hlt ht, ax_, bO_, c2_ hlt, cE_ hlt, ag_ hv3, hw]
          exact ⟨fun _ => ⟨fun _ => ⟨trivial, a3 K F hF⟩, fun h => by have := of_decide_eq_false h; omega⟩, fun h => (by cases h)⟩
      · refine ⟨m, hm, by omega, fun K F hF => cA_ ?_⟩
        simp only [aA_.turn23, aA_.step23, Int.toNat_natCast, ax_, c2_ hlt]
        exact ⟨fun _ => ⟨fun h => by have := of_decide_eq_true h; omega, fun _ => hF⟩, fun h => (by cases h)⟩
  obtain ⟨w, a1, a2, a3⟩ := key l.length 0 1 (by omega) (by omega)
  rw [List.drop_zero] at a2
  exact ⟨w, a1, a2, fun K F hF => dw_ (f := fun n N => aA_.loop23 n (aA_ n) (K n) N ((d + 1 : Nat) : Int) 401 1 0 kd nn s l ns) (a3 K F hF)⟩
theorem dX_ (j : aa_) : aa_.mk j.kind j.n_ j.s j.list j.names = j := by cases j; rfl
theorem sumL_nil {α : Type} (f : α → Nat) : eo_ f [] = 0 := rfl
theorem fk_ : ∀ (d : Nat) (j : aa_), d ≤ 1000 → eP_ d j → Great d j
  | 0, j, _, _ => by
    refine ⟨401, by omega, rfl, aF_ ?_⟩
    simp only [aA_, ax_, al_]
    exact ⟨fun _ => rfl, fun h => by simp at h⟩
  | d + 1, j, hd, h => by
    obtain ⟨w, w1, w2, w3⟩ := nx_ (d := d) (l := j.list) (by omega) h.2.1 (fun x hx => fk_ d x (by omega) (h.2.2 x hx)) j.kind j.n_ j.s j.names
    have hz : ((((d + 1 : Nat) : Int)) == 0) = false := by simp; omega
    have hN := hR_ (j := j) h.1.2
    obtain ⟨v, hv⟩ : ∃ v : Nat, v = cond (FOwn j) (cond ((j.kind == 4) || (j.kind == 5)) w 1) 401 := ⟨_, rfl⟩
    refine ⟨v, ?_, ?_, aF_ ?_⟩
    · rw [hv]; cases FOwn j <;> cases ((j.kind == 4) || (j.kind == 5)) <;> simp only [cond_true, cond_false] <;> omega
    · rw [hv]
      simp only [cF_]
      cases ho : FOwn j with
      | false => rfl
      | true =>
        cases hk : ((j.kind == 4) || (j.kind == 5)) with
        | true => simp only [cond_true]; exact w2
        | false =>
          have : j.list = [] := by
            unfold FOwn at ho
            rw [hk, Bool.or_false] at ho
            simp only [Bool.and_eq_true, decide_eq_true_eq] at ho
            exact List.eq_nil_of_length_eq_zero ho.1
          rw [this]; rfl
    · have hT := ex_ (s := j.s) h.1.1
      have e1 := jL_ j.list
      have e2 := jL_ j.names
      have e4 : ((j.names.length : Int) == 0) = !decide ((j.names.length : Int) > 0) := by
        by_cases hz : j.names.length = 0
        · rw [hz]; rfl
        · rw [beq_eq_false_iff_ne.2 (show (j.names.length : Int) ≠ 0 by omega), decide_eq_true (show (j.names.length : Int) > 0 by omega)]; rfl
      subst hv
      unfold FOwn FOwnK
      unfold mh_ at hN
      rw [e1, e2]
      rw [e4] at hN
      simp only [aA_, bP_, hz, cond_false, ax_, l1In_b, ag_ hT, ag_ hN, al_, bne]
      rcases ib_ j.kind with hk | hk | hk | hk | hk | hk | ⟨k0, k1, k2, k3, k4, k5⟩
      case inr.inr.inr.inr.inl =>
        have hj : aa_.mk 4 j.n_ j.s j.list j.names = j := by rw [← hk]; exact dX_ j
        rw [hk] at w3
        simp only [hk, Int.reduceBEq, Int.reduceLT, Int.reduceLE, Int.reduceNeg, ge_iff_le, gt_iff_lt, decide_true, decide_false, Bool.not_false, Bool.not_true, Bool.or_true, Bool.true_or, Bool.or_false, Bool.false_or, Bool.and_true, Bool.true_and, Bool.not_not, forall_const, reduceCtorEq, false_implies, true_and, and_true, implies_true, cond_true, cond_false] at hN ⊢
        refine w3 _ _ ?_
        simp only [hj, ax_, ag_ hN, al_, Int.reduceBEq, Int.reduceLT, Int.reduceLE, Int.reduceNeg, ge_iff_le, gt_iff_lt, decide_true, decide_false, Bool.not_false, Bool.not_true, Bool.or_true, Bool.true_or, Bool.or_false, Bool.false_or, Bool.and_true, Bool.true_and, Bool.not_not, forall_const, reduceCtorEq, false_implies, true_and, and_true, implies_true, cond_true, cond_false]
        clear hN w3 hT e1 e2 e4 hj
        generalize decide (0 < (j.names.length : Int)) = b
        generalize (j.s == []) = c
        generalize hd : (j.n_ == 0) = dd
        cases b <;> cases c <;> cases dd <;> simp
      case inr.inr.inr.inr.inr.inl =>
        have hj : aa_.mk 5 j.n_ j.s j.list j.names = j := by rw [← hk]; exact dX_ j
        rw [hk] at w3
        simp only [hk, Int.reduceBEq, Int.reduceLT, Int.reduceLE, Int.reduceNeg, ge_iff_le, gt_iff_lt, decide_true, decide_false, Bool.not_false, Bool.not_true, Bool.or_true, Bool.true_or, Bool.or_false, Bool.false_or, Bool.and_true, Bool.true_and, Bool.not_not, forall_const, reduceCtorEq, false_implies, true_and, and_true, implies_true, cond_true, cond_false] at hN ⊢
        refine w3 _ _ ?_
        simp only [hj, ax_, ag_ hN, al_, Int.reduceBEq, Int.reduceLT, Int.reduceLE, Int.reduceNeg, ge_iff_le, gt_iff_lt, decide_true, decide_false, Bool.not_false, Bool.not_true, Bool.or_true, Bool.true_or, Bool.or_false, Bool.false_or, Bool.and_true, Bool.true_and, Bool.not_not, forall_const, reduceCtorEq, false_implies, true_and, and_true, implies_true, cond_true, cond_false]
        clear hN w3 hT e1 e2 e4 hj
        generalize hv_ j.names = fn
        generalize ((j.names.length : Int) == (j.list.length : Int)) = eq
        generalize (j.s == []) = c
        generalize hd : (j.n_ == 0) = dd
        cases fn <;> cases eq <;> cases c <;> cases dd <;> simp
      case inr.inr.inr.inr.inr.inr =>
        simp only [beq_eq_false_iff_ne.2 k0, beq_eq_false_iff_ne.2 k1, beq_eq_false_iff_ne.2 k2, beq_eq_false_iff_ne.2 k3, beq_eq_false_iff_ne.2 k4, beq_eq_false_iff_ne.2 k5, Int.reduceBEq, Int.reduceLT, Int.reduceLE, Int.reduceNeg, ge_iff_le, gt_iff_lt, decide_true, decide_false, Bool.not_false, Bool.not_true, Bool.or_true, Bool.true_or, Bool.or_false, Bool.false_or, Bool.and_true, Bool.true_and, Bool.not_not, forall_const, reduceCtorEq, false_implies, true_and, and_true, implies_true, cond_true, cond_false, Bool.and_false, Bool.false_and]
        rfl
      all_goals (
        simp only [hk, Int.reduceBEq, Int.reduceLT, Int.reduceLE, Int.reduceNeg, ge_iff_le, gt_iff_lt, decide_true, decide_false, Bool.not_false, Bool.not_true, Bool.or_true, Bool.true_or, Bool.or_false, Bool.false_or, Bool.and_true, Bool.true_and, Bool.not_not, forall_const, reduceCtorEq, false_implies, true_and, and_true, implies_true, cond_true, cond_false]
        clear hN w3 hT e1 e2 e4
        generalize decide (0 < (j.names.length : Int)) = b
        generalize decide (0 < (j.list.length : Int)) = a
        generalize (j.s == []) = c
        generalize hd : (j.n_ == 0) = dd
        generalize inn j.n_ 0 1 = i1
        generalize inn j.n_ (-1000000000) 1000000000 = i2
        generalize hA_ j.s = ft
        cases a <;> cases b <;> cases c <;> cases dd <;> cases i1 <;> cases i2 <;> cases ft <;> simp)
theorem dp_ {j : aa_} (h : eP_ 6 j) : Ev (fun n _ => bR_ n j) (cV_ j) := by
  refine aF_ ?_
  obtain ⟨v, v1, v2, v3⟩ := fk_ 6 j (by omega) h
  have e : Ev (fun n _ => aA_ n j 6) (v : Int) := v3
  simp only [bR_, bP_, ag_ e, al_, cV_]
  by_cases hq : cF_ 6 j ≤ 400
  · rw [decide_eq_true hq, decide_eq_true (by omega)]
  · rw [decide_eq_false hq, decide_eq_false (by omega)]
end Go.Pi
end
section
set_option linter.unusedVariables false
set_option maxRecDepth 100000
set_option linter.unusedSimpArgs false
namespace Go.Pi
def deepJ : Nat → aa_ → Prop
  | 0, _ => False
  | d + 1, j => ∀ x ∈ j.list, deepJ d x
theorem fQ_ : ∀ (d : Nat) (j : aa_), cF_ d j ≤ 400 → deepJ d j
  | 0, j, h => by simp only [cF_] at h; omega
  | d + 1, j, h => fun x hx => by
    refine fQ_ d x ?_
    simp only [cF_] at h
    have := hN_ (cF_ d) hx
    cases ho : FOwn j with
    | false => rw [ho] at h; simp only [cond_false] at h; omega
    | true => rw [ho] at h; simp only [cond_true] at h; omega
def hi_ (a b : List Bs) : Bool := decide (a.length = b.length) && gU_ (fun i => a.getD i [] == b.getD i []) a.length
def dH_ : Nat → aa_ → aa_ → Bool
  | 0, _, _ => true
  | d + 1, a, b => (a.kind == b.kind) && ((a.n_ == b.n_) && ((a.s == b.s) && (hi_ a.names b.names && (decide (a.list.length = b.list.length) && gU_ (fun i => dH_ d (a.list.getD i aa_.dflt) (b.list.getD i aa_.dflt)) a.list.length))))
theorem i3_ {n m : Nat} : ((n : Int) != (m : Int)) = !decide (n = m) := by
  by_cases h : n = m
  · rw [h, decide_eq_true rfl]; simp
  · rw [decide_eq_false h]; simp; omega
theorem ey_ : ∀ (d : Nat) (a b : aa_), deepJ d a → eP_ d a → Ev (fun n _ => aj_ n a b) (dH_ d a b)
  | 0, a, b, h, _ => h.elim
  | d + 1, a, b, h, hl => by
    refine aF_ ?_
    simp only [aj_, i3_, ax_, al_, dH_, hi_]
    by_cases hq : a.list.length = b.list.length
    · by_cases hq2 : a.names.length = b.names.length
      · have hN : Ev (fun n _ => aj_.loop14 n (aj_ n) (some true) n 0 a.kind a.n_ a.s a.list a.names b.kind b.n_ b.s b.list b.names) (gU_ (fun i => a.names.getD i [] == b.names.getD i []) a.names.length) := by
          refine eb_ (d7_ (fun n N i => aj_.loop14 n (aj_ n) (some true) N (i : Int) a.kind a.n_ a.s a.list a.names b.kind b.n_ b.s b.list b.names) (fun i => a.names.getD i [] == b.names.getD i []) (len := a.names.length) (v := true) (fun i w hi ih => ?_) ?_) (by rw [Bool.and_true])
          · simp only [aj_.turn14, aj_.step14, Int.toNat_natCast, W_up hi hl.1.2.1, ax_, bO_, al_, dn_ ih, c2_ hi, cE_ hi, cE_ (hq2 ▸ hi)]
            cases (a.names.getD i [] == b.names.getD i []) <;> simp
          · simp only [aj_.turn14, aj_.step14, cU_, cond_false, al_]
        have hL : Ev (fun n _ => aj_.loop6 n (aj_ n) (fun xy2 xy3 xy4 xy5 xy6 xy7 xy8 xy9 xy10 xy11 => (aj_.loop14 n (aj_ n) (some true) n 0 xy2 xy3 xy4 xy5 xy6 xy7 xy8 xy9 xy10 xy11)) n 0 a.kind a.n_ a.s a.list a.names b.kind b.n_ b.s b.list b.names) (gU_ (fun i => dH_ d (a.list.getD i aa_.dflt) (b.list.getD i aa_.dflt)) a.list.length && gU_ (fun i => a.names.getD i [] == b.names.getD i []) a.names.length) := by
          refine d7_ (fun n N i => aj_.loop6 n (aj_ n) (fun xy2 xy3 xy4 xy5 xy6 xy7 xy8 xy9 xy10 xy11 => (aj_.loop14 n (aj_ n) (some true) n 0 xy2 xy3 xy4 xy5 xy6 xy7 xy8 xy9 xy10 xy11)) N (i : Int) a.kind a.n_ a.s a.list a.names b.kind b.n_ b.s b.list b.names) _ (fun i w hi ih => ?_) ?_
          · have hx := ey_ d (a.list.getD i aa_.dflt) (b.list.getD i aa_.dflt) (h _ (bX_ _ hi)) (hl.2.2 _ (bX_ _ hi))
            simp only [aj_.turn6, aj_.step6, bP_, Int.toNat_natCast, W_up hi hl.2.1, ax_, bO_, ag_ hx, al_, dn_ ih, c2_ hi, cE_ hi, cE_ (hq ▸ hi)]
            cases dH_ d (a.list.getD i aa_.dflt) (b.list.getD i aa_.dflt) <;> simp
          · simp only [aj_.turn6, aj_.step6, cU_, cond_false]
            exact hN
        rw [decide_eq_true hq, decide_eq_true hq2]
        simp only [dn_ hL, bne]
        generalize gU_ (fun i => dH_ d (a.list.getD i aa_.dflt) (b.list.getD i aa_.dflt)) a.list.length = u
        generalize gU_ (fun i => a.names.getD i [] == b.names.getD i []) a.names.length = w
        cases (a.kind == b.kind) <;> cases (a.n_ == b.n_) <;> cases (a.s == b.s) <;> cases u <;> cases w <;> simp
      · rw [decide_eq_false hq2]
        simp only [bne]
        cases (a.kind == b.kind) <;> cases (a.n_ == b.n_) <;> cases (a.s == b.s) <;> cases decide (a.list.length = b.list.length) <;> simp
    · rw [decide_eq_false hq]
      simp only [bne]
      cases (a.kind == b.kind) <;> cases (a.n_ == b.n_) <;> cases (a.s == b.s) <;> simp
end Go.Pi
end
section
set_option linter.unusedVariables false
set_option maxRecDepth 100000
set_option linter.unusedSimpArgs false
namespace Go.Pi
theorem iC_ {a b : List Bs} (ha : a.length ≤ b9_) : Ev (fun n _ => ah_ n a b) (hi_ a b) := by
  refine aF_ ?_
  simp only [ah_, i3_, ax_, al_]
  unfold hi_
  by_cases hl : a.length = b.length
  · rw [decide_eq_true hl]
    refine ⟨fun h => (by cases h), fun _ => ?_⟩
    refine eb_ (d7_ (fun n N i => ah_.loop6 n (some true) N a b (a.length : Int) (i : Int)) (fun i => a.getD i [] == b.getD i []) (len := a.length) (v := true) (fun i w hi ih => ?_) ?_) (by rw [Bool.and_true, Bool.true_and])
    · simp only [ah_.turn6, ah_.step6, Int.toNat_natCast, W_up hi ha, ax_, bO_, al_, dn_ ih, c2_ hi, cE_ hi, cE_ (hl ▸ hi)]
      cases (a.getD i [] == b.getD i []) <;> simp
    · simp only [ah_.turn6, ah_.step6, cU_, cond_false, al_]
  · rw [decide_eq_false hl]
    exact ⟨fun _ => rfl, fun h => (by cases h)⟩
theorem gL_ : ∀ (d : Nat) (a b : aa_), deepJ d a → eP_ d a → Ev (fun n _ => cj_ n a b) (dH_ d a b)
  | 0, a, b, h, _ => h.elim
  | d + 1, a, b, h, hl => by
    refine aF_ ?_
    have hE : Ev (fun n _ => ad_ n a.list b.list) (decide (a.list.length = b.list.length) && gU_ (fun i => dH_ d (a.list.getD i aa_.dflt) (b.list.getD i aa_.dflt)) a.list.length) := by
      refine aF_ ?_
      simp only [ad_, i3_, ax_, al_]
      by_cases hq : a.list.length = b.list.length
      · rw [decide_eq_true hq]
        refine ⟨fun h => (by cases h), fun _ => ?_⟩
        refine eb_ (d7_ (fun n N i => ad_.loop6 n (cj_ n) (some true) N b.list a.list (a.list.length : Int) (i : Int)) (fun i => dH_ d (a.list.getD i aa_.dflt) (b.list.getD i aa_.dflt)) (len := a.list.length) (v := true) (fun i w hi ih => ?_) ?_) (by rw [Bool.and_true, Bool.true_and])
        · have hx := gL_ d (a.list.getD i aa_.dflt) (b.list.getD i aa_.dflt) (h _ (bX_ _ hi)) (hl.2.2 _ (bX_ _ hi))
          simp only [ad_.turn6, ad_.step6, bP_, Int.toNat_natCast, W_up hi hl.2.1, ax_, bO_, ag_ hx, al_, dn_ ih, c2_ hi, cE_ hi, cE_ (hq ▸ hi)]
          cases dH_ d (a.list.getD i aa_.dflt) (b.list.getD i aa_.dflt) <;> simp
        · simp only [ad_.turn6, ad_.step6, cU_, cond_false, al_]
      · rw [decide_eq_false hq]
        exact ⟨fun _ => rfl, fun h => (by cases h)⟩
    simp only [cj_, ax_, ag_ (iC_ (b := b.names) hl.1.2.1), ag_ hE, al_, dH_]
    cases (a.kind == b.kind) <;> cases (a.n_ == b.n_) <;> cases (a.s == b.s) <;> cases hi_ a.names b.names <;> simp
end Go.Pi
end
section
set_option linter.unusedVariables false
set_option maxRecDepth 100000
set_option linter.unusedSimpArgs false
namespace Go.Pi
def bi (l : Bs) : List Int := l.map fun c => ((c.toNat : Nat) : Int)
theorem toBs_bi (l : Bs) : nd_ (bi l) = l := by
  unfold nd_ bi
  rw [List.map_map]
  refine (List.map_congr_left fun c _ => ?_).trans (List.map_id l)
  simp
theorem li_ (l : Bs) : (bi l).length = l.length := List.length_map _
theorem bi_app (a b : Bs) : bi (a ++ b) = bi a ++ bi b := List.map_append
theorem m3_ (c : UInt8) (k : Nat) (d : UInt8) (hd : d.toNat = k) : (((c.toNat : Nat) : Int) == (k : Int)) = decide (c = d) := by
  by_cases h : c = d
  · subst h; rw [hd]; simp
  · rw [decide_eq_false h, beq_eq_false_iff_ne]
    intro e
    exact h (UInt8.toNat_inj.1 (by omega))
theorem byte34 (c : UInt8) : (((c.toNat : Nat) : Int) == 34) = decide (c = 34) := m3_ c 34 34 rfl
theorem byte92 (c : UInt8) : (((c.toNat : Nat) : Int) == 92) = decide (c = 92) := m3_ c 92 92 rfl
theorem byte126 (c : UInt8) : (((c.toNat : Nat) : Int) == 126) = decide (c = 126) := m3_ c 126 126 rfl
theorem byte47 (c : UInt8) : (((c.toNat : Nat) : Int) == 47) = decide (c = 47) := m3_ c 47 47 rfl
theorem ea_ (f : UInt8 → Bs) (h : ∀ c, (f c).length ≤ 2) : ∀ s : Bs, (s.flatMap f).length ≤ 2 * s.length
  | [] => Nat.le_refl _
  | c :: s => by
    have := ea_ f h s
    have := h c
    simp only [List.flatMap_cons, List.length_append, List.length_cons]; omega
theorem k5_ (f : UInt8 → Bs) {s : Bs} {i : Nat} (h : i < s.length) : (s.take (i + 1)).flatMap f = (s.take i).flatMap f ++ f (s.getD i 0) := by
  rw [dg_ 0 h, List.flatMap_append]; simp
def ka_ (c : UInt8) : Bs := if c = 34 ∨ c = 92 then [92, c] else [c]
theorem gx_ (c : UInt8) : (ka_ c).length ≤ 2 := by unfold ka_; split <;> simp
def fC_ (s : Bs) : Bs := 34 :: s.flatMap ka_ ++ [34]
theorem eN_ (s : Bs) : (fC_ s).length ≤ 2 * s.length + 2 := by
  have := ea_ ka_ gx_ s
  simp only [fC_, List.cons_append, List.length_cons, List.length_append, List.length_nil]; omega
theorem q2 (o : Bs) (c : UInt8) : bi (34 :: (o ++ [92, c])) = (bi (34 :: o) ++ [92]) ++ [((c.toNat : Nat) : Int)] := by simp [bi]
theorem q1 (o : Bs) (c : UInt8) : bi (34 :: (o ++ [c])) = bi (34 :: o) ++ [((c.toNat : Nat) : Int)] := by simp [bi]
theorem qEnd (o : Bs) : nd_ (bi (34 :: o) ++ [34]) = 34 :: o ++ [34] := by
  have : bi (34 :: o) ++ [34] = bi (34 :: o ++ [34]) := by simp [bi]
  rw [this, toBs_bi]
theorem fj_ {s : Bs} (hs : s.length ≤ 1000000) : Ev (fun n _ => aM_ n s) (fC_ s) := by
  refine aF_ ?_
  have ht : s.length ≤ b9_ := by simp only [b9_]; omega
  simp only [aM_]
  have := dE_ (fun i => bi (34 :: (s.take i).flatMap ka_)) s.length (fun n N i (o : List Int) => aM_.loop4 n (fun xy1 => (ch_ (xy1.length + ([34] : List Int).length) 1 (some (nd_ (xy1 ++ ([34] : List Int)))))) N s (i : Int) o) (fC_ s) (fun i hi F hF => ?_) ?_
  · exact this
  · have hl := ea_ ka_ gx_ (s.take i)
    rw [List.length_take] at hl
    rw [k5_ ka_ hi] at hF
    generalize (s.take i).flatMap ka_ = o at hF hl ⊢
    have hb := li_ (34 :: o)
    simp only [List.length_cons] at hb
    simp only [aM_.turn4, aM_.step4, Int.toNat_natCast, W_up hi ht, ax_, bO_, bY_, c2_ hi, cE_ hi, byte34, byte92]
    generalize s.getD i 0 = c at hF ⊢
    unfold ka_ at hF
    by_cases h1 : c = 34
    · rw [if_pos (.inl h1), q2] at hF
      simp only [h1, decide_true] at hF ⊢
      repeat' (first | apply And.intro | intro _)
      all_goals (first | contradiction | exact hF | trivial | (simp [hb]; omega))
    · by_cases h2 : c = 92
      · rw [if_pos (.inr h2), q2] at hF
        simp only [h2, decide_true] at hF ⊢
        repeat' (first | apply And.intro | intro _)
        all_goals (first | contradiction | exact hF | trivial | (simp [hb]; omega))
      · rw [if_neg (fun h => h.elim h1 h2), q1] at hF
        simp only [h1, h2, decide_false] at hF ⊢
        repeat' (first | apply And.intro | intro _)
        all_goals (first | contradiction | exact hF | trivial | (simp [hb]; omega))
  · have hl := ea_ ka_ gx_ s
    have hb := li_ (34 :: s.flatMap ka_)
    simp only [List.length_cons] at hb
    simp only [aM_.turn4, aM_.step4, cU_, cond_false, bY_, List.take_length, al_, qEnd]
    exact ⟨by simp only [hb, List.length_cons, List.length_nil]; omega, rfl⟩
theorem f5_ {s : Bs} (hs : s.length ≤ 1000000) : Ev (fun n _ => ba_ n s) (fC_ s) := by
  refine aF_ ?_
  have ht : s.length ≤ b9_ := by simp only [b9_]; omega
  simp only [ba_]
  have := dE_ (fun i => bi (34 :: (s.take i).flatMap ka_)) s.length (fun n N i (o : List Int) => ba_.loop4 n (fun xy1 => (ch_ (xy1.length + ([34] : List Int).length) 1 (some (nd_ (xy1 ++ ([34] : List Int)))))) N s (s.length : Int) (i : Int) o) (fC_ s) (fun i hi F hF => ?_) ?_
  · exact this
  · have hl := ea_ ka_ gx_ (s.take i)
    rw [List.length_take] at hl
    rw [k5_ ka_ hi] at hF
    generalize (s.take i).flatMap ka_ = o at hF hl ⊢
    have hb := li_ (34 :: o)
    simp only [List.length_cons] at hb
    simp only [ba_.turn4, ba_.step4, Int.toNat_natCast, W_up hi ht, ax_, bO_, bY_, c2_ hi, cE_ hi, byte34, byte92]
    generalize s.getD i 0 = c at hF ⊢
    unfold ka_ at hF
    by_cases h1 : c = 34
    · rw [if_pos (.inl h1), q2] at hF
      simp only [h1, decide_true] at hF ⊢
      repeat' (first | apply And.intro | intro _)
      all_goals (first | contradiction | exact hF | trivial | (simp [hb]; omega))
    · by_cases h2 : c = 92
      · rw [if_pos (.inr h2), q2] at hF
        simp only [h2, decide_true] at hF ⊢
        repeat' (first | apply And.intro | intro _)
        all_goals (first | contradiction | exact hF | trivial | (simp [hb]; omega))
      · rw [if_neg (fun h => h.elim h1 h2), q1] at hF
        simp only [h1, h2, decide_false] at hF ⊢
        repeat' (first | apply And.intro | intro _)
        all_goals (first | contradiction | exact hF | trivial | (simp [hb]; omega))
  · have hl := ea_ ka_ gx_ s
    have hb := li_ (34 :: s.flatMap ka_)
    simp only [List.length_cons] at hb
    simp only [ba_.turn4, ba_.step4, cU_, cond_false, bY_, List.take_length, al_, qEnd]
    exact ⟨by simp only [hb, List.length_cons, List.length_nil]; omega, rfl⟩
end Go.Pi
end
section
set_option linter.unusedVariables false
set_option maxRecDepth 100000
set_option linter.unusedSimpArgs false
namespace Go.Pi
theorem fL_ (a b : UInt8) (l : Bs) : Lib.index (b :: l) [a] = if a = b then 0 else if Lib.index l [a] = -1 then -1 else Lib.index l [a] + 1 := by
  rw [Lib.index]
  have : List.isPrefixOf [a] (b :: l) = decide (a = b) := by
    simp only [List.isPrefixOf, Bool.and_true]
    exact Bool.eq_iff_iff.2 (by simp)
  rw [this]
  by_cases h : a = b
  · rw [decide_eq_true h, if_pos rfl, if_pos h]
  · rw [decide_eq_false h, if_neg (by simp), if_neg h]
    by_cases h2 : Lib.index l [a] = -1
    · rw [h2, if_pos rfl, if_pos (by decide)]
    · rw [if_neg h2, if_neg (by simpa using h2)]
theorem lD_ {a b : UInt8} (h : a ≠ b) (new l : Bs) : ∀ k, Lib.replaceK [a] new k (b :: l) = b :: Lib.replaceK [a] new k l
  | 0 => rfl
  | k + 1 => by
    rw [Lib.replaceK, Lib.replaceK, fL_, if_neg h]
    by_cases h2 : Lib.index l [a] = -1
    · rw [if_pos h2, if_pos (by decide), h2, if_pos (by decide)]
    · have := Lib.index_ge l [a]
      obtain ⟨i, hi⟩ : ∃ i : Nat, Lib.index l [a] = i := ⟨(Lib.index l [a]).toNat, by omega⟩
      rw [if_neg h2, if_neg (by rw [hi]; simp <;> omega), if_neg (by rw [hi]; simp <;> omega), hi, show ((i : Int) + 1).toNat = i + 1 by omega, show ((i : Int)).toNat = i by omega]
      rfl
theorem lE_ (a : UInt8) (new l : Bs) (k : Nat) : Lib.replaceK [a] new (k + 1) (a :: l) = new ++ Lib.replaceK [a] new k l := by
  rw [Lib.replaceK, fL_, if_pos rfl, if_neg (by decide)]
  rfl
theorem fp_ (a : UInt8) (new : Bs) : ∀ (s : Bs) (k : Nat), s.count a ≤ k → Lib.replaceK [a] new k s = s.flatMap fun c => if c = a then new else [c]
  | [], 0, _ => rfl
  | [], k + 1, _ => by
    rw [Lib.replaceK]
    have : Lib.index [] [a] = -1 := rfl
    rw [this, if_pos (by decide)]; rfl
  | b :: l, k, h => by
    by_cases e : b = a
    · subst e
      rw [List.count_cons_self] at h
      obtain ⟨k, rfl⟩ : ∃ m, k = m + 1 := ⟨k - 1, by omega⟩
      rw [lE_, fp_ b new l k (by omega), List.flatMap_cons, if_pos rfl]
    · rw [List.count_cons_of_ne e] at h
      rw [lD_ (fun h => e h.symm), fp_ a new l k h, List.flatMap_cons, if_neg e]; rfl
theorem e2_ (a : UInt8) : ∀ (s : Bs) (f : Nat), s.length < f → Lib.countFrom [a] f s = s.count a
  | [], f + 1, _ => by
    rw [Lib.countFrom]
    have : Lib.index [] [a] = -1 := rfl
    rw [this, if_pos (by decide)]; rfl
  | b :: l, f + 1, h => by
    have hl : l.length < f := by simpa using h
    by_cases e : a = b
    · subst e
      rw [List.count_cons_self, Lib.countFrom, fL_, if_pos rfl, if_neg (by decide)]
      show 1 + Lib.countFrom [a] f l = _
      rw [e2_ a l f hl]; omega
    · rw [List.count_cons_of_ne (fun h => e h.symm), ← e2_ a l (f + 1) (by omega), Lib.countFrom, Lib.countFrom, fL_, if_neg e]
      by_cases h2 : Lib.index l [a] = -1
      · rw [if_pos h2, if_pos (by decide), h2, if_pos (by decide)]
      · have := Lib.index_ge l [a]
        obtain ⟨i, hi⟩ : ∃ i : Nat, Lib.index l [a] = i := ⟨(Lib.index l [a]).toNat, by omega⟩
        rw [if_neg h2, if_neg (by rw [hi]; simp <;> omega), if_neg (by rw [hi]; simp <;> omega), hi, show ((i : Int) + 1).toNat = i + 1 by omega, show ((i : Int)).toNat = i by omega]
        rfl
theorem lf_ (a : UInt8) (s : Bs) : Lib.count s [a] = s.count a := e2_ a s _ (Nat.lt_succ_self _)
theorem iJ_ (a : UInt8) (new s : Bs) (hne : ([a] == new) = false) : Lib.replaceAll s [a] new = s.flatMap fun c => if c = a then new else [c] := by
  unfold Lib.replaceAll Lib.replace Lib.replaceNum
  rw [hne, if_neg (by simp), if_pos (.inl (by decide)), lf_]
  exact fp_ a new s _ (Nat.le_refl _)
theorem gW_ {a b c : UInt8} {s : Bs} (hs : s.length ≤ 1000000) (hne : ([a] == [b, c]) = false) : Ev (fun n _ => strings_ReplaceAll n s [a] [b, c]) (s.flatMap fun x => if x = a then [b, c] else [x]) := by
  refine aF_ ?_
  have := List.count_le_length (a := a) (l := s)
  simp only [strings_ReplaceAll, eW_, lf_, iJ_ a [b, c] s hne, ax_, al_, c3_]
  refine ⟨fun _ => trivial, fun h => ?_⟩
  have e1 : decide (s.length < 4294967281) = true := decide_eq_true (by omega)
  have e2 : decide (1 ≤ [a].length) = true := rfl
  have e3 : decide (s.length + List.count a s * [b, c].length ≤ 140737488355328) = true := decide_eq_true (by simp only [List.length_cons, List.length_nil]; omega)
  rw [e1, e2, e3] at h; cases h
def mj_ (c : UInt8) : Bs := if c = 126 then [126, 48] else if c = 47 then [126, 49] else [c]
theorem mi_ (c : UInt8) : (mj_ c).length ≤ 2 := by
  unfold mj_
  split
  · simp
  · split <;> simp
theorem wesc_two (s : Bs) : ((s.flatMap fun x => if x = 126 then [126, 48] else [x]).flatMap fun x => if x = 47 then [126, 49] else [x]) = s.flatMap mj_ := by
  induction s with
  | nil => rfl
  | cons c s ih =>
    rw [List.flatMap_cons, List.flatMap_append, ih, List.flatMap_cons]
    congr 1
    unfold mj_
    by_cases h1 : c = 126
    · subst h1; rfl
    · by_cases h2 : c = 47
      · subst h2; rfl
      · rw [if_neg h1, if_neg h1, if_neg h2]; simp [h2]
def FWay (w : List Bs) : Bs := w.flatMap fun s => 47 :: s.flatMap mj_
theorem mk_ {w : List Bs} {i : Nat} (h : i < w.length) : FWay (w.take (i + 1)) = FWay (w.take i) ++ (47 :: (w.getD i []).flatMap mj_) := by
  unfold FWay
  rw [dg_ [] h, List.flatMap_append]; simp
theorem j5_ {w : List Bs} {c : Nat} (h : ∀ s ∈ w, s.length ≤ c) : (FWay w).length ≤ w.length * (2 * c + 1) := by
  induction w with
  | nil => exact Nat.zero_le _
  | cons s w ih =>
    have h1 := ea_ mj_ mi_ s
    have h2 := h s (List.mem_cons_self ..)
    have h3 := ih fun x hx => h x (List.mem_cons_of_mem _ hx)
    have e : FWay (s :: w) = (47 :: s.flatMap mj_) ++ FWay w := rfl
    rw [e, List.length_append, List.length_cons, List.length_cons, Nat.add_mul]; omega
theorem mp_ {w : List Bs} {c : Nat} (h : ∀ s ∈ w, s.length ≤ c) (i : Nat) : ∀ s ∈ w.take i, s.length ≤ c := fun s hs => h s (List.mem_of_mem_take hs)
theorem ii_ {w : List Bs} (hw : w.length ≤ 6) (hs : ∀ s ∈ w, s.length ≤ 60) : Ev (fun n _ => aV_ n w) (FWay w) := by
  refine aF_ ?_
  have ht : w.length ≤ b9_ := by simp only [b9_]; omega
  simp only [aV_]
  have := dE_ (fun i => FWay (w.take i)) w.length (fun n N i (o : Bs) => aV_.loop4 n (fun xy3 => (some xy3)) N o w (w.length : Int) (i : Int)) (FWay w) (fun i hi F hF => ?_) ?_
  · exact this
  · have h1 := hs _ (bX_ [] hi)
    have h2 := ea_ mj_ mi_ (w.getD i [])
    have h3 := j5_ (mp_ hs i)
    rw [List.length_take] at h3
    rw [mk_ hi] at hF
    have r1 := gW_ (a := 126) (b := 126) (c := 48) (s := w.getD i []) (by omega) (by decide)
    have h4 := ea_ (fun x => if x = 126 then [126, 48] else [x]) (fun c => by split <;> simp) (w.getD i [])
    have r2 := gW_ (a := 47) (b := 126) (c := 49) (s := (w.getD i []).flatMap fun x => if x = 126 then [126, 48] else [x]) (by omega) (by decide)
    rw [wesc_two] at r2
    generalize FWay (w.take i) = o at hF h3 ⊢
    simp only [aV_.turn4, aV_.step4, Int.toNat_natCast, W_up hi ht, ax_, bO_, c3_, c2_ hi, cE_ hi, ag_ r1, ag_ r2]
    generalize (w.getD i []).flatMap mj_ = e at hF h2 ⊢
    have e2 : ([47] : Bs) ++ e = 47 :: e := rfl
    rw [e2]
    refine ⟨fun _ => ⟨trivial, fun _ => ⟨fun _ => hF, fun h => ?_⟩, fun h => ?_⟩, fun h => (by cases h)⟩
    · have h := of_decide_eq_false h
      simp only [List.length_cons] at h; omega
    · have h := of_decide_eq_false h
      simp only [List.length_cons, List.length_nil] at h; omega
  · simp only [aV_.turn4, aV_.step4, cU_, cond_false, List.take_length, al_]
theorem i7_ {α : Type} {i len : Nat} {x : Option α} (h : i < len) : inB (i : Int) len x = x := by
  unfold inB
  rw [decide_eq_true (by omega), decide_eq_true (by omega)]; rfl
theorem jA_ {α : Type} {n b : Nat} {x : Option α} (h : n * b ≤ 140737488355328) : ch_ n b x = x := by
  unfold ch_
  rw [decide_eq_true h]; rfl
theorem ev_of_ge {α : Type} {f g : Nat → Nat → Option α} {v : α} (M : Nat) (h : ∀ n N, M ≤ n → f n N = g n N) (hg : Ev g v) : Ev f v := by
  obtain ⟨M', hM⟩ := hg
  exact ⟨max M M', fun n N h1 h2 => by rw [h n N (by omega)]; exact hM n N (by omega) (by omega)⟩
theorem kd_ (n : Nat) (k2 : List Bs → Int → List Int → Option Bs) {w : List Bs} {i : Nat} (hi : i < w.length) (hl : (w.getD i []).length ≤ 1000000) : ∀ (d j m : Nat) (o : List Int), j + d = (w.getD i []).length → d < m → o.length + 2 * d ≤ 100000000 →
    aq_.loop10 n k2 m w (i : Int) (j : Int) o = k2 w (i : Int) (o ++ bi (((w.getD i []).drop j).flatMap mj_))
  | 0, j, m + 1, o, hj, _, _ => by
    have e : (j : Int) = ((w.getD i []).length : Int) := by omega
    have e2 : (w.getD i []).drop j = [] := List.drop_eq_nil_of_le (by omega)
    rw [aq_.turn10, aq_.step10, Int.toNat_natCast, i7_ hi, e, cU_, e2]
    simp [bi]
  | d + 1, j, m + 1, o, hj, hm, ho => by
    have hjl : j < (w.getD i []).length := by omega
    have ih := fun o => kd_ n k2 hi hl d (j + 1) m o (by omega) (by omega)
    have e1 : (w.getD i []).drop j = (w.getD i []).getD j 0 :: (w.getD i []).drop (j + 1) := lb_ 0 hjl
    rw [aq_.turn10, aq_.step10, Int.toNat_natCast, Int.toNat_natCast, i7_ hi, i7_ hi, i7_ hi, i7_ hjl, i7_ hjl, c2_ hjl, W_up hjl (show (w.getD i []).length ≤ b9_ by simp only [b9_]; omega), byte126, byte47, e1, List.flatMap_cons, bi_app, ← List.append_assoc]
    generalize (w.getD i []).getD j 0 = c
    rw [jA_ (by simp; omega), jA_ (by simp; omega), jA_ (by simp; omega)]
    unfold mj_
    by_cases h1 : c = 126
    · rw [decide_eq_true h1, if_pos h1]
      exact ih _ (by simp; omega)
    · by_cases h2 : c = 47
      · rw [decide_eq_false h1, decide_eq_true h2, if_neg h1, if_pos h2]
        exact ih _ (by simp; omega)
      · rw [decide_eq_false h1, decide_eq_false h2, if_neg h1, if_neg h2]
        exact ih _ (by simp; omega)
theorem hS_ {w : List Bs} (hw : w.length ≤ 6) (hs : ∀ s ∈ w, s.length ≤ 60) : Ev (fun n _ => aq_ n w) (FWay w) := by
  refine aF_ ?_
  have ht : w.length ≤ b9_ := by simp only [b9_]; omega
  simp only [aq_]
  have := dE_ (fun i => bi (FWay (w.take i))) w.length (fun n N i (o : List Int) => aq_.loop4 n (fun xy4 => (some (nd_ xy4))) N w (i : Int) o) (FWay w) (fun i hi F hF => ?_) ?_
  · exact this
  · have h1 := hs _ (bX_ [] hi)
    have h3 := j5_ (mp_ hs i)
    rw [List.length_take] at h3
    rw [mk_ hi] at hF
    generalize FWay (w.take i) = o at hF h3 ⊢
    have hb := li_ o
    simp only [aq_.turn4, aq_.step4, c2_ hi, cond_true, bY_]
    refine ⟨by simp [hb]; omega, ev_of_ge 61 (fun n N hn => kd_ n _ hi (by omega) (w.getD i []).length 0 n _ (by omega) (by omega) (by simp only [hb, List.length_append, List.length_cons, List.length_nil]; omega)) ?_⟩
    simp only [W_up hi ht, List.drop_zero]
    have e : bi (o ++ 47 :: (w.getD i []).flatMap mj_) = bi o ++ ([47] : List Int) ++ bi ((w.getD i []).flatMap mj_) := by simp [bi]
    rw [e] at hF
    exact hF
  · simp only [aq_.turn4, aq_.step4, cU_, cond_false, List.take_length, al_, toBs_bi]
end Go.Pi
end
section
set_option linter.unusedVariables false
set_option maxRecDepth 100000
set_option linter.unusedSimpArgs false
namespace Go.Pi
def digs (u : Nat) : Bs := if u = 0 then [] else Lib.decDigits u
theorem digs_step {u : Nat} (h : u ≠ 0) : digs u = digs (u / 10) ++ [UInt8.ofNat (48 + u % 10)] := by
  unfold digs
  rw [if_neg h, Lib.decDigits]
  by_cases h1 : u < 10
  · rw [dif_pos h1, if_pos (by omega), Nat.mod_eq_of_lt h1]; rfl
  · rw [dif_neg h1, if_neg (by omega)]
theorem mX_ {d : Nat} (h : d < 10) : nd_ ([(IntKind.u8.wrap (W (48 + (d : Int))))] : List Int) = [UInt8.ofNat (48 + d)] := by
  have e1 : W (48 + (d : Int)) = ((48 + d : Nat) : Int) := by rw [W_id (by omega) (by omega)]; omega
  rw [e1]
  have e2 : IntKind.u8.wrap (((48 + d : Nat) : Int)) = ((48 + d : Nat) : Int) := by
    have : d = 0 ∨ d = 1 ∨ d = 2 ∨ d = 3 ∨ d = 4 ∨ d = 5 ∨ d = 6 ∨ d = 7 ∨ d = 8 ∨ d = 9 := by omega
    rcases this with rfl | rfl | rfl | rfl | rfl | rfl | rfl | rfl | rfl | rfl <;> rfl
  rw [e2]
  rfl
theorem dl_ {x : Int} (h0 : -9223372036854775808 ≤ x) (h1 : x ≤ 9223372036854775807) : Ev (fun n _ => aD_ n x) (Lib.itoa x) := by
  refine aF_ ?_
  simp only [aD_, ax_, al_]
  refine ⟨fun h => ?_, fun h => ?_⟩
  · have : x = 0 := by simpa using h
    subst this
    unfold Lib.itoa
    rw [if_neg (by decide)]
    show _ = Lib.decDigits 0
    rw [Lib.decDigits_one (by decide)]; rfl
  have hx0 : x ≠ 0 := by simpa using h
  have key : ∀ (k : Nat) (y : Int) (out : Bs), y.natAbs < 10 ^ k → -9223372036854775808 ≤ y → y ≤ 9223372036854775807 → out.length + k ≤ 100 →
      Ev (fun n N => aD_.loop7 n (fun xy3 xy4 => (cond xy3 (cond (decide ([45].length + xy4.length ≤ 9223372036854775807)) (some (([45] : Bs) ++ xy4)) none) (some xy4))) N y (decide (x < 0)) out) (cond (decide (x < 0)) ([45] ++ (digs y.natAbs ++ out)) (digs y.natAbs ++ out)) := by
    intro k
    induction k with
    | zero =>
      intro y out hy _ _ ho
      have : y = 0 := by simp at hy; omega
      subst this
      refine cA_ ?_
      simp only [aD_.turn7, aD_.step7, bne_self_eq_false, cond_false, ax_, al_, c3_]
      refine ⟨fun hb => ⟨fun _ => by rw [hb]; rfl, fun hc => by have := of_decide_eq_false hc; simp at this; omega⟩, fun hb => by rw [hb]; rfl⟩
    | succ k ih =>
      intro y out hy hy0 hy1 ho
      by_cases hz : y = 0
      · subst hz
        refine cA_ ?_
        simp only [aD_.turn7, aD_.step7, bne_self_eq_false, cond_false, ax_, al_, c3_]
        refine ⟨fun hb => ⟨fun _ => by rw [hb]; rfl, fun hc => by have := of_decide_eq_false hc; simp at this; omega⟩, fun hb => by rw [hb]; rfl⟩
      · have hm : (Int.tmod y 10).natAbs = y.natAbs % 10 := by rw [Int.natAbs_tmod]; rfl
        have hd : (Int.tdiv y 10).natAbs = y.natAbs / 10 := by rw [Int.natAbs_tdiv]; rfl
        have hW : W (Int.tdiv y 10) = Int.tdiv y 10 := W_id (by omega) (by omega)
        have hlt : y.natAbs % 10 < 10 := Nat.mod_lt _ (by decide)
        have hdl : (Int.tdiv y 10).natAbs < 10 ^ k := by rw [hd]; rw [Nat.pow_succ] at hy; omega
        have hrec := ih (Int.tdiv y 10) ([UInt8.ofNat (48 + y.natAbs % 10)] ++ out) hdl (by omega) (by omega) (by simp; omega)
        have hdig : digs (Int.tdiv y 10).natAbs ++ ([UInt8.ofNat (48 + y.natAbs % 10)] ++ out) = digs y.natAbs ++ out := by rw [hd, digs_step (show y.natAbs ≠ 0 by omega), List.append_assoc]
        rw [hdig] at hrec
        have hne : (y != 0) = true := by simpa using hz
        refine cA_ ?_
        simp only [aD_.turn7, aD_.step7, hne, cond_true, ax_, c3_, hW]
        refine ⟨fun hneg => ?_, fun hneg => ?_⟩
        · have hneg := of_decide_eq_true hneg
          have e : W (0 - Int.tmod y 10) = ((y.natAbs % 10 : Nat) : Int) := by rw [W_id (by omega) (by omega)]; omega
          rw [e, mX_ hlt]
          exact ⟨fun _ => hrec, fun hc => by have := of_decide_eq_false hc; simp at this; omega⟩
        · have hneg := of_decide_eq_false hneg
          have e : Int.tmod y 10 = ((y.natAbs % 10 : Nat) : Int) := by omega
          rw [e, mX_ hlt]
          exact ⟨fun _ => hrec, fun hc => by have := of_decide_eq_false hc; simp at this; omega⟩
  have hfin := key 19 x [] (by omega) h0 h1 (by simp)
  have hv : Lib.itoa x = cond (decide (x < 0)) ([45] ++ (digs x.natAbs ++ [])) (digs x.natAbs ++ []) := by
    unfold Lib.itoa digs
    rw [if_neg (show x.natAbs ≠ 0 by omega)]
    by_cases hn : x < 0
    · rw [if_pos hn, decide_eq_true hn]; simp
    · rw [if_neg hn, decide_eq_false hn, cond_false, List.append_nil, show x.toNat = x.natAbs by omega]
  rw [hv]
  exact dw_ hfin
theorem mb_ {x : Int} (h0 : -9223372036854775808 ≤ x) (h1 : x ≤ 9223372036854775807) : Ev (fun n _ => strconv_Itoa n x) (Lib.itoa x) :=
  aF_ (by simp only [strconv_Itoa, nItoa, ax_, al_, c3_]; exact ⟨fun _ => trivial, fun h => by simp at h; omega⟩)
end Go.Pi
end
section
set_option linter.unusedVariables false
set_option maxRecDepth 100000
set_option linter.unusedSimpArgs false
namespace Go.Pi
theorem join_snoc (x sep : Bs) : ∀ l : List Bs, Lib.join (l ++ [x]) sep = if l = [] then x else Lib.join l sep ++ sep ++ x
  | [] => by rw [if_pos rfl]; exact Lib.join_one x sep
  | y :: l => by
    rw [if_neg (by simp), List.cons_append, Lib.join_cons, Lib.join_cons]
    simp [Lib.joinTail]
theorem mr_ {α : Type} (f : α → Nat) : ∀ a b : List α, eo_ f (a ++ b) = eo_ f a + eo_ f b
  | [], b => by simp [eo_]
  | x :: a, b => by simp only [List.cons_append, eo_, mr_ f a b]; omega
theorem mq_ {α : Type} (f : α → Nat) (h : ∀ x, 1 ≤ f x) : ∀ a : List α, a.length ≤ eo_ f a
  | [] => Nat.le_refl _
  | x :: a => by have := mq_ f h a; have := h x; simp only [eo_, List.length_cons]; omega
theorem FSize_pos : ∀ (d : Nat) (j : aa_), 1 ≤ cF_ d j
  | 0, _ => by simp only [cF_]; omega
  | d + 1, j => by
    simp only [cF_]
    cases FOwn j <;> simp only [cond_true, cond_false] <;> omega
theorem iz_ {s : Bs} (h : hA_ s = true) : s.length ≤ 60 := by
  unfold hA_ at h
  rw [Bool.and_eq_true] at h
  have := of_decide_eq_true h.2; omega
theorem jr_ {l : List Bs} (h : hv_ l = true) {i : Nat} (hi : i < l.length) : (l.getD i []).length ≤ 60 := by
  have := ev_.1 h i hi
  rw [Bool.and_eq_true] at this
  exact iz_ this.1
structure Own (j : aa_) : Prop where
  kind : j.kind = 0 ∨ j.kind = 1 ∨ j.kind = 2 ∨ j.kind = 3 ∨ j.kind = 4 ∨ j.kind = 5
  list : j.kind ≠ 4 → j.kind ≠ 5 → j.list = []
  bool : j.kind = 1 → 0 ≤ j.n_ ∧ j.n_ ≤ 1
  num : j.kind = 2 → -1000000000 ≤ j.n_ ∧ j.n_ ≤ 1000000000
  text : j.kind = 3 → j.s.length ≤ 60
  obj : j.kind = 5 → j.names.length = j.list.length ∧ hv_ j.names = true
theorem FOwn_own {j : aa_} (h : FOwn j = true) : Own j := by
  unfold FOwn FOwnK at h
  simp only [Bool.and_eq_true, Bool.or_eq_true] at h
  obtain ⟨h1, h2, h3, h4, h5⟩ := h
  refine ⟨?_, fun k4 k5 => ?_, fun hk => ?_, fun hk => ?_, fun hk => ?_, fun hk => ?_⟩
  · rcases ib_ j.kind with hk | hk | hk | hk | hk | hk | ⟨k0, k1, k2, k3, k4, k5⟩
    · exact .inl hk
    · exact .inr (.inl hk)
    · exact .inr (.inr (.inl hk))
    · exact .inr (.inr (.inr (.inl hk)))
    · exact .inr (.inr (.inr (.inr (.inl hk))))
    · exact .inr (.inr (.inr (.inr (.inr hk))))
    · simp only [beq_eq_false_iff_ne.2 k0, beq_eq_false_iff_ne.2 k1, beq_eq_false_iff_ne.2 k2, beq_eq_false_iff_ne.2 k3, beq_eq_false_iff_ne.2 k4, beq_eq_false_iff_ne.2 k5, cond_false, Bool.or_false] at h5
      cases h5
  · rcases h1 with h1 | h1 | h1
    · exact List.eq_nil_of_length_eq_zero (of_decide_eq_true h1)
    · exact absurd (by simpa using h1) k4
    · exact absurd (by simpa using h1) k5
  · simp only [hk, Int.reduceBEq, cond_true, cond_false] at h5; exact gI_ h5
  · simp only [hk, Int.reduceBEq, cond_true, cond_false] at h5; exact gI_ h5
  · simp only [hk, Int.reduceBEq, cond_true, cond_false] at h5; exact iz_ h5
  · simp only [hk, Int.reduceBEq, cond_true, cond_false, Bool.and_eq_true] at h5
    exact ⟨by have := h5.1; simp at this; omega, h5.2⟩
def eF_ (enc : aa_ → Bs) (j : aa_) (i : Nat) : Bs := cond (j.kind == 5) (fC_ (j.names.getD i []) ++ ([58] ++ enc (j.list.getD i aa_.dflt))) (enc (j.list.getD i aa_.dflt))
def eO_ (enc : aa_ → Bs) (j : aa_) (m : Nat) : Bs := Lib.join ((List.range m).map (eF_ enc j)) [44]
def FEnc : Nat → aa_ → Bs
  | 0, _ => []
  | d + 1, j => cond (j.kind == 0) [110, 117, 108, 108] (cond (j.kind == 1) (cond (j.n_ == 1) [116, 114, 117, 101] [102, 97, 108, 115, 101]) (cond (j.kind == 2) (Lib.itoa j.n_) (cond (j.kind == 3) (fC_ j.s)
      (cond (j.kind == 5) ([123] ++ eO_ (FEnc d) j j.list.length ++ [125]) ([91] ++ eO_ (FEnc d) j j.list.length ++ [93])))))
theorem FJoin_zero (enc : aa_ → Bs) (j : aa_) : eO_ enc j 0 = [] := rfl
theorem gY_ (enc : aa_ → Bs) (j : aa_) : eO_ enc j 1 = eF_ enc j 0 := Lib.join_one _ _
theorem fR_ (enc : aa_ → Bs) (j : aa_) {m : Nat} (h : 0 < m) : eO_ enc j (m + 1) = eO_ enc j m ++ [44] ++ eF_ enc j m := by
  unfold eO_
  rw [List.range_succ, List.map_append, List.map_cons, List.map_nil, join_snoc, if_neg]
  intro e
  have := congrArg List.length e
  simp at this; omega
theorem fI_ {d : Nat} {j : aa_} (h : cF_ (d + 1) j ≤ 400) : Own j ∧ cF_ (d + 1) j = 1 + eo_ (cF_ d) j.list := by
  simp only [cF_] at h ⊢
  cases ho : FOwn j with
  | false => rw [ho, cond_false] at h; omega
  | true =>
    rw [ho, cond_true] at h
    exact ⟨FOwn_own ho, by rw [cond_true]; omega⟩
theorem enc_len : ∀ (d : Nat) (j : aa_), cF_ d j ≤ 400 → (FEnc d j).length + 150 ≤ 300 * cF_ d j
  | 0, j, h => by simp only [cF_] at h; omega
  | d + 1, j, h => by
    obtain ⟨ho, hs⟩ := fI_ h
    have hJ : ∀ m, m ≤ j.list.length → (eO_ (FEnc d) j m).length ≤ 300 * eo_ (cF_ d) (j.list.take m) := by
      intro m
      induction m with
      | zero => intro _; exact Nat.zero_le _
      | succ m ih =>
        intro hm
        have hi : m < j.list.length := by omega
        have h1 := ih (by omega)
        have h2 := hN_ (cF_ d) (bX_ aa_.dflt hi)
        have h3 := enc_len d (j.list.getD m aa_.dflt) (by omega)
        have h4 : (eF_ (FEnc d) j m).length ≤ 123 + (FEnc d (j.list.getD m aa_.dflt)).length := by
          unfold eF_
          cases hk : (j.kind == 5) with
          | false => rw [cond_false]; omega
          | true =>
            obtain ⟨e1, e2⟩ := ho.obj (by simpa using hk)
            have := jr_ e2 (i := m) (by omega)
            have := eN_ (j.names.getD m [])
            rw [cond_true]; simp only [List.length_append, List.length_cons, List.length_nil]; omega
        rw [dg_ aa_.dflt hi, mr_]
        simp only [eo_, Nat.mul_add]
        by_cases h0 : m = 0
        · subst h0; rw [gY_]; omega
        · rw [fR_ _ _ (by omega)]; simp only [List.length_append, List.length_cons, List.length_nil]; omega
    have hL := hJ j.list.length (Nat.le_refl _)
    rw [List.take_length] at hL
    rw [hs]
    rcases ho.kind with hk | hk | hk | hk | hk | hk
    · simp only [FEnc, hk, Int.reduceBEq, cond_true, cond_false, List.length_cons, List.length_nil]; omega
    · simp only [FEnc, hk, Int.reduceBEq, cond_true, cond_false]
      cases (j.n_ == 1) <;> simp only [cond_true, cond_false, List.length_cons, List.length_nil] <;> omega
    · have := ho.num hk
      have := Lib.itoa_length_le j.n_ (by omega) (by omega)
      simp only [FEnc, hk, Int.reduceBEq, cond_true, cond_false]; omega
    · have := ho.text hk
      have := eN_ j.s
      simp only [FEnc, hk, Int.reduceBEq, cond_true, cond_false]; omega
    · simp only [FEnc, hk, Int.reduceBEq, cond_true, cond_false, List.length_append, List.length_cons, List.length_nil]; omega
    · simp only [FEnc, hk, Int.reduceBEq, cond_true, cond_false, List.length_append, List.length_cons, List.length_nil]; omega
structure Part (d : Nat) (j : aa_) (i : Nat) : Prop where
  size : cF_ d (j.list.getD i aa_.dflt) ≤ 400
  enc : (FEnc d (j.list.getD i aa_.dflt)).length ≤ 120000
  name : j.kind = 5 → i < j.names.length ∧ (j.names.getD i []).length ≤ 60
theorem h1_ {d : Nat} {j : aa_} (h : cF_ (d + 1) j ≤ 400) {i : Nat} (hi : i < j.list.length) : Part d j i := by
  obtain ⟨ho, hs⟩ := fI_ h
  have h2 := hN_ (cF_ d) (bX_ aa_.dflt hi)
  have h3 := enc_len d (j.list.getD i aa_.dflt) (by omega)
  exact ⟨by omega, by omega, fun hk => ⟨by have := (ho.obj hk).1; omega, jr_ (ho.obj hk).2 (by have := (ho.obj hk).1; omega)⟩⟩
theorem jN_ {d : Nat} {j : aa_} (h : cF_ (d + 1) j ≤ 400) : ∀ m, m ≤ j.list.length → (eO_ (FEnc d) j m).length ≤ m * 120200 := by
  intro m
  induction m with
  | zero => intro _; exact Nat.zero_le _
  | succ m ih =>
    intro hm
    have hp := h1_ h (i := m) (by omega)
    have h1 := ih (by omega)
    have h4 : (eF_ (FEnc d) j m).length ≤ 123 + 120000 := by
      have := hp.enc
      unfold eF_
      cases hk : (j.kind == 5) with
      | false => rw [cond_false]; omega
      | true =>
        have := (hp.name (by simpa using hk)).2
        have := eN_ (j.names.getD m [])
        rw [cond_true]; simp only [List.length_append, List.length_cons, List.length_nil]; omega
    by_cases h0 : m = 0
    · subst h0; rw [gY_]; omega
    · rw [fR_ _ _ (by omega)]; simp only [List.length_append, List.length_cons, List.length_nil]; omega
theorem gF_ {d : Nat} {j : aa_} (h : cF_ (d + 1) j ≤ 400) : j.list.length ≤ 400 := by
  have := (fI_ h).2
  have := mq_ (cF_ d) (FSize_pos d) j.list
  omega
end Go.Pi
end
section
set_option linter.unusedVariables false
set_option maxRecDepth 100000
set_option linter.unusedSimpArgs false
namespace Go.Pi
theorem lt9 {n : Nat} (h : n ≤ 1000000000) (hc : ¬ n ≤ 9223372036854775807) : False := by omega
theorem fc_ : ∀ (d : Nat) (j : aa_), cF_ d j ≤ 400 → Ev (fun n _ => ay_ n j) (FEnc d j)
  | 0, j, h => by simp only [cF_] at h; omega
  | d + 1, j, h => by
    have ho := (fI_ h).1
    have hll := gF_ h
    refine aF_ ?_
    have hloop : (j.kind = 4 ∨ j.kind = 5) → ∀ (K : Nat → Bs → Int → Int → Bs → List aa_ → List Bs → Option Bs) (v : Bs), Ev (fun n N => K n (eO_ (FEnc d) j j.list.length) j.kind j.n_ j.s j.list j.names) v → Ev (fun n _ => ay_.loop17 n (ay_ n) (K n) n [] 0 j.kind j.n_ j.s j.list j.names) v := by
      intro hk45 K v hK
      refine dE_ (fun i => eO_ (FEnc d) j i) j.list.length (fun n N i (o : Bs) => ay_.loop17 n (ay_ n) (K n) N o (i : Int) j.kind j.n_ j.s j.list j.names) v (fun i hi F hF => ?_) ?_
      · have hp := h1_ h hi
        have hx := fc_ d (j.list.getD i aa_.dflt) hp.size
        have hjl := jN_ h i (by omega)
        have he := hp.enc
        have hW := W_up hi (show j.list.length ≤ b9_ by simp only [b9_]; omega)
        rcases hk45 with hk | hk
        · have h5 : (j.kind == 5) = false := by rw [hk]; rfl
          by_cases h0 : i = 0
          · have hg : decide ((i : Int) > 0) = false := decide_eq_false (by omega)
            have e0 : eO_ (FEnc d) j i = [] := by rw [h0]; rfl
            have e1 : eO_ (FEnc d) j (i + 1) = eF_ (FEnc d) j i := by rw [h0]; exact gY_ _ _
            rw [e1] at hF
            unfold eF_ at hF
            rw [h5, cond_false] at hF
            simp only [e0, ay_.turn17, ay_.step17, bP_, Int.toNat_natCast, hW, h5, hg, reduceCtorEq, false_implies, true_implies, true_and, and_true, ax_, bO_, c3_, c2_ hi, cE_ hi, ag_ hx, List.nil_append]
            generalize FEnc d (j.list.getD i aa_.dflt) = x at hF he ⊢
            repeat' (first | apply And.intro | intro _)
            all_goals (first | contradiction | exact hF | trivial | (rename_i hc; have hc := of_decide_eq_false hc; simp only [List.length_append, List.length_cons, List.length_nil] at hc; omega))
          · rw [fR_ _ _ (by omega)] at hF
            unfold eF_ at hF
            rw [h5, cond_false] at hF
            have hg : decide ((i : Int) > 0) = true := decide_eq_true (by omega)
            simp only [ay_.turn17, ay_.step17, bP_, Int.toNat_natCast, hW, h5, hg, ax_, bO_, c3_, c2_ hi, cE_ hi, ag_ hx]
            generalize FEnc d (j.list.getD i aa_.dflt) = x at hF he ⊢
            generalize eO_ (FEnc d) j i = o at hF hjl ⊢
            repeat' (first | apply And.intro | intro _)
            all_goals (first | contradiction | exact hF | trivial | (rename_i hc; have hc := of_decide_eq_false hc; simp only [List.length_append, List.length_cons, List.length_nil] at hc; omega))
        · have h5 : (j.kind == 5) = true := by rw [hk]; rfl
          have hn := hp.name hk
          have hq := fj_ (s := j.names.getD i []) (by omega)
          have hql := eN_ (j.names.getD i [])
          by_cases h0 : i = 0
          · have hg : decide ((i : Int) > 0) = false := decide_eq_false (by omega)
            have e0 : eO_ (FEnc d) j i = [] := by rw [h0]; rfl
            have e1 : eO_ (FEnc d) j (i + 1) = eF_ (FEnc d) j i := by rw [h0]; exact gY_ _ _
            rw [e1] at hF
            unfold eF_ at hF
            rw [h5, cond_true] at hF
            simp only [e0, ay_.turn17, ay_.step17, bP_, Int.toNat_natCast, hW, h5, hg, reduceCtorEq, false_implies, true_implies, true_and, and_true, ax_, bO_, c3_, c2_ hi, cE_ hi, cE_ hn.1, ag_ hx, ag_ hq, List.nil_append]
            generalize FEnc d (j.list.getD i aa_.dflt) = x at hF he ⊢
            generalize fC_ (j.names.getD i []) = y at hF hql ⊢
            rw [← List.append_assoc] at hF
            repeat' (first | apply And.intro | intro _)
            all_goals (first | contradiction | exact hF | trivial | (rename_i hc; have hc := of_decide_eq_false hc; simp only [List.length_append, List.length_cons, List.length_nil] at hc; omega))
          · rw [fR_ _ _ (by omega)] at hF
            unfold eF_ at hF
            rw [h5, cond_true] at hF
            have hg : decide ((i : Int) > 0) = true := decide_eq_true (by omega)
            simp only [ay_.turn17, ay_.step17, bP_, Int.toNat_natCast, hW, h5, hg, ax_, bO_, c3_, c2_ hi, cE_ hi, cE_ hn.1, ag_ hx, ag_ hq]
            generalize FEnc d (j.list.getD i aa_.dflt) = x at hF he ⊢
            generalize fC_ (j.names.getD i []) = y at hF hql ⊢
            generalize eO_ (FEnc d) j i = o at hF hjl ⊢
            rw [← List.append_assoc, ← List.append_assoc] at hF
            repeat' (first | apply And.intro | intro _)
            all_goals (first | contradiction | exact hF | trivial | (rename_i hc; have hc := of_decide_eq_false hc; simp only [List.length_append, List.length_cons, List.length_nil] at hc; omega))
      · simp only [ay_.turn17, ay_.step17, cU_, cond_false]
        exact hK
    have hjl := jN_ h j.list.length (Nat.le_refl _)
    simp only [ay_, bP_]
    rcases ho.kind with hk | hk | hk | hk | hk | hk
    · simp only [FEnc, hk, Int.reduceBEq, cond_true, al_]
    · simp only [FEnc, hk, Int.reduceBEq, cond_true, cond_false, ax_, al_]
      cases (j.n_ == 1) <;> simp
    · have hn := ho.num hk
      simp only [FEnc, hk, Int.reduceBEq, cond_true, cond_false, ag_ (dl_ (x := j.n_) (by omega) (by omega)), al_]
    · have hs := ho.text hk
      simp only [FEnc, hk, Int.reduceBEq, cond_true, cond_false, ag_ (fj_ (s := j.s) (by omega)), al_]
    all_goals (
      have e0 : (j.kind == 0) = false := by rw [hk]; rfl
      have e1 : (j.kind == 1) = false := by rw [hk]; rfl
      have e2 : (j.kind == 2) = false := by rw [hk]; rfl
      have e3 : (j.kind == 3) = false := by rw [hk]; rfl
      simp only [FEnc, e0, e1, e2, e3, cond_false]
      refine hloop (by omega) _ _ ?_
      generalize eO_ (FEnc d) j j.list.length = o at hjl ⊢
      simp only [hk, Int.reduceBEq, cond_true, cond_false, ax_, al_, c3_]
      refine ⟨fun _ => ⟨fun _ => trivial, fun hc => ?_⟩, fun hc => ?_⟩
      · have hc := of_decide_eq_false hc
        simp only [List.length_append, List.length_cons, List.length_nil] at hc; omega
      · have hc := of_decide_eq_false hc
        simp only [List.length_append, List.length_cons, List.length_nil] at hc; omega)
theorem Join_ev {l : List Bs} {sep : Bs} (hl : l.length ≤ 1000000) (hj : (Lib.join l sep).length ≤ 1000000000) : Ev (fun n _ => strings_Join n l sep) (Lib.join l sep) := by
  refine aF_ ?_
  simp only [strings_Join, nJoin, ax_, al_, c3_]
  refine ⟨fun _ => trivial, fun h => ?_⟩
  rw [decide_eq_true (by omega), decide_eq_true (by omega)] at h; cases h
theorem fr_ : ∀ (d : Nat) (j : aa_), cF_ d j ≤ 400 → Ev (fun n _ => aG_ n j) (FEnc d j)
  | 0, j, h => by simp only [cF_] at h; omega
  | d + 1, j, h => by
    have ho := (fI_ h).1
    have hll := gF_ h
    refine aF_ ?_
    have hloop : ∀ (K : Nat → Int → Int → Bs → List aa_ → List Bs → List Bs → Option Bs) (v : Bs), Ev (fun n N => K n j.kind j.n_ j.s j.list j.names ((List.range j.list.length).map (eF_ (FEnc d) j))) v → Ev (fun n _ => aG_.loop4 n (aG_ n) (K n) n j.list (j.list.length : Int) 0 j.kind j.n_ j.s j.list j.names []) v := by
      intro K v hK
      refine dE_ (fun i => (List.range i).map (eF_ (FEnc d) j)) j.list.length (fun n N i (o : List Bs) => aG_.loop4 n (aG_ n) (K n) N j.list (j.list.length : Int) (i : Int) j.kind j.n_ j.s j.list j.names o) v (fun i hi F hF => ?_) ?_
      · have hp := h1_ h hi
        have hx := fr_ d (j.list.getD i aa_.dflt) hp.size
        have he := hp.enc
        have hW := W_up hi (show j.list.length ≤ b9_ by simp only [b9_]; omega)
        have hol : ((List.range i).map (eF_ (FEnc d) j)).length = i := by simp
        rw [List.range_succ, List.map_append, List.map_cons, List.map_nil] at hF
        unfold eF_ at hF
        cases h5 : (j.kind == 5) with
        | false =>
          simp only [h5, cond_false] at hF
          unfold eF_ at hol ⊢
          simp only [h5, cond_false] at hol ⊢
          simp only [aG_.turn4, aG_.step4, bP_, Int.toNat_natCast, hW, h5, cond_false, ax_, bO_, c3_, bY_, c2_ hi, cE_ hi, ag_ hx]
          generalize FEnc d (j.list.getD i aa_.dflt) = x at hF he ⊢
          generalize (List.range i).map _ = o at hF hol ⊢
          exact ⟨fun _ => ⟨trivial, by simp; omega, hF⟩, fun h => (by cases h)⟩
        | true =>
          have hn := hp.name (by simpa using h5)
          have hq := f5_ (s := j.names.getD i []) (by omega)
          have hql := eN_ (j.names.getD i [])
          simp only [h5, cond_true] at hF
          unfold eF_ at hol ⊢
          simp only [h5, cond_true] at hol ⊢
          simp only [aG_.turn4, aG_.step4, bP_, Int.toNat_natCast, hW, h5, cond_true, ax_, bO_, c3_, bY_, c2_ hi, cE_ hi, cE_ hn.1, ag_ hx, ag_ hq]
          generalize FEnc d (j.list.getD i aa_.dflt) = x at hF he ⊢
          generalize fC_ (j.names.getD i []) = y at hF hql ⊢
          generalize (List.range i).map _ = o at hF hol ⊢
          rw [← List.append_assoc] at hF
          repeat' (first | apply And.intro | intro _)
          all_goals (first | contradiction | exact hF | trivial | (rename_i hc; have hc := of_decide_eq_false hc; simp only [List.length_append, List.length_cons, List.length_nil] at hc; omega) | (simp; omega))
      · simp only [aG_.turn4, aG_.step4, cU_, cond_false]
        exact hK
    have hjl := jN_ h j.list.length (Nat.le_refl _)
    have hJ := Join_ev (l := (List.range j.list.length).map (eF_ (FEnc d) j)) (sep := [44]) (by simp; omega) (by unfold eO_ at hjl; omega)
    simp only [aG_, bP_]
    refine hloop _ _ ?_
    rcases ho.kind with hk | hk | hk | hk | hk | hk
    · simp only [FEnc, hk, Int.reduceBEq, cond_true, al_]
    · have hb := ho.bool hk
      simp only [FEnc, hk, Int.reduceBEq, cond_true, cond_false, bO_, al_]
      have : j.n_ = 0 ∨ j.n_ = 1 := by omega
      rcases this with e | e <;> rw [e] <;> exact ⟨⟨by decide, by decide⟩, rfl⟩
    · have hn := ho.num hk
      simp only [FEnc, hk, Int.reduceBEq, cond_true, cond_false, ag_ (mb_ (x := j.n_) (by omega) (by omega)), al_]
    · have hs := ho.text hk
      simp only [FEnc, hk, Int.reduceBEq, cond_true, cond_false, ag_ (f5_ (s := j.s) (by omega)), al_]
    all_goals (
      simp only [FEnc, hk, Int.reduceBEq, cond_true, cond_false, ag_ hJ]
      unfold eO_ at hjl ⊢
      generalize Lib.join ((List.range j.list.length).map (eF_ (FEnc d) j)) [44] = o at hjl ⊢
      simp only [ax_, al_, c3_]
      refine ⟨fun _ => ⟨fun _ => trivial, fun hc => ?_⟩, fun hc => ?_⟩
      · have hc := of_decide_eq_false hc
        simp only [List.length_append, List.length_cons, List.length_nil] at hc; omega
      · have hc := of_decide_eq_false hc
        simp only [List.length_append, List.length_cons, List.length_nil] at hc; omega)
def e9_ (j : aa_) : Bs := cond (cV_ j) (cond (decide (((FEnc 6 j).length : Int) > 6000)) [] (FEnc 6 j)) []
theorem f2_ {j : aa_} (h : eP_ 6 j) : Ev (fun n _ => ca_ n j) (e9_ j) := by
  refine aF_ ?_
  simp only [ca_, bP_, ag_ (dp_ h), ax_, al_, e9_]
  cases hj : cV_ j with
  | false => simp
  | true =>
    simp only [ag_ (fc_ 6 j (of_decide_eq_true hj)), ax_, al_]
    cases decide (((FEnc 6 j).length : Int) > 6000) <;> simp
theorem eC_ {j : aa_} (h : eP_ 6 j) : Ev (fun n _ => cg_ n j) (e9_ j) := by
  refine aF_ ?_
  simp only [cg_, bP_, ag_ (dY_ h), ax_, al_, e9_]
  cases hj : cV_ j with
  | false => simp
  | true =>
    simp only [ag_ (fr_ 6 j (of_decide_eq_true hj)), ax_, al_]
    cases decide (((FEnc 6 j).length : Int) > 6000) <;> simp
end Go.Pi
end
section
set_option linter.unusedVariables false
set_option maxRecDepth 100000
set_option linter.unusedSimpArgs false
namespace Go.Pi
def du_ (ns : List Bs) (x : Bs) : Nat := ns.findIdx (fun y => !Op.bytesLess y x)
def eI_ (ns : List Bs) (x : Bs) : Nat := if ns.getD (du_ ns x) [] = x ∧ du_ ns x < ns.length then du_ ns x + 1 else du_ ns x
def ls_ {α : Type} (ns : List Bs) (x : Bs) (l : List α) (y : α) : List α := l.take (du_ ns x) ++ [y] ++ l.drop (eI_ ns x)
theorem fH_ {α : Type} (d : α) {a m : List α} {i q : Nat} (p : Nat) (hi : i < a.length) (h : q ≤ i) : a.take p ++ m ++ (a.take (i + 1)).drop q = a.take p ++ m ++ (a.take i).drop q ++ [a.getD i d] := by
  rw [dg_ d hi, List.drop_append_of_le_length (by simp; omega)]
  simp
theorem put_idx {ns : List Bs} {x : Bs} {i : Nat} (hi : i < ns.length) (hle : i ≤ du_ ns x) : (!Op.bytesLess (ns.getD i []) x) = decide (i = du_ ns x) := by
  rw [List.getD_eq_getElem?_getD, List.getElem?_eq_getElem hi, Option.getD_some]
  unfold du_ at hle ⊢
  by_cases h : i = ns.findIdx (fun y => !Op.bytesLess y x)
  · rw [decide_eq_true h]
    have := List.findIdx_getElem (xs := ns) (p := fun y => !Op.bytesLess y x) (w := by omega)
    simp only [← h] at this
    exact this
  · rw [decide_eq_false h]
    exact List.not_of_lt_findIdx (xs := ns) (p := fun y => !Op.bytesLess y x) (i := i) (by omega)
theorem gs_ {o j : aa_} {x : Bs} (hk : o.names.length ≤ 2000000) (he : o.list.length = o.names.length) (hlt : ∀ y, Op.bytesLess y x = true → (y == x) = false) (hne : ∀ i, eI_ o.names x ≤ i → i < o.names.length → (o.names.getD i [] == x) = false) :
    Ev (fun n _ => bg_ n o x j) (aa_.mk 5 0 [] (ls_ o.names x o.list j) (ls_ o.names x o.names x)) := by
  refine aF_ ?_
  have ht : o.names.length ≤ b9_ := by simp only [b9_]; omega
  obtain ⟨p, hp⟩ : ∃ p, p = du_ o.names x := ⟨_, rfl⟩
  have hpl : p ≤ o.names.length := by rw [hp]; exact List.findIdx_le_length
  obtain ⟨q, hq⟩ : ∃ q, q = eI_ o.names x := ⟨_, rfl⟩
  have hqp : p ≤ q ∧ q ≤ p + 1 := by rw [hq, hp]; unfold eI_; split <;> omega
  have hT : o.list.take o.names.length = o.list := List.take_of_length_le (by omega)
  let S : Nat → Bool × List aa_ × List Bs := fun i => if i ≤ p then (false, o.list.take i, o.names.take i) else (true, o.list.take p ++ [j] ++ (o.list.take i).drop q, o.names.take p ++ [x] ++ (o.names.take i).drop q)
  have hS0 : S 0 = (false, [], []) := by simp [S]
  simp only [bg_]
  have := dE_ S o.names.length (fun n N i (s : Bool × List aa_ × List Bs) => bg_.loop5 n (fun xy1 xy2 xy3 xy4 xy5 xy6 xy7 xy8 xy9 xy10 xy11 xy12 xy13 xy14 xy15 => (cond (!xy2) (ch_ (xy15.length + ([xy1] : List Bs).length) 16 (ch_ (xy14.length + ([(aa_.mk xy3 xy4 xy5 xy6 xy7)] : List aa_).length) 80 (some (aa_.mk xy11 xy12 xy13 (xy14 ++ ([(aa_.mk xy3 xy4 xy5 xy6 xy7)] : List aa_)) (xy15 ++ ([xy1] : List Bs)))))) (some (aa_.mk xy11 xy12 xy13 xy14 xy15)))) N x s.1 (i : Int) o.kind o.n_ o.s o.list o.names j.kind j.n_ j.s j.list j.names 0 0 [] 5 0 [] s.2.1 s.2.2)
    (aa_.mk 5 0 [] (ls_ o.names x o.list j) (ls_ o.names x o.names x)) (fun i hi F hF => ?_) ?_
  · rw [hS0] at this; exact this
  · have hx := put_idx (ns := o.names) (x := x) hi
    rw [← hp] at hx
    have hln : (S i).2.2.length ≤ o.names.length + 1 := by simp only [S]; split <;> simp <;> omega
    have hll : (S i).2.1.length ≤ o.names.length + 1 := by simp only [S]; split <;> simp <;> omega
    have hil : i < o.list.length := by omega
    simp only [bg_.turn5, bg_.step5, dX_, bP_, Int.toNat_natCast, W_up hi ht, ax_, bO_, bY_, c2_ hi, cE_ hi, cE_ hil]
    by_cases hle : i ≤ p
    · have s1 : S i = (false, o.list.take i, o.names.take i) := by simp only [S, if_pos hle]
      rw [s1] at hln hll ⊢
      by_cases e : i = p
      · have hb : (!Op.bytesLess (o.names.getD i []) x) = true := by rw [hx hle]; exact decide_eq_true e
        subst e
        by_cases hs : o.names.getD i [] = x
        · have hqv : q = i + 1 := by rw [hq]; unfold eI_; rw [← hp, if_pos ⟨hs, hi⟩]
          have s2 : S (i + 1) = (true, o.list.take i ++ [j], o.names.take i ++ [x]) := by
            simp only [S, if_neg (show ¬ i + 1 ≤ i by omega)]
            rw [List.drop_eq_nil_of_le (by simp; omega), List.drop_eq_nil_of_le (by simp; omega), List.append_nil, List.append_nil]
          rw [s2] at hF
          have hs' : (o.names.getD i [] == x) = true := by simpa using hs
          simp only [hb, hs', cond_true, cond_false, Bool.not_true, Bool.not_false]
          repeat' (first | apply And.intro | intro _)
          all_goals (first | contradiction | exact hF | trivial | (simp; omega))
        · have hqv : q = i := by rw [hq]; unfold eI_; rw [← hp, if_neg (fun h => hs h.1)]
          have s2 : S (i + 1) = (true, o.list.take i ++ [j] ++ [o.list.getD i aa_.dflt], o.names.take i ++ [x] ++ [o.names.getD i []]) := by
            simp only [S, if_neg (show ¬ i + 1 ≤ i by omega), hqv]
            rw [fH_ aa_.dflt i hil (Nat.le_refl _), fH_ [] i hi (Nat.le_refl _), List.drop_eq_nil_of_le (by simp; omega), List.drop_eq_nil_of_le (by simp; omega), List.append_nil, List.append_nil]
          rw [s2] at hF
          have hs' : (o.names.getD i [] == x) = false := by simpa using hs
          simp only [hb, hs', cond_true, cond_false, Bool.not_true, Bool.not_false]
          repeat' (first | apply And.intro | intro _)
          all_goals (first | contradiction | exact hF | trivial | (simp; omega))
      · have hb : (!Op.bytesLess (o.names.getD i []) x) = false := by rw [hx hle]; exact decide_eq_false e
        have hs' : (o.names.getD i [] == x) = false := hlt (o.names.getD i []) (by rw [Bool.not_eq_false'] at hb; exact hb)
        have s2 : S (i + 1) = (false, o.list.take i ++ [o.list.getD i aa_.dflt], o.names.take i ++ [o.names.getD i []]) := by
          simp only [S, if_pos (show i + 1 ≤ p by omega), dg_ aa_.dflt hil, dg_ [] hi]
        rw [s2] at hF
        simp only [hb, hs', cond_true, cond_false, Bool.not_true, Bool.not_false]
        repeat' (first | apply And.intro | intro _)
        all_goals (first | contradiction | exact hF | trivial | (simp; omega))
    · have s1 : S i = (true, o.list.take p ++ [j] ++ (o.list.take i).drop q, o.names.take p ++ [x] ++ (o.names.take i).drop q) := by simp only [S, if_neg hle]
      have s2 : S (i + 1) = (true, o.list.take p ++ [j] ++ (o.list.take i).drop q ++ [o.list.getD i aa_.dflt], o.names.take p ++ [x] ++ (o.names.take i).drop q ++ [o.names.getD i []]) := by
        simp only [S, if_neg (show ¬ i + 1 ≤ p by omega)]
        rw [fH_ aa_.dflt p hil (by omega), fH_ [] p hi (by omega)]
      have hs' := hne i (by omega) hi
      rw [s1] at hln hll ⊢
      rw [s2] at hF
      simp only [hs', cond_true, cond_false, Bool.not_true, Bool.not_false]
      repeat' (first | apply And.intro | intro _)
      all_goals (first | contradiction | exact hF | trivial | (simp at hln hll ⊢; omega))
  · simp only [bg_.turn5, bg_.step5, dX_, cU_, cond_false, ax_, bY_, al_]
    unfold ls_
    rw [← hp, ← hq]
    by_cases hle : o.names.length ≤ p
    · have e : p = o.names.length := by omega
      have hqv : q = p := by rw [hq]; unfold eI_; rw [← hp, if_neg (fun h => by omega)]
      have s1 : S o.names.length = (false, o.list, o.names) := by simp only [S, if_pos hle, List.take_length]; rw [List.take_of_length_le (by omega)]
      rw [s1, hqv, e, List.take_of_length_le (l := o.list) (by omega), List.drop_eq_nil_of_le (show o.list.length ≤ o.names.length by omega), List.take_length, List.drop_length]
      refine ⟨fun _ => ⟨by simp; omega, by simp; omega, by simp⟩, fun h => (by cases h)⟩
    · have s1 : S o.names.length = (true, o.list.take p ++ [j] ++ o.list.drop q, o.names.take p ++ [x] ++ o.names.drop q) := by simp only [S, if_neg hle, List.take_length]; rw [hT]
      rw [s1]
      exact ⟨fun h => (by cases h), fun _ => rfl⟩
end Go.Pi
end
section
set_option linter.unusedVariables false
set_option maxRecDepth 100000
set_option linter.unusedSimpArgs false
namespace Go.Pi
theorem ei_ : ∀ (x y : Bs), Op.bytesLess x y = decide (x < y)
  | [], [] => by simp [Op.bytesLess]
  | _ :: _, [] => by simp [Op.bytesLess]
  | [], _ :: _ => by simp [Op.bytesLess]
  | a :: x, b :: y => by
    rw [Op.bytesLess, ei_ x y]
    simp only [List.cons_lt_cons_iff]
    by_cases h1 : a < b <;> by_cases h2 : a = b <;> by_cases h3 : x < y <;> simp [h1, h2, h3]
theorem less_ne {x y : Bs} (h : Op.bytesLess y x = true) : (y == x) = false := by
  rw [ei_] at h
  exact beq_eq_false_iff_ne.2 fun e => by subst e; exact List.lt_irrefl y (of_decide_eq_true h)
end Go.Pi
end
section
set_option linter.unusedVariables false
set_option maxRecDepth 100000
set_option linter.unusedSimpArgs false
namespace Go.Pi
def gC_ : aa_ := aa_.mk 0 0 [] [] []
def c4_ (j : aa_) : aa_ := cond (cV_ j) j gC_
theorem gA_ {j : aa_} (h : eP_ 6 j) : Ev (fun n _ => bN_ n j) (c4_ j) := by
  refine aF_ ?_
  simp only [bN_, bP_, ag_ (dY_ h), ax_, al_, c4_, gC_]
  cases cV_ j <;> simp
end Go.Pi
end
section
set_option linter.unusedVariables false
set_option maxRecDepth 100000
set_option linter.unusedSimpArgs false
namespace Go.Pi
theorem kH_ {d : Nat} {j : aa_} (h : cF_ (d + 1) j ≤ 400) : j.names.length ≤ 400 := by
  have h1 := gF_ h
  have ho := (fI_ h).1
  by_cases hk : j.kind = 5
  · have := (ho.obj hk).1; omega
  · have : FOwn j = true := by
      simp only [cF_] at h
      cases hf : FOwn j with
      | true => rfl
      | false => rw [hf, cond_false] at h; omega
    unfold FOwn at this
    simp only [Bool.and_eq_true, Bool.or_eq_true] at this
    rcases this.2.1 with h2 | h2
    · have := of_decide_eq_true h2; omega
    · exact absurd (by simpa using h2) hk
theorem dA_ : ∀ (d : Nat) (j : aa_), cF_ d j ≤ 400 → Ev (fun n _ => aB_ n j) j
  | 0, j, h => by simp only [cF_] at h; omega
  | d + 1, j, h => by
    have hll := gF_ h
    have hnl := kH_ h
    refine aF_ ?_
    have hc : Ev (fun n _ => by_ n j.names) j.names := aF_ (by simp only [by_, bY_, al_, List.nil_append, List.length_nil, and_true]; omega)
    simp only [aB_, ag_ hc]
    have := dE_ (fun i => j.list.take i) j.list.length (fun n N i (o : List aa_) => aB_.loop4 n (aB_ n) (fun xy3 xy4 xy5 xy6 xy7 xy8 xy9 xy10 => (some (aa_.mk xy6 xy7 xy8 xy9 xy10))) N j.list (j.list.length : Int) (i : Int) 0 0 [] j.kind j.n_ j.s o j.names) j (fun i hi F hF => ?_) ?_
    · exact this
    · have hp := h1_ h hi
      have hx := dA_ d (j.list.getD i aa_.dflt) hp.size
      rw [dg_ aa_.dflt hi] at hF
      simp only [aB_.turn4, aB_.step4, bP_, Int.toNat_natCast, W_up hi (show j.list.length ≤ b9_ by simp only [b9_]; omega), ax_, bO_, bY_, c2_ hi, cE_ hi, ag_ hx]
      exact ⟨fun _ => ⟨trivial, by simp; omega, hF⟩, fun h => (by cases h)⟩
    · simp only [aB_.turn4, aB_.step4, cU_, cond_false, List.take_length, al_, dX_]
theorem dW_ : ∀ (d : Nat) (j : aa_), cF_ d j ≤ 400 → Ev (fun n _ => aQ_ n j) j
  | 0, j, h => by simp only [cF_] at h; omega
  | d + 1, j, h => by
    have hll := gF_ h
    have hnl := kH_ h
    refine aF_ ?_
    simp only [aQ_, bY_, List.nil_append, List.length_nil]
    refine ⟨by omega, ?_⟩
    have := dE_ (fun i => j.list.take i) j.list.length (fun n N i (o : List aa_) => aQ_.loop4 n (aQ_ n) (fun xy2 xy3 xy4 xy5 xy6 xy7 xy8 xy9 => (some (aa_.mk xy5 xy6 xy7 xy8 xy9))) N (i : Int) j.kind j.n_ j.s j.list j.names 0 0 [] j.kind j.n_ j.s o j.names) j (fun i hi F hF => ?_) ?_
    · exact this
    · have hp := h1_ h hi
      have hx := dW_ d (j.list.getD i aa_.dflt) hp.size
      rw [dg_ aa_.dflt hi] at hF
      simp only [aQ_.turn4, aQ_.step4, bP_, Int.toNat_natCast, W_up hi (show j.list.length ≤ b9_ by simp only [b9_]; omega), ax_, bO_, bY_, c2_ hi, cE_ hi, ag_ hx]
      exact ⟨fun _ => ⟨trivial, by simp; omega, hF⟩, fun h => (by cases h)⟩
    · simp only [aQ_.turn4, aQ_.step4, cU_, cond_false, List.take_length, al_, dX_]
def mf_ (j : aa_) : Bool := (j.kind == 0) && ((j.n_ == 0) && ((j.s == []) && (decide (j.list.length = 0) && decide (j.names.length = 0))))
theorem len_zero {α : Type} (l : List α) : ((l.length : Int) == 0) = decide (l.length = 0) := by
  by_cases h : l.length = 0
  · rw [h]; rfl
  · rw [decide_eq_false h]; simp; intro e; exact h (by rw [e]; rfl)
theorem iK_ {j : aa_} : Ev (fun n _ => cf_ n j) (mf_ j) := by
  refine aF_ ?_
  simp only [cf_, ax_, al_, mf_, len_zero]
  cases (j.kind == 0) <;> cases (j.n_ == 0) <;> cases (j.s == []) <;> cases decide (j.list.length = 0) <;> simp
theorem nN_ (d : Nat) (j : aa_) : dH_ (d + 1) j gC_ = mf_ j := by
  simp only [dH_, gC_, hi_, mf_, List.length_nil]
  by_cases h1 : j.names.length = 0
  · by_cases h2 : j.list.length = 0
    · rw [h1, h2]; simp [gU_, ek_]
    · have h2 : j.list ≠ [] := fun e => h2 (by rw [e]; rfl)
      simp [h2]
  · have h1 : j.names ≠ [] := fun e => h1 (by rw [e]; rfl)
    simp [h1]
def m8_ (w : List Bs) : Bool := gU_ (fun i => hA_ (w.getD i [])) w.length
def iA_ (o : TOp) : Bool := inn o.kind 1 4 && (decide (o.way.length ≤ 6) && (cV_ o.value && (m8_ o.way && ((o.kind != 2) || mf_ o.value))))
def lH_ (o : TOp) : Prop := lenNs b9_ o.way ∧ eP_ 6 o.value
theorem h3_ (o : TOp) : TOp.mk o.kind o.way o.value = o := rfl
theorem gt_le {n : Nat} : decide ((n : Int) > 6) = !decide (n ≤ 6) := by
  by_cases h : n ≤ 6
  · rw [decide_eq_true h, decide_eq_false (by omega)]; rfl
  · rw [decide_eq_false h, decide_eq_true (by omega)]; rfl
theorem le_le {n : Nat} : decide ((n : Int) ≤ 6) = decide (n ≤ 6) := by
  by_cases h : n ≤ 6
  · rw [decide_eq_true h, decide_eq_true (by omega)]
  · rw [decide_eq_false h, decide_eq_false (by omega)]
theorem ko_ {o : TOp} (h : lH_ o) : Ev (fun n _ => br_ n o) (iA_ o) := by
  refine aF_ ?_
  simp only [br_, bP_, l1In_b, ag_ (dp_ h.2), ax_, al_, gt_le, iA_]
  cases hj : cV_ o.value with
  | false => cases inn o.kind 1 4 <;> cases decide (o.way.length ≤ 6) <;> simp
  | true =>
    have hS := ey_ 6 o.value gC_ (fQ_ 6 o.value (of_decide_eq_true hj)) h.2
    rw [nN_] at hS
    unfold gC_ at hS
    have hl : Ev (fun n _ => br_.loop6 n (fun xy4 xy5 xy6 xy7 xy8 xy9 xy10 => (cond (xy4 != 2) (some true) ((aj_ n (aa_.mk xy6 xy7 xy8 xy9 xy10) (aa_.mk 0 0 [] [] [])).bind fun xr11 => (some xr11)))) n 0 o.kind o.way o.value.kind o.value.n_ o.value.s o.value.list o.value.names) (m8_ o.way && ((o.kind != 2) || mf_ o.value)) := by
      refine d7_ (fun n N i => br_.loop6 n (fun xy4 xy5 xy6 xy7 xy8 xy9 xy10 => (cond (xy4 != 2) (some true) ((aj_ n (aa_.mk xy6 xy7 xy8 xy9 xy10) (aa_.mk 0 0 [] [] [])).bind fun xr11 => (some xr11)))) N (i : Int) o.kind o.way o.value.kind o.value.n_ o.value.s o.value.list o.value.names) _ (fun i w hi ih => ?_) ?_
      · simp only [br_.turn6, br_.step6, Int.toNat_natCast, W_up hi h.1.1, ax_, bO_, ag_ (ex_ (gN_ h.1 i)), al_, dn_ ih, c2_ hi, cE_ hi]
        cases hA_ (o.way.getD i []) <;> simp
      · simp only [br_.turn6, br_.step6, cU_, cond_false, dX_, ax_, ag_ hS, al_]
        cases (o.kind != 2) <;> simp
    simp only [dn_ hl]
    cases inn o.kind 1 4 <;> cases decide (o.way.length ≤ 6) <;> simp
theorem kU_ {o : TOp} (h : lH_ o) : Ev (fun n _ => bt_ n o) (iA_ o) := by
  refine aF_ ?_
  simp only [bt_]
  have e : iA_ o = (m8_ o.way && (inn o.kind 1 4 && (decide (o.way.length ≤ 6) && (cV_ o.value && ((o.kind != 2) || mf_ o.value))))) := by
    unfold iA_
    cases inn o.kind 1 4 <;> cases decide (o.way.length ≤ 6) <;> cases cV_ o.value <;> cases m8_ o.way <;> simp
  rw [e]
  refine d7_ (fun n N i => bt_.loop3 n (fun xy2 xy3 xy4 xy5 xy6 xy7 xy8 => ((aH_ n xy2 1 4).bind fun xr9 => (cond xr9 (cond (decide ((xy3.length : Int) ≤ 6)) ((bW_ n (aa_.mk xy4 xy5 xy6 xy7 xy8)).bind fun xr10 => (cond xr10 (cond (xy2 != 2) (some true) ((cf_ n (aa_.mk xy4 xy5 xy6 xy7 xy8)).bind fun xr11 => (some xr11))) (some false))) (some false)) (some false)))) N o.way (o.way.length : Int) (i : Int) o.kind o.way o.value.kind o.value.n_ o.value.s o.value.list o.value.names) _ (fun i w hi ih => ?_) ?_
  · simp only [bt_.turn3, bt_.step3, Int.toNat_natCast, W_up hi h.1.1, ax_, bO_, ag_ (eB_ (gN_ h.1 i)), al_, dn_ ih, c2_ hi, cE_ hi]
    cases hA_ (o.way.getD i []) <;> simp
  · simp only [bt_.turn3, bt_.step3, cU_, cond_false, dX_, ax_, gn_, le_le, ag_ (dY_ h.2), ag_ iK_, al_]
    cases inn o.kind 1 4 <;> cases decide (o.way.length ≤ 6) <;> cases cV_ o.value <;> cases (o.kind != 2) <;> simp
def e7_ (k : Int) : Bs := cond (k == 1) [97, 100, 100] (cond (k == 2) [114, 101, 109, 111, 118, 101] (cond (k == 3) [114, 101, 112, 108, 97, 99, 101] [116, 101, 115, 116]))
def txtJ (s : Bs) : aa_ := aa_.mk 3 0 s [] []
abbrev nmOp : Bs := [111, 112]
abbrev h5_ : Bs := [112, 97, 116, 104]
abbrev g6_ : Bs := [118, 97, 108, 117, 101]
def hu_ (o : TOp) : aa_ := cond (o.kind == 2) (aa_.mk 5 0 [] [txtJ (e7_ o.kind), txtJ (FWay o.way)] [nmOp, h5_]) (aa_.mk 5 0 [] [txtJ (e7_ o.kind), txtJ (FWay o.way), o.value] [nmOp, h5_, g6_])
def di_ (o : TOp) : aa_ := cond (iA_ o) (c4_ (hu_ o)) gC_
theorem lJ_ : ∀ (d : Nat) (j : aa_), eP_ (d + 1) j → eP_ d j
  | 0, _, _ => trivial
  | d + 1, j, h => ⟨h.1, h.2.1, fun x hx => lJ_ d x (h.2.2 x hx)⟩
theorem hD_ {s : Bs} (h : s.length ≤ b9_) : ∀ d, eP_ d (txtJ s)
  | 0 => trivial
  | d + 1 => ⟨⟨h, Nat.zero_le _, fun x hx => (by cases hx)⟩, Nat.zero_le _, fun x hx => (by cases hx)⟩
theorem eJ_ : ∀ d, eP_ d gC_
  | 0 => trivial
  | d + 1 => ⟨⟨Nat.zero_le _, Nat.zero_le _, fun x hx => (by cases hx)⟩, Nat.zero_le _, fun x hx => (by cases hx)⟩
structure OpIs (o : TOp) : Prop where
  kind : o.kind = 1 ∨ o.kind = 2 ∨ o.kind = 3 ∨ o.kind = 4
  way : o.way.length ≤ 6
  text : ∀ s ∈ o.way, s.length ≤ 60
  val : cF_ 6 o.value ≤ 400
theorem op_is {o : TOp} (h : iA_ o = true) : OpIs o := by
  unfold iA_ at h
  simp only [Bool.and_eq_true] at h
  obtain ⟨h1, h2, h3, h4, _⟩ := h
  have hk := gI_ h1
  refine ⟨by omega, of_decide_eq_true h2, fun s hs => ?_, of_decide_eq_true h3⟩
  obtain ⟨i, hi, e⟩ := List.mem_iff_getElem.1 hs
  have := ev_.1 h4 i hi
  rw [List.getD_eq_getElem?_getD, List.getElem?_eq_getElem hi, Option.getD_some, e] at this
  exact iz_ this
theorem name_len (k : Int) : (e7_ k).length ≤ 60 := by
  unfold e7_
  cases (k == 1) <;> cases (k == 2) <;> cases (k == 3) <;> simp
theorem g7_ {o : TOp} (h : lH_ o) (ho : OpIs o) : eP_ 6 (hu_ o) := by
  have hw := j5_ ho.text
  have hwl := ho.way
  have hw2 : (FWay o.way).length ≤ b9_ := by simp only [b9_]; omega
  have hn : (e7_ o.kind).length ≤ b9_ := by have := name_len o.kind; simp only [b9_]; omega
  have hv := lJ_ 5 _ h.2
  unfold hu_
  cases (o.kind == 2) with
  | true =>
    refine ⟨⟨Nat.zero_le _, by show 2 ≤ b9_; decide, fun x hx => ?_⟩, by show 2 ≤ b9_; decide, fun x hx => ?_⟩
    · simp at hx; rcases hx with e | e <;> (rw [e]; decide)
    · simp at hx; rcases hx with e | e
      · rw [e]; exact hD_ hn 5
      · rw [e]; exact hD_ hw2 5
  | false =>
    refine ⟨⟨Nat.zero_le _, by show 3 ≤ b9_; decide, fun x hx => ?_⟩, by show 3 ≤ b9_; decide, fun x hx => ?_⟩
    · simp at hx; rcases hx with e | e | e <;> (rw [e]; decide)
    · simp at hx; rcases hx with e | e | e
      · rw [e]; exact hD_ hn 5
      · rw [e]; exact hD_ hw2 5
      · rw [e]; exact hv
theorem lI_ {o : TOp} (h : lH_ o) : eP_ 6 (di_ o) := by
  unfold di_
  cases ho : iA_ o with
  | false => exact eJ_ 6
  | true =>
    unfold c4_
    cases cV_ (hu_ o) with
    | false => exact eJ_ 6
    | true => exact g7_ h (op_is ho)
theorem put_value (a b v : aa_) : Ev (fun n _ => bg_ n (aa_.mk 5 0 [] [a, b] [nmOp, h5_]) g6_ v) (aa_.mk 5 0 [] [a, b, v] [nmOp, h5_, g6_]) :=
  gs_ (o := aa_.mk 5 0 [] [a, b] [nmOp, h5_]) (j := v) (x := g6_) (by show 2 ≤ 2000000; decide) rfl (fun _ => less_ne) (fun i h1 h2 => by
    have : eI_ [nmOp, h5_] g6_ = 2 := by decide
    have h2 : i < 2 := h2
    have h1 : eI_ [nmOp, h5_] g6_ ≤ i := h1
    omega)
theorem f0_ {o : TOp} (h : lH_ o) : Ev (fun n _ => co_ n o) (di_ o) := by
  refine aF_ ?_
  have hN : Ev (fun n _ => bZ_ n ()) [[], [97, 100, 100], [114, 101, 109, 111, 118, 101], [114, 101, 112, 108, 97, 99, 101], [116, 101, 115, 116]] := aF_ (by simp only [bZ_, al_])
  simp only [co_, bP_, h3_, ag_ (ko_ h), ax_, al_]
  unfold di_
  cases ho : iA_ o with
  | false => exact ⟨fun _ => rfl, fun h => (by cases h)⟩
  | true =>
    refine ⟨fun h => (by cases h), fun _ => ?_⟩
    have hi := op_is ho
    have hV := dp_ (g7_ h hi)
    have hCp := dW_ 6 o.value hi.val
    simp only [ag_ hN, bO_, ag_ (hS_ hi.way hi.text)]
    unfold c4_ gC_ hu_ txtJ e7_
    unfold hu_ txtJ e7_ at hV
    rcases hi.kind with hk | hk | hk | hk
    all_goals (
      simp only [hk, Int.reduceBEq, cond_true, cond_false] at hV
      simp only [hk, Int.reduceBEq, cond_true, cond_false, bne, Bool.not_false, Bool.not_true, Int.reduceToNat, List.getD_cons_succ, List.getD_cons_zero, ax_, ag_ hCp, ag_ (put_value _ _ _), ag_ hV, al_]
      refine ⟨⟨by decide, by decide⟩, ?_⟩
      generalize cV_ _ = q
      cases q <;> simp)
theorem f6_ {o : TOp} (h : lH_ o) : Ev (fun n _ => cw_ n o) (di_ o) := by
  refine aF_ ?_
  have hN : Ev (fun n _ => b4_ n ()) [[97, 100, 100], [114, 101, 109, 111, 118, 101], [114, 101, 112, 108, 97, 99, 101], [116, 101, 115, 116]] := aF_ (by simp only [b4_, al_])
  simp only [cw_, bP_, h3_, ag_ (kU_ h), ax_, al_]
  unfold di_
  cases ho : iA_ o with
  | false => exact ⟨fun _ => rfl, fun h => (by cases h)⟩
  | true =>
    refine ⟨fun h => (by cases h), fun _ => ?_⟩
    have hi := op_is ho
    have hV := gA_ (g7_ h hi)
    have hCp := dA_ 6 o.value hi.val
    simp only [ag_ hN, bO_, ag_ (ii_ hi.way hi.text)]
    simp only [cond_true]
    unfold hu_ txtJ e7_
    unfold hu_ txtJ e7_ at hV
    have w1 : W ((1 : Int) - 1) = 0 := by rw [W_id (by decide) (by decide)]; rfl
    have w2 : W ((2 : Int) - 1) = 1 := by rw [W_id (by decide) (by decide)]; rfl
    have w3 : W ((3 : Int) - 1) = 2 := by rw [W_id (by decide) (by decide)]; rfl
    have w4 : W ((4 : Int) - 1) = 3 := by rw [W_id (by decide) (by decide)]; rfl
    rcases hi.kind with hk | hk | hk | hk
    all_goals (
      simp only [hk, Int.reduceBEq, cond_true, cond_false] at hV
      simp only [hk, w1, w2, w3, w4, Int.reduceBEq, cond_true, cond_false, bne, Bool.not_false, Bool.not_true, Int.reduceToNat, List.getD_cons_succ, List.getD_cons_zero, List.cons_append, List.nil_append, ax_, bY_, ag_ hCp, ag_ hV, al_, true_implies, false_implies, reduceCtorEq, and_true, true_and]
      simp only [List.length_cons, List.length_nil]
      decide)
end Go.Pi
end
section
set_option linter.unusedVariables false
set_option maxRecDepth 100000
set_option linter.unusedSimpArgs false
namespace Go.Pi
theorem isNaN_ev {x : Bs} : Ev (fun n _ => a7_ n x) false := aF_ (by simp [a7_, al_])
theorem isNaN2_ev {x : Bs} : Ev (fun n _ => bp_ n x) false := aF_ (by simp [bp_, al_])
theorem nJ_ {x y : Bs} : Ev (fun n _ => bw_ n x y) (Op.bytesLess x y) := by
  refine aF_ ?_
  simp only [bw_, ag_ isNaN2_ev, ax_, al_]
  cases Op.bytesLess x y <;> simp
theorem half {i j : Nat} (h : i + j ≤ 4000000) : W (Int.fdiv (IntKind.u64.wrap (W ((i : Int) + (j : Int)))) (2 ^ min (1 : Int).toNat (IntKind.bits .u64))) = (((i + j) / 2 : Nat) : Int) := by
  have e1 : W ((i : Int) + (j : Int)) = ((i + j : Nat) : Int) := by rw [W_id (by omega) (by omega)]; omega
  have e2 : IntKind.u64.wrap ((i + j : Nat) : Int) = ((i + j : Nat) : Int) := by
    show (((i + j : Nat) : Int)) % _ = _
    exact Int.emod_eq_of_lt (by omega) (by have : ((i + j : Nat) : Int) ≤ 4000000 := by omega
                                           exact Int.lt_of_le_of_lt this (by decide))
  have e3 : (2 : Int) ^ min (1 : Int).toNat (IntKind.bits .u64) = 2 := by decide
  rw [e1, e2, e3, Int.fdiv_eq_ediv_of_nonneg _ (by decide)]
  rw [W_id (by omega) (by omega)]; omega
theorem iE_ {ns : List Bs} {x : Bs} (hl : ns.length ≤ 2000000) (hM : ∀ h, h < ns.length → Op.bytesLess (ns.getD h []) x = decide (h < du_ ns x)) :
    Ev (fun n _ => ae_ n ns x) ((du_ ns x : Int), decide (du_ ns x < ns.length) && (ns.getD (du_ ns x) [] == x)) := by
  refine aF_ ?_
  have hpl : du_ ns x ≤ ns.length := List.findIdx_le_length
  obtain ⟨p, hp⟩ : ∃ p, p = du_ ns x := ⟨_, rfl⟩
  rw [← hp] at hpl hM ⊢
  simp only [ae_]
  have key : ∀ (d i j : Nat), j - i ≤ d → i ≤ p → p ≤ j → j ≤ ns.length → Ev (fun n N => ae_.loop4 n (fun xy3 xy4 xy5 xy6 => (cond (decide (xy6 < xy5)) (inB xy6 xy3.length (cond ((xy3.getD xy6.toNat []) == xy4) (some (xy6, true)) (inB xy6 xy3.length ((a7_ n (xy3.getD xy6.toNat [])).bind fun xr7 => (cond xr7 ((a7_ n xy4).bind fun xr8 => (some (xy6, xr8))) (some (xy6, false))))))) (some (xy6, false)))) N ns x (ns.length : Int) (i : Int) (j : Int)) ((p : Int), decide (p < ns.length) && (ns.getD p [] == x)) := by
    intro d
    induction d with
    | zero =>
      intro i j hd h1 h2 h3
      have e : i = p := by omega
      have e' : j = p := by omega
      subst e; subst e'
      refine cA_ ?_
      simp only [ae_.turn4, ae_.step4, Int.lt_irrefl, decide_false, cond_false, ax_, bO_, al_, Int.toNat_natCast, ag_ isNaN_ev]
      by_cases hc : j < ns.length
      · rw [decide_eq_true hc, decide_eq_true (show (j : Int) < (ns.length : Int) by omega)]
        cases hs : (ns.getD j [] == x) <;> simp <;> omega
      · rw [decide_eq_false hc, decide_eq_false (show ¬ (j : Int) < (ns.length : Int) by omega)]
        exact ⟨fun h => (by cases h), fun _ => rfl⟩
    | succ d ih =>
      intro i j hd h1 h2 h3
      by_cases hij : i < j
      · have hh := half (i := i) (j := j) (by omega)
        have hm : (i + j) / 2 < ns.length := by omega
        refine cA_ ?_
        simp only [ae_.turn4, ae_.step4, hh, decide_eq_true (show (i : Int) < (j : Int) by omega), cond_true, ax_, bO_, Int.toNat_natCast, ag_ nJ_, cE_ hm, hM _ hm, W_up hm (show ns.length ≤ b9_ by simp only [b9_]; omega)]
        refine ⟨trivial, fun hc => ?_, fun hc => ?_⟩
        · have hc := of_decide_eq_true hc
          exact ih ((i + j) / 2 + 1) j (by omega) (by omega) h2 h3
        · have hc := of_decide_eq_false hc
          exact ih i ((i + j) / 2) (by omega) h1 (by omega) (by omega)
      · exact ih i j (by omega) h1 h2 h3
  exact dw_ (f := fun n N => ae_.loop4 n _ N ns x (ns.length : Int) 0 (ns.length : Int)) (key ns.length 0 ns.length (by omega) (Nat.zero_le _) hpl (Nat.le_refl _))
end Go.Pi
end
section
set_option linter.unusedVariables false
set_option maxRecDepth 100000
set_option linter.unusedSimpArgs false
namespace Go.Pi
def ins (x : Bs) (y : Int) : List (Bs × Int) → List (Bs × Int)
  | [] => [(x, y)]
  | (k, v) :: l => if k < x then (k, v) :: ins x y l else if k = x then (x, y) :: l else (x, y) :: (k, v) :: l
def dL_ : List (Bs × Int) → Prop
  | [] => True
  | (k, _) :: l => (∀ p ∈ l, k < p.1) ∧ dL_ l
theorem jO_ {x : Bs} {y : Int} : ∀ {l : List (Bs × Int)} {p : Bs × Int}, p ∈ ins x y l → p = (x, y) ∨ p ∈ l
  | [], p, h => by simp only [ins, List.mem_singleton] at h; exact .inl h
  | (k, v) :: l, p, h => by
    simp only [ins] at h
    split at h
    · rcases List.mem_cons.1 h with h | h
      · exact .inr (h ▸ List.mem_cons_self ..)
      · rcases jO_ h with h | h
        · exact .inl h
        · exact .inr (List.mem_cons_of_mem _ h)
    · split at h
      · rcases List.mem_cons.1 h with h | h
        · exact .inl h
        · exact .inr (List.mem_cons_of_mem _ h)
      · rcases List.mem_cons.1 h with h | h
        · exact .inl h
        · exact .inr h
theorem kE_ {a b : Bs} (h1 : ¬ a < b) (h2 : a ≠ b) : b < a := by
  rcases Decidable.em (b < a) with h | h
  · exact h
  · exact absurd (List.le_antisymm (List.not_lt.1 h) (List.not_lt.1 h1)) h2
theorem jQ_ {x : Bs} {y : Int} : ∀ {l : List (Bs × Int)}, dL_ l → dL_ (ins x y l)
  | [], _ => ⟨fun p hp => (by cases hp), trivial⟩
  | (k, v) :: l, h => by
    simp only [ins]
    split
    · rename_i hk
      exact ⟨fun p hp => (jO_ hp).elim (fun e => e ▸ hk) (h.1 p), jQ_ h.2⟩
    · split
      · rename_i h1 h2
        subst h2
        exact ⟨h.1, h.2⟩
      · rename_i h1 h2
        have hx := kE_ h1 h2
        exact ⟨fun p hp => by
          rcases List.mem_cons.1 hp with e | hp
          · rw [e]; exact hx
          · exact List.lt_trans hx (h.1 p hp), h⟩
theorem ins_same {x : Bs} {y : Int} : ∀ {l : List (Bs × Int)}, ins x y (ins x y l) = ins x y l
  | [] => by simp [ins, List.lt_irrefl]
  | (k, v) :: l => by
    by_cases h1 : k < x
    · simp only [ins, if_pos h1, ins_same]
    · by_cases h2 : k = x
      · simp only [ins, if_neg h1, if_pos h2, List.lt_irrefl, if_false, if_true]
      · simp only [ins, if_neg h1, if_neg h2, List.lt_irrefl, if_false, if_true]
end Go.Pi
end
section
set_option linter.unusedVariables false
set_option linter.unusedSimpArgs false
namespace Go.Pi
theorem tri (a b : Bs) : a < b ∧ ¬ b < a ∧ a ≠ b ∧ b ≠ a ∨ a = b ∧ ¬ a < b ∧ ¬ b < a ∨ b < a ∧ ¬ a < b ∧ a ≠ b ∧ b ≠ a := by
  by_cases h1 : a < b
  · exact .inl ⟨h1, List.lt_asymm h1, fun e => List.lt_irrefl b (e ▸ h1), fun e => List.lt_irrefl b (e ▸ h1)⟩
  · by_cases h2 : a = b
    · subst h2; exact .inr (.inl ⟨rfl, h1, h1⟩)
    · exact .inr (.inr ⟨kE_ h1 h2, h1, h2, fun e => h2 e.symm⟩)
theorem mI_ {x x' : Bs} {y y' : Int} (hne : x ≠ x') : ∀ l : List (Bs × Int), ins x y (ins x' y' l) = ins x' y' (ins x y l)
  | [] => by
    rcases tri x x' with ⟨h1, h2, h3, h4⟩ | ⟨h1, _⟩ | ⟨h1, h2, h3, h4⟩
    · simp only [ins, if_pos h1, if_neg h2, if_neg h4]
    · exact absurd h1 hne
    · simp only [ins, if_pos h1, if_neg h2, if_neg h3]
  | (k, v) :: l => by
    have ih := mI_ (y := y) (y' := y') hne l
    rcases tri x x' with ⟨h1, h2, h3, h4⟩ | ⟨h1, _⟩ | ⟨h1, h2, h3, h4⟩
    · rcases tri k x with ⟨a1, a2, a3, a4⟩ | ⟨a1, a2, a3⟩ | ⟨a1, a2, a3, a4⟩
      · have b1 : k < x' := List.lt_trans a1 h1
        simp only [ins, if_pos a1, if_pos b1, ih]
      · subst a1
        simp only [ins, if_pos h1, if_neg a2, if_true]
      · rcases tri k x' with ⟨b1, b2, b3, b4⟩ | ⟨b1, b2, b3⟩ | ⟨b1, b2, b3, b4⟩
        · simp only [ins, if_pos b1, if_neg a2, if_neg a3, if_pos h1]
        · subst b1
          simp only [ins, if_neg a2, if_neg a3, if_neg b2, if_pos h1, if_neg h2, if_neg h4, if_true]
        · simp only [ins, if_neg a2, if_neg a3, if_neg b2, if_neg b3, if_pos h1, if_neg h2, if_neg h4]
    · exact absurd h1 hne
    · rcases tri k x' with ⟨a1, a2, a3, a4⟩ | ⟨a1, a2, a3⟩ | ⟨a1, a2, a3, a4⟩
      · have b1 : k < x := List.lt_trans a1 h1
        simp only [ins, if_pos a1, if_pos b1, ih]
      · subst a1
        simp only [ins, if_pos h1, if_neg a2, if_true]
      · rcases tri k x with ⟨b1, b2, b3, b4⟩ | ⟨b1, b2, b3⟩ | ⟨b1, b2, b3, b4⟩
        · simp only [ins, if_pos b1, if_neg a2, if_neg a3, if_pos h1]
        · subst b1
          simp only [ins, if_neg a2, if_neg a3, if_neg b2, if_pos h1, if_neg h2, if_neg h3, if_true]
        · simp only [ins, if_neg a2, if_neg a3, if_neg b2, if_neg b3, if_pos h1, if_neg h2, if_neg h3]
end Go.Pi
end
section
set_option linter.unusedVariables false
set_option linter.unusedSimpArgs false
namespace Go.Pi
theorem putL_nil {α : Type} {x : Bs} {y : α} : ls_ [] x [] y = [y] := by
  simp [ls_]
theorem putL_cons {α : Type} {k x : Bs} {ns : List Bs} {a y : α} {l : List α} : ls_ (k :: ns) x (a :: l) y = if k < x then a :: ls_ ns x l y else if k = x then y :: l else y :: a :: l := by
  by_cases h : k < x
  · have hb : Op.bytesLess k x = true := by rw [ei_]; exact decide_eq_true h
    have e1 : du_ (k :: ns) x = du_ ns x + 1 := by unfold du_; rw [List.findIdx_cons]; simp [hb]
    have e2 : eI_ (k :: ns) x = eI_ ns x + 1 := by
      unfold eI_
      rw [e1]
      simp only [List.getD_cons_succ, List.length_cons, Nat.add_lt_add_iff_right]
      split <;> rfl
    rw [if_pos h]
    unfold ls_
    rw [e1, e2]; simp
  · have hb : Op.bytesLess k x = false := by rw [ei_]; exact decide_eq_false h
    have e1 : du_ (k :: ns) x = 0 := by unfold du_; rw [List.findIdx_cons]; simp [hb]
    rw [if_neg h]
    unfold ls_ eI_
    rw [e1]
    by_cases h2 : k = x
    · simp [h2]
    · simp [h2]
theorem gy_ {α : Type} (g : Bs × Int → α) (x : Bs) (y : Int) : ∀ l : List (Bs × Int), ls_ (l.map (·.1)) x (l.map g) (g (x, y)) = (ins x y l).map g
  | [] => by simp only [List.map_nil, ins, List.map_cons]; exact putL_nil
  | (k, v) :: l => by
    simp only [List.map_cons, putL_cons, ins]
    split
    · rw [gy_ g x y l]; rfl
    · split <;> rfl
end Go.Pi
end
section
set_option linter.unusedVariables false
set_option linter.unusedSimpArgs false
namespace Go.Pi
theorem nl_ {k x : Bs} {ns : List Bs} : eI_ (k :: ns) x = if k < x then eI_ ns x + 1 else if k = x then 1 else 0 := by
  by_cases h : k < x
  · have hb : Op.bytesLess k x = true := by rw [ei_]; exact decide_eq_true h
    have e1 : du_ (k :: ns) x = du_ ns x + 1 := by unfold du_; rw [List.findIdx_cons]; simp [hb]
    unfold eI_
    rw [e1, if_pos h]
    simp only [List.getD_cons_succ, List.length_cons, Nat.add_lt_add_iff_right]
    split <;> rfl
  · have hb : Op.bytesLess k x = false := by rw [ei_]; exact decide_eq_false h
    have e1 : du_ (k :: ns) x = 0 := by unfold du_; rw [List.findIdx_cons]; simp [hb]
    rw [if_neg h]
    unfold eI_
    rw [e1]
    by_cases h2 : k = x
    · simp [h2]
    · simp [h2]
theorem asc_ne {x : Bs} : ∀ {l : List (Bs × Int)}, dL_ l → ∀ i, eI_ (l.map (·.1)) x ≤ i → i < (l.map (·.1)).length → ((l.map (·.1)).getD i [] == x) = false
  | [], _, i, _, hi => by simp at hi
  | (k, v) :: l, h, i, hp, hi => by
    simp only [List.map_cons, nl_] at hp
    have later : ∀ i', i' < (l.map (·.1)).length → k < (l.map (·.1)).getD i' [] := fun i' hi' => by
      have hm := bX_ (d := ([] : Bs)) (a := l.map (·.1)) (i := i') hi'
      obtain ⟨p, hp, e⟩ := List.mem_map.1 hm
      rw [← e]; exact h.1 p hp
    cases i with
    | zero =>
      simp only [List.map_cons, List.getD_cons_zero]
      by_cases h1 : k < x
      · rw [if_pos h1] at hp; omega
      · rw [if_neg h1] at hp
        by_cases h2 : k = x
        · rw [if_pos h2] at hp; omega
        · exact beq_eq_false_iff_ne.2 h2
    | succ i =>
      have hi' : i < (l.map (·.1)).length := by simpa using hi
      simp only [List.map_cons, List.getD_cons_succ]
      by_cases h1 : k < x
      · rw [if_pos h1] at hp
        exact asc_ne h.2 i (by omega) hi'
      · refine beq_eq_false_iff_ne.2 fun e => h1 ?_
        rw [← e]; exact later i hi'
def f3_ (n : Int) : aa_ := aa_.mk 2 n [] [] []
def lt_ (l : List (Bs × Int)) : aa_ := aa_.mk 5 0 [] (l.map fun p => f3_ p.2) (l.map (·.1))
theorem h8_ {l : List (Bs × Int)} {x : Bs} {y : Int} (h : dL_ l) (hl : l.length ≤ 2000000) : Ev (fun n _ => bg_ n (lt_ l) x (f3_ y)) (lt_ (ins x y l)) := by
  have := gs_ (o := lt_ l) (j := f3_ y) (x := x) (by simp [lt_]; exact hl) (by simp [lt_]) (fun z hz => by
    rw [ei_] at hz
    exact beq_eq_false_iff_ne.2 fun e => by subst e; exact List.lt_irrefl z (of_decide_eq_true hz)) (fun i h1 h2 => asc_ne h i h1 h2)
  refine eb_ this ?_
  have e1 := gy_ (fun p => f3_ p.2) x y l
  have e2 := gy_ (fun p => p.1) x y l
  show aa_.mk 5 0 [] (ls_ (l.map (·.1)) x (l.map fun p => f3_ p.2) (f3_ y)) (ls_ (l.map (·.1)) x (l.map (·.1)) x) = _
  rw [e1, e2]; rfl
end Go.Pi
end
section
set_option linter.unusedVariables false
namespace Go.Pi
def lenQ (c : Nat) (q : aZ_) : Prop := q.where_.length ≤ c ∧ q.show_.length ≤ c
def lenR (c : Nat) (r : List TRow) : Prop := r.length ≤ c ∧ ∀ x ∈ r, x.cells.length ≤ c
def lenV (c : Nat) (v : bs_) : Prop := lenQ c v.q ∧ lenR c v.rows ∧ v.kids.length ≤ c
end Go.Pi
end
section
set_option linter.unusedVariables false
set_option maxRecDepth 100000
set_option linter.unusedSimpArgs false
namespace Go.Pi
def j8_ (r : TRow) (col : Int) : Int := cond (inn col 0 (W ((r.cells.length : Int) - 1))) (r.cells.getD col.toNat 0) 0
theorem iG_ {r : TRow} {col : Int} (hr : r.cells.length ≤ b9_) : Ev (fun n _ => cm_ n r col) (j8_ r col) := by
  refine aF_ ?_
  have e := @W_dn r.cells.length hr
  simp only [cm_, l1In_b, ax_, bO_, al_, j8_]
  cases hi : inn col 0 (W ((r.cells.length : Int) - 1)) with
  | false => simp
  | true => have := gI_ hi; exact ⟨fun h => (by cases h), fun _ => ⟨by omega, rfl⟩⟩
theorem cellOf_ev {r : TRow} {col : Int} (hr : r.cells.length ≤ b9_) : Ev (fun n _ => cv_ n r col) (j8_ r col) := by
  refine aF_ ?_
  have e := @W_dn r.cells.length hr
  simp only [cv_, gn_, ax_, bO_, al_, j8_]
  cases hi : inn col 0 (W ((r.cells.length : Int) - 1)) with
  | false => simp
  | true => have := gI_ hi; exact ⟨fun h => (by cases h), fun _ => ⟨by omega, rfl⟩⟩
theorem hd_ {rows : List TRow} (hr : lenR b9_ rows) (i : Nat) : (rows.getD i TRow.dflt).cells.length ≤ b9_ := by
  by_cases h : i < rows.length
  · exact hr.2 _ (bX_ _ h)
  · rw [List.getD_eq_getElem?_getD, List.getElem?_eq_none (by omega)]; exact Nat.zero_le _
end Go.Pi
end
section
set_option linter.unusedVariables false
set_option linter.unusedSimpArgs false
namespace Go.Pi
def dval (l : Bs) : Nat := l.foldl (fun a c => 10 * a + (c.toNat - 48)) 0
theorem dval_snoc (l : Bs) (c : UInt8) : dval (l ++ [c]) = 10 * dval l + (c.toNat - 48) := by simp [dval]
theorem e1_ {u : Nat} (h : u < 10) : (UInt8.ofNat (48 + u)).toNat = 48 + u := by
  rw [UInt8.toNat_ofNat']; omega
theorem hF_ (u : Nat) : dval (Lib.decDigits u) = u := by
  induction u using Nat.strongRecOn with
  | _ u ih =>
    rw [Lib.decDigits]
    by_cases h : u < 10
    · rw [dif_pos h]; simp only [dval, List.foldl_cons, List.foldl_nil, e1_ h]; omega
    · rw [dif_neg h, dval_snoc, ih _ (by omega), e1_ (Nat.mod_lt _ (by decide))]; omega
theorem dec_all (u : Nat) : ∀ c ∈ Lib.decDigits u, 48 ≤ c.toNat ∧ c.toNat ≤ 57 := by
  induction u using Nat.strongRecOn with
  | _ u ih =>
    rw [Lib.decDigits]
    by_cases h : u < 10
    · rw [dif_pos h]; intro c hc
      rw [List.mem_singleton.1 hc, e1_ h]; omega
    · rw [dif_neg h]; intro c hc
      rcases List.mem_append.1 hc with hc | hc
      · exact ih _ (by omega) c hc
      · rw [List.mem_singleton.1 hc, e1_ (Nat.mod_lt _ (by decide))]; omega
theorem lc_ {u : Nat} {l : Bs} : Lib.decDigits u ≠ 45 :: l := fun e => by
  have := (dec_all u 45 (by rw [e]; exact List.mem_cons_self ..)).1
  revert this; decide
theorem itoa_inj {x y : Int} (h : Lib.itoa x = Lib.itoa y) : x = y := by
  unfold Lib.itoa at h
  by_cases hx : x < 0 <;> by_cases hy : y < 0
  · rw [if_pos hx, if_pos hy] at h
    have := congrArg dval (List.cons.inj h).2
    rw [hF_, hF_] at this; omega
  · rw [if_pos hx, if_neg hy] at h; exact absurd h.symm lc_
  · rw [if_neg hx, if_pos hy] at h; exact absurd h lc_
  · rw [if_neg hx, if_neg hy] at h
    have := congrArg dval h
    rw [hF_, hF_] at this; omega
def dC_ (c : Int) : Bs := 99 :: Lib.itoa c
theorem ip_ {x y : Int} (h : dC_ x = dC_ y) : x = y := itoa_inj (List.cons.inj h).2
def dO_ (r : TRow) (c : Int) : Bs × Int := (dC_ c, j8_ r c)
def c1_ (ps : List (Bs × Int)) (l : List (Bs × Int)) : List (Bs × Int) := ps.foldl (fun l p => ins p.1 p.2 l) l
theorem eX_ (ps : List (Bs × Int)) (p : Bs × Int) (l : List (Bs × Int)) : c1_ (ps ++ [p]) l = ins p.1 p.2 (c1_ ps l) := by simp [c1_]
theorem dS_ : ∀ (ps : List (Bs × Int)) {l : List (Bs × Int)}, dL_ l → dL_ (c1_ ps l)
  | [], _, h => h
  | p :: ps, _, h => dS_ ps (jQ_ h)
theorem fK_ : ∀ {ps : List (Bs × Int)} {l : List (Bs × Int)} {p : Bs × Int}, p ∈ c1_ ps l → p ∈ ps ∨ p ∈ l
  | [], _, _, h => .inr h
  | q :: ps, l, p, h => by
    rcases fK_ (ps := ps) h with h | h
    · exact .inl (List.mem_cons_of_mem _ h)
    · rcases jO_ h with h | h
      · exact .inl (h ▸ List.mem_cons_self ..)
      · exact .inr h
theorem jP_ {x : Bs} {y : Int} : ∀ {l : List (Bs × Int)}, (ins x y l).length ≤ l.length + 1
  | [] => Nat.le_refl _
  | (k, v) :: l => by
    have := jP_ (x := x) (y := y) (l := l)
    simp only [ins]
    split
    · simp only [List.length_cons]; omega
    · split <;> simp only [List.length_cons] <;> omega
theorem ed_ : ∀ {ps : List (Bs × Int)} {l : List (Bs × Int)}, (c1_ ps l).length ≤ l.length + ps.length
  | [], _ => Nat.le_refl _
  | p :: ps, l => by
    have := ed_ (ps := ps) (l := ins p.1 p.2 l)
    have h := jP_ (x := p.1) (y := p.2) (l := l)
    simp only [List.length_cons]
    show (c1_ ps (ins p.1 p.2 l)).length ≤ _
    omega
theorem ins_has {x : Bs} {y : Int} : ∀ {l : List (Bs × Int)}, dL_ l → (x, y) ∈ l → ins x y l = l
  | [], _, h => by cases h
  | (k, v) :: l, ha, h => by
    simp only [ins]
    rcases List.mem_cons.1 h with e | h
    · cases e; rw [if_neg (List.lt_irrefl _), if_pos rfl]
    · have hk := ha.1 _ h
      rw [if_pos hk, ins_has ha.2 h]
theorem hn_ {x : Bs} {y : Int} : ∀ {l : List (Bs × Int)}, (x, y) ∈ ins x y l
  | [] => List.mem_cons_self ..
  | (k, v) :: l => by
    simp only [ins]
    split
    · exact List.mem_cons_of_mem _ hn_
    · split <;> exact List.mem_cons_self ..
theorem mem_ins {x x' : Bs} {y y' : Int} (hne : x ≠ x') : ∀ {l : List (Bs × Int)}, (x, y) ∈ l → (x, y) ∈ ins x' y' l
  | [], h => by cases h
  | (k, v) :: l, h => by
    simp only [ins]
    split
    · rcases List.mem_cons.1 h with e | h
      · exact e ▸ List.mem_cons_self ..
      · exact List.mem_cons_of_mem _ (mem_ins hne h)
    · split
      · rename_i h1 h2
        rcases List.mem_cons.1 h with e | h
        · cases e; exact absurd h2 hne
        · exact List.mem_cons_of_mem _ h
      · exact List.mem_cons_of_mem _ h
def dm_ (l : List Int) : Nat → List Int
  | 0 => []
  | i + 1 => if l.getD i 0 ∈ l.take i then dm_ l i else dm_ l i ++ [l.getD i 0]
theorem he_ {l : List Int} : ∀ {i : Nat} {c : Int}, i ≤ l.length → (c ∈ dm_ l i ↔ c ∈ l.take i)
  | 0, c, _ => by simp [dm_]
  | i + 1, c, h => by
    simp only [dm_]
    rw [dg_ 0 (show i < l.length by omega)]
    split
    · rename_i hm
      rw [he_ (by omega), List.mem_append, List.mem_singleton]
      exact ⟨.inl, fun h => h.elim id fun e => e ▸ hm⟩
    · rw [List.mem_append, List.mem_append, he_ (by omega)]
theorem fN_ {l : List Int} : ∀ {i : Nat}, (dm_ l i).length ≤ i
  | 0 => Nat.le_refl _
  | i + 1 => by
    have := fN_ (l := l) (i := i)
    simp only [dm_]
    split
    · omega
    · simp; omega
theorem fw_ {l : List Int} : ∀ {i : Nat}, i ≤ l.length → (dm_ l i).Nodup
  | 0, _ => List.nodup_nil
  | i + 1, h => by
    simp only [dm_]
    split
    · exact fw_ (by omega)
    · rename_i hm
      rw [List.nodup_append]
      refine ⟨fw_ (by omega), by simp, fun a ha b hb => ?_⟩
      rw [List.mem_singleton.1 hb]
      rw [he_ (by omega)] at ha
      exact fun e => hm (e ▸ ha)
theorem nv_ {r : TRow} {l0 : List (Bs × Int)} {cs : List Int} {c : Int} (h : c ∈ cs) : dO_ r c ∈ c1_ (cs.map (dO_ r)) l0 := by
  induction cs generalizing l0 with
  | nil => cases h
  | cons d cs ih =>
    show dO_ r c ∈ c1_ (cs.map (dO_ r)) (ins (dC_ d) (j8_ r d) l0)
    by_cases hc : c ∈ cs
    · exact ih hc
    · have e : c = d := (List.mem_cons.1 h).resolve_right hc
      subst e
      have key : ∀ (es : List Int) (m : List (Bs × Int)), c ∉ es → dO_ r c ∈ m → dO_ r c ∈ c1_ (es.map (dO_ r)) m := by
        intro es
        induction es with
        | nil => exact fun m _ h => h
        | cons e es ih =>
          intro m hn hm
          refine ih _ (fun h => hn (List.mem_cons_of_mem _ h)) (mem_ins (fun h => hn ?_) hm)
          rw [ip_ h]; exact List.mem_cons_self ..
      exact key cs _ hc hn_
theorem gH_ {r : TRow} {l0 : List (Bs × Int)} (h0 : dL_ l0) {l : List Int} : ∀ {i : Nat}, i ≤ l.length → c1_ ((dm_ l i).map (dO_ r)) l0 = c1_ ((l.take i).map (dO_ r)) l0
  | 0, _ => by simp [dm_]
  | i + 1, h => by
    rw [dg_ 0 (show i < l.length by omega), List.map_append]
    simp only [dm_]
    have ih := gH_ (r := r) h0 (l := l) (i := i) (by omega)
    have e := eX_ ((l.take i).map (dO_ r)) (dO_ r (l.getD i 0)) l0
    split
    · rename_i hm
      rw [ih]
      refine Eq.symm (e.trans (ins_has (dS_ _ h0) (nv_ hm)))
    · rw [List.map_append]
      refine (eX_ _ _ _).trans ?_
      rw [ih]
      exact e.symm
theorem i6_ {x : Bs} {y : Int} : ∀ {ps : List (Bs × Int)} {l : List (Bs × Int)}, (∀ p ∈ ps, p.1 ≠ x) → c1_ ps (ins x y l) = ins x y (c1_ ps l)
  | [], _, _ => rfl
  | p :: ps, l, h => by
    show c1_ ps (ins p.1 p.2 (ins x y l)) = ins x y (c1_ ps (ins p.1 p.2 l))
    rw [mI_ (h p (List.mem_cons_self ..)), i6_ fun q hq => h q (List.mem_cons_of_mem _ hq)]
end Go.Pi
end
section
set_option linter.unusedVariables false
set_option maxRecDepth 100000
set_option linter.unusedSimpArgs false
namespace Go.Pi
theorem nm_ {k x : Bs} {ns : List Bs} : du_ (k :: ns) x = if k < x then du_ ns x + 1 else 0 := by
  by_cases h : k < x
  · have hb : Op.bytesLess k x = true := by rw [ei_]; exact decide_eq_true h
    rw [if_pos h]; unfold du_; rw [List.findIdx_cons]; simp [hb]
  · have hb : Op.bytesLess k x = false := by rw [ei_]; exact decide_eq_false h
    rw [if_neg h]; unfold du_; rw [List.findIdx_cons]; simp [hb]
theorem m4_ {x : Bs} : ∀ {l : List (Bs × Int)}, dL_ l → ∀ h, h < (l.map (·.1)).length → Op.bytesLess ((l.map (·.1)).getD h []) x = decide (h < du_ (l.map (·.1)) x)
  | [], _, h, hh => by simp at hh
  | (k, v) :: l, ha, h, hh => by
    rw [ei_]
    simp only [List.map_cons, nm_]
    cases h with
    | zero =>
      simp only [List.getD_cons_zero]
      by_cases hk : k < x
      · rw [if_pos hk, decide_eq_true hk]; simp
      · rw [if_neg hk, decide_eq_false hk]; simp
    | succ h =>
      have hh' : h < (l.map (·.1)).length := by simpa using hh
      simp only [List.getD_cons_succ]
      by_cases hk : k < x
      · have := m4_ (x := x) ha.2 h hh'
        rw [ei_] at this
        rw [if_pos hk, this]
        simp
      · rw [if_neg hk]
        have hm := bX_ (d := ([] : Bs)) (a := l.map (·.1)) hh'
        obtain ⟨p, hp, e⟩ := List.mem_map.1 hm
        have : ¬ (l.map (·.1)).getD h [] < x := fun h2 => by
          rw [← e] at h2
          exact hk (List.lt_trans (ha.1 p hp) h2)
        rw [decide_eq_false this]; simp
theorem my_ {ns : List Bs} {x : Bs} (h : x ∉ ns) : eI_ ns x = du_ ns x := by
  unfold eI_
  rw [if_neg]
  rintro ⟨h1, h2⟩
  exact h (h1 ▸ bX_ [] h2)
theorem nn_ {α : Type} (d : α) {l : List α} (h : l.Nodup) {i : Nat} (hi : i < l.length) : l.getD i d ∉ l.take i := fun hm => by
  have := (List.take_sublist (i + 1) l).nodup h
  rw [dg_ d hi, List.nodup_append] at this
  exact this.2.2 _ hm _ (List.mem_singleton.2 rfl) rfl
theorem eZ_ {α β : Type} (f : α → β) (d : α) (e : β) {l : List α} {i : Nat} (h : i < l.length) : (l.map f).getD i e = f (l.getD i d) := by
  rw [List.getD_eq_getElem?_getD, List.getD_eq_getElem?_getD, List.getElem?_map, List.getElem?_eq_getElem h]; rfl
theorem jS_ {ps : List (Bs × Int)} (hl : ps.length ≤ 2000000) (hnd : (ps.map (·.1)).Nodup) : Ev (fun n _ => bi_ n (ps.map (·.1)) (ps.map (·.2))) (lt_ (c1_ ps [])) := by
  refine aF_ ?_
  simp only [bi_]
  let S : Nat → List aa_ × List Bs := fun i => ((c1_ (ps.take i) []).map (fun p => f3_ p.2), (c1_ (ps.take i) []).map (·.1))
  have := dE_ S ps.length (fun n N i (s : List aa_ × List Bs) => bi_.loop4 n (fun xy4 xy5 xy6 xy7 xy8 xy9 xy10 xy11 => (some (aa_.mk xy7 xy8 xy9 xy10 xy11))) N (ps.map (·.2)) (ps.map (·.1)) ((ps.map (·.1)).length : Int) (i : Int) 0 0 [] 5 0 [] s.1 s.2) (lt_ (c1_ ps [])) (fun i hi F hF => ?_) ?_
  · exact this
  · obtain ⟨l, hlv⟩ : ∃ l, l = c1_ (ps.take i) [] := ⟨_, rfl⟩
    obtain ⟨p, hp⟩ : ∃ p, p = ps.getD i ([], 0) := ⟨_, rfl⟩
    have e2 : c1_ (ps.take (i + 1)) [] = ins p.1 p.2 l := by rw [dg_ ([], 0) hi, eX_, hlv, hp]
    have ha : dL_ l := by rw [hlv]; exact dS_ _ trivial
    have hll : l.length ≤ i := by
      have := ed_ (ps := ps.take i) (l := [])
      rw [← hlv] at this; simp at this; omega
    have hi1 : i < (ps.map (·.1)).length := by simpa using hi
    have hi2 : i < (ps.map (·.2)).length := by simpa using hi
    have hx : p.1 ∉ l.map (·.1) := fun hm => by
      obtain ⟨q, hq, e⟩ := List.mem_map.1 hm
      rw [hlv] at hq
      have hq := (fK_ hq).resolve_right (by simp)
      have := nn_ [] hnd hi1
      rw [eZ_ (·.1) ([], 0) [] hi, ← hp, ← List.map_take] at this
      exact this (e ▸ List.mem_map_of_mem hq)
    have hps : ((l.map (·.1)).length : Nat) = l.length := by simp
    have hB := iE_ (ns := l.map (·.1)) (x := p.1) (by simp; omega) (m4_ ha)
    have hA : du_ (l.map (·.1)) p.1 ≤ l.length := by have := List.findIdx_le_length (xs := l.map (·.1)) (p := fun y => !Op.bytesLess y p.1); simpa [du_] using this
    have hN : Ev (fun n _ => bo_ n (l.map (·.1)) (du_ (l.map (·.1)) p.1 : Int) [p.1]) ((ins p.1 p.2 l).map (·.1)) := by
      refine aF_ ?_
      have e := gy_ (fun p => p.1) p.1 p.2 l
      unfold ls_ at e
      rw [my_ hx] at e
      simp only [bo_, fq_, ax_, al_, c3_, Int.toNat_natCast, e]
      simp; omega
    have hJ : Ev (fun n _ => bv_ n (l.map fun p => f3_ p.2) (du_ (l.map (·.1)) p.1 : Int) [f3_ p.2]) ((ins p.1 p.2 l).map fun p => f3_ p.2) := by
      refine aF_ ?_
      have e := gy_ (fun p => f3_ p.2) p.1 p.2 l
      unfold ls_ at e
      rw [my_ hx] at e
      simp only [bv_, fq_, ax_, al_, c3_, Int.toNat_natCast, e]
      simp; omega
    have g1 : (ps.map (·.1)).getD i [] = p.1 := by rw [eZ_ (·.1) ([], 0) [] hi, hp]
    have g2 : (ps.map (·.2)).getD i 0 = p.2 := by rw [eZ_ (·.2) ([], 0) 0 hi, hp]
    simp only [S, e2, ← hlv] at hF ⊢
    unfold f3_ at hJ
    simp only [bi_.turn4, bi_.step4, Int.toNat_natCast, W_up hi1 (show (ps.map (·.1)).length ≤ b9_ by simp [b9_]; omega), c2_ hi1, cE_ hi1, cE_ hi2, g1, g2, ax_, bO_, ag_ hB, ag_ hN]
    refine ⟨fun _ => ⟨trivial, trivial, ?_⟩, fun h => (by cases h)⟩
    unfold f3_ at hF ⊢
    simp only [ag_ hJ]
    exact hF
  · have e : ((ps.map (·.1)).length : Int) = (ps.length : Int) := by simp
    simp only [bi_.turn4, bi_.step4, e, cU_, cond_false, al_, S, List.take_length]
    rfl
end Go.Pi
end
