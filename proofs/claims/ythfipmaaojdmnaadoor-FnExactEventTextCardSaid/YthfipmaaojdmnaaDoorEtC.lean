/- The card of FnExactEventText: the law returns true at every input, and leaves its arguments unchanged; no condition. Text 3 of 5. -/
import Derived.Test.YthfipmaaojdmnaaDoorEtB
import Derived.Deep.LoopGhost
import Derived.Scope
import Derived.Lib.ItoaNum
import Derived.Lib.Join
import Derived.Lib.Replace
import Derived.Shelf.LaysM
import Derived.Shelf.Strconv.Itoa3
import Derived.Lib.LaidTab
import Derived.Test.YthfipmaaojdmnaaDoorChecked
section
set_option linter.unusedVariables false
namespace Go.Pi
variable {ω : Type}
def namesAt (e : Nat) (x : X) (vs : List AV) : List Nat := close x.h 2 (addNew (List.range e) (vs.flatMap AV.refsD))
theorem namesAt_nodup (e : Nat) (x : X) (vs : List AV) : (namesAt e x vs).Nodup := (close_ok 2 _).1 (addNew_nodup _ _ List.nodup_range)
theorem namesAt_keep (e : Nat) (x : X) (vs : List AV) (k : Nat) (h : k < e) : (namesAt e x vs)[k]? = some k :=
  (close_ok 2 _).2 k k (addNew_keep _ _ k k (by simp [h]))
def look : List (Nat × Sh) → List AV → Nat → AV
  | p :: l, v :: vs, t => cond (Nat.beq p.1 t) v (look l vs t)
  | _, _, _ => .u
def St.ofC (live : List (Nat × Sh)) (vals : List AV) (blks : List (Option Blk)) : St := ⟨look live vals, X.ofL blks⟩
section
variable [Coding]
def cutK (e : Nat) (live : List (Nat × Sh)) (s : St) (κ : List AV → List (Option Blk) → Option ω) : Option ω :=
  coerces s.x 1000000 (live.map fun p => p.2) (live.map fun p => s.tmps p.1) fun x vs =>
    κ (vs.map (AV.renD (namesAt e x vs))) (renL 2 x (namesAt e x vs))
end
/-- the number of places that may be cut -/
def nc : Code → Nat
  | .seq a b => nc a + nc b + 1
  | .cond _ a b => nc a + nc b
  | .block _ a => nc a
  | .scope a => nc a
  | .loop a => nc a + 1
  | _ => 0
abbrev Live := List (Nat × Sh)
/-- what lives at a cut, behind a joint, at an exit -/
structure Ann where
  cut : Nat → Option Live
  nxt : Nat → Live
  out : Nat → Live
abbrev D (ω : Type) := List AV → List (Option Blk) → Option ω
abbrev LF (ω : Type) := Nat → D ω → (Nat → D ω) → D ω
inductive Piece where
  | loop (a : Code) (k : Nat)
  | tail (a : Code) (k : Nat)
/-- what stands at a cut -/
def pieceAt (ann : Ann) : Code → Nat → Nat → Option Piece
  | .seq a b, k, key => cond (Nat.beq key k) (some (.tail b (k + 1 + nc a))) (cond (Nat.blt key (k + 1 + nc a)) (pieceAt ann a (k + 1) key) (pieceAt ann b (k + 1 + nc a) key))
  | .cond _ a b, k, key => cond (Nat.blt key (k + nc a)) (pieceAt ann a k key) (pieceAt ann b (k + nc a) key)
  | .block _ a, k, key => pieceAt ann a k key
  | .scope a, k, key => pieceAt ann a k key
  | .loop a, k, key => cond (Nat.beq key k) (some (.loop a (k + 1))) (pieceAt ann a (k + 1) key)
  | _, _, _ => none
theorem piece_range {ann : Ann} : ∀ (C : Code) (k key : Nat) (p : Piece), pieceAt ann C k key = some p → k ≤ key ∧ key < k + nc C
  | .seq a b, k, key, p, h => by
    simp only [pieceAt] at h
    cases h1 : Nat.beq key k with
    | true => have := beq_iff.1 h1; simp only [nc]; omega
    | false =>
      rw [h1] at h
      simp only [cond_false] at h
      cases h2 : Nat.blt key (k + 1 + nc a) with
      | true => rw [h2] at h; have := piece_range a _ _ _ h; simp only [nc]; omega
      | false => rw [h2] at h; have := piece_range b _ _ _ h; simp only [nc]; omega
  | .cond o a b, k, key, p, h => by
    simp only [pieceAt] at h
    cases h2 : Nat.blt key (k + nc a) with
    | true => rw [h2] at h; have := piece_range a _ _ _ h; simp only [nc]; omega
    | false => rw [h2] at h; have := piece_range b _ _ _ h; simp only [nc]; omega
  | .block id a, k, key, p, h => by
    simp only [pieceAt] at h
    have := piece_range a _ _ _ h
    simp only [nc]; omega
  | .scope a, k, key, p, h => by
    simp only [pieceAt] at h
    have := piece_range a _ _ _ h
    simp only [nc]; omega
  | .loop a, k, key, p, h => by
    simp only [pieceAt] at h
    cases h1 : Nat.beq key k with
    | true => have := beq_iff.1 h1; simp only [nc]; omega
    | false =>
      rw [h1] at h
      have := piece_range a _ _ _ h
      simp only [nc]; omega
  | .skip, _, _, _, h => by simp [pieceAt] at h
  | .region .., _, _, _, h => by simp [pieceAt] at h
  | .rangeFunc .., _, _, _, h => by simp [pieceAt] at h
  | .exit .., _, _, _, h => by simp [pieceAt] at h
  | .label .., _, _, _, h => by simp [pieceAt] at h
  | .goto .., _, _, _, h => by simp [pieceAt] at h
  | .ret, _, _, _, h => by simp [pieceAt] at h
  | .refuse .., _, _, _, h => by simp [pieceAt] at h
section
variable [Coding]
def run (c : Cx) (e : Nat) (ann : Ann) (lf : LF ω) (κr : St → Option ω) : Code → Nat → (St → Option ω) → (Nat → St → Option ω) → St → Option ω
  | .seq a b, k, κn, κx, s => match ann.cut k with
    | some live => run c e ann lf κr a (k + 1) (fun s => cutK e live s (lf k (fun v b => κn (St.ofC (ann.nxt k) v b)) (fun j v b => κx j (St.ofC (ann.out j) v b)))) κx s
    | none => run c e ann lf κr a (k + 1) (fun s => run c e ann lf κr b (k + 1 + nc a) κn κx s) κx s
  | .cond o a b, k, κn, κx, s => match s.eval o with
    | .b t => cond t (run c e ann lf κr a k κn κx s) (run c e ann lf κr b (k + nc a) κn κx s)
    | _ => none
  | .block id a, k, κn, κx, s => run c e ann lf κr a k κn (fun j s => cond (Nat.beq j id) (κn s) (κx j s)) s
  | .scope a, k, κn, κx, s => run c e ann lf κr a k κn κx s
  | .loop _, k, _, κx, s => match ann.cut k with
    | some live => cutK e live s (lf k (fun _ _ => none) (fun j v b => κx j (St.ofC (ann.out j) v b)))
    | none => none
  | .region _ ops d, _, κn, _, s => regK c ops d s κn
  | .skip, _, κn, _, s => κn s
  | .exit id, _, _, κx, s => κx id s
  | .ret, _, _, _, s => κr s
  | _, _, _, _, _ => none
/-- so many rounds of a loop -/
def rounds (c : Cx) (e : Nat) (ann : Ann) (lf : LF ω) (κr : St → Option ω) (a : Code) (k : Nat) (live : Live) (κe : Nat → D ω) : Nat → D ω
  | 0, _, _ => none
  | n + 1, v, b => run c e ann lf κr a k (fun s => cutK e live s (rounds c e ann lf κr a k live κe n)) (fun j s => cutK e (ann.out j) s (κe j)) (St.ofC live v b)
/-- what a piece makes of the data at its cut -/
def pieceIs (c : Cx) (e : Nat) (ann : Ann) (lf : LF ω) (κr : St → Option ω) (key : Nat) (live : Live) (κd : D ω) (κe : Nat → D ω) (v : List AV) (b : List (Option Blk)) (r : ω) : Piece → Prop
  | .loop a k => ∃ n, rounds c e ann lf κr a k live κe n v b = some r
  | .tail a k => run c e ann lf κr a k (fun s => cutK e (ann.nxt key) s κd) (fun j s => cutK e (ann.out j) s (κe j)) (St.ofC live v b) = some r
end
variable [Coding]
open Coding
variable {E : Env} {w : World} {G : Ghost} {r : ω}
omit [Coding] in
theorem look_ok {P : AV → Value → Prop} {Q : AV → Prop} {a : Nat → Value} (hu : ∀ v, P .u v) (qu : Q .u) : ∀ {live : List (Nat × Sh)} {vals : List AV}, AllF P vals (live.map fun p => a p.1) → (∀ v ∈ vals, Q v) → ∀ t, P (look live vals t) (a t) ∧ Q (look live vals t)
  | [], [], _, _, t => ⟨hu _, qu⟩
  | [], _ :: _, h, _, _ => h.elim
  | _ :: _, [], h, _, _ => h.elim
  | p :: l, v :: vs, h, hq, t => by
    simp only [look]
    cases hb : Nat.beq p.1 t with
    | true => have := beq_iff.1 hb; subst this; exact ⟨h.1, hq v (List.mem_cons_self ..)⟩
    | false => exact look_ok hu qu h.2 (fun v hv => hq v (List.mem_cons_of_mem _ hv)) t
/-- a cut is sound -/
theorem cut_sound [CodingOk] {c : Cx} {s : St} {a : Act} {e : Nat} {x0 : X} {w0 : World} {G0 : Ghost} (h : Sim E c s a w G) (he : Ent e x0) (ev : Evo x0 w0 G0 s.x w G) {live : List (Nat × Sh)} {κ : List AV → List (Option Blk) → Option ω} (hk : cutK e live s κ = some r) :
    ∃ vals blks G', κ vals blks = some r ∧ Sim E c (St.ofC live vals blks) a w G' ∧ Evo x0 w0 G0 (X.ofL blks) w G' := by
  unfold cutK at hk
  have h1 : AllF (RT E w s.x G) (live.map fun p => s.tmps p.1) (live.map fun p => a.tmps.getD p.1 undef) := by
    clear hk
    induction live with
    | nil => trivial
    | cons p l ih => exact ⟨h.slot p.1, ih⟩
  obtain ⟨x1, G1, vs, k1, s1, v1, u1⟩ := coerces_sound _ _ _ _ _ _ _ h.mem h1 (fun v hv => by
    obtain ⟨p, _, rfl⟩ := List.mem_map.1 hv
    exact h.used p.1) hk
  refine ⟨_, _, G1.ren (namesAt e x1 vs), k1, ?_, (ev.trans s1.1).ren (by decide) he (namesAt_keep e x1 vs)⟩
  have h2 : AllF (fun a v => RT E w (X.ofL (renL 2 x1 (namesAt e x1 vs))) (G1.ren (namesAt e x1 vs)) a v) (vs.map (AV.renD (namesAt e x1 vs))) (live.map fun p => a.tmps.getD p.1 undef) := by
    clear k1
    generalize (live.map fun p => a.tmps.getD p.1 undef) = us at v1
    generalize namesAt e x1 vs = L
    induction vs generalizing us with
    | nil => cases us with
      | nil => trivial
      | cons => exact v1.elim
    | cons v vs ih => cases us with
      | nil => exact v1.elim
      | cons u us => exact ⟨(RT.ren v1.1).1, ih (fun a ha => u1 a (List.mem_cons_of_mem _ ha)) us v1.2⟩
  have h3 : ∀ v ∈ vs.map (AV.renD (namesAt e x1 vs)), Used (X.ofL (renL 2 x1 (namesAt e x1 vs))) v.refsT := by
    intro v hv
    obtain ⟨v0, hv0, rfl⟩ := List.mem_map.1 hv
    have : ∃ u, RT E w x1 G1 v0 u := by
      clear h2 hv h1
      generalize (live.map fun p => a.tmps.getD p.1 undef) = us at v1
      clear k1 u1
      induction vs generalizing us with
      | nil => cases hv0
      | cons v vs ih => cases us with
        | nil => exact v1.elim
        | cons u us =>
          rcases List.mem_cons.1 hv0 with rfl | hv0
          · exact ⟨u, v1.1⟩
          · exact ih hv0 us v1.2
    obtain ⟨u, hu⟩ := this
    exact (RT.ren hu).2
  have h4 := look_ok (P := RT E w (X.ofL (renL 2 x1 (namesAt e x1 vs))) (G1.ren (namesAt e x1 vs))) (Q := fun v => Used (X.ofL (renL 2 x1 (namesAt e x1 vs))) v.refsT) (a := fun t => a.tmps.getD t undef) (fun v => RT.scl trivial) used_nil h2 h3
  exact ⟨s1.2.ren (namesAt_nodup _ _ _), h.defers, h.size, fun t => (h4 t).1, fun t => (h4 t).2⟩
end Go.Pi
end
section
set_option linter.unusedVariables false
namespace Go.Pi
variable {ω : Type}
variable [Coding]
open Coding
variable {E : Env} {w : World} {G : Ghost} {r : ω}
structure Fix (ω : Type) where
  c : Cx
  e : Nat
  ann : Ann
  lf : LF ω
  κr : St → Option ω
  x0 : X
  w0 : World
  G0 : Ghost
/-- where a state has come -/
def Here (E : Env) (f : Fix ω) (r : ω) (κ : St → Option ω) (a : Act) (w : World) : Prop :=
  ∃ s G, κ s = some r ∧ Sim E f.c s a w G ∧ Evo f.x0 f.w0 f.G0 s.x w G
def Post (E : Env) (f : Fix ω) (r : ω) (κn : St → Option ω) (κx : Nat → St → Option ω) : Exit → Act → World → Prop
  | .normal, a, w => Here E f r κn a w
  | .exit id, a, w => Here E f r (κx id) a w
  | .ret, a, w => Here E f r f.κr a w
  | _, _, _ => False
structure FixOk (E : Env) (f : Fix ω) : Prop where
  cx : CxOk E f.c
  ent : Ent f.e f.x0
  par : KPar f.c
  mixed : E.P.follows .mixedOrders = true
theorem Here.cut [CodingOk] {f : Fix ω} (hf : FixOk E f) {live : Live} {κ : D ω} {a : Act} (h : Here E f r (fun s => cutK f.e live s κ) a w) :
    ∃ v b G, κ v b = some r ∧ Sim E f.c (St.ofC live v b) a w G ∧ Evo f.x0 f.w0 f.G0 (X.ofL b) w G := by
  obtain ⟨s, G, h1, h2, h3⟩ := h
  exact cut_sound h2 hf.ent h3 h1
/-- what the cuts' names stand for -/
def Cuts (c : Cx) (e : Nat) (ann : Ann) (lf : LF ω) (κr : St → Option ω) (B : Code) : Prop :=
  ∀ key κd κe v b (r : ω), lf key κd κe v b = some r → ∃ live p, ann.cut key = some live ∧ pieceAt ann B 0 key = some p ∧ pieceIs c e ann lf κr key live κd κe v b r p
theorem run_wp [CodingOk] {f : Fix ω} (hf : FixOk E f) {B : Code} (hcut : Cuts f.c f.e f.ann f.lf f.κr B) :
    ∀ (C : Code) (k : Nat) (κn : St → Option ω) (κx : Nat → St → Option ω),
      (∀ key p, pieceAt f.ann C k key = some p → pieceAt f.ann B 0 key = some p) →
      ∀ (s : St) (a : Act) (w : World) (G : Ghost), Sim E f.c s a w G → Evo f.x0 f.w0 f.G0 s.x w G → run f.c f.e f.ann f.lf f.κr C k κn κx s = some r → C.wp E.P (Post E f r κn κx) a w := by
  intro C
  induction C with
  | skip => intro k κn κx hl s a w G h ev hr; exact wp_skip ⟨s, G, hr, h, ev⟩
  | ret => intro k κn κx hl s a w G h ev hr; exact wp_ret ⟨s, G, hr, h, ev⟩
  | exit id => intro k κn κx hl s a w G h ev hr; exact wp_exit ⟨s, G, hr, h, ev⟩
  | rangeFunc => intro k κn κx hl s a w G h ev hr; cases hr
  | label => intro k κn κx hl s a w G h ev hr; cases hr
  | goto => intro k κn κx hl s a w G h ev hr; cases hr
  | refuse => intro k κn κx hl s a w G h ev hr; cases hr
  | region id ops d =>
    intro k κn κx hl s a w G h ev hr
    simp only [run] at hr
    exact reg_wp hf.cx hf.par hf.mixed h hr fun a' w' ⟨s', G', h1, h2, h3⟩ => ⟨s', G', h1, h2, ev.trans h3⟩
  | cond o A B' ihA ihB =>
    intro k κn κx hl s a w G h ev hr
    simp only [run] at hr
    have ho := (h.eval o).1
    revert hr ho
    cases ht : s.eval o <;> intro hr ho <;> (try (cases hr; done))
    rename_i t
    refine wp_cond ho.b ?_
    cases t with
    | true =>
      refine ihA k κn κx (fun key p hg => hl key p ?_) s a w G h ev hr
      have := piece_range _ _ _ _ hg
      simp only [pieceAt, blt_iff.2 this.2, cond_true]; exact hg
    | false =>
      refine ihB (k + nc A) κn κx (fun key p hg => hl key p ?_) s a w G h ev hr
      have := piece_range _ _ _ _ hg
      simp only [pieceAt, blt_no this.1, cond_false]; exact hg
  | block id A ih =>
    intro k κn κx hl s a w G h ev hr
    simp only [run] at hr
    refine wp_block (wp_mono (ih k κn (fun j s => cond (Nat.beq j id) (κn s) (κx j s)) (fun key p hg => hl key p hg) s a w G h ev hr) fun e a' w' hq => ?_)
    cases e <;> simp only [Post, Exit.inBlock] at hq ⊢ <;> (try exact hq)
    rename_i j
    by_cases e : j = id
    · subst e
      simp only [Nat.beq_refl, cond_true] at hq
      rw [if_pos rfl]; exact hq
    · simp only [beq_no e, cond_false] at hq
      rw [if_neg e]; exact hq
  | scope A ih =>
    intro k κn κx hl s a w G h ev hr
    simp only [run] at hr
    refine wp_scope_straight (wp_mono (ih k κn κx (fun key p hg => hl key p hg) s a w G h ev hr) fun e a' w' hq => ?_)
    cases e <;> first | exact hq | exact hq.elim
  | seq A B' ihA ihB =>
    intro k κn κx hl s a w G h ev hr
    simp only [run] at hr
    have hA : ∀ key p, pieceAt f.ann A (k + 1) key = some p → pieceAt f.ann B 0 key = some p := fun key p hg => hl key p (by
      have := piece_range _ _ _ _ hg
      simp only [pieceAt, beq_no (show key ≠ k by omega), blt_iff.2 this.2, cond_true, cond_false]; exact hg)
    have hB : ∀ key p, pieceAt f.ann B' (k + 1 + nc A) key = some p → pieceAt f.ann B 0 key = some p := fun key p hg => hl key p (by
      have := piece_range _ _ _ _ hg
      simp only [pieceAt, beq_no (show key ≠ k by omega), blt_no this.1, cond_false]; exact hg)
    cases ha : f.ann.cut k with
    | none =>
      rw [ha] at hr
      refine wp_seq (wp_mono (ihA (k + 1) _ κx hA s a w G h ev hr) fun e a' w' hq => ?_)
      cases e <;> simp only [Exit.then] <;> (try exact hq)
      obtain ⟨s1, G1, k1, k2, k3⟩ := hq
      exact ihB (k + 1 + nc A) κn κx hB s1 a' w' G1 k2 k3 k1
    | some live =>
      rw [ha] at hr
      refine wp_seq (wp_mono (ihA (k + 1) _ κx hA s a w G h ev hr) fun e a' w' hq => ?_)
      cases e <;> simp only [Exit.then] <;> (try exact hq)
      obtain ⟨v, b, G2, j1, j2, j3⟩ := Here.cut hf hq
      obtain ⟨live', p, e1, e2, e3⟩ := hcut _ _ _ _ _ _ j1
      rw [ha] at e1
      cases e1
      have := hl k (.tail B' (k + 1 + nc A)) (by simp only [pieceAt, Nat.beq_refl, cond_true])
      rw [this] at e2
      cases e2
      refine wp_mono (ihB (k + 1 + nc A) _ _ hB _ a' w' G2 j2 j3 e3) fun e a2 w2 hq2 => ?_
      cases e <;> simp only [Post] at hq2 ⊢ <;> (try exact hq2)
      · obtain ⟨v, b, G3, i1, i2, i3⟩ := Here.cut hf hq2
        exact ⟨_, G3, i1, i2, i3⟩
      · obtain ⟨v, b, G3, i1, i2, i3⟩ := Here.cut hf hq2
        exact ⟨_, G3, i1, i2, i3⟩
  | loop A ih =>
    intro k κn κx hl s a w G h ev hr
    simp only [run] at hr
    cases ha : f.ann.cut k with
    | none => rw [ha] at hr; cases hr
    | some live =>
      rw [ha] at hr
      obtain ⟨v, b, G2, j1, j2, j3⟩ := cut_sound h hf.ent ev hr
      obtain ⟨live', p, e1, e2, e3⟩ := hcut _ _ _ _ _ _ j1
      rw [ha] at e1
      cases e1
      have := hl k (.loop A (k + 1)) (by simp only [pieceAt, Nat.beq_refl, cond_true])
      rw [this] at e2
      cases e2
      obtain ⟨N, hN⟩ := e3
      have hA : ∀ key p, pieceAt f.ann A (k + 1) key = some p → pieceAt f.ann B 0 key = some p := fun key p hg => hl key p (by
        have := piece_range _ _ _ _ hg
        simp only [pieceAt, beq_no (show key ≠ k by omega), cond_false]; exact hg)
      refine wp_loop_ghost (fun n a w => ∃ v b G, rounds f.c f.e f.ann f.lf f.κr A (k + 1) live (fun j v b => κx j (St.ofC (f.ann.out j) v b)) n v b = some r ∧ Sim E f.c (St.ofC live v b) a w G ∧ Evo f.x0 f.w0 f.G0 (X.ofL b) w G) N ⟨v, b, G2, hN, j2, j3⟩ fun n a w ⟨v, b, G, j1, j2, j3⟩ => ?_
      cases n with
      | zero => cases j1
      | succ n =>
        refine wp_mono (ih (k + 1) _ _ hA _ a w G j2 j3 j1) fun e a' w' hq => ?_
        cases e <;> simp only [Exit.then, Post] at hq ⊢ <;> (try exact hq)
        · obtain ⟨v, b, G3, i1, i2, i3⟩ := Here.cut hf hq
          exact ⟨n, Nat.lt_succ_self n, v, b, G3, i1, i2, i3⟩
        · obtain ⟨v, b, G3, i1, i2, i3⟩ := Here.cut hf hq
          exact ⟨_, G3, i1, i2, i3⟩
end Go.Pi
end
section
set_option linter.unusedVariables false
namespace Go.Pi
/-! ### A function: how it begins, how it ends -/
variable {ω : Type}
/-- the state in which a call begins: root 0 stands for all that others own -/
def xStart : X := ⟨fun r => cond (Nat.beq r 0) (some .ext) none, fun r => cond (Nat.beq r 0) true (Nat.beq r 1000003)⟩
mutual
/-- the memory that a call writes to for its caller -/
def outOf : PS → AV → Option (List AV)
  | .mu, .rt r => some [.rt r]
  | .ptr _, .pb r off => some [.pb r off]
  | .ag ps, .ag cs => outOfAll ps cs
  | .v, _ => some []
  | .o, _ => some []
  | _, _ => none
def outOfAll : List PS → List AV → Option (List AV)
  | p :: ps, a :: az => match outOf p a with
    | some l => match outOfAll ps az with
      | some l' => some (l ++ l')
      | none => none
    | none => none
  | [], [] => some []
  | _, _ => none
end
def entryK (e : Nat) (avs : List AV) (κ : D ω) : Option ω :=
  takenAll 0 xStart 1 avs fun x k az => cond (Nat.beq k e) (match x.h 0 with
    | some .ext => κ (az.map (AV.renD (List.range e))) (renL 1 x (List.range e))
    | _ => none) none
def rvOf (nres : Nat) (out : List AV) : AV := cond (Nat.beq nres 1) (out.headD .u) (.tu (out.take nres))
def live0 (n : Nat) : Live := (List.range n).map fun i => (i, .k)
section
variable [Coding]
def resOf (c : Cx) (s : St) : List ResultVar → Option (List AV)
  | [] => some []
  | .tmp t :: l => match resOf c s l with
    | some vs => some (s.tmps t :: vs)
    | none => none
  | .cell t T :: l => match c.tt T with
    | some td => match s.tmps t with
      | .pb q off => match s.x.h q with
        | some (.box bs) => cond (Nat.beq ((bs.drop off).take td.size).length td.size && ((bs.drop off).take td.size).all AV.cel) (match resOf c s l with
          | some vs => some (td.val ((bs.drop off).take td.size) :: vs)
          | none => none) none
        | _ => none
      | _ => none
    | none => none
def retK (c : Cx) (rsh : List Sh) (rps : List PS) (rs : List ResultVar) (outs : List AV) (fin : List AV → Option ω) (s : St) : Option ω :=
  match resOf c s rs with
  | none => none
  | some vs0 => coerces s.x 2000000 rsh (vs0 ++ outs) fun x vs => match handedAll x rps vs with
    | some (x3, avs, _, []) => match x3.h 0 with
      | some .ext => fin avs
      | _ => none
    | _ => none
end
variable [Coding]
open Coding
variable {E : Env} {w : World} {G : Ghost} {r : ω}
theorem out_aux [CodingOk] {x : X} : ∀ n : Nat,
    (∀ (p : PS) (a : AV) (v : Value) (os : List AV), SizeOf.sizeOf p < n → RT E w x G a v → Used x a.refsT → outOf p a = some os → AllF (RT E w x G) os (PS.outs p v) ∧ ∀ o ∈ os, Used x o.refsT) ∧
    (∀ (ps : List PS) (az : List AV) (vs : List Value) (os : List AV), SizeOf.sizeOf ps < n → AllF (RT E w x G) az vs → (∀ a ∈ az, Used x a.refsT) → outOfAll ps az = some os → AllF (RT E w x G) os (PS.outsAll ps vs) ∧ ∀ o ∈ os, Used x o.refsT) := by
  intro n
  induction n with
  | zero => exact ⟨fun _ _ _ _ h => absurd h (Nat.not_lt_zero _), fun _ _ _ _ h => absurd h (Nat.not_lt_zero _)⟩
  | succ n ih =>
    refine ⟨fun p a v os hn hv hu h => ?_, fun ps az vs os hn hv hu h => ?_⟩
    · cases p with
      | v => simp only [outOf, Option.some.injEq] at h; subst h; exact ⟨by simp only [PS.outs]; trivial, fun o ho => by cases ho⟩
      | o => simp only [outOf, Option.some.injEq] at h; subst h; exact ⟨by simp only [PS.outs]; trivial, fun o ho => by cases ho⟩
      | mu =>
        cases a <;> simp only [outOf] at h <;> (try (cases h; done))
        cases h
        exact ⟨by simp only [PS.outs]; exact ⟨hv, trivial⟩, fun o ho => by rw [List.mem_singleton] at ho; subst ho; exact hu⟩
      | ptr ps =>
        cases a <;> simp only [outOf] at h <;> (try (cases h; done))
        cases h
        exact ⟨by simp only [PS.outs]; exact ⟨hv, trivial⟩, fun o ho => by rw [List.mem_singleton] at ho; subst ho; exact hu⟩
      | ag ps =>
        cases a <;> simp only [outOf] at h <;> (try (cases h; done))
        rename_i cs
        obtain ⟨us, rfl, hall⟩ := hv.ag
        simp only [PS.outs]
        refine ih.2 ps cs us os (by simp at hn; omega) (hall.mono fun a v _ h => h.flat) (fun a ha => ?_) h
        have : ∃ v, RF E w x G a v := by
          clear hv hu h
          induction cs generalizing us with
          | nil => cases ha
          | cons c cs ih2 => cases us with
            | nil => exact hall.elim
            | cons u us =>
              rcases List.mem_cons.1 ha with rfl | ha
              · exact ⟨u, hall.1⟩
              · exact ih2 us hall.2 ha
        obtain ⟨v, hv'⟩ := this
        have hu' : Used x (cs.flatMap AV.refs) := hu
        exact hv'.refsT (hu'.mem ha)
    · cases ps with
      | nil =>
        cases az with
        | cons => simp [outOfAll] at h
        | nil =>
          cases vs with
          | cons => exact hv.elim
          | nil =>
            simp only [outOfAll, Option.some.injEq] at h
            subst h
            exact ⟨by simp only [PS.outsAll]; trivial, fun o ho => by cases ho⟩
      | cons p ps =>
        cases az with
        | nil => simp [outOfAll] at h
        | cons a az =>
          cases vs with
          | nil => exact hv.elim
          | cons v vs =>
            simp only [outOfAll] at h
            cases h1 : outOf p a with
            | none => rw [h1] at h; cases h
            | some l =>
              rw [h1] at h
              simp only at h
              cases h2 : outOfAll ps az with
              | none => rw [h2] at h; cases h
              | some l' =>
                rw [h2] at h
                simp only [Option.some.injEq] at h
                subst h
                obtain ⟨k1, k2⟩ := ih.1 p a v l (by simp at hn; omega) hv.1 (hu a (List.mem_cons_self ..)) h1
                obtain ⟨j1, j2⟩ := ih.2 ps az vs l' (by simp at hn; omega) hv.2 (fun a ha => hu a (List.mem_cons_of_mem _ ha)) h2
                simp only [PS.outsAll]
                exact ⟨k1.append j1, fun o ho => (List.mem_append.1 ho).elim (k2 o) (j2 o)⟩
theorem out_ok [CodingOk] {x : X} {ps : List PS} {az : List AV} {vs : List Value} {os : List AV} (hv : AllF (RT E w x G) az vs) (hu : ∀ a ∈ az, Used x a.refsT) (h : outOfAll ps az = some os) :
    AllF (RT E w x G) os (PS.outsAll ps vs) ∧ ∀ o ∈ os, Used x o.refsT := (out_aux (SizeOf.sizeOf ps + 1)).2 ps az vs os (Nat.lt_succ_self _) hv hu h
/-- how a call begins -/
structure Began (E : Env) (w : World) (F : Nat → Prop) (φ : Nat → Nat) (e : Nat) (Vs : List Value) (v : List AV) (b : List (Option Blk)) (G : Ghost) : Prop where
  mem : Mem E (X.ofL b) w G
  ent : Ent e (X.ofL b)
  slots : AllF (RT E w (X.ofL b) G) v Vs
  used : ∀ a ∈ v, Used (X.ofL b) a.refsT
  ext : ∀ c, G.φ 0 c ≠ 0 ↔ (F c ∧ φ c = 0)
  ext0 : (X.ofL b).h 0 = some .ext
  inF : ∀ c, Fof (X.ofL b) G c → F c
  u0 : (X.ofL b).u 0 = true
theorem entry_ok [CodingOk] {e : Nat} (he : 0 < e) {F : Nat → Prop} {avs : List AV} {Vs : List Value} {φ : Nat → Nat} (hrl : RL E w F avs Vs φ) (h1 : ∀ b, φ b ≤ 1) (hlow : ∀ b, F b → b < w.heap.size) (hgl : Glob E w F) {κ : D ω} (h : entryK e avs κ = some r) :
    ∃ v b G, κ v b = some r ∧ Began E w F φ e Vs v b G := by
  classical
  let G : Ghost := ⟨fun _ => undef, fun _ => [], fun r b => if r = 0 then (if F b ∧ φ b = 0 then 1 else 0) else if r = 1000003 then (if F b then 1 else 0) else 0, fun _ => 0⟩
  let x0 : X := ⟨fun r => cond (Nat.beq r 1000003) (some .ext) none, fun r => Nat.beq r 1000003⟩
  have hx : ∀ r blk, xStart.h r = some blk → r = 0 ∧ blk = .ext := by
    intro r blk hr
    simp only [xStart] at hr
    cases hb : Nat.beq r 0 with
    | false => rw [hb] at hr; cases hr
    | true => rw [hb] at hr; exact ⟨beq_iff.1 hb, (Option.some.inj hr).symm⟩
  have hfof : ∀ b, Fof xStart G b ↔ F b ∧ φ b = 0 := by
    intro b
    constructor
    · rintro ⟨r, blk, k1, k2⟩
      obtain ⟨rfl, rfl⟩ := hx r blk k1
      simp only [G, if_true] at k2
      by_cases hc : F b ∧ φ b = 0
      · exact hc
      · rw [if_neg hc] at k2; exact absurd rfl k2
    · intro hc
      exact ⟨0, .ext, rfl, by simp only [G, if_true]; rw [if_pos hc]; decide⟩
  have hfof0 : ∀ b, F b → Fof x0 G b := fun b hb => ⟨1000003, .ext, by simp [x0], by simp [G, hb]⟩
  have hφF : ∀ b, φ b ≠ 0 → F b := fun b hb => (hrl.low b hb).1
  have hA : After E x0 w G xStart xStart w G F (fun b => φ b + 0) := by
    refine ⟨⟨rfl, rfl, rfl, Nat.le_refl _, fun _ _ _ => rfl, fun b hb hF => hfof0 b ((hfof b).1 hF).1, fun r hr => ?_, fun r blk' hu hr => ?_, fun r b hu hr => ?_⟩, fun b hb => ((hfof b).1 hb).1, fun b hb => hφF b (by omega), fun b hb hF => ?_, fun b => by have := h1 b; omega, fun b hb _ => hfof0 b (hφF b (by omega)), fun b hb => (hrl.low b (by omega)).2, fun b hb => ?_, fun r blk hr => ?_, fun r blk hr => ?_, fun r r' blk blk' b k1 k2 _ _ => ?_⟩
    · have := beq_iff.1 (show Nat.beq r 1000003 = true from hr)
      subst this
      simp [xStart]
    · have := beq_iff.1 (show Nat.beq r 1000003 = true from hu)
      subst this
      have := (hx _ _ hr).1
      omega
    · have := beq_iff.1 (show Nat.beq r 1000003 = true from hu)
      subst this
      have := (hx _ _ hr).1
      omega
    · have := ((hfof b).1 hF).2; omega
    · by_cases hc : φ b = 0
      · exact .inl ((hfof b).2 ⟨hb, hc⟩)
      · exact .inr (by omega)
    · exact .inl ⟨hr, rfl, rfl, rfl, fun _ => rfl⟩
    · obtain ⟨rfl, rfl⟩ := hx r blk hr
      rfl
    · rw [(hx _ _ k1).1, (hx _ _ k2).1]
  unfold entryK at h
  obtain ⟨x', G', k', as', hk, hA', hv, _⟩ := (taken_aux 0 (SizeOf.sizeOf avs + 1)).2 avs 1 xStart G (fun _ => 0) φ Vs ω _ r (Nat.lt_succ_self _) hrl (hA.congr fun b => rfl) h
  cases hke : Nat.beq k' e with
  | false => rw [hke] at hk; cases hk
  | true =>
    rw [hke] at hk
    simp only [cond_true] at hk
    cases hx0 : x'.h 0 with
    | none => rw [hx0] at hk; cases hk
    | some blk =>
      rw [hx0] at hk
      cases blk with
      | box => cases hk
      | arr => cases hk
      | ext =>
        simp only at hk
        have hroot0 : ∀ b, G'.φ 0 b = G.φ 0 b := by
          rcases hA'.roots 0 _ hx0 with ⟨_, _, _, _, k⟩ | ⟨k, _⟩
          · exact k
          · exact k.elim
        have hM : Mem E x' w G' := by
          refine ⟨fun r blk hr => ?_, hA'.used, fun r blk b hr => ?_, fun r blk b hr hb => ?_, hA'.sep, hgl.sub fun b hb => hA'.inF b hb⟩
          · rcases hA'.roots r blk hr with ⟨k1, _⟩ | ⟨k1, _⟩
            · obtain ⟨rfl, rfl⟩ := hx r blk k1
              trivial
            · exact k1.ok hA'.inF hr
          · rcases hA'.roots r blk hr with ⟨k1, _, _, _, k5⟩ | ⟨_, k2⟩
            · obtain ⟨rfl, rfl⟩ := hx r blk k1
              rw [k5]
              simp only [G, if_true]
              split <;> omega
            · exact (k2 b).1
          · exact hlow b (hA'.inF b ⟨r, blk, hr, hb⟩)
        have hL : ∀ k, k < e → (List.range e)[k]? = some k := fun k hk => by simp [hk]
        have hget0 : (List.range e).getD 0 0 = 0 := by
          have := hL 0 he
          simp [List.getD, this]
        refine ⟨_, _, G'.ren (List.range e), hk, hM.ren List.nodup_range, ⟨fun r hr => ?_, fun r m t st xs hr => ?_⟩, ?_, ?_, fun c => ?_, ?_, fun c hc => hA'.inF c (ofL_fof hc), ?_⟩
        · have := ofL_u.1 hr
          simpa using this
        · obtain ⟨r', b0, e1, e2, e3, e4⟩ := ofL_h hr
          cases b0 <;> simp only [Blk.ren] at e4 <;> (try (cases e4; done))
          simp only [Blk.arr.injEq] at e4
          exact e4.2.2.1
        · have h5 : AllF (RT E w x' G') as' Vs := hv.mono fun a v _ h => h.rt hA'.inF
          clear hk hv h
          induction as' generalizing Vs with
          | nil => cases Vs with
            | nil => trivial
            | cons => exact h5.elim
          | cons a az ih => cases Vs with
            | nil => exact h5.elim
            | cons u us => exact ⟨(RT.ren h5.1).1, by
                clear ih
                have h6 := h5.2
                clear h5 hrl
                induction az generalizing us with
                | nil => cases us with
                  | nil => trivial
                  | cons => exact h6.elim
                | cons a az ih => cases us with
                  | nil => exact h6.elim
                  | cons u us => exact ⟨(RT.ren h6.1).1, ih us h6.2⟩⟩
        · intro a ha
          obtain ⟨a0, ha0, rfl⟩ := List.mem_map.1 ha
          have h5 : AllF (RT E w x' G') as' Vs := hv.mono fun a v _ h => h.rt hA'.inF
          have : ∀ {az : List AV} {us : List Value}, AllF (RT E w x' G') az us → a0 ∈ az → ∃ u, RT E w x' G' a0 u := by
            intro az
            induction az with
            | nil => intro us _ h; cases h
            | cons a az ih =>
              intro us h hm
              cases us with
              | nil => exact h.elim
              | cons u us =>
                rcases List.mem_cons.1 hm with rfl | hm
                · exact ⟨u, h.1⟩
                · exact ih h.2 hm
          obtain ⟨u, hu⟩ := this h5 ha0
          exact (RT.ren hu).2
        · simp only [Ghost.ren, hget0]
          rw [hroot0]
          simp only [G, if_true]
          constructor
          · intro h
            by_cases hc : F c ∧ φ c = 0
            · exact hc
            · rw [if_neg hc] at h; exact absurd rfl h
          · intro hc; rw [if_pos hc]; decide
        · have := hL 0 he
          simp only [X.ofL, renL, List.getElem?_map, this, Option.map_some, hx0, Blk.ren]
        · exact ofL_u.2 (by simpa using he)
end Go.Pi
end
section
set_option linter.unusedVariables false
namespace Go.Pi
variable {ω : Type}
def AV.sameRoot : AV → AV → Bool
  | .rt p, .rt q => Nat.beq p q
  | .pb p j, .pb q j' => Nat.beq p q && Nat.beq j j'
  | _, _ => false
def AV.allRoots : List AV → List AV → Bool
  | [], [] => true
  | p :: l, q :: r => AV.sameRoot p q && AV.allRoots l r
  | _, _ => false
theorem sameRoot_eq {a b : AV} (h : AV.sameRoot a b = true) : a = b := by
  cases a <;> cases b <;> simp only [AV.sameRoot] at h <;> (try (cases h; done))
  · have := beq_iff.1 h; subst this; rfl
  · simp only [Bool.and_eq_true] at h
    have := beq_iff.1 h.1; have := beq_iff.1 h.2; subst_vars; rfl
theorem allRoots_eq : ∀ {l r : List AV}, AV.allRoots l r = true → l = r
  | [], [], _ => rfl
  | a :: l, b :: r, h => by
    simp only [AV.allRoots, Bool.and_eq_true] at h
    rw [sameRoot_eq h.1, allRoots_eq h.2]
  | [], _ :: _, h => by simp [AV.allRoots] at h
  | _ :: _, [], h => by simp [AV.allRoots] at h
variable [Coding]
open Coding
variable {E : Env} {w : World} {G : Ghost} {r : ω}
theorem res_ok [CodingOk] {c : Cx} (hc : CxOk E c) {s : St} {a : Act} (h : Sim E c s a w G) {g : ResultVar → Sem Value} (hg : ∀ t, g (.tmp t) = pure (a.tmps.getD t undef))
    (hg' : ∀ t T, g (.cell t T) = (asAddr (a.tmps.getD t undef) >>= fun l => loadVar T l)) : ∀ (rs : List ResultVar) (vs : List AV), resOf c s rs = some vs →
    ∃ Vs, Vs.length = rs.length ∧ AllF (RT E w s.x G) vs Vs ∧ (∀ v ∈ vs, Used s.x v.refsT) ∧ (List.mapM g rs).run E.P w = .ok Vs w
  | [], vs, hr => by
    simp only [resOf, Option.some.injEq] at hr
    subst hr
    exact ⟨[], rfl, trivial, fun v hv => (by cases hv), rfl⟩
  | .tmp t :: rs, vs, hr => by
    simp only [resOf] at hr
    cases h1 : resOf c s rs with
    | none => rw [h1] at hr; cases hr
    | some vs1 =>
      rw [h1] at hr
      simp only [Option.some.injEq] at hr
      subst hr
      obtain ⟨Vs, k1, k2, k3, k4⟩ := res_ok hc h hg hg' rs vs1 h1
      refine ⟨_ :: Vs, by simp [k1], ⟨h.slot t, k2⟩, fun v hv => ?_, ?_⟩
      · rcases List.mem_cons.1 hv with rfl | hv
        · exact h.used t
        · exact k3 v hv
      · simp only [List.mapM_cons, Sem.run_bind, Sem.run_pure, Result.andThen_ok, k4, hg]
  | .cell t T :: rs, vs, hr => by
    simp only [resOf] at hr
    cases ht : c.tt T with
    | none => rw [ht] at hr; cases hr
    | some td =>
      rw [ht] at hr
      simp only at hr
      have hs := h.slot t
      have hu := h.used t
      cases hp : s.tmps t <;> rw [hp] at hr hs hu <;> (try (cases hr; done))
      rename_i q off
      simp only at hr
      cases hq : s.x.h q with
      | none => rw [hq] at hr; cases hr
      | some blk =>
        rw [hq] at hr
        cases blk with
        | arr => cases hr
        | ext => cases hr
        | box bs =>
          simp only at hr
          obtain ⟨h1, h2⟩ := cond_some hr
          simp only [Bool.and_eq_true] at h1
          cases h3 : resOf c s rs with
          | none => rw [h3] at h2; cases h2
          | some vs1 =>
            rw [h3] at h2
            simp only [Option.some.injEq] at h2
            subst h2
            obtain ⟨Vs, k1, k2, k3, k4⟩ := res_ok hc h hg hg' rs vs1 h3
            have hf := hs.rf (by intro cs e; cases e) (by intro cs e; cases e) (by intro f cs e; cases e)
            have hV := hf.2 bs hq
            obtain ⟨⟨cur, T', hcur, hall⟩, hφ, hus⟩ := h.mem.root q _ hq
            have htd := (hc.tt T).ok td ht
            have hl := beq_iff.1 h1.1
            have hall' := (hall.drop off).take td.size
            have hr' := rangeAt_part (rangeAt_cells hcur) off td.size
            rw [Nat.zero_add] at hr'
            have hus' : Used s.x (((bs.drop off).take td.size).flatMap AV.refs) := by
              intro z hz
              obtain ⟨c, hc1, hc2⟩ := List.mem_flatMap.1 hz
              exact hus z (List.mem_flatMap.2 ⟨c, List.mem_of_mem_drop (List.mem_of_mem_take hc1), hc2⟩)
            refine ⟨_ :: Vs, by simp [k1], ⟨RT.val htd hall' hl, k2⟩, fun v hv => ?_, ?_⟩
            · rcases List.mem_cons.1 hv with rfl | hv
              · exact used_val hus' h1.2
              · exact k3 v hv
            · have := run_loadVar htd hr' (hall'.len.trans hl)
              simp only [List.mapM_cons, Sem.run_bind, Sem.run_pure, Result.andThen_ok, k4, hg', hV, asAddr, this]
def resVal (vs : List Value) : Value := if vs.length = 1 then vs.headD undef else .tuple (List.toArray vs)
theorem run_results [CodingOk] {c : Cx} (hc : CxOk E c) {s : St} {a : Act} (h : Sim E c s a w G) {fn : Func} {rs : List ResultVar} {vs : List AV} (hr : fn.results = List.toArray rs) (hv : resOf c s rs = some vs) :
    ∃ Vs, Vs.length = rs.length ∧ AllF (RT E w s.x G) vs Vs ∧ (∀ v ∈ vs, Used s.x v.refsT) ∧ (results fn a.tmps).run E.P w = .ok (resVal Vs) w := by
  unfold results
  rw [hr]
  simp only [List.mapM_toArray, Sem.run_bind, Sem.run_map, Sem.run_pure]
  suffices ∀ g : ResultVar → Sem Value, (∀ t, g (.tmp t) = pure (a.tmps.getD t undef)) → (∀ t T, g (.cell t T) = (asAddr (a.tmps.getD t undef) >>= fun l => loadVar T l)) →
      ∃ Vs : List Value, Vs.length = rs.length ∧ AllF (RT E w s.x G) vs Vs ∧ (∀ v ∈ vs, Used s.x v.refsT) ∧ ((((List.mapM g rs).run E.P w).andThen fun a w' => Result.ok a.toArray w').andThen fun a w' => Result.ok (if h : a.size = 1 then a[0] else Value.tuple a) w') = .ok (resVal Vs) w from
    this _ (fun t => rfl) (fun t T => rfl)
  intro g hg hg'
  obtain ⟨Vs, k1, k2, k3, k4⟩ := res_ok hc h hg hg' rs vs hv
  refine ⟨Vs, k1, k2, k3, ?_⟩
  rw [k4]
  simp only [Result.andThen_ok, resVal, List.size_toArray]
  congr 1
  split
  · rename_i h1
    obtain ⟨v, hv⟩ := List.length_eq_one_iff.1 h1
    subst hv
    rfl
  · rfl
/-- the values of a call's results, and what it wrote -/
theorem rl_results {F : Nat → Prop} {out : List AV} {vs os : List Value} {φ : Nat → Nat} (h : RL E w F out (vs ++ os) φ) : RL E w F (rvOf vs.length out :: out.drop vs.length) (resVal vs :: os) φ := by
  have hl := h.length
  have e : out = out.take vs.length ++ out.drop vs.length := (List.take_append_drop _ _).symm
  rw [e] at h
  obtain ⟨us, us', φ₁, φ₂, e1, h1, h2, h3⟩ := RL.split h
  have l1 : us.length = vs.length := by rw [← h1.length, List.length_take]; simp at hl; omega
  obtain ⟨rfl, rfl⟩ := List.append_inj e1.symm l1
  unfold rvOf resVal
  by_cases hc : us.length = 1
  · rw [hc] at h1 ⊢
    simp only [if_true]
    cases us with
    | nil => cases hc
    | cons u us =>
      cases us with
      | cons => simp at hc
      | nil =>
        have : ∃ a, out.take 1 = [a] ∧ out.headD .u = a := by
          cases out with
          | nil => simp at hl
          | cons a l => exact ⟨a, rfl, rfl⟩
        obtain ⟨a, e2, e3⟩ := this
        rw [e2] at h1
        show RL E w F (cond (Nat.beq 1 1) (out.headD .u) _ :: _) (u :: _) φ
        rw [e3]
        exact h1.cons h2 h3
  · rw [if_neg hc, beq_no hc, cond_false]
    exact .tu _ us φ₁ _ _ φ₂ _ h1 h2 h3
/-- what a function owes, out of what its code makes -/
theorem fn_sound [CodingOk] {c : Cx} (hc : CxOk E c) (hK : KPar c) (hm : E.P.follows .mixedOrders = true) {f : FuncId} {fn : Func} {B : Code} (hfn : E.P.funcs[f]? = some fn) (hbody : fn.body = some B) {rs : List ResultVar} (hres : fn.results = List.toArray rs) (hnt : fn.ntmps = c.nt)
    {e : Nat} (he : 0 < e) {ann : Ann} {lf : LF ω} {rsh : List Sh} {rps ps : List PS} {outs : List AV} {fin : List AV → Option ω} {inj : ω → List AV} (hfin : ∀ o r, fin o = some r → o = inj r)
    {avs : List AV} (hn : Nat.ble avs.length c.nt = true)
    (hrun : entryK e avs (fun v b => match outOfAll ps v with
      | some o => cond (AV.allRoots o outs) (run c e ann lf (retK c rsh rps rs outs fin) B 0 (retK c rsh rps rs outs fin) (fun _ _ => none) (St.ofC (live0 avs.length) v b)) none
      | none => none) = some r)
    (hcut : Cuts c e ann lf (retK c rsh rps rs outs fin) B) :
    CallOk E f avs (rvOf rs.length (inj r)) ((inj r).drop rs.length) ps := by
  intro w F Vs φ hrl h1 hlow hgl
  obtain ⟨v, b, G, hk, hB⟩ := entry_ok he hrl h1 hlow hgl hrun
  cases ho : outOfAll ps v with
  | none => rw [ho] at hk; cases hk
  | some o =>
    rw [ho] at hk
    simp only at hk
    cases har : AV.allRoots o outs with
    | false => rw [har] at hk; cases hk
    | true =>
      rw [har] at hk
      simp only [cond_true] at hk
      have := allRoots_eq har
      subst this
      obtain ⟨hO1, hO2⟩ := out_ok hB.slots hB.used ho
      have hlen : Vs.length = avs.length := hrl.length.symm
      have hnle : avs.length ≤ c.nt := Nat.le_of_ble_eq_true hn
      let a0 : Act := { tmps := List.toArray Vs ++ Array.replicate (fn.ntmps - (List.toArray Vs).size) undef, defers := [] }
      have hget : (live0 avs.length).map (fun p => a0.tmps.getD p.1 undef) = Vs := by
        apply List.ext_getElem?
        intro i
        simp only [live0, List.map_map, List.getElem?_map]
        by_cases hi : i < avs.length
        · have hi' : i < Vs.length := by omega
          simp [a0, hi, hi']
          rw [Array.getElem?_append_left (by simpa using hi')]
          simp [hi']
        · simp [hi, show Vs.length ≤ i by omega]
      have hsl := look_ok (P := RT E w (X.ofL b) G) (Q := fun v => Used (X.ofL b) v.refsT) (a := fun t => a0.tmps.getD t undef) (fun v => RT.scl trivial) used_nil (live := live0 avs.length) (vals := v) (by rw [hget]; exact hB.slots) hB.used
      have hsim : Sim E c (St.ofC (live0 avs.length) v b) a0 w G := ⟨hB.mem, rfl, by simp [a0, hnt]; omega, fun t => (hsl t).1, fun t => (hsl t).2⟩
      have hwp := run_wp (f := ⟨c, e, ann, lf, retK c rsh rps rs o fin, X.ofL b, w, G⟩) ⟨hc, hB.ent, hK, hm⟩ hcut B 0 (retK c rsh rps rs o fin) (fun _ _ => none) (fun key p h => h) _ a0 w G hsim (Evo.refl _ _ _) hk
      refine calls_of_wp hfn hbody (wp_mono hwp fun ex a1 w1 hq => ?_)
      have fin_ : Here E ⟨c, e, ann, lf, retK c rsh rps rs o fin, X.ofL b, w, G⟩ r (retK c rsh rps rs o fin) a1 w1 → a1.defers = [] ∧ ∃ v, (results fn a1.tmps).run E.P w1 = .ok v w1 ∧ ∃ V φ', Ending.returned v = .returned V ∧
          RL E w1 (fun b => (F b ∧ φ b = 0) ∨ φ' b ≠ 0) (rvOf rs.length (inj r) :: (inj r).drop rs.length) (V :: PS.outsAll ps Vs) φ' ∧ (∀ b, φ' b ≤ 1) ∧ (∀ b, φ' b ≠ 0 → φ b ≠ 0 ∨ w.heap.size ≤ b) ∧
          w1.os = w.os ∧ w1.tape = w.tape ∧ w1.output = w.output ∧ w.heap.size ≤ w1.heap.size ∧ ∀ b, b < w.heap.size → φ b = 0 → w1.heap[b]? = w.heap[b]? := by
        rintro ⟨s, G1, k1, k2, k3⟩
        have k3 : Evo (X.ofL b) w G s.x w1 G1 := k3
        unfold retK at k1
        cases hrs : resOf c s rs with
        | none => rw [hrs] at k1; cases k1
        | some vs0 =>
        rw [hrs] at k1
        simp only at k1
        obtain ⟨Rs, i1, i2, i3, i4⟩ := run_results hc k2 hres hrs
        refine ⟨k2.defers, _, i4, ?_⟩
        have hvals : AllF (RT E w1 s.x G1) (vs0 ++ o) (Rs ++ PS.outsAll ps Vs) := AllF.append i2 (hO1.mono fun a v ha h => h.evolve k3 (hO2 a ha))
        obtain ⟨x2, G2, vs, j1, j2, j3, j4⟩ := coerces_sound _ _ _ _ _ _ _ k2.mem hvals (fun a ha => (List.mem_append.1 ha).elim (i3 a) fun ha => Used.evolve k3 (hO2 a ha)) k1
        cases hh : handedAll x2 rps vs with
        | none => rw [hh] at j1; cases j1
        | some z =>
          obtain ⟨x3, avs', ws, q⟩ := z
          rw [hh] at j1
          cases q with
          | cons => cases j1
          | nil =>
            simp only at j1
            cases h30 : x3.h 0 with
            | none => rw [h30] at j1; cases j1
            | some blk =>
              rw [h30] at j1
              cases blk with
              | box => cases j1
              | arr => cases j1
              | ext =>
                simp only at j1
                have := hfin _ _ j1
                subst this
                obtain ⟨φ', k⟩ := handedAll_ok j2.2 rps vs _ x2 x3 _ ws [] (Sub.refl x2) j3 hh
                have ev2 : Evo (X.ofL b) w G x2 w1 G2 := k3.trans j2.1
                have hx20 : x2.h 0 = some .ext := k.sub.1 0 _ h30
                have hext := fun c => ev2.ext 0 c hB.u0 hx20
                have hφ'ext : ∀ c, φ' c ≠ 0 → G.φ 0 c = 0 := fun c hc => by
                  refine Classical.byContradiction fun h0 => k.out c hc ⟨0, .ext, h30, ?_⟩
                  rw [(hext c).1]; exact h0
                refine ⟨_, φ', rfl, ?_, k.one, fun c hc => ?_, ev2.os, ev2.tape, ev2.output, ev2.size, fun c hc h0 => ?_⟩
                · have h5 := k.rl (fun b => (F b ∧ φ b = 0) ∨ φ' b ≠ 0) (fun c hc => ?_) (fun s hs => by cases hs) (fun c hc => .inr hc)
                  · have := rl_results h5
                    rwa [i1] at this
                  · rcases hc with hc | hc
                    · exact ⟨0, .ext, hx20, by rw [(hext c).1]; exact (hB.ext c).2 hc⟩
                    · exact k.from_ c hc
                · by_cases hlt : c < w.heap.size
                  · left
                    intro h0
                    have h6 := ev2.fresh c hlt (k.from_ c hc)
                    have h7 := hB.inF c h6
                    exact (hB.ext c).2 ⟨h7, h0⟩ (hφ'ext c hc)
                  · exact .inr (by omega)
                · by_cases hF : F c
                  · exact (hext c).2 ((hB.ext c).2 ⟨hF, h0⟩) hc
                  · exact ev2.heap c hc fun hc' => hF (hB.inF c hc')
      cases ex with
      | normal => exact fin_ hq
      | ret => exact fin_ hq
      | exit id => obtain ⟨s, G1, k1, _⟩ := hq; cases k1
      | goto => exact hq.elim
      | panic => exact hq.elim
      | outgrown => exact hq.elim
end Go.Pi
end
section
set_option linter.unusedVariables false
namespace Go.Pi
/-- so many times -/
def iterN {α : Type} (z : α) (step : α → α) : Nat → α
  | 0 => z
  | n + 1 => step (iterN z step n)
/-- slices.Delete and slices.Insert, az they answer -/
def nDelete {α : Type} (xs : List α) (i j : Int) : Option (List α) :=
  cond (decide (0 ≤ i) && (decide (i ≤ j) && decide (j ≤ (xs.length : Int)))) (some (xs.take i.toNat ++ xs.drop j.toNat)) none
def nInsert {α : Type} (bytes : Nat) (xs : List α) (i : Int) (ys : List α) : Option (List α) :=
  cond (decide (0 ≤ i) && decide (i ≤ (xs.length : Int))) (cond (decide ((xs.length + ys.length) * bytes ≤ 140737488355328)) (some (xs.take i.toNat ++ ys ++ xs.drop i.toNat)) none) none
def nItoa (n : Int) : Option Bs := cond (decide (-9223372036854775808 ≤ n) && decide (n ≤ 9223372036854775807)) (some (Lib.itoa n)) none
def nJoin (xs : List Bs) (sep : Bs) : Option Bs := cond (decide (xs.length ≤ 140737488355328) && decide ((Lib.join xs sep).length ≤ 140737488355328)) (some (Lib.join xs sep)) none
def nReplaceAll (s old new : Bs) : Option Bs := cond (decide (s.length < 4294967281) && (decide (1 ≤ old.length) && decide (s.length + Lib.count s old * new.length ≤ 140737488355328))) (some (Lib.replaceAll s old new)) none
end Go.Pi
end
section
set_option linter.unusedVariables false
namespace Go.Pi
/-! ### Taking data apart, one thing at a time -/
variable {ω : Type} {r : ω}
def uc {α : Type} : List α → (α → List α → Option ω) → Option ω
  | a :: l, κ => κ a l
  | [], _ => none
def un {α : Type} : List α → Option ω → Option ω
  | [], κ => κ
  | _ :: _, _ => none
theorem uc_ok {α : Type} {v : List α} {κ : α → List α → Option ω} (h : uc v κ = some r) : ∃ a l, v = a :: l ∧ κ a l = some r := by
  cases v with
  | nil => cases h
  | cons a l => exact ⟨a, l, rfl, h⟩
theorem un_ok {α : Type} {v : List α} {κ : Option ω} (h : un v κ = some r) : v = [] ∧ κ = some r := by
  cases v with
  | nil => exact ⟨rfl, h⟩
  | cons => cases h
def getI (k : IntKind) (a : AV) (κ : Int → Option ω) : Option ω := match a with
  | .i k' n => cond (decide (k' = k)) (κ n) none
  | _ => none
theorem getI_ok {k : IntKind} {a : AV} {κ : Int → Option ω} (h : getI k a κ = some r) : ∃ n, a = .i k n ∧ κ n = some r := by
  cases a <;> (try (cases h; done))
  obtain ⟨h1, h2⟩ := cond_some h
  have := of_decide_eq_true h1
  subst this
  exact ⟨_, rfl, h2⟩
def getB (a : AV) (κ : Bool → Option ω) : Option ω := match a with
  | .b q => κ q
  | _ => none
theorem getB_ok {a : AV} {κ : Bool → Option ω} (h : getB a κ = some r) : ∃ n, a = .b n ∧ κ n = some r := by
  cases a <;> (try (cases h; done))
  exact ⟨_, rfl, h⟩
def getS (a : AV) (κ : Bs → Option ω) : Option ω := match a with
  | .s q => κ q
  | _ => none
theorem getS_ok {a : AV} {κ : Bs → Option ω} (h : getS a κ = some r) : ∃ n, a = .s n ∧ κ n = some r := by
  cases a <;> (try (cases h; done))
  exact ⟨_, rfl, h⟩
def M.same : M → M → Bool
  | .v, .v | .s, .s | .d, .d => true
  | _, _ => false
theorem M.same_eq {m m' : M} (h : M.same m m' = true) : m = m' := by cases m <;> cases m' <;> first | rfl | cases h
def getSl (m : M) (t : TC) (a : AV) (κ : List (El t) → Option ω) : Option ω := match a with
  | .sl m' t' xs => cond (M.same m' m) (if h : t' = t then κ (h ▸ xs) else none) none
  | _ => none
theorem getSl_ok {m : M} {t : TC} {a : AV} {κ : List (El t) → Option ω} (h : getSl m t a κ = some r) : ∃ xs, a = .sl m t xs ∧ κ xs = some r := by
  cases a <;> (try (cases h; done))
  rename_i m' t' xs
  obtain ⟨h1, h2⟩ := cond_some h
  have := M.same_eq h1
  subst this
  by_cases e : t' = t
  · subst e
    simp only [dite_true] at h2
    exact ⟨xs, rfl, h2⟩
  · simp [e] at h2
def isRt (q : Nat) (a : AV) (κ : Option ω) : Option ω := match a with
  | .rt p => cond (Nat.beq p q) κ none
  | _ => none
theorem isRt_ok {q : Nat} {a : AV} {κ : Option ω} (h : isRt q a κ = some r) : a = .rt q ∧ κ = some r := by
  cases a <;> (try (cases h; done))
  obtain ⟨h1, h2⟩ := cond_some h
  have := beq_iff.1 h1
  subst this
  exact ⟨rfl, h2⟩
def isPb (q off : Nat) (a : AV) (κ : Option ω) : Option ω := match a with
  | .pb p o => cond (Nat.beq p q && Nat.beq o off) κ none
  | _ => none
theorem isPb_ok {q off : Nat} {a : AV} {κ : Option ω} (h : isPb q off a κ = some r) : a = .pb q off ∧ κ = some r := by
  cases a <;> (try (cases h; done))
  obtain ⟨h1, h2⟩ := cond_some h
  simp only [Bool.and_eq_true] at h1
  have e1 := beq_iff.1 h1.1
  have e2 := beq_iff.1 h1.2
  subst e1 e2
  exact ⟨rfl, h2⟩
def getAg (a : AV) (κ : List AV → Option ω) : Option ω := match a with
  | .ag cs => κ cs
  | _ => none
theorem getAg_ok {a : AV} {κ : List AV → Option ω} (h : getAg a κ = some r) : ∃ cs, a = .ag cs ∧ κ cs = some r := by
  cases a <;> (try (cases h; done))
  exact ⟨_, rfl, h⟩
def getTu (a : AV) (κ : List AV → Option ω) : Option ω := match a with
  | .tu cs => κ cs
  | _ => none
theorem getTu_ok {a : AV} {κ : List AV → Option ω} (h : getTu a κ = some r) : ∃ cs, a = .tu cs ∧ κ cs = some r := by
  cases a <;> (try (cases h; done))
  exact ⟨_, rfl, h⟩
def getBx (a : AV) (κ : List AV → Option ω) : Option ω := match a with
  | .bx cs => κ cs
  | _ => none
theorem getBx_ok {a : AV} {κ : List AV → Option ω} (h : getBx a κ = some r) : ∃ cs, a = .bx cs ∧ κ cs = some r := by
  cases a <;> (try (cases h; done))
  exact ⟨_, rfl, h⟩
def getPc (off : Nat) (a : AV) (κ : List AV → Option ω) : Option ω := match a with
  | .pc cs o => cond (Nat.beq o off) (κ cs) none
  | _ => none
theorem getPc_ok {off : Nat} {a : AV} {κ : List AV → Option ω} (h : getPc off a κ = some r) : ∃ cs, a = .pc cs off ∧ κ cs = some r := by
  cases a <;> (try (cases h; done))
  obtain ⟨h1, h2⟩ := cond_some h
  have := beq_iff.1 h1
  subst this
  exact ⟨_, rfl, h2⟩
def getClo (f : Nat) (a : AV) (κ : List AV → Option ω) : Option ω := match a with
  | .clo g cs => cond (Nat.beq g f) (κ cs) none
  | _ => none
theorem getClo_ok {f : Nat} {a : AV} {κ : List AV → Option ω} (h : getClo f a κ = some r) : ∃ cs, a = .clo f cs ∧ κ cs = some r := by
  cases a <;> (try (cases h; done))
  obtain ⟨h1, h2⟩ := cond_some h
  have := beq_iff.1 h1
  subst this
  exact ⟨_, rfl, h2⟩
def isNils (a : AV) (κ : Option ω) : Option ω := match a with
  | .nils => κ
  | _ => none
theorem isNils_ok {a : AV} {κ : Option ω} (h : isNils a κ = some r) : a = .nils ∧ κ = some r := by
  cases a <;> (try (cases h; done))
  exact ⟨rfl, h⟩
def isNili (a : AV) (κ : Option ω) : Option ω := match a with
  | .nili => κ
  | _ => none
theorem isNili_ok {a : AV} {κ : Option ω} (h : isNili a κ = some r) : a = .nili ∧ κ = some r := by
  cases a <;> (try (cases h; done))
  exact ⟨rfl, h⟩
def isU (a : AV) (κ : Option ω) : Option ω := match a with
  | .u => κ
  | _ => none
theorem isU_ok {a : AV} {κ : Option ω} (h : isU a κ = some r) : a = .u ∧ κ = some r := by
  cases a <;> (try (cases h; done))
  exact ⟨rfl, h⟩
def noBlk (a : Option Blk) (κ : Option ω) : Option ω := match a with
  | none => κ
  | some _ => none
theorem noBlk_ok {a : Option Blk} {κ : Option ω} (h : noBlk a κ = some r) : a = none ∧ κ = some r := by
  cases a with
  | none => exact ⟨rfl, h⟩
  | some => cases h
def isExt (a : Option Blk) (κ : Option ω) : Option ω := match a with
  | some .ext => κ
  | _ => none
theorem isExt_ok {a : Option Blk} {κ : Option ω} (h : isExt a κ = some r) : a = some .ext ∧ κ = some r := by
  cases a with
  | none => cases h
  | some b => cases b <;> first | exact ⟨rfl, h⟩ | cases h
def getBox (a : Option Blk) (κ : List AV → Option ω) : Option ω := match a with
  | some (.box cs) => κ cs
  | _ => none
theorem getBox_ok {a : Option Blk} {κ : List AV → Option ω} (h : getBox a κ = some r) : ∃ cs, a = some (.box cs) ∧ κ cs = some r := by
  cases a with
  | none => cases h
  | some b => cases b <;> first | exact ⟨_, rfl, h⟩ | cases h
def getArr (m : M) (t : TC) (st : Nat) (a : Option Blk) (κ : List (El t) → Option ω) : Option ω := match a with
  | some (.arr m' t' st' xs) => cond (M.same m' m && Nat.beq st' st) (if h : t' = t then κ (h ▸ xs) else none) none
  | _ => none
theorem getArr_ok {m : M} {t : TC} {st : Nat} {a : Option Blk} {κ : List (El t) → Option ω} (h : getArr m t st a κ = some r) : ∃ xs, a = some (.arr m t st xs) ∧ κ xs = some r := by
  cases a with
  | none => cases h
  | some b =>
    cases b <;> (try (cases h; done))
    rename_i m' t' st' xs
    obtain ⟨h1, h2⟩ := cond_some h
    simp only [Bool.and_eq_true] at h1
    have e1 := M.same_eq h1.1
    have e2 := beq_iff.1 h1.2
    subst e1 e2
    by_cases e : t' = t
    · subst e
      simp only [dite_true] at h2
      exact ⟨xs, rfl, h2⟩
    · simp [e] at h2
/-! ### Slices without memory, az a callee takes them -/
inductive Sk where
  | k
  | sl (m : M) (t : TC)
  | ag (l : List Sk)
def fix1 : Sk → AV → AV
  | .sl m t, .nils => .sl m t []
  | .sl .s _, .sl .d t' xs => .sl .s t' xs
  | _, a => a
def fixL : List Sk → List AV → List AV
  | s :: ss, a :: az => fix1 s a :: fixL ss az
  | _, az => az
def fix : Sk → AV → AV
  | .ag l, .ag cs => .ag (fixL l cs)
  | s, a => fix1 s a
def fixes : List Sk → List AV → List AV
  | s :: ss, a :: az => fix s a :: fixes ss az
  | _, az => az
variable [Coding]
variable {E : Env} {w : World} {F : Nat → Prop}
theorem RL.shrink {F' : Nat → Prop} {l vs φ} (h : RL E w F l vs φ) (hφ : ∀ b, φ b ≠ 0 → F' b) (hF : ∀ b, F' b → F b) : RL E w F' l vs φ :=
  h.frame (Nat.le_refl _) (fun b hb => ⟨rfl, hφ b hb⟩) (fun b _ hn => ⟨rfl, fun h => hn (hF b h)⟩)
theorem asView_rows [CodingOk] (m : M) (t : TC) (xs : List (El t)) : (encRows m t xs).map AV.asView = encRows .v t xs := by
  simp only [encRows, List.map_flatMap]
  congr 1
  funext x
  exact CodingOk.view m t x
/-- what is given up when an argument is taken for less -/
def Gives (E : Env) (w : World) (F : Nat → Prop) (l : List AV) (vs : List Value) (φ : Nat → Nat) : Prop :=
  ∃ δ : Nat → Nat, (∀ b, δ b ≤ φ b) ∧ RL E w (fun b => F b ∧ δ b = 0) l vs (fun b => φ b - δ b)
theorem Gives.none {l vs φ} (h : RL E w F l vs φ) : Gives E w F l vs φ :=
  ⟨fun _ => 0, fun b => Nat.zero_le _, h.shrink (fun b hb => ⟨(h.low b hb).1, rfl⟩) fun b hb => hb.1⟩
theorem fix1_ok [CodingOk] {s : Sk} {a : AV} {v : Value} {φ : Nat → Nat} (h : RL E w F [a] [v] φ) (h1 : ∀ b, φ b ≤ 1) : Gives E w F [fix1 s a] [v] φ := by
  cases s <;> (try exact Gives.none h)
  rename_i m t
  cases a <;> (try (cases m <;> exact Gives.none h))
  case nils =>
    refine Gives.none ?_
    cases h with
    | scal _ _ _ _ _ hs hn =>
      simp only [scl] at hs
      subst hs
      have h0 := (RL.nil_inv hn).2
      cases m with
      | v => exact .view t [] none 0 0 [] (fun _ => 0) _ _ _ ⟨rfl, Nat.le_refl _⟩ (.nil _ fun _ => rfl) (fun _ => rfl) (fun hp => by omega) (.nil _ h0)
      | s => exact .own .s t [] _ [] (fun _ => 0) _ _ (fun _ => 0) _ (by decide) (World.ownsRow_nil _ _ _ _) (.nil _ fun _ => rfl) (fun b hb => by simp [own1] at hb) (.nil _ fun _ => rfl) (fun b => by rw [h0 b]; simp [own1])
      | d => exact .own .d t [] _ [] (fun _ => 0) _ _ (fun _ => 0) _ (by decide) (World.ownsRow_nil _ _ _ _) (.nil _ fun _ => rfl) (fun b hb => by simp [own1] at hb) (.nil _ fun _ => rfl) (fun b => by rw [h0 b]; simp [own1])
  case sl m' t' xs =>
    cases m <;> cases m' <;> (try exact Gives.none h)
    cases h with
    | scal _ _ _ _ _ hs _ => exact hs.elim
    | own _ _ _ _ vals φ₁ _ _ φ₂ _ hm how hrl hF hn he =>
      have h0 := (RL.nil_inv hn).2
      refine ⟨φ₁, fun b => by rw [he]; omega, ?_⟩
      have hs := hrl.seen (F' := fun b => F b ∧ φ₁ b = 0) (fun b hb hc => hb hc.2) (fun b _ hn hc => hn hc.1)
      have hs2 : RL E w (fun b => F b ∧ φ₁ b = 0) (encRows .v t' xs) vals (fun _ => 0) := by rw [asView_rows] at hs; exact hs
      exact .own .s t' xs v vals (fun _ => 0) _ _ (fun _ => 0) _ (by decide) how hs2 (fun b hb => ⟨hF b hb, by have := h1 b; rw [he] at this; omega⟩) (.nil _ fun _ => rfl) (fun b => by rw [he, h0 b]; omega)
theorem Gives.cons {a : AV} {v : Value} {l : List AV} {vs : List Value} {φ₁ φ₂ φ : Nat → Nat} (k1 : Gives E w F [a] [v] φ₁) (k2 : Gives E w F l vs φ₂) (e : ∀ b, φ b = φ₁ b + φ₂ b) (h1 : ∀ b, φ b ≤ 1) (hF : ∀ b, φ b ≠ 0 → F b) : Gives E w F (a :: l) (v :: vs) φ := by
  obtain ⟨δ₁, a1, a2⟩ := k1
  obtain ⟨δ₂, b1, b2⟩ := k2
  refine ⟨fun b => δ₁ b + δ₂ b, fun b => by have := a1 b; have := b1 b; have := e b; show δ₁ b + δ₂ b ≤ φ b; omega, ?_⟩
  have s1 : RL E w (fun b => F b ∧ δ₁ b + δ₂ b = 0) [a] [v] (fun b => φ₁ b - δ₁ b) := a2.shrink (fun b hb => by
    have hb : φ₁ b - δ₁ b ≠ 0 := hb
    have := a1 b; have := b1 b; have := h1 b; have := e b
    exact ⟨hF b (by omega), by omega⟩) fun b hb => ⟨hb.1, by have := hb.2; omega⟩
  have s2 : RL E w (fun b => F b ∧ δ₁ b + δ₂ b = 0) l vs (fun b => φ₂ b - δ₂ b) := b2.shrink (fun b hb => by
    have hb : φ₂ b - δ₂ b ≠ 0 := hb
    have := a1 b; have := b1 b; have := h1 b; have := e b
    exact ⟨hF b (by omega), by omega⟩) fun b hb => ⟨hb.1, by have := hb.2; omega⟩
  exact s1.cons s2 (fun b => by have := a1 b; have := b1 b; have := e b; show φ b - (δ₁ b + δ₂ b) = (φ₁ b - δ₁ b) + (φ₂ b - δ₂ b); omega)
theorem fixL_ok [CodingOk] : ∀ {ss : List Sk} {az : List AV} {vs : List Value} {φ : Nat → Nat}, RL E w F az vs φ → (∀ b, φ b ≤ 1) → Gives E w F (fixL ss az) vs φ
  | [], az, vs, φ, h, _ => by cases az <;> exact Gives.none h
  | s :: ss, [], vs, φ, h, _ => Gives.none h
  | s :: ss, a :: az, vs, φ, h, h1 => by
    have hF := fun b hb => (h.low b hb).1
    obtain ⟨v, vs', φ₁, φ₂, rfl, k1, k2, e⟩ := RL.uncons h
    exact (fix1_ok k1 fun b => by have := h1 b; rw [e] at this; omega).cons (fixL_ok k2 fun b => by have := h1 b; rw [e] at this; omega) e h1 hF
theorem fix_ok [CodingOk] {s : Sk} {a : AV} {v : Value} {φ : Nat → Nat} (h : RL E w F [a] [v] φ) (h1 : ∀ b, φ b ≤ 1) : Gives E w F [fix s a] [v] φ := by
  by_cases hc : ∃ l cs, s = .ag l ∧ a = .ag cs
  · obtain ⟨l, cs, rfl, rfl⟩ := hc
    cases h with
    | scal _ _ _ _ _ hs _ => exact hs.elim
    | ag _ us φ₁ _ _ φ₂ _ k1 k2 he =>
      have h0 := (RL.nil_inv k2).2
      obtain ⟨δ, d1, d2⟩ := fixL_ok (ss := l) k1 fun b => by have := h1 b; rw [he] at this; omega
      exact ⟨δ, fun b => by rw [he]; have := d1 b; omega, .ag _ us _ _ _ (fun _ => 0) _ d2 (.nil _ fun _ => rfl) (fun b => by rw [he, h0 b]; omega)⟩
  · have : fix s a = fix1 s a := by
      cases s <;> (try rfl)
      cases a <;> (try rfl)
      exact absurd ⟨_, _, rfl, rfl⟩ hc
    rw [this]; exact fix1_ok h h1
theorem fixes_ok [CodingOk] : ∀ {ss : List Sk} {az : List AV} {vs : List Value} {φ : Nat → Nat}, RL E w F az vs φ → (∀ b, φ b ≤ 1) → Gives E w F (fixes ss az) vs φ
  | [], az, vs, φ, h, _ => by cases az <;> exact Gives.none h
  | s :: ss, [], vs, φ, h, _ => Gives.none h
  | s :: ss, a :: az, vs, φ, h, h1 => by
    have hF := fun b hb => (h.low b hb).1
    obtain ⟨v, vs', φ₁, φ₂, rfl, k1, k2, e⟩ := RL.uncons h
    exact (fix_ok k1 fun b => by have := h1 b; rw [e] at this; omega).cons (fixes_ok k2 fun b => by have := h1 b; rw [e] at this; omega) e h1 hF
theorem CallOk.fix [CodingOk] {f : FuncId} {avs : List AV} {rv : AV} {outs : List AV} {ps : List PS} {ss : List Sk} (h : CallOk E f (fixes ss avs) rv outs ps) : CallOk E f avs rv outs ps := by
  intro w F Vs φ hrl h1 hlow hgl
  obtain ⟨δ, d1, d2⟩ := fixes_ok (ss := ss) hrl h1
  refine (h w _ Vs _ d2 (fun b => by have := h1 b; omega) (fun b hb => hlow b hb.1) (hgl.sub fun b hb => hb.1)).mono ?_
  rintro e w' ⟨V, φ', rfl, k1, k2, k3, k4, k5, k6, k7, k8⟩
  refine ⟨V, φ', rfl, ?_, k2, fun b hb => ?_, k4, k5, k6, k7, fun b hb h0 => k8 b hb (by omega)⟩
  · have e : (fun b => ((F b ∧ δ b = 0) ∧ φ b - δ b = 0) ∨ φ' b ≠ 0) = fun b => (F b ∧ φ b = 0) ∨ φ' b ≠ 0 := by
      funext b
      have := d1 b
      refine propext (or_congr_left ⟨fun h => ⟨h.1.1, ?_⟩, fun h => ⟨⟨h.1, ?_⟩, ?_⟩⟩)
      · have h1 := h.1.2; have h2 := h.2; omega
      · have := h.2; omega
      · have := h.2; omega
    rw [← e]; exact k1
  · rcases k3 b hb with h | h
    · exact .inl (by omega)
    · exact .inr h
end Go.Pi
end
section
set_option linter.unusedVariables false
namespace Go.Pi
/-! ### The tables, looked over by program -/
def sclB : AV → Value → Bool
  | .i k n, .int k' n' => decide (k = k') && decide (n = n')
  | .b p, .bool q => p == q
  | .s [], .string s => Nat.beq s.size 0
  | .nils, .slice none 0 0 => true
  | .nilp, .pointer none => true
  | .nili, .nilIface => true
  | _, _ => false
def sclsB : List AV → List Value → Bool
  | [], [] => true
  | a :: l, v :: r => sclB a v && sclsB l r
  | _, _ => false
theorem sclB_ok {a : AV} {v : Value} (h : sclB a v = true) : scl a v := by
  unfold sclB at h
  split at h <;> simp only [scl] <;> (try rfl)
  · simp only [Bool.and_eq_true, decide_eq_true_eq] at h
    rw [h.1, h.2]
  · have := eq_of_beq h
    rw [this]
  · rename_i s
    have h0 := Nat.eq_of_beq_eq_true h
    obtain ⟨⟨l⟩⟩ := s
    have : l = [] := by
      cases l with
      | nil => rfl
      | cons a l => simp [ByteArray.size] at h0
    subst this; rfl
  · cases h
theorem sclsB_ok : ∀ {l : List AV} {r : List Value}, sclsB l r = true → AllF scl l r
  | [], [], _ => trivial
  | a :: l, v :: r, h => by
    simp only [sclsB, Bool.and_eq_true] at h
    exact ⟨sclB_ok h.1, sclsB_ok h.2⟩
  | [], _ :: _, h => by simp [sclsB] at h
  | _ :: _, [], h => by simp [sclsB] at h
def descB (d : TypeDesc) (td : TD) (eid : TC → TypeId) : Bool :=
  (match td.elem with
    | none => true
    | some t => match d with | .slice e => Nat.beq e (eid t) | _ => false) &&
  (match td.kind with
    | none => true
    | some k => match d with | .int k' => decide (k' = k) | _ => false) &&
  (cond td.isStr (match d with | .string => true | _ => false) true) &&
  (cond td.isBool (match d with | .bool => true | _ => false) true)
def fieldsB (P : Program) : List Field → List (Nat × Nat) → Bool
  | [], [] => true
  | f :: fs, p :: ps => Nat.beq f.offset p.1 && (match P.info? f.type with | some i => Nat.beq i.size p.2 | none => false) && Nat.blt 0 p.2 && fieldsB P fs ps
  | _, _ => false
def cmpB (P : Program) : Nat → List Field → List CK → Bool
  | _, [], [] => true
  | k, f :: fs, q :: qs => !(f.name == "_") && Nat.beq f.offset k && P.plainKey f.type && (match P.underlying f.type, q with
      | some (.int _), .i => true
      | some .bool, .b => true
      | some .string, .s => true
      | _, _ => false) && cmpB P (k + 1) fs qs
  | _, _, _ => false
def tdB (P : Program) (eid : TC → TypeId) (T : TypeId) (td : TD) : Bool :=
  match P.info? T, P.underlying T with
  | some i, some d =>
    Nat.beq i.size td.size && Nat.blt 0 td.size && (cond td.agg d.isRow (Nat.beq td.size 1 && !d.isRow)) &&
    (match i.zero with
      | some z => Nat.beq td.zero.length td.size && td.zero.all AV.one && sclsB td.zero z.cells.toList
      | none => false) &&
    (match td.fields with
      | [] => !td.agg
      | fs => match d with
        | .struct gs => fieldsB P gs.toList fs
        | _ => false) &&
    descB d td eid &&
    (match td.cmp with
      | [] => true
      | qs => match d with
        | .struct gs => cmpB P 0 gs.toList qs && !(P.stoodInHeld T) && !(P.eqGuardType P.depth T)
        | _ => false)
  | _, _ => false
theorem fieldsB_ok {P : Program} : ∀ {fs : List Field} {ps : List (Nat × Nat)}, fieldsB P fs ps = true → fs.length = ps.length ∧ ∀ (f off n : Nat), ps[f]? = some (off, n) → ∃ fd : Field, fs[f]? = some fd ∧ fd.offset = off ∧ (P.info? fd.type).map (·.size) = some n ∧ 0 < n
  | [], [], _ => ⟨rfl, fun f off n h => by simp at h⟩
  | g :: fs, p :: ps, h => by
    simp only [fieldsB, Bool.and_eq_true] at h
    obtain ⟨⟨⟨h1, h2⟩, h3⟩, h4⟩ := h
    obtain ⟨k1, k2⟩ := fieldsB_ok h4
    refine ⟨by simp [k1], fun f off n hf => ?_⟩
    cases f with
    | zero =>
      simp only [List.getElem?_cons_zero, Option.some.injEq] at hf
      subst hf
      refine ⟨g, rfl, Nat.eq_of_beq_eq_true h1, ?_, blt_iff.1 h3⟩
      cases hi : P.info? g.type with
      | none => rw [hi] at h2; cases h2
      | some i => rw [hi] at h2; simp [Nat.eq_of_beq_eq_true h2]
    | succ f => exact k2 f off n (by simpa using hf)
  | [], _ :: _, h => by simp [fieldsB] at h
  | _ :: _, [], h => by simp [fieldsB] at h
theorem cmpB_ok {P : Program} : ∀ {k0 : Nat} {fs : List Field} {qs : List CK}, cmpB P k0 fs qs = true → fs.length = qs.length ∧ ∀ (k : Nat) (f : Field) (q : CK), fs[k]? = some f → qs[k]? = some q → (f.name == "_") = false ∧ f.offset = k0 + k ∧ P.plainKey f.type = true ∧
      match q with
      | .i => ∃ kk, P.underlying f.type = some (.int kk)
      | .b => P.underlying f.type = some .bool
      | .s => P.underlying f.type = some .string
  | k0, [], [], _ => ⟨rfl, fun k f q h => by simp at h⟩
  | k0, g :: fs, p :: qs, h => by
    simp only [cmpB, Bool.and_eq_true, Bool.not_eq_true'] at h
    obtain ⟨⟨⟨⟨h1, h2⟩, h3⟩, h4⟩, h5⟩ := h
    obtain ⟨k1, k2⟩ := cmpB_ok h5
    refine ⟨by simp [k1], fun k f q hf hq => ?_⟩
    cases k with
    | zero =>
      simp only [List.getElem?_cons_zero, Option.some.injEq] at hf hq
      subst hf hq
      refine ⟨h1, Nat.eq_of_beq_eq_true h2, h3, ?_⟩
      split at h4 <;> (try (cases h4; done))
      · rename_i kk e1; exact ⟨kk, e1⟩
      · rename_i e1; exact e1
      · rename_i e1; exact e1
    | succ k =>
      obtain ⟨j1, j2, j3⟩ := k2 k f q (by simpa using hf) (by simpa using hq)
      exact ⟨j1, by omega, j3⟩
  | _, [], _ :: _, h => by simp [cmpB] at h
  | _, _ :: _, [], h => by simp [cmpB] at h
variable [Coding]
omit [Coding] in
theorem tdB_ok {E : Env} {T : TypeId} {td : TD} (h : tdB E.P E.eid T td = true) : TDok E T td := by
  unfold tdB at h
  cases hi : E.P.info? T with
  | none => rw [hi] at h; cases h
  | some i =>
    cases hu : E.P.underlying T with
    | none => rw [hi, hu] at h; cases h
    | some d =>
      rw [hi, hu] at h
      simp only [Bool.and_eq_true] at h
      obtain ⟨⟨⟨⟨⟨⟨h1, h2⟩, h3⟩, h4⟩, h5⟩, h6⟩, h7⟩ := h
      simp only [descB, Bool.and_eq_true] at h6
      obtain ⟨⟨⟨g1, g2⟩, g3⟩, g4⟩ := h6
      refine ⟨by rw [hi]; simp [Nat.eq_of_beq_eq_true h1], blt_iff.1 h2, fun e => ⟨d, hu, by rw [e] at h3; exact h3⟩, fun e => ?_, ?_, fun e => ?_, fun e => ?_, fun t e => ?_, fun k e => ?_, fun e => ?_, fun e => ?_, fun e => ?_⟩
      · rw [e] at h3
        simp only [cond_false, Bool.and_eq_true, Bool.not_eq_true'] at h3
        exact ⟨Nat.eq_of_beq_eq_true h3.1, d, hu, h3.2⟩
      · cases hz : i.zero with
        | none => rw [hz] at h4; cases h4
        | some z =>
          rw [hz] at h4
          simp only [Bool.and_eq_true] at h4
          exact ⟨Nat.eq_of_beq_eq_true h4.1.1, h4.1.2, i, z, z.cells.toList, hi, hz, by simp, sclsB_ok h4.2⟩
      · cases hf : td.fields with
        | nil => exact absurd hf e
        | cons p ps =>
          rw [hf] at h5
          cases d <;> simp only at h5 <;> (try (cases h5; done))
          rename_i gs
          obtain ⟨k1, k2⟩ := fieldsB_ok h5
          exact ⟨gs, hu, by simpa using k1, fun f off n hq => by
            obtain ⟨fd, j1, j2⟩ := k2 f off n hq
            exact ⟨fd, by simpa using j1, j2⟩⟩
      · intro e'
        rw [e'] at h5
        simp only [e] at h5
        cases h5
      · rw [e] at g1
        cases d <;> simp only at g1 <;> (try (cases g1; done))
        rw [hu, Nat.eq_of_beq_eq_true g1]
      · rw [e] at g2
        cases d <;> simp only at g2 <;> (try (cases g2; done))
        rw [hu, of_decide_eq_true g2]
      · rw [e] at g3
        cases d <;> simp only [cond_true] at g3 <;> first | exact hu | cases g3
      · rw [e] at g4
        cases d <;> simp only [cond_true] at g4 <;> first | exact hu | cases g4
      · cases hq : td.cmp with
        | nil => exact absurd hq e
        | cons p ps =>
          rw [hq] at h7
          cases d <;> simp only at h7 <;> (try (cases h7; done))
          rename_i gs
          simp only [Bool.and_eq_true, Bool.not_eq_true'] at h7
          obtain ⟨k1, k2⟩ := cmpB_ok h7.1.1
          refine ⟨gs, hu, h7.1.2, h7.2, by simpa using k1, fun k f q hf hq' => ?_⟩
          obtain ⟨j1, j2, j3⟩ := k2 k f q (by simpa using hf) hq'
          exact ⟨j1, by omega, j3⟩
def look2 {α : Type _} : List (Nat × α) → Nat → Option α
  | [], _ => none
  | (k, a) :: l, n => cond (Nat.beq n k) (some a) (look2 l n)
def allB {α : Type _} (p : Nat → α → Bool) : List (Nat × α) → Bool
  | [] => true
  | (k, a) :: l => p k a && allB p l
omit [Coding] in
theorem look2_ok {α : Type _} {p : Nat → α → Bool} : ∀ {l : List (Nat × α)} {n : Nat} {a : α}, allB p l = true → look2 l n = some a → p n a = true
  | [], n, a, _, h => by cases h
  | (k, b) :: l, n, a, h, h' => by
    simp only [allB, Bool.and_eq_true] at h
    simp only [look2] at h'
    cases hb : Nat.beq n k with
    | true =>
      rw [hb] at h'
      simp only [cond_true, Option.some.injEq] at h'
      have := Nat.eq_of_beq_eq_true hb
      subst this h'
      exact h.1
    | false => rw [hb] at h'; exact look2_ok h.2 h'
omit [Coding] in
theorem tt_ok {E : Env} {l : List (Nat × TD)} (h : allB (tdB E.P E.eid) l = true) (T : TypeId) : TTok E T (look2 l T) :=
  ⟨fun td ht => tdB_ok (look2_ok h ht)⟩
open Coding
def tcB (P : Program) (eid : TC → TypeId) (t : TC) (zc : List AV) : Bool :=
  match P.info? (eid t) with
  | some i => Nat.beq i.size t.width && Nat.beq i.bytes t.bytes && Nat.blt 0 t.bytes && zc.all AV.one && match i.zero with
    | some z => sclsB zc z.cells.toList
    | none => false
  | none => false
theorem tcB_ok {E : Env} {t : TC} {zc : List AV} (h : tcB E.P E.eid t zc = true) (hz : ∀ m, sims m zc (enc m t (El.dflt t))) : TCok E t := by
  unfold tcB at h
  cases hi : E.P.info? (E.eid t) with
  | none => rw [hi] at h; cases h
  | some i =>
    rw [hi] at h
    simp only [Bool.and_eq_true] at h
    obtain ⟨⟨⟨⟨h1, h2⟩, h3⟩, h4⟩, h5⟩ := h
    cases hq : i.zero with
    | none => rw [hq] at h5; cases h5
    | some z =>
      rw [hq] at h5
      exact ⟨⟨i, z, z.cells.toList, zc, hi, hq, Nat.eq_of_beq_eq_true h1, Nat.eq_of_beq_eq_true h2, by simp, sclsB_ok h5, h4, hz⟩, blt_iff.1 h3⟩
omit [Coding] in
theorem cond_t {α : Type _} {c : Bool} {a b x : α} (hc : c = true) (h : cond c a b = x) : a = x := by subst hc; exact h
omit [Coding] in
theorem cond_f {α : Type _} {c : Bool} {a b x : α} (hc : c = false) (h : cond c a b = x) : b = x := by subst hc; exact h
omit [Coding] in
theorem cond_is {α : Type _} {c : Bool} (hc : c = true) (a b : α) : cond c a b = a := by subst hc; rfl
omit [Coding] in
theorem cond_no {α : Type _} {c : Bool} (hc : c = false) (a b : α) : cond c a b = b := by subst hc; rfl
/-- are the rows handed of these kinds? -/
def selM : List M → List AV → Bool
  | m :: ms, .sl m' _ _ :: az => (match m, m' with | .d, .d => true | .s, .s => true | .v, .v => true | _, _ => false) && selM ms az
  | _ :: ms, _ :: az => selM ms az
  | _, _ => true
def selClo (k : Nat) (avs : List AV) : Nat := match avs[k]? with
  | some (.clo g _) => g
  | _ => 0
/-- a callee, az the table bears it -/
structure Hd : Type 1 where
  K : (ω : Type) → List AV → (AV → List AV → Option ω) → Option ω
def AllP {α : Type _} (p : Nat → α → Prop) : List (Nat × α) → Prop
  | [] => True
  | (k, a) :: l => p k a ∧ AllP p l
omit [Coding] in
theorem look2_all {α : Type _} {p : Nat → α → Prop} : ∀ {l : List (Nat × α)} {n : Nat} {a : α}, AllP p l → look2 l n = some a → p n a
  | [], n, a, _, h => by cases h
  | (k, b) :: l, n, a, h, h' => by
    simp only [look2] at h'
    cases hb : Nat.beq n k with
    | true =>
      rw [hb] at h'
      simp only [cond_true, Option.some.injEq] at h'
      have := Nat.eq_of_beq_eq_true hb
      subst this h'
      exact h.1
    | false => rw [hb] at h'; exact look2_all h.2 h'
def KH (l : List (Nat × Hd)) (ω : Type) (f : Nat) (avs : List AV) (κ : AV → List AV → Option ω) : Option ω := match look2 l f with
  | some h => h.K ω avs κ
  | none => none
omit [Coding] in
theorem KH_par {l : List (Nat × Hd)} {nt : Nat} {tt : Nat → Option TD} {sig : Nat → Option (List PS)} {fz : Nat → Bool} (h : AllP (fun _ (h : Hd) => ∀ (ω : Type) (avs : List AV) (κ : AV → List AV → Option ω) (q : ω), h.K ω avs κ = some q → ∃ rv outs, κ rv outs = some q ∧ ∀ (ω' : Type) (κ' : AV → List AV → Option ω'), h.K ω' avs κ' = κ' rv outs) l) :
    KPar ⟨nt, tt, sig, KH l, fz⟩ := by
  intro ω f avs κ q hK
  have hK : KH l ω f avs κ = some q := hK
  show ∃ rv outs, κ rv outs = some q ∧ ∀ (ω' : Type) (κ' : AV → List AV → Option ω'), KH l ω' f avs κ' = κ' rv outs
  unfold KH at hK ⊢
  cases hl : look2 l f with
  | none => rw [hl] at hK; cases hK
  | some g => rw [hl] at hK; exact look2_all h hl ω avs κ q hK
theorem KH_ok {E : Env} {l : List (Nat × Hd)} {nt : Nat} {tt : Nat → Option TD} {sig : Nat → Option (List PS)} {fz : Nat → Bool} (h : AllP (fun f (h : Hd) => ∀ (ω : Type) (avs : List AV) (κ : AV → List AV → Option ω) (q : ω), h.K ω avs κ = some q → FnOk E f ∧ ∃ ps rv outs, sig f = some ps ∧ κ rv outs = some q ∧ CallOk E f avs rv outs ps) l) :
    KOk E ⟨nt, tt, sig, KH l, fz⟩ := by
  intro ω f avs κ q hK
  have hK : KH l ω f avs κ = some q := hK
  unfold KH at hK
  cases hl : look2 l f with
  | none => rw [hl] at hK; cases hK
  | some g => rw [hl] at hK; exact look2_all h hl ω avs κ q hK
/-- a slice's rows, whatever it is -/
def getAny (t : TC) (a : AV) {ω : Type} (κ : List (El t) → Option ω) : Option ω := match decSl t a with
  | some xs => κ xs
  | none => none
omit [Coding] in
theorem getAny_ok {t : TC} {a : AV} {ω : Type} {r : ω} {κ : List (El t) → Option ω} (h : getAny t a κ = some r) : ∃ xs, κ xs = some r ∧ ∀ m, AV.sim m a (.sl m t xs) := by
  unfold getAny at h
  cases hd : decSl t a with
  | none => rw [hd] at h; cases h
  | some xs =>
    rw [hd] at h
    refine ⟨xs, h, fun m => ?_⟩
    cases a <;> simp only [decSl] at hd <;> (try (cases hd; done))
    case nils => simp only [Option.some.injEq] at hd; subst hd; exact ⟨t, rfl⟩
    case sl m' t' ys =>
      by_cases e : t' = t
      · subst e
        simp only [dite_true, Option.some.injEq] at hd
        subst hd; rfl
      · simp [e] at hd
/-- is a cell such az an element bears? -/
def codedB (m : M) : AV → Bool
  | .i _ _ | .b _ | .s _ => true
  | .sl m' _ _ => M.same m' m
  | _ => false
omit [Coding] in
theorem coded_of {m : M} {l : List AV} (h : l.all (codedB m) = true) (a : AV) (ha : a ∈ l) : (∃ k n, a = .i k n) ∨ (∃ q, a = .b q) ∨ (∃ l, a = .s l) ∨ ∃ t' xs, a = .sl m t' xs := by
  have := List.all_eq_true.1 h a ha
  cases a <;> simp only [codedB] at this <;> (try (cases this; done))
  · exact .inl ⟨_, _, rfl⟩
  · exact .inr (.inl ⟨_, rfl⟩)
  · exact .inr (.inr (.inl ⟨_, rfl⟩))
  · rw [M.same_eq this]; exact .inr (.inr (.inr ⟨_, _, rfl⟩))
end Go.Pi
end
section
set_option linter.unusedVariables false
/-! Patterns of abstract values: what they hold, how it is read and laid. -/
namespace Go.Pi
def both {α β : Type} (a : Option α) (b : Option β) : Option (α × β) := match a with
  | some x => match b with
    | some y => some (x, y)
    | none => none
  | none => none
theorem both_ok {α β : Type} {a : Option α} {b : Option β} {z : α × β} (h : both a b = some z) : a = some z.1 ∧ b = some z.2 := by
  cases a with
  | none => cases h
  | some x => cases b with
    | none => cases h
    | some y => cases h; exact ⟨rfl, rfl⟩
inductive Pat : Type where
  | i (k : IntKind) | b | s
  | sl (m : M) (t : TC)
  | ag (ps : List Pat) | tu (ps : List Pat) | bx (ps : List Pat)
  | pc (ps : List Pat) (off : Nat)
  | clo (f : FuncId) (ps : List Pat)
  | rt (r : Nat) | pb (r off : Nat)
  | nils | nili | u
mutual
def Pat.T : Pat → Type
  | .i _ => Int
  | .b => Bool
  | .s => Bs
  | .sl _ t => List (El t)
  | .ag ps => Pat.Ts ps
  | .tu ps => Pat.Ts ps
  | .bx ps => Pat.Ts ps
  | .pc ps _ => Pat.Ts ps
  | .clo _ ps => Pat.Ts ps
  | .rt _ => Unit
  | .pb _ _ => Unit
  | .nils => Unit
  | .nili => Unit
  | .u => Unit
def Pat.Ts : List Pat → Type
  | [] => Unit
  | p :: ps => Pat.T p × Pat.Ts ps
end
mutual
def Pat.enc : (p : Pat) → Pat.T p → AV
  | .i k, n => .i k n
  | .b, q => .b q
  | .s, l => .s l
  | .sl m t, xs => .sl m t xs
  | .ag ps, x => .ag (Pat.encs ps x)
  | .tu ps, x => .tu (Pat.encs ps x)
  | .bx ps, x => .bx (Pat.encs ps x)
  | .pc ps off, x => .pc (Pat.encs ps x) off
  | .clo f ps, x => .clo f (Pat.encs ps x)
  | .rt r, _ => .rt r
  | .pb r off, _ => .pb r off
  | .nils, _ => .nils
  | .nili, _ => .nili
  | .u, _ => .u
def Pat.encs : (ps : List Pat) → Pat.Ts ps → List AV
  | [], _ => []
  | p :: ps, x => Pat.enc p x.1 :: Pat.encs ps x.2
end
mutual
def Pat.dec : (p : Pat) → AV → Option (Pat.T p)
  | .i k, a => getI k a fun n => some n
  | .b, a => getB a fun q => some q
  | .s, a => getS a fun l => some l
  | .sl m t, a => getSl m t a fun xs => some xs
  | .ag ps, a => getAg a fun l => Pat.decs ps l
  | .tu ps, a => getTu a fun l => Pat.decs ps l
  | .bx ps, a => getBx a fun l => Pat.decs ps l
  | .pc ps off, a => getPc off a fun l => Pat.decs ps l
  | .clo f ps, a => getClo f a fun l => Pat.decs ps l
  | .rt r, a => isRt r a (some ())
  | .pb r off, a => isPb r off a (some ())
  | .nils, a => isNils a (some ())
  | .nili, a => isNili a (some ())
  | .u, a => isU a (some ())
def Pat.decs : (ps : List Pat) → List AV → Option (Pat.Ts ps)
  | [], l => un l (some ())
  | p :: ps, l => uc l fun a l => both (Pat.dec p a) (Pat.decs ps l)
end
mutual
theorem Pat.dec_ok : ∀ (p : Pat) (a : AV) (x : Pat.T p), Pat.dec p a = some x → a = Pat.enc p x
  | .i k, a, x, h => by simp only [Pat.dec] at h; replace h := getI_ok h; obtain ⟨n, rfl, h⟩ := h; cases h; simp only [Pat.enc]
  | .b, a, x, h => by simp only [Pat.dec] at h; replace h := getB_ok h; obtain ⟨n, rfl, h⟩ := h; cases h; simp only [Pat.enc]
  | .s, a, x, h => by simp only [Pat.dec] at h; replace h := getS_ok h; obtain ⟨n, rfl, h⟩ := h; cases h; simp only [Pat.enc]
  | .sl m t, a, x, h => by simp only [Pat.dec] at h; replace h := getSl_ok h; obtain ⟨n, rfl, h⟩ := h; cases h; simp only [Pat.enc]
  | .ag ps, a, x, h => by simp only [Pat.dec] at h; replace h := getAg_ok h; obtain ⟨l, rfl, h⟩ := h; rw [Pat.decs_ok ps l x h]; simp only [Pat.enc]
  | .tu ps, a, x, h => by simp only [Pat.dec] at h; replace h := getTu_ok h; obtain ⟨l, rfl, h⟩ := h; rw [Pat.decs_ok ps l x h]; simp only [Pat.enc]
  | .bx ps, a, x, h => by simp only [Pat.dec] at h; replace h := getBx_ok h; obtain ⟨l, rfl, h⟩ := h; rw [Pat.decs_ok ps l x h]; simp only [Pat.enc]
  | .pc ps off, a, x, h => by simp only [Pat.dec] at h; replace h := getPc_ok h; obtain ⟨l, rfl, h⟩ := h; rw [Pat.decs_ok ps l x h]; simp only [Pat.enc]
  | .clo f ps, a, x, h => by simp only [Pat.dec] at h; replace h := getClo_ok h; obtain ⟨l, rfl, h⟩ := h; rw [Pat.decs_ok ps l x h]; simp only [Pat.enc]
  | .rt r, a, x, h => by simp only [Pat.dec] at h; replace h := isRt_ok h; obtain ⟨rfl, h⟩ := h; simp only [Pat.enc]
  | .pb r off, a, x, h => by simp only [Pat.dec] at h; replace h := isPb_ok h; obtain ⟨rfl, h⟩ := h; simp only [Pat.enc]
  | .nils, a, x, h => by simp only [Pat.dec] at h; replace h := isNils_ok h; obtain ⟨rfl, h⟩ := h; simp only [Pat.enc]
  | .nili, a, x, h => by simp only [Pat.dec] at h; replace h := isNili_ok h; obtain ⟨rfl, h⟩ := h; simp only [Pat.enc]
  | .u, a, x, h => by simp only [Pat.dec] at h; replace h := isU_ok h; obtain ⟨rfl, h⟩ := h; simp only [Pat.enc]
theorem Pat.decs_ok : ∀ (ps : List Pat) (l : List AV) (x : Pat.Ts ps), Pat.decs ps l = some x → l = Pat.encs ps x
  | [], l, x, h => by simp only [Pat.decs] at h; replace h := un_ok h; obtain ⟨rfl, h⟩ := h; simp only [Pat.encs]
  | p :: ps, l, x, h => by
    simp only [Pat.decs] at h
    replace h := uc_ok h; obtain ⟨a, l, rfl, h⟩ := h
    obtain ⟨h1, h2⟩ := both_ok h
    rw [Pat.dec_ok p a x.1 h1, Pat.decs_ok ps l x.2 h2]
    simp only [Pat.encs]
end
/-! the blocks of roots -/
inductive BPat : Type where
  | ext | non
  | box (ps : List Pat)
  | arr (m : M) (t : TC) (st : Nat)
def BPat.T : BPat → Type
  | .ext => Unit
  | .non => Unit
  | .box ps => Pat.Ts ps
  | .arr _ t _ => List (El t)
def BPat.Ts : List BPat → Type
  | [] => Unit
  | p :: ps => BPat.T p × BPat.Ts ps
def BPat.enc : (p : BPat) → BPat.T p → Option Blk
  | .ext, _ => some .ext
  | .non, _ => none
  | .box ps, x => some (.box (Pat.encs ps x))
  | .arr m t st, xs => some (.arr m t st xs)
def BPat.encs : (ps : List BPat) → BPat.Ts ps → List (Option Blk)
  | [], _ => []
  | p :: ps, x => BPat.enc p x.1 :: BPat.encs ps x.2
def BPat.dec : (p : BPat) → Option Blk → Option (BPat.T p)
  | .ext, a => isExt a (some ())
  | .non, a => noBlk a (some ())
  | .box ps, a => getBox a fun l => Pat.decs ps l
  | .arr m t st, a => getArr m t st a fun xs => some xs
def BPat.decs : (ps : List BPat) → List (Option Blk) → Option (BPat.Ts ps)
  | [], l => un l (some ())
  | p :: ps, l => uc l fun a l => both (BPat.dec p a) (BPat.decs ps l)
theorem BPat.dec_ok (p : BPat) (a : Option Blk) (x : BPat.T p) (h : BPat.dec p a = some x) : a = BPat.enc p x := by
  cases p with
  | ext => obtain ⟨rfl, _⟩ := isExt_ok h; rfl
  | non => obtain ⟨rfl, _⟩ := noBlk_ok h; rfl
  | box ps => replace h := getBox_ok h; obtain ⟨l, rfl, h⟩ := h; rw [Pat.decs_ok ps l x h]; rfl
  | arr m t st => replace h := getArr_ok h; obtain ⟨l, rfl, h⟩ := h; cases h; rfl
theorem BPat.decs_ok : ∀ (ps : List BPat) (l : List (Option Blk)) (x : BPat.Ts ps), BPat.decs ps l = some x → l = BPat.encs ps x
  | [], l, x, h => by simp only [BPat.decs] at h; replace h := un_ok h; obtain ⟨rfl, h⟩ := h; rfl
  | p :: ps, l, x, h => by
    simp only [BPat.decs] at h
    replace h := uc_ok h; obtain ⟨a, l, rfl, h⟩ := h
    obtain ⟨h1, h2⟩ := both_ok h
    rw [BPat.dec_ok p a x.1 h1, BPat.decs_ok ps l x.2 h2]
    rfl
/-- what a piece makes of its data -/
def piece {R : Type} (vp : List Pat) (bp : List BPat) (v : List AV) (b : List (Option Blk)) (g : Pat.Ts vp → BPat.Ts bp → Option R) : Option R :=
  match Pat.decs vp v with
  | some x => (match BPat.decs bp b with
    | some y => g x y
    | none => none)
  | none => none
theorem piece_ok {R : Type} {vp : List Pat} {bp : List BPat} {v : List AV} {b : List (Option Blk)} {g : Pat.Ts vp → BPat.Ts bp → Option R} {r : R} (h : piece vp bp v b g = some r) :
    ∃ x y, v = Pat.encs vp x ∧ b = BPat.encs bp y ∧ g x y = some r := by
  unfold piece at h
  cases h1 : Pat.decs vp v with
  | none => rw [h1] at h; cases h
  | some x =>
    rw [h1] at h
    cases h2 : BPat.decs bp b with
    | none => rw [h2] at h; cases h
    | some y => rw [h2] at h; exact ⟨x, y, Pat.decs_ok _ _ _ h1, BPat.decs_ok _ _ _ h2, h⟩
/-- what is left at the end, az the answer -/
def finP {R : Type} (ps : List Pat) (k : Pat.Ts ps → R) (o : List AV) : Option R := match Pat.decs ps o with
  | some x => some (k x)
  | none => none
theorem finP_ok {R : Type} {ps : List Pat} {k : Pat.Ts ps → R} {inj : R → List AV} (hk : ∀ x, Pat.encs ps x = inj (k x)) {o : List AV} {r : R} (h : finP ps k o = some r) : o = inj r := by
  unfold finP at h
  cases h1 : Pat.decs ps o with
  | none => rw [h1] at h; cases h
  | some x =>
    rw [h1] at h
    cases h
    rw [Pat.decs_ok _ _ _ h1, hk]
end Go.Pi
end
section
set_option linter.unusedVariables false
namespace Go.Pi
/-- a callee, out of what its arguments are and what it answers -/
def mkK {R : Type} (ss : List Sk) (ps : List Pat) (f : Pat.Ts ps → Option R) (rv : R → AV) (outs : R → List AV) {ω : Type} (avs : List AV) (κ : AV → List AV → Option ω) : Option ω :=
  match Pat.decs ps (fixes ss avs) with
  | some x => (f x).bind fun r => κ (rv r) (outs r)
  | none => none
theorem mkK_par {R : Type} {ss : List Sk} {ps : List Pat} {f : Pat.Ts ps → Option R} {rv : R → AV} {outs : R → List AV} {ω : Type} {avs : List AV} {κ : AV → List AV → Option ω} {q : ω} (h : mkK ss ps f rv outs avs κ = some q) :
    ∃ r o, κ r o = some q ∧ ∀ (ω' : Type) (κ' : AV → List AV → Option ω'), mkK ss ps f rv outs avs κ' = κ' r o := by
  unfold mkK at h
  cases hd : Pat.decs ps (fixes ss avs) with
  | none => rw [hd] at h; cases h
  | some x =>
    rw [hd] at h
    simp only at h
    cases hf : f x with
    | none => rw [hf] at h; cases h
    | some r =>
      rw [hf] at h
      exact ⟨_, _, h, fun ω' κ' => by unfold mkK; rw [hd]; simp only [hf]; rfl⟩
variable [Coding]
theorem mkK_ok [CodingOk] {E : Env} {fid : FuncId} {sg : Option (List PS)} {R : Type} {ss : List Sk} {ps : List Pat} {f : Pat.Ts ps → Option R} {rv : R → AV} {outs : R → List AV} {pss : List PS} (hfn : FnOk E fid) (hsig : sg = some pss)
    (ho : ∀ x r, f x = some r → CallOk E fid (Pat.encs ps x) (rv r) (outs r) pss) {ω : Type} {avs : List AV} {κ : AV → List AV → Option ω} {q : ω} (h : mkK ss ps f rv outs avs κ = some q) :
    FnOk E fid ∧ ∃ ps' r o, sg = some ps' ∧ κ r o = some q ∧ CallOk E fid avs r o ps' := by
  unfold mkK at h
  cases hd : Pat.decs ps (fixes ss avs) with
  | none => rw [hd] at h; cases h
  | some x =>
    rw [hd] at h
    simp only at h
    cases hf : f x with
    | none => rw [hf] at h; cases h
    | some r =>
      rw [hf] at h
      exact ⟨hfn, pss, _, _, hsig, h, CallOk.fix (ss := ss) (by rw [Pat.decs_ok _ _ _ hd]; exact ho x r hf)⟩
end Go.Pi
end
section
set_option linter.unusedVariables false
set_option linter.unusedSectionVars false
/-! What a function's print says of it, az data; what it owes, out of a few closed facts. -/
namespace Go.Pi
mutual
def Pat.C : Pat → Type → Type
  | .i _, α => Int → α
  | .b, α => Bool → α
  | .s, α => Bs → α
  | .sl _ t, α => List (El t) → α
  | .ag ps, α => Pat.Cs ps α
  | .tu ps, α => Pat.Cs ps α
  | .bx ps, α => Pat.Cs ps α
  | .pc ps _, α => Pat.Cs ps α
  | .clo _ ps, α => Pat.Cs ps α
  | .rt _, α => α
  | .pb _ _, α => α
  | .nils, α => α
  | .nili, α => α
  | .u, α => α
def Pat.Cs : List Pat → Type → Type
  | [], α => α
  | p :: ps, α => Pat.C p (Pat.Cs ps α)
end
mutual
def Pat.ap : (p : Pat) → (α : Type) → Pat.C p α → Pat.T p → α
  | .i _, _, f, x => f x
  | .b, _, f, x => f x
  | .s, _, f, x => f x
  | .sl _ _, _, f, x => f x
  | .ag ps, α, f, x => Pat.aps ps α f x
  | .tu ps, α, f, x => Pat.aps ps α f x
  | .bx ps, α, f, x => Pat.aps ps α f x
  | .pc ps _, α, f, x => Pat.aps ps α f x
  | .clo _ ps, α, f, x => Pat.aps ps α f x
  | .rt _, _, f, _ => f
  | .pb _ _, _, f, _ => f
  | .nils, _, f, _ => f
  | .nili, _, f, _ => f
  | .u, _, f, _ => f
def Pat.aps : (ps : List Pat) → (α : Type) → Pat.Cs ps α → Pat.Ts ps → α
  | [], _, f, _ => f
  | p :: ps, α, f, x => Pat.aps ps α (Pat.ap p (Pat.Cs ps α) f x.1) x.2
end
mutual
def Pat.lm : (p : Pat) → (α : Type) → (Pat.T p → α) → Pat.C p α
  | .i _, _, f => f
  | .b, _, f => f
  | .s, _, f => f
  | .sl _ _, _, f => f
  | .ag ps, α, f => Pat.lms ps α f
  | .tu ps, α, f => Pat.lms ps α f
  | .bx ps, α, f => Pat.lms ps α f
  | .pc ps _, α, f => Pat.lms ps α f
  | .clo _ ps, α, f => Pat.lms ps α f
  | .rt _, _, f => f ()
  | .pb _ _, _, f => f ()
  | .nils, _, f => f ()
  | .nili, _, f => f ()
  | .u, _, f => f ()
def Pat.lms : (ps : List Pat) → (α : Type) → (Pat.Ts ps → α) → Pat.Cs ps α
  | [], _, f => f ()
  | p :: ps, α, f => Pat.lm p (Pat.Cs ps α) fun a => Pat.lms ps α fun r => f (a, r)
end
mutual
theorem Pat.ap_lm : ∀ (p : Pat) (α : Type) (f : Pat.T p → α) (x : Pat.T p), Pat.ap p α (Pat.lm p α f) x = f x
  | .i _, _, f, x => rfl
  | .b, _, f, x => rfl
  | .s, _, f, x => rfl
  | .sl _ _, _, f, x => rfl
  | .ag ps, α, f, x => Pat.aps_lms ps α f x
  | .tu ps, α, f, x => Pat.aps_lms ps α f x
  | .bx ps, α, f, x => Pat.aps_lms ps α f x
  | .pc ps _, α, f, x => Pat.aps_lms ps α f x
  | .clo _ ps, α, f, x => Pat.aps_lms ps α f x
  | .rt _, _, f, x => rfl
  | .pb _ _, _, f, x => rfl
  | .nils, _, f, x => rfl
  | .nili, _, f, x => rfl
  | .u, _, f, x => rfl
theorem Pat.aps_lms : ∀ (ps : List Pat) (α : Type) (f : Pat.Ts ps → α) (x : Pat.Ts ps), Pat.aps ps α (Pat.lms ps α f) x = f x
  | [], _, f, x => rfl
  | p :: ps, α, f, x => by
    show Pat.aps ps α (Pat.ap p (Pat.Cs ps α) (Pat.lm p (Pat.Cs ps α) fun a => Pat.lms ps α fun r => f (a, r)) x.1) x.2 = f x
    rw [Pat.ap_lm p _ _ x.1, Pat.aps_lms ps α _ x.2]
    rfl
end
mutual
theorem Pat.lm_ap : ∀ (p : Pat) (α : Type) (f : Pat.C p α), Pat.lm p α (Pat.ap p α f) = f
  | .i _, _, f => rfl
  | .b, _, f => rfl
  | .s, _, f => rfl
  | .sl _ _, _, f => rfl
  | .ag ps, α, f => Pat.lms_aps ps α f
  | .tu ps, α, f => Pat.lms_aps ps α f
  | .bx ps, α, f => Pat.lms_aps ps α f
  | .pc ps _, α, f => Pat.lms_aps ps α f
  | .clo _ ps, α, f => Pat.lms_aps ps α f
  | .rt _, _, f => rfl
  | .pb _ _, _, f => rfl
  | .nils, _, f => rfl
  | .nili, _, f => rfl
  | .u, _, f => rfl
theorem Pat.lms_aps : ∀ (ps : List Pat) (α : Type) (f : Pat.Cs ps α), Pat.lms ps α (Pat.aps ps α f) = f
  | [], _, f => rfl
  | p :: ps, α, f => by
    show Pat.lm p (Pat.Cs ps α) (fun a => Pat.lms ps α (Pat.aps ps α (Pat.ap p (Pat.Cs ps α) f a))) = f
    rw [show (fun a => Pat.lms ps α (Pat.aps ps α (Pat.ap p (Pat.Cs ps α) f a))) = Pat.ap p (Pat.Cs ps α) f from funext fun a => Pat.lms_aps ps α _]
    exact Pat.lm_ap p _ f
end
def BPat.C : BPat → Type → Type
  | .ext, α => α
  | .non, α => α
  | .box ps, α => Pat.Cs ps α
  | .arr _ t _, α => List (El t) → α
def BPat.Cs : List BPat → Type → Type
  | [], α => α
  | p :: ps, α => BPat.C p (BPat.Cs ps α)
def BPat.ap : (p : BPat) → (α : Type) → BPat.C p α → BPat.T p → α
  | .ext, _, f, _ => f
  | .non, _, f, _ => f
  | .box ps, α, f, x => Pat.aps ps α f x
  | .arr _ _ _, _, f, x => f x
def BPat.aps : (ps : List BPat) → (α : Type) → BPat.Cs ps α → BPat.Ts ps → α
  | [], _, f, _ => f
  | p :: ps, α, f, x => BPat.aps ps α (BPat.ap p (BPat.Cs ps α) f x.1) x.2
def BPat.lm : (p : BPat) → (α : Type) → (BPat.T p → α) → BPat.C p α
  | .ext, _, f => f ()
  | .non, _, f => f ()
  | .box ps, α, f => Pat.lms ps α f
  | .arr _ _ _, _, f => f
def BPat.lms : (ps : List BPat) → (α : Type) → (BPat.Ts ps → α) → BPat.Cs ps α
  | [], _, f => f ()
  | p :: ps, α, f => BPat.lm p (BPat.Cs ps α) fun a => BPat.lms ps α fun r => f (a, r)
theorem BPat.ap_lm (p : BPat) (α : Type) (f : BPat.T p → α) (x : BPat.T p) : BPat.ap p α (BPat.lm p α f) x = f x := by
  cases p with
  | ext => rfl
  | non => rfl
  | box ps => exact Pat.aps_lms ps α f x
  | arr m t st => rfl
theorem BPat.lm_ap (p : BPat) (α : Type) (f : BPat.C p α) : BPat.lm p α (BPat.ap p α f) = f := by
  cases p with
  | ext => rfl
  | non => rfl
  | box ps => exact Pat.lms_aps ps α f
  | arr m t st => rfl
theorem BPat.aps_lms : ∀ (ps : List BPat) (α : Type) (f : BPat.Ts ps → α) (x : BPat.Ts ps), BPat.aps ps α (BPat.lms ps α f) x = f x
  | [], _, f, x => rfl
  | p :: ps, α, f, x => by
    show BPat.aps ps α (BPat.ap p (BPat.Cs ps α) (BPat.lm p (BPat.Cs ps α) fun a => BPat.lms ps α fun r => f (a, r)) x.1) x.2 = f x
    rw [BPat.ap_lm p _ _ x.1, BPat.aps_lms ps α _ x.2]
    rfl
theorem BPat.lms_aps : ∀ (ps : List BPat) (α : Type) (f : BPat.Cs ps α), BPat.lms ps α (BPat.aps ps α f) = f
  | [], _, f => rfl
  | p :: ps, α, f => by
    show BPat.lm p (BPat.Cs ps α) (fun a => BPat.lms ps α (BPat.aps ps α (BPat.ap p (BPat.Cs ps α) f a))) = f
    rw [show (fun a => BPat.lms ps α (BPat.aps ps α (BPat.ap p (BPat.Cs ps α) f a))) = BPat.ap p (BPat.Cs ps α) f from funext fun a => BPat.lms_aps ps α _]
    exact BPat.lm_ap p _ f
/-- what lives at a place, and of what form it is -/
structure OD where
  live : Live
  vp : List Pat
  bp : List BPat
abbrev OD.Cu (o : OD) (α : Type) : Type := Pat.Cs o.vp (BPat.Cs o.bp α)
def OD.ap (o : OD) {α : Type} (f : o.Cu α) (x : Pat.Ts o.vp) (y : BPat.Ts o.bp) : α := BPat.aps o.bp α (Pat.aps o.vp _ f x) y
def OD.lm (o : OD) {α : Type} (g : Pat.Ts o.vp → BPat.Ts o.bp → α) : o.Cu α := Pat.lms o.vp _ fun x => BPat.lms o.bp α fun y => g x y
theorem OD.ap_lm (o : OD) {α : Type} (g : Pat.Ts o.vp → BPat.Ts o.bp → α) (x : Pat.Ts o.vp) (y : BPat.Ts o.bp) : o.ap (o.lm g) x y = g x y := by
  unfold OD.ap OD.lm; rw [Pat.aps_lms, BPat.aps_lms]
theorem OD.lm_ap (o : OD) {α : Type} (f : o.Cu α) : o.lm (fun x y => o.ap f x y) = f := by
  unfold OD.ap OD.lm
  rw [show (fun x => BPat.lms o.bp α fun y => BPat.aps o.bp α (Pat.aps o.vp _ f x) y) = Pat.aps o.vp _ f from funext fun x => BPat.lms_aps _ _ _]
  exact Pat.lms_aps _ _ _
/-- what goes on behind a place -/
def OD.k {R : Type} (o : OD) (κ : D R) : o.Cu (Option R) := o.lm fun x y => κ (Pat.encs o.vp x) (BPat.encs o.bp y)
/-- what the pieces make of their data -/
def PFs (R : Type) : List (Nat × OD) → Type
  | [] => Unit
  | (_, o) :: l => (D R → (Nat → D R) → o.Cu (Option R)) × PFs R l
structure FD (R : Type) where
  fid : Nat
  nt : Nat
  e : Nat
  ps : List Pat
  rp : List Pat
  toR : Pat.Ts rp → R
  ofR : R → Pat.Ts rp
  sig : List PS
  rps : List PS
  rsh : List Sh
  rs : List ResultVar
  outs : List AV
  cut : List (Nat × OD)
  nxt : List (Nat × OD)
  out : List (Nat × OD)
variable {R : Type}
abbrev FD.nres (d : FD R) : Nat := d.rs.length
abbrev FD.Fs (d : FD R) : Type := PFs R d.cut
def liveOf (l : List (Nat × OD)) (k : Nat) : Live := match look2 l k with
  | some o => o.live
  | none => []
def FD.ann (d : FD R) : Ann := ⟨fun k => match look2 d.cut k with
  | some o => some o.live
  | none => none, liveOf d.nxt, liveOf d.out⟩
def FD.inj (d : FD R) (r : R) : List AV := Pat.encs d.rp (d.ofR r)
def FD.fin (d : FD R) (o : List AV) : Option R := match Pat.decs d.rp o with
  | some x => some (d.toR x)
  | none => none
def lfL : (l : List (Nat × OD)) → PFs R l → LF R
  | [], _, _, _, _, _, _ => none
  | (k, o) :: l, fs, key, κd, κe, v, b => cond (Nat.beq key k) (piece o.vp o.bp v b fun x y => o.ap (fs.1 κd κe) x y) (lfL l fs.2 key κd κe v b)
/-- of all pieces -/
def AllQ (q : Nat → (o : OD) → (D R → (Nat → D R) → o.Cu (Option R)) → Prop) : (l : List (Nat × OD)) → PFs R l → Prop
  | [], _ => True
  | (k, o) :: l, fs => q k o fs.1 ∧ AllQ q l fs.2
theorem AllQ.nil {q : Nat → (o : OD) → (D R → (Nat → D R) → o.Cu (Option R)) → Prop} {u : PFs R []} : AllQ q [] u := trivial
theorem AllQ.cons {q : Nat → (o : OD) → (D R → (Nat → D R) → o.Cu (Option R)) → Prop} {k : Nat} {o : OD} {l : List (Nat × OD)} {fs : PFs R ((k, o) :: l)} (h : q k o fs.1) (hl : AllQ q l fs.2) : AllQ q ((k, o) :: l) fs := ⟨h, hl⟩
def codeAt : Option Piece → Code
  | some (.loop a _) => a
  | some (.tail a _) => a
  | none => .skip
def keyAt : Option Piece → Nat
  | some (.loop _ k) => k
  | some (.tail _ k) => k
  | none => 0
def isLoopB : Option Piece → Bool
  | some (.loop _ _) => true
  | _ => false
def isTailB : Option Piece → Bool
  | some (.tail _ _) => true
  | _ => false
theorem isLoop_eq {p : Option Piece} (h : isLoopB p = true) : p = some (.loop (codeAt p) (keyAt p)) := by
  match p, h with
  | some (.loop a k), _ => rfl
theorem isTail_eq {p : Option Piece} (h : isTailB p = true) : p = some (.tail (codeAt p) (keyAt p)) := by
  match p, h with
  | some (.tail a k), _ => rfl
def bodyOf (fn : Func) : Code := match fn.body with
  | some c => c
  | none => .skip
mutual
def Pat.sk : Pat → Sk
  | .sl m t => .sl m t
  | .ag ps => .ag (Pat.sks ps)
  | _ => .k
def Pat.sks : List Pat → List Sk
  | [] => []
  | p :: ps => Pat.sk p :: Pat.sks ps
end
theorem Pat.encs_length : ∀ (ps : List Pat) (x : Pat.Ts ps), (Pat.encs ps x).length = ps.length
  | [], _ => rfl
  | p :: ps, x => by simp only [Pat.encs, List.length_cons, Pat.encs_length ps x.2]
section
variable [Coding]
def FD.kr (d : FD R) (c : Cx) : St → Option R := retK c d.rsh d.rps d.rs d.outs d.fin
def FD.at (d : FD R) (B : Code) (key : Nat) : Option Piece := pieceAt d.ann B 0 key
/-- one round of a loop -/
def FD.Round (d : FD R) (fs : d.Fs) (c : Cx) (B : Code) (key : Nat) (o : OD) (step : (Nat → D R) → o.Cu (Option R) → o.Cu (Option R)) : Prop :=
  ∀ (κ : D R) (κe : Nat → D R) (x : Pat.Ts o.vp) (y : BPat.Ts o.bp), run c d.e d.ann (lfL d.cut fs) (d.kr c) (codeAt (d.at B key)) (keyAt (d.at B key)) (fun s => cutK d.e o.live s κ) (fun j s => cutK d.e (d.ann.out j) s (κe j)) (St.ofC o.live (Pat.encs o.vp x) (BPat.encs o.bp y)) =
    o.ap (step κe (o.k κ)) x y
def FD.Tail (d : FD R) (fs : d.Fs) (c : Cx) (B : Code) (key : Nat) (o : OD) (f : D R → (Nat → D R) → o.Cu (Option R)) : Prop :=
  ∀ (κd : D R) (κe : Nat → D R) (x : Pat.Ts o.vp) (y : BPat.Ts o.bp), run c d.e d.ann (lfL d.cut fs) (d.kr c) (codeAt (d.at B key)) (keyAt (d.at B key)) (fun s => cutK d.e (d.ann.nxt key) s κd) (fun j s => cutK d.e (d.ann.out j) s (κe j)) (St.ofC o.live (Pat.encs o.vp x) (BPat.encs o.bp y)) =
    o.ap (f κd κe) x y
def FD.PieceOk (d : FD R) (fs : d.Fs) (c : Cx) (B : Code) (key : Nat) (o : OD) (f : D R → (Nat → D R) → o.Cu (Option R)) : Prop :=
  ∀ (κd : D R) (κe : Nat → D R) (x : Pat.Ts o.vp) (y : BPat.Ts o.bp) (r : R), o.ap (f κd κe) x y = some r →
    ∃ q, pieceAt d.ann B 0 key = some q ∧ pieceIs c d.e d.ann (lfL d.cut fs) (d.kr c) key o.live κd κe (Pat.encs o.vp x) (BPat.encs o.bp y) r q
theorem FD.rounds_eq {d : FD R} {fs : d.Fs} {c : Cx} {B : Code} {key : Nat} {o : OD} {step : (Nat → D R) → o.Cu (Option R) → o.Cu (Option R)} (h : d.Round fs c B key o step) (κe : Nat → D R) :
    ∀ (N : Nat) (x : Pat.Ts o.vp) (y : BPat.Ts o.bp), rounds c d.e d.ann (lfL d.cut fs) (d.kr c) (codeAt (d.at B key)) (keyAt (d.at B key)) o.live κe N (Pat.encs o.vp x) (BPat.encs o.bp y) = o.ap (iterN (o.lm fun _ _ => none) (step κe) N) x y
  | 0, x, y => (o.ap_lm (fun _ _ => (none : Option R)) x y).symm
  | N + 1, x, y => by
    show run c d.e d.ann (lfL d.cut fs) (d.kr c) (codeAt (d.at B key)) (keyAt (d.at B key)) (fun s => cutK d.e o.live s (rounds c d.e d.ann (lfL d.cut fs) (d.kr c) (codeAt (d.at B key)) (keyAt (d.at B key)) o.live κe N)) (fun j s => cutK d.e (d.ann.out j) s (κe j)) (St.ofC o.live (Pat.encs o.vp x) (BPat.encs o.bp y)) = o.ap (step κe (iterN (o.lm fun _ _ => none) (step κe) N)) x y
    rw [h]
    congr 2
    unfold OD.k
    rw [← o.lm_ap (iterN (o.lm fun _ _ => none) (step κe) N)]
    congr 1
    funext x y
    exact FD.rounds_eq h κe N x y
theorem FD.lp {d : FD R} {fs : d.Fs} {c : Cx} {B : Code} {key : Nat} {o : OD} {f : D R → (Nat → D R) → o.Cu (Option R)} {step : (Nat → D R) → o.Cu (Option R) → o.Cu (Option R)} (N : Nat) (hr : d.Round fs c B key o step) (h1 : isLoopB (d.at B key) = true)
    (hf : ∀ κd κe, f κd κe = iterN (o.lm fun _ _ => none) (step κe) N) : d.PieceOk fs c B key o f := by
  intro κd κe x y r h
  refine ⟨_, isLoop_eq h1, N, (FD.rounds_eq hr κe N x y).trans ?_⟩
  rw [← hf κd κe]
  exact h
theorem FD.tl {d : FD R} {fs : d.Fs} {c : Cx} {B : Code} {key : Nat} {o : OD} {f : D R → (Nat → D R) → o.Cu (Option R)} (hr : d.Tail fs c B key o f) (h1 : isTailB (d.at B key) = true) : d.PieceOk fs c B key o f := by
  intro κd κe x y r h
  exact ⟨_, isTail_eq h1, (hr κd κe x y).trans h⟩
theorem lfL_some : ∀ {l : List (Nat × OD)} {fs : PFs R l} {q : Nat → (o : OD) → (D R → (Nat → D R) → o.Cu (Option R)) → Prop} {key : Nat} {κd : D R} {κe : Nat → D R} {v : List AV} {b : List (Option Blk)} {r : R}, AllQ q l fs → lfL l fs key κd κe v b = some r →
    ∃ o f x y, look2 l key = some o ∧ q key o f ∧ v = Pat.encs o.vp x ∧ b = BPat.encs o.bp y ∧ o.ap (f κd κe) x y = some r
  | [], _, _, _, _, _, _, _, _, _, h => by cases h
  | (k, o) :: l, fs, q, key, κd, κe, v, b, r, ha, h => by
    simp only [lfL] at h
    cases hk : Nat.beq key k with
    | true =>
      rw [hk] at h
      simp only [cond_true] at h
      obtain ⟨x, y, h1, h2, h3⟩ := piece_ok h
      have := beq_iff.1 hk
      subst this
      exact ⟨o, _, x, y, by simp only [look2, hk, cond_true], ha.1, h1, h2, h3⟩
    | false =>
      rw [hk] at h
      simp only [cond_false] at h
      obtain ⟨o', f, x, y, h0, h1⟩ := lfL_some ha.2 h
      exact ⟨o', f, x, y, by simp only [look2, hk, cond_false]; exact h0, h1⟩
theorem FD.cuts {d : FD R} {fs : d.Fs} {c : Cx} {B : Code} (h : AllQ (fun key o f => d.PieceOk fs c B key o f) d.cut fs) : Cuts c d.e d.ann (lfL d.cut fs) (d.kr c) B := by
  intro key κd κe v b r hl
  obtain ⟨o, f, x, y, h0, hp, rfl, rfl, h3⟩ := lfL_some h hl
  obtain ⟨q, h4, h5⟩ := hp κd κe x y r h3
  exact ⟨o.live, q, by simp only [FD.ann, h0], h4, h5⟩
theorem FD.fin_ok {d : FD R} (hi : ∀ x, d.ofR (d.toR x) = x) (o : List AV) (r : R) (h : d.fin o = some r) : o = d.inj r := by
  unfold FD.fin at h
  cases h1 : Pat.decs d.rp o with
  | none => rw [h1] at h; cases h
  | some x =>
    rw [h1] at h
    simp only [Option.some.injEq] at h
    subst h
    rw [Pat.decs_ok _ _ _ h1, FD.inj, hi]
/-- the whole of a function, az it is run -/
def FD.whole (d : FD R) (fs : d.Fs) (c : Cx) (B : Code) (x : Pat.Ts d.ps) : Option R :=
  entryK d.e (Pat.encs d.ps x) fun v b => match outOfAll d.sig v with
    | some o => cond (AV.allRoots o d.outs) (run c d.e d.ann (lfL d.cut fs) (d.kr c) B 0 (d.kr c) (fun _ _ => none) (St.ofC (live0 d.ps.length) v b)) none
    | none => none
/-- what a function owes -/
def FD.Ok (d : FD R) (E : Env) (F : Pat.Ts d.ps → Option R) : Prop :=
  ∀ x r, F x = some r → CallOk E d.fid (Pat.encs d.ps x) (rvOf d.nres (d.inj r)) ((d.inj r).drop d.nres) d.sig
def FD.K (d : FD R) (F : Pat.Ts d.ps → Option R) {ω : Type} (avs : List AV) (κ : AV → List AV → Option ω) : Option ω :=
  mkK (Pat.sks d.ps) d.ps F (fun r => rvOf d.nres (d.inj r)) (fun r => (d.inj r).drop d.nres) avs κ
theorem FD.kpar {d : FD R} {F : Pat.Ts d.ps → Option R} {ω : Type} {avs : List AV} {κ : AV → List AV → Option ω} {q : ω} (h : d.K F avs κ = some q) :
    ∃ r o, κ r o = some q ∧ ∀ (ω' : Type) (κ' : AV → List AV → Option ω'), d.K F avs κ' = κ' r o := mkK_par h
theorem FD.kok [CodingOk] {E : Env} {d : FD R} {F : Pat.Ts d.ps → Option R} {sg : Option (List PS)} (hfn : FnOk E d.fid) (hsig : sg = some d.sig) (ho : d.Ok E F) {ω : Type} {avs : List AV} {κ : AV → List AV → Option ω} {q : ω} (h : d.K F avs κ = some q) :
    FnOk E d.fid ∧ ∃ ps' r o, sg = some ps' ∧ κ r o = some q ∧ CallOk E d.fid avs r o ps' := mkK_ok hfn hsig ho h
def notNG (fn : Func) : Bool := !(decide (fn.name = "runtime.NumGoroutine"))
theorem FD.kf [CodingOk] {E : Env} {d : FD R} {F : Pat.Ts d.ps → Option R} {sg : Option (List PS)} {fn : Func} (hfn : E.P.funcs[d.fid]? = some fn) (h1 : notNG fn = true) (h2 : fn.body = some (bodyOf fn)) (hsig : sg = some d.sig) (ho : d.Ok E F) (ω : Type) (avs : List AV) (κ : AV → List AV → Option ω) (q : ω) (h : d.K F avs κ = some q) :
    FnOk E d.fid ∧ ∃ ps' r o, sg = some ps' ∧ κ r o = some q ∧ CallOk E d.fid avs r o ps' :=
  FD.kok ⟨fn, _, hfn, fun e => by simp [notNG, e] at h1, h2⟩ hsig ho h
theorem FD.kp {d : FD R} {F : Pat.Ts d.ps → Option R} (ω : Type) (avs : List AV) (κ : AV → List AV → Option ω) (q : ω) (h : d.K F avs κ = some q) :
    ∃ r o, κ r o = some q ∧ ∀ (ω' : Type) (κ' : AV → List AV → Option ω'), d.K F avs κ' = κ' r o := FD.kpar h
theorem FD.ok [CodingOk] {E : Env} {d : FD R} {fs : d.Fs} {c : Cx} {fn : Func} {F : Pat.Ts d.ps → Option R} (hm : E.P.follows .mixedOrders = true) (hfn : E.P.funcs[d.fid]? = some fn) (hbody : fn.body = some (bodyOf fn)) (hres : fn.results = List.toArray d.rs)
    (hnt : fn.ntmps = c.nt) (he : Nat.blt 0 d.e = true) (hi : ∀ x, d.ofR (d.toR x) = x) (hn : Nat.ble d.ps.length c.nt = true) (top : ∀ x, d.whole fs c (bodyOf fn) x = F x)
    (cuts : AllQ (fun key o f => d.PieceOk fs c (bodyOf fn) key o f) d.cut fs) (hc : CxOk E c) (hK : KPar c) : d.Ok E F := by
  intro x r h
  refine fn_sound (avs := Pat.encs d.ps x) hc hK hm hfn hbody hres hnt (blt_iff.1 he) (FD.fin_ok hi) (by rw [Pat.encs_length]; exact hn) ?_ (FD.cuts cuts)
  rw [Pat.encs_length]
  exact (top x).trans h
end
end Go.Pi
end
section
set_option linter.unusedVariables false
namespace Go.Pi
/-- strconv.Itoa, az the shelf's contract tells it -/
def ItoaM (P : Program) (f : FuncId) : Prop := ∀ (n : Int), -9223372036854775808 ≤ n → n ≤ 9223372036854775807 → ∀ w : World, Lib.TabIs P w "internal/strconv.uint64pow10" .u64 Lib.pow10Tab →
  Calls P f #[.int .i64 n] w fun e w' => e = .returned (.string ⟨(Lib.itoa n).toArray⟩) ∧ ∃ k os, w' = Go.Sort.grow (w.drewN k) os
variable [Coding]
open Coding
variable {E : Env}
omit [Coding] in
theorem glob_tab {w : World} {F : Nat → Prop} (h : Glob E w F) {g : Nat} {name : String} {k : IntKind} {zs : List Int} (hm : (g, fun cs => cs = (zs.map fun z => Value.int k z).toArray) ∈ E.globs) (hg : E.P.globalNamed name = some g) : Lib.TabIs E.P w name k zs := by
  obtain ⟨⟨cs, T, fr, h1, hc⟩, _⟩ := h _ hm
  have hc : cs = (zs.map fun z => Value.int k z).toArray := hc
  subst hc
  unfold Lib.TabIs World.var?
  rw [hg]
  simp only [Option.bind_some, h1]
omit [Coding] in
theorem tab_glob {P : Program} {w : World} {g : Nat} {name : String} {k : IntKind} {zs : List Int} (h : Lib.TabIs P w name k zs) (hg : P.globalNamed name = some g) : ∃ T fr, w.heap[g]? = some (.cells (zs.map fun z => Value.int k z).toArray T fr) := by
  unfold Lib.TabIs World.var? at h
  rw [hg] at h
  simp only [Option.bind_some] at h
  split at h
  · rename_i cs T fr hh
    cases h
    exact ⟨T, fr, hh⟩
  · cases h
theorem nItoa_ok [CodingOk] {f : FuncId} (h : ItoaM E.P f) {g : Nat} (hm : (g, fun cs => cs = (Lib.pow10Tab.map fun z => Value.int .u64 z).toArray) ∈ E.globs) (hg : E.P.globalNamed "internal/strconv.uint64pow10" = some g)
    {n : Int} {r : Bs} (hr : nItoa n = some r) : CallOk E f [.i .i64 n] (.s r) [] [.v] := by
  unfold nItoa at hr
  have hc : -9223372036854775808 ≤ n ∧ n ≤ 9223372036854775807 := Classical.byContradiction fun hc => by
    have : (decide (-9223372036854775808 ≤ n) && decide (n ≤ 9223372036854775807)) = false := by
      rw [Bool.eq_false_iff]; intro h; simp only [Bool.and_eq_true, decide_eq_true_eq] at h; exact hc h
    rw [this] at hr; cases hr
  rw [decide_eq_true hc.1, decide_eq_true hc.2] at hr
  simp only [Bool.and_self, cond_true, Option.some.injEq] at hr
  subst hr
  intro w F Vs φ hrl h1 hlow hgl
  obtain ⟨v, vs, φ₁, φ₂, rfl, k1, k2, e⟩ := RL.uncons hrl
  obtain ⟨rfl, e2⟩ := RL.nil_inv k2
  have e1 : v = .int .i64 n := by
    cases k1 with
    | scal _ _ _ _ _ h1 h2 => exact h1
  subst e1
  refine (h n hc.1 hc.2 w (glob_tab hgl hm hg)).mono ?_
  rintro e' w' ⟨rfl, k, os, rfl⟩
  refine ⟨_, fun _ => 0, rfl, .scal _ _ _ _ _ rfl (.nil _ fun _ => rfl), fun _ => Nat.zero_le _, fun b hb => absurd rfl hb, rfl, rfl, rfl, ?_, fun b hb _ => ?_⟩
  · simp [Go.Sort.grow, World.drewN]
  · have hb : b < (w.drewN k).heap.size := hb
    show ((w.drewN k).heap ++ os)[b]? = _
    rw [Array.getElem?_append_left hb]; rfl
end Go.Pi
end
section
set_option linter.unusedVariables false
set_option maxRecDepth 100000
namespace Go.Pi
open Go.Proofs
instance coding : Coding where
  enc := fun m t => match t with
    | .str => fun (x : Bs) => [AV.s x]
    | .u8 => fun (x : Int) => [AV.i .u8 x]
    | .lJson => fun (x : TJson) => [AV.i .i64 x.kind, AV.i .i64 x.n_, AV.s x.s, AV.sl m .lJson x.list, AV.sl m .str x.names]
    | .lOp => fun (x : TOp) => [AV.i .i64 x.kind, AV.sl m .str x.way, AV.i .i64 x.value.kind, AV.i .i64 x.value.n_, AV.s x.value.s, AV.sl m .lJson x.value.list, AV.sl m .str x.value.names]
    | .iJson => fun (x : TJson) => [AV.i .i64 x.kind, AV.i .i64 x.n_, AV.s x.s, AV.sl m .iJson x.list, AV.sl m .str x.names]
    | .iOp => fun (x : TOp) => [AV.i .i64 x.kind, AV.sl m .str x.way, AV.i .i64 x.value.kind, AV.i .i64 x.value.n_, AV.s x.value.s, AV.sl m .iJson x.value.list, AV.sl m .str x.value.names]
  dec := fun t => match t with
    | .str => fun l => uc l fun a1 l2 => getS a1 fun x3 => un l2 (some (x3 : Bs))
    | .u8 => fun l => uc l fun a1 l2 => getI .u8 a1 fun x3 => un l2 (some (x3 : Int))
    | .lJson => fun l => uc l fun a1 l2 => getI .i64 a1 fun x3 => uc l2 fun a4 l5 => getI .i64 a4 fun x6 => uc l5 fun a7 l8 => getS a7 fun x9 => uc l8 fun a10 l11 => getAny .lJson a10 fun x12 => uc l11 fun a14 l15 => getAny .str a14 fun x16 => un l15 (some ((TJson.mk x3 x6 x9 x12 x16) : TJson))
    | .lOp => fun l => uc l fun a1 l2 => getI .i64 a1 fun x3 => uc l2 fun a4 l5 => getAny .str a4 fun x6 => uc l5 fun a8 l9 => getI .i64 a8 fun x10 => uc l9 fun a11 l12 => getI .i64 a11 fun x13 => uc l12 fun a14 l15 => getS a14 fun x16 => uc l15 fun a17 l18 => getAny .lJson a17 fun x19 => uc l18 fun a21 l22 => getAny .str a21 fun x23 => un l22 (some ((TOp.mk x3 x6 (TJson.mk x10 x13 x16 x19 x23)) : TOp))
    | .iJson => fun l => uc l fun a1 l2 => getI .i64 a1 fun x3 => uc l2 fun a4 l5 => getI .i64 a4 fun x6 => uc l5 fun a7 l8 => getS a7 fun x9 => uc l8 fun a10 l11 => getAny .iJson a10 fun x12 => uc l11 fun a14 l15 => getAny .str a14 fun x16 => un l15 (some ((TJson.mk x3 x6 x9 x12 x16) : TJson))
    | .iOp => fun l => uc l fun a1 l2 => getI .i64 a1 fun x3 => uc l2 fun a4 l5 => getAny .str a4 fun x6 => uc l5 fun a8 l9 => getI .i64 a8 fun x10 => uc l9 fun a11 l12 => getI .i64 a11 fun x13 => uc l12 fun a14 l15 => getS a14 fun x16 => uc l15 fun a17 l18 => getAny .iJson a17 fun x19 => uc l18 fun a21 l22 => getAny .str a21 fun x23 => un l22 (some ((TOp.mk x3 x6 (TJson.mk x10 x13 x16 x19 x23)) : TOp))
instance codingOk : CodingOk where
  len := by intro m t x; cases t <;> rfl
  pos := by intro t; cases t <;> decide
  view := by intro m t x; cases t <;> rfl
  flat := by intro m m' t x h; cases t <;> first | rfl | cases h
  cell := by
    intro m t x a ha
    refine coded_of ?_ a ha
    cases t <;> cases m <;> rfl
  u8 := by intro m n; rfl
  dec := by
    intro m t l y h
    cases t with
    | str =>
      replace h : (uc l fun a1 l2 => getS a1 fun x3 => un l2 (some (x3 : Bs))) = some y := h
      replace h := uc_ok h; obtain ⟨a1, l2, rfl, h⟩ := h
      replace h := getS_ok h; obtain ⟨x3, rfl, h⟩ := h
      replace h := un_ok h; obtain ⟨rfl, h⟩ := h
      cases h
      exact ⟨rfl, trivial⟩
    | u8 =>
      replace h : (uc l fun a1 l2 => getI .u8 a1 fun x3 => un l2 (some (x3 : Int))) = some y := h
      replace h := uc_ok h; obtain ⟨a1, l2, rfl, h⟩ := h
      replace h := getI_ok h; obtain ⟨x3, rfl, h⟩ := h
      replace h := un_ok h; obtain ⟨rfl, h⟩ := h
      cases h
      exact ⟨rfl, trivial⟩
    | lJson =>
      replace h : (uc l fun a1 l2 => getI .i64 a1 fun x3 => uc l2 fun a4 l5 => getI .i64 a4 fun x6 => uc l5 fun a7 l8 => getS a7 fun x9 => uc l8 fun a10 l11 => getAny .lJson a10 fun x12 => uc l11 fun a14 l15 => getAny .str a14 fun x16 => un l15 (some ((TJson.mk x3 x6 x9 x12 x16) : TJson))) = some y := h
      replace h := uc_ok h; obtain ⟨a1, l2, rfl, h⟩ := h
      replace h := getI_ok h; obtain ⟨x3, rfl, h⟩ := h
      replace h := uc_ok h; obtain ⟨a4, l5, rfl, h⟩ := h
      replace h := getI_ok h; obtain ⟨x6, rfl, h⟩ := h
      replace h := uc_ok h; obtain ⟨a7, l8, rfl, h⟩ := h
      replace h := getS_ok h; obtain ⟨x9, rfl, h⟩ := h
      replace h := uc_ok h; obtain ⟨a10, l11, rfl, h⟩ := h
      replace h := getAny_ok h; obtain ⟨x12, h, z13⟩ := h
      replace h := uc_ok h; obtain ⟨a14, l15, rfl, h⟩ := h
      replace h := getAny_ok h; obtain ⟨x16, h, z17⟩ := h
      replace h := un_ok h; obtain ⟨rfl, h⟩ := h
      cases h
      exact ⟨rfl, rfl, rfl, z13 m, z17 m, trivial⟩
    | lOp =>
      replace h : (uc l fun a1 l2 => getI .i64 a1 fun x3 => uc l2 fun a4 l5 => getAny .str a4 fun x6 => uc l5 fun a8 l9 => getI .i64 a8 fun x10 => uc l9 fun a11 l12 => getI .i64 a11 fun x13 => uc l12 fun a14 l15 => getS a14 fun x16 => uc l15 fun a17 l18 => getAny .lJson a17 fun x19 => uc l18 fun a21 l22 => getAny .str a21 fun x23 => un l22 (some ((TOp.mk x3 x6 (TJson.mk x10 x13 x16 x19 x23)) : TOp))) = some y := h
      replace h := uc_ok h; obtain ⟨a1, l2, rfl, h⟩ := h
      replace h := getI_ok h; obtain ⟨x3, rfl, h⟩ := h
      replace h := uc_ok h; obtain ⟨a4, l5, rfl, h⟩ := h
      replace h := getAny_ok h; obtain ⟨x6, h, z7⟩ := h
      replace h := uc_ok h; obtain ⟨a8, l9, rfl, h⟩ := h
      replace h := getI_ok h; obtain ⟨x10, rfl, h⟩ := h
      replace h := uc_ok h; obtain ⟨a11, l12, rfl, h⟩ := h
      replace h := getI_ok h; obtain ⟨x13, rfl, h⟩ := h
      replace h := uc_ok h; obtain ⟨a14, l15, rfl, h⟩ := h
      replace h := getS_ok h; obtain ⟨x16, rfl, h⟩ := h
      replace h := uc_ok h; obtain ⟨a17, l18, rfl, h⟩ := h
      replace h := getAny_ok h; obtain ⟨x19, h, z20⟩ := h
      replace h := uc_ok h; obtain ⟨a21, l22, rfl, h⟩ := h
      replace h := getAny_ok h; obtain ⟨x23, h, z24⟩ := h
      replace h := un_ok h; obtain ⟨rfl, h⟩ := h
      cases h
      exact ⟨rfl, z7 m, rfl, rfl, rfl, z20 m, z24 m, trivial⟩
    | iJson =>
      replace h : (uc l fun a1 l2 => getI .i64 a1 fun x3 => uc l2 fun a4 l5 => getI .i64 a4 fun x6 => uc l5 fun a7 l8 => getS a7 fun x9 => uc l8 fun a10 l11 => getAny .iJson a10 fun x12 => uc l11 fun a14 l15 => getAny .str a14 fun x16 => un l15 (some ((TJson.mk x3 x6 x9 x12 x16) : TJson))) = some y := h
      replace h := uc_ok h; obtain ⟨a1, l2, rfl, h⟩ := h
      replace h := getI_ok h; obtain ⟨x3, rfl, h⟩ := h
      replace h := uc_ok h; obtain ⟨a4, l5, rfl, h⟩ := h
      replace h := getI_ok h; obtain ⟨x6, rfl, h⟩ := h
      replace h := uc_ok h; obtain ⟨a7, l8, rfl, h⟩ := h
      replace h := getS_ok h; obtain ⟨x9, rfl, h⟩ := h
      replace h := uc_ok h; obtain ⟨a10, l11, rfl, h⟩ := h
      replace h := getAny_ok h; obtain ⟨x12, h, z13⟩ := h
      replace h := uc_ok h; obtain ⟨a14, l15, rfl, h⟩ := h
      replace h := getAny_ok h; obtain ⟨x16, h, z17⟩ := h
      replace h := un_ok h; obtain ⟨rfl, h⟩ := h
      cases h
      exact ⟨rfl, rfl, rfl, z13 m, z17 m, trivial⟩
    | iOp =>
      replace h : (uc l fun a1 l2 => getI .i64 a1 fun x3 => uc l2 fun a4 l5 => getAny .str a4 fun x6 => uc l5 fun a8 l9 => getI .i64 a8 fun x10 => uc l9 fun a11 l12 => getI .i64 a11 fun x13 => uc l12 fun a14 l15 => getS a14 fun x16 => uc l15 fun a17 l18 => getAny .iJson a17 fun x19 => uc l18 fun a21 l22 => getAny .str a21 fun x23 => un l22 (some ((TOp.mk x3 x6 (TJson.mk x10 x13 x16 x19 x23)) : TOp))) = some y := h
      replace h := uc_ok h; obtain ⟨a1, l2, rfl, h⟩ := h
      replace h := getI_ok h; obtain ⟨x3, rfl, h⟩ := h
      replace h := uc_ok h; obtain ⟨a4, l5, rfl, h⟩ := h
      replace h := getAny_ok h; obtain ⟨x6, h, z7⟩ := h
      replace h := uc_ok h; obtain ⟨a8, l9, rfl, h⟩ := h
      replace h := getI_ok h; obtain ⟨x10, rfl, h⟩ := h
      replace h := uc_ok h; obtain ⟨a11, l12, rfl, h⟩ := h
      replace h := getI_ok h; obtain ⟨x13, rfl, h⟩ := h
      replace h := uc_ok h; obtain ⟨a14, l15, rfl, h⟩ := h
      replace h := getS_ok h; obtain ⟨x16, rfl, h⟩ := h
      replace h := uc_ok h; obtain ⟨a17, l18, rfl, h⟩ := h
      replace h := getAny_ok h; obtain ⟨x19, h, z20⟩ := h
      replace h := uc_ok h; obtain ⟨a21, l22, rfl, h⟩ := h
      replace h := getAny_ok h; obtain ⟨x23, h, z24⟩ := h
      replace h := un_ok h; obtain ⟨rfl, h⟩ := h
      cases h
      exact ⟨rfl, z7 m, rfl, rfl, rfl, z20 m, z24 m, trivial⟩
def eid : TC → TypeId
  | .str => 9
  | .u8 => 5
  | .lJson => 25
  | .lOp => 59
  | .iJson => 33
  | .iOp => 62
noncomputable def E : Env := ⟨Tryd.prog, eid, [(0, fun cs => cs = (Lib.pow10Tab.map fun z => Value.int .u64 z).toArray), (1, fun cs => ∃ m, cs[0]? = some (Value.int .i64 m))]⟩
def ttL : List (Nat × TD) := [
  (3, ⟨1, false, [.i .i64 0], [], none, some .i64, false, false, []⟩),
  (5, ⟨1, false, [.i .u8 0], [], none, some .u8, false, false, []⟩),
  (9, ⟨1, false, [.s []], [], none, none, true, false, []⟩),
  (22, ⟨1, false, [.nils], [], some .lJson, none, false, false, []⟩),
  (23, ⟨1, false, [.nils], [], some .str, none, false, false, []⟩),
  (25, ⟨5, true, [.i .i64 0, .i .i64 0, .s [], .nils, .nils], [(0, 1), (1, 1), (2, 1), (3, 1), (4, 1)], none, none, false, false, []⟩),
  (26, ⟨1, false, [.nils], [], some .lOp, none, false, false, []⟩),
  (28, ⟨9, true, [.i .i64 0, .i .i64 0, .i .i64 0, .i .i64 0, .i .i64 0, .s [], .nils, .nils, .nils], [(0, 1), (1, 1), (2, 1), (3, 5), (8, 1)], none, none, false, false, []⟩),
  (31, ⟨1, false, [.nils], [], some .iJson, none, false, false, []⟩),
  (33, ⟨5, true, [.i .i64 0, .i .i64 0, .s [], .nils, .nils], [(0, 1), (1, 1), (2, 1), (3, 1), (4, 1)], none, none, false, false, []⟩),
  (34, ⟨1, false, [.nils], [], some .iOp, none, false, false, []⟩),
  (36, ⟨9, true, [.i .i64 0, .i .i64 0, .i .i64 0, .i .i64 0, .i .i64 0, .s [], .nils, .nils, .nils], [(0, 1), (1, 1), (2, 1), (3, 5), (8, 1)], none, none, false, false, []⟩),
  (59, ⟨7, true, [.i .i64 0, .nils, .i .i64 0, .i .i64 0, .s [], .nils, .nils], [(0, 1), (1, 1), (2, 5)], none, none, false, false, []⟩),
  (62, ⟨7, true, [.i .i64 0, .nils, .i .i64 0, .i .i64 0, .s [], .nils, .nils], [(0, 1), (1, 1), (2, 5)], none, none, false, false, []⟩),
  (69, ⟨1, false, [.nils], [], some .u8, none, false, false, []⟩)]
def tt (T : Nat) : Option TD := look2 ttL T
theorem ttOk (T : TypeId) : TTok E T (tt T) := tt_ok (E := E) (by kernel_rfl) T
theorem tcOk (t : TC) : TCok E t := by
  cases t with
  | str => exact tcB_ok (zc := [.s []]) (by kernel_rfl) (fun m => ⟨rfl, trivial⟩)
  | u8 => exact tcB_ok (zc := [.i .u8 0]) (by kernel_rfl) (fun m => ⟨rfl, trivial⟩)
  | lJson => exact tcB_ok (zc := [.i .i64 0, .i .i64 0, .s [], .nils, .nils]) (by kernel_rfl) (fun m => ⟨rfl, rfl, rfl, ⟨_, rfl⟩, ⟨_, rfl⟩, trivial⟩)
  | lOp => exact tcB_ok (zc := [.i .i64 0, .nils, .i .i64 0, .i .i64 0, .s [], .nils, .nils]) (by kernel_rfl) (fun m => ⟨rfl, ⟨_, rfl⟩, rfl, rfl, rfl, ⟨_, rfl⟩, ⟨_, rfl⟩, trivial⟩)
  | iJson => exact tcB_ok (zc := [.i .i64 0, .i .i64 0, .s [], .nils, .nils]) (by kernel_rfl) (fun m => ⟨rfl, rfl, rfl, ⟨_, rfl⟩, ⟨_, rfl⟩, trivial⟩)
  | iOp => exact tcB_ok (zc := [.i .i64 0, .nils, .i .i64 0, .i .i64 0, .s [], .nils, .nils]) (by kernel_rfl) (fun m => ⟨rfl, ⟨_, rfl⟩, rfl, rfl, rfl, ⟨_, rfl⟩, ⟨_, rfl⟩, trivial⟩)
theorem u8Ok : E.P.underlying (E.eid .u8) = some (.int .u8) := by kernel_rfl
theorem mixedOk : E.P.follows .mixedOrders = true := by kernel_rfl
end Go.Pi
end
section
set_option linter.unusedVariables false
set_option maxRecDepth 100000
namespace Go.Pi
def laws_szStringS.step7 (n : Nat) (k0 : Int → Option Int) (back : (List Bs) → Int → Int → Option Int) (a : List Bs) (left : Int) (i : Int) : Option Int :=
  (cond (decide (i < (a.length : Int))) (inB i a.length (cond (decide ((W (left - ((a.getD i.toNat []).length : Int))) < 0)) (some (-1)) (back a (W (left - ((a.getD i.toNat []).length : Int))) (W (i + 1))))) (k0 left))
def laws_szStringS.loop7 (n : Nat) (k0 : Int → Option Int) (N : Nat) : (List Bs) → Int → Int → Option Int :=
  iterN (fun _ _ _ => none) (fun back => laws_szStringS.step7 n k0 back) N
def laws_szStringS : Nat → (List Bs) → Int → Option Int
  | 0, _, _ => none
  | n + 1, a, left =>
    (cond (decide ((W (left - (a.length : Int))) < 0)) (some (-1)) (laws_szStringS.loop7 n (fun xy1 => (some xy1)) n a (W (left - (a.length : Int))) 0))
def laws_szJsonS.step7 (n : Nat) (laws_szJson_ : TJson → Int → Option Int) (k0 : Int → Option Int) (back : (List TJson) → Int → Int → Option Int) (a : List TJson) (left : Int) (i : Int) : Option Int :=
  (cond (decide (i < (a.length : Int))) (inB i a.length ((laws_szJson_ (TJson.re (a.getD i.toNat TJson.dflt)) left).bind fun xr1 => (cond (decide (xr1 < 0)) (some (-1)) (back a xr1 (W (i + 1)))))) (k0 left))
def laws_szJsonS.loop7 (n : Nat) (laws_szJson_ : TJson → Int → Option Int) (k0 : Int → Option Int) (N : Nat) : (List TJson) → Int → Int → Option Int :=
  iterN (fun _ _ _ => none) (fun back => laws_szJsonS.step7 n laws_szJson_ k0 back) N
mutual
def laws_szJson : Nat → TJson → Int → Option Int
  | 0, _, _ => none
  | n + 1, a, left =>
    (cond (decide ((W (left - (a.s.length : Int))) < 0)) (some (-1)) ((laws_szJsonS n a.list (W (left - (a.s.length : Int)))).bind fun xr1 => (cond (decide (xr1 < 0)) (some (-1)) ((laws_szStringS n a.names xr1).bind fun xr2 => (cond (decide (xr2 < 0)) (some (-1)) (some xr2))))))
def laws_szJsonS : Nat → (List TJson) → Int → Option Int
  | 0, _, _ => none
  | n + 1, a, left =>
    (cond (decide ((W (left - (a.length : Int))) < 0)) (some (-1)) (laws_szJsonS.loop7 n (laws_szJson n) (fun xy2 => (some xy2)) n a (W (left - (a.length : Int))) 0))
end
def laws_szOp : Nat → TOp → Int → Option Int
  | 0, _, _ => none
  | n + 1, a, left =>
    ((laws_szStringS n a.way left).bind fun xr1 => (cond (decide (xr1 < 0)) (some (-1)) ((laws_szJson n (TJson.re a.value) xr1).bind fun xr2 => (cond (decide (xr2 < 0)) (some (-1)) (some xr2)))))
def laws_szOpS.step7 (n : Nat) (k0 : Int → Option Int) (back : (List TOp) → Int → Int → Option Int) (a : List TOp) (left : Int) (i : Int) : Option Int :=
  (cond (decide (i < (a.length : Int))) (inB i a.length ((laws_szOp n { (a.getD i.toNat TOp.dflt) with value := (TJson.re ((a.getD i.toNat TOp.dflt).value)) } left).bind fun xr1 => (cond (decide (xr1 < 0)) (some (-1)) (back a xr1 (W (i + 1)))))) (k0 left))
def laws_szOpS.loop7 (n : Nat) (k0 : Int → Option Int) (N : Nat) : (List TOp) → Int → Int → Option Int :=
  iterN (fun _ _ _ => none) (fun back => laws_szOpS.step7 n k0 back) N
def laws_szOpS : Nat → (List TOp) → Int → Option Int
  | 0, _, _ => none
  | n + 1, a, left =>
    (cond (decide ((W (left - (a.length : Int))) < 0)) (some (-1)) (laws_szOpS.loop7 n (fun xy2 => (some xy2)) n a (W (left - (a.length : Int))) 0))
def laws_szEvent : Nat → TEvent → Int → Option Int
  | 0, _, _ => none
  | n + 1, a, left =>
    ((laws_szJson n (TJson.re a.doc) left).bind fun xr1 => (cond (decide (xr1 < 0)) (some (-1)) ((laws_szOpS n a.ops xr1).bind fun xr2 => (cond (decide (xr2 < 0)) (some (-1)) (some xr2)))))
def laws_toStringS.step4 (n : Nat) (k0 : (List Bs) → Option (List Bs)) (back : (List Bs) → Int → (List Bs) → Option (List Bs)) (a : List Bs) (i : Int) (out_1 : List Bs) : Option (List Bs) :=
  (cond (decide (i < (a.length : Int))) (inB i a.length (inB i out_1.length (let xa1 : List Bs := out_1.set i.toNat (a.getD i.toNat []); (back a (W (i + 1)) xa1)))) (k0 out_1))
def laws_toStringS.loop4 (n : Nat) (k0 : (List Bs) → Option (List Bs)) (N : Nat) : (List Bs) → Int → (List Bs) → Option (List Bs) :=
  iterN (fun _ _ _ => none) (fun back => laws_toStringS.step4 n k0 back) N
def laws_toStringS : Nat → (List Bs) → Option (List Bs)
  | 0, _ => none
  | n + 1, a =>
    (cond (decide ((a.length : Int) = (a.length : Int))) (cond (decide (0 ≤ (a.length : Int))) (cond (decide ((a.length : Int) * 16 ≤ 140737488355328)) (laws_toStringS.loop4 n (fun xy2 => (some xy2)) n a 0 (List.replicate (a.length : Int).toNat [])) none) none) none)
def laws_toJsonS.step4 (n : Nat) (laws_toJson_ : TJson → Option TJson) (k0 : (List TJson) → Option (List TJson)) (back : (List TJson) → Int → (List TJson) → Option (List TJson)) (a : List TJson) (i : Int) (out_1 : List TJson) : Option (List TJson) :=
  (cond (decide (i < (a.length : Int))) (inB i a.length ((laws_toJson_ (TJson.re (a.getD i.toNat TJson.dflt))).bind fun xr1 => (inB i out_1.length (let xa2 : List TJson := out_1.set i.toNat (TJson.re xr1); (back a (W (i + 1)) xa2))))) (k0 out_1))
def laws_toJsonS.loop4 (n : Nat) (laws_toJson_ : TJson → Option TJson) (k0 : (List TJson) → Option (List TJson)) (N : Nat) : (List TJson) → Int → (List TJson) → Option (List TJson) :=
  iterN (fun _ _ _ => none) (fun back => laws_toJsonS.step4 n laws_toJson_ k0 back) N
mutual
def laws_toJson : Nat → TJson → Option TJson
  | 0, _ => none
  | n + 1, a =>
    ((laws_toJsonS n a.list).bind fun xr1 => ((laws_toStringS n a.names).bind fun xr2 => (some (TJson.mk a.kind a.n_ a.s xr1 xr2))))
def laws_toJsonS : Nat → (List TJson) → Option (List TJson)
  | 0, _ => none
  | n + 1, a =>
    (cond (decide ((a.length : Int) = (a.length : Int))) (cond (decide (0 ≤ (a.length : Int))) (cond (decide ((a.length : Int) * 80 ≤ 140737488355328)) (laws_toJsonS.loop4 n (laws_toJson n) (fun xy3 => (some xy3)) n a 0 (List.replicate (a.length : Int).toNat TJson.dflt)) none) none) none)
end
def laws_toOp : Nat → TOp → Option TOp
  | 0, _ => none
  | n + 1, a =>
    ((laws_toStringS n a.way).bind fun xr1 => ((laws_toJson n (TJson.re a.value)).bind fun xr2 => (some (TOp.mk a.kind xr1 (TJson.re xr2)))))
def laws_toOpS.step4 (n : Nat) (k0 : (List TOp) → Option (List TOp)) (back : (List TOp) → Int → (List TOp) → Option (List TOp)) (a : List TOp) (i : Int) (out_1 : List TOp) : Option (List TOp) :=
  (cond (decide (i < (a.length : Int))) (inB i a.length ((laws_toOp n { (a.getD i.toNat TOp.dflt) with value := (TJson.re ((a.getD i.toNat TOp.dflt).value)) }).bind fun xr1 => (inB i out_1.length (let xa2 : List TOp := out_1.set i.toNat { xr1 with value := (TJson.re xr1.value) }; (back a (W (i + 1)) xa2))))) (k0 out_1))
def laws_toOpS.loop4 (n : Nat) (k0 : (List TOp) → Option (List TOp)) (N : Nat) : (List TOp) → Int → (List TOp) → Option (List TOp) :=
  iterN (fun _ _ _ => none) (fun back => laws_toOpS.step4 n k0 back) N
def laws_toOpS : Nat → (List TOp) → Option (List TOp)
  | 0, _ => none
  | n + 1, a =>
    (cond (decide ((a.length : Int) = (a.length : Int))) (cond (decide (0 ≤ (a.length : Int))) (cond (decide ((a.length : Int) * 112 ≤ 140737488355328)) (laws_toOpS.loop4 n (fun xy3 => (some xy3)) n a 0 (List.replicate (a.length : Int).toNat TOp.dflt)) none) none) none)
def laws_toEvent : Nat → TEvent → Option TEvent
  | 0, _ => none
  | n + 1, a =>
    ((laws_toJson n (TJson.re a.doc)).bind fun xr1 => ((laws_toOpS n a.ops).bind fun xr2 => (some { a with doc := (TJson.re xr1), ops := xr2 })))
def spec_l1In : Nat → Int → Int → Int → Option Bool
  | 0, _, _, _ => none
  | n + 1, x, lo, hi =>
    (cond (decide (x ≥ lo)) (some (decide (x ≤ hi))) (some false))
def spec_l1Text.step3 (n : Nat) (k0 : Bs → Option Bool) (back : Bs → Int → Option Bool) (s : Bs) (i : Int) : Option Bool :=
  (cond (decide (i < (s.length : Int))) (inB i s.length (cond (decide (((s.getD i.toNat 0).toNat : Int) < 32)) (some false) (inB i s.length (cond (decide (((s.getD i.toNat 0).toNat : Int) > 126)) (some false) (back s (W (i + 1))))))) (k0 s))
def spec_l1Text.loop3 (n : Nat) (k0 : Bs → Option Bool) (N : Nat) : Bs → Int → Option Bool :=
  iterN (fun _ _ => none) (fun back => spec_l1Text.step3 n k0 back) N
def spec_l1Text : Nat → Bs → Option Bool
  | 0, _ => none
  | n + 1, s =>
    (spec_l1Text.loop3 n (fun xy1 => (some (decide ((xy1.length : Int) ≤ 60)))) n s 0)
def spec_l1Names.step6 (n : Nat) (k0 : Int → Int → Bs → (List TJson) → (List Bs) → Option Bool) (back : Int → Int → Int → Bs → (List TJson) → (List Bs) → Option Bool) (i : Int) (j0 : Int) (j1 : Int) (j2 : Bs) (j3 : List TJson) (j4 : List Bs) : Option Bool :=
  (cond (decide (i < (j4.length : Int))) (inB i j4.length ((spec_l1Text n (j4.getD i.toNat [])).bind fun xr1 => (cond (!xr1) (some false) (cond (decide (i > 0)) (inB (W (i - 1)) j4.length (inB i j4.length (cond (!Op.bytesLess (j4.getD (W (i - 1)).toNat []) (j4.getD i.toNat [])) (some false) (back (W (i + 1)) j0 j1 j2 j3 j4)))) (back (W (i + 1)) j0 j1 j2 j3 j4))))) (k0 j0 j1 j2 j3 j4))
def spec_l1Names.loop6 (n : Nat) (k0 : Int → Int → Bs → (List TJson) → (List Bs) → Option Bool) (N : Nat) : Int → Int → Int → Bs → (List TJson) → (List Bs) → Option Bool :=
  iterN (fun _ _ _ _ _ _ => none) (fun back => spec_l1Names.step6 n k0 back) N
def spec_l1Names : Nat → TJson → Option Bool
  | 0, _ => none
  | n + 1, j =>
    (cond (j.kind != 5) (some ((j.names.length : Int) == 0)) (spec_l1Names.loop6 n (fun xy2 xy3 xy4 xy5 xy6 => (some ((xy6.length : Int) == (xy5.length : Int)))) n 0 j.kind j.n_ j.s j.list j.names))
def spec_l1Great.step23 (n : Nat) (spec_l1Great_ : TJson → Int → Option Int) (k1 : Int → Int → Int → Int → Bs → (List TJson) → (List Bs) → Option Int) (back : Int → Int → Int → Int → Int → Int → Bs → (List TJson) → (List Bs) → Option Int) (append : Int) (t5 : Int) (t6 : Int) (t7 : Int) (t20 : Int) (t21 : Int) (t22 : Bs) (t23 : List TJson) (t24 : List Bs) : Option Int :=
  (cond (decide (t7 < (t23.length : Int))) (cond (decide (t6 ≤ 400)) (inB t7 t23.length ((spec_l1Great_ (TJson.re (t23.getD t7.toNat TJson.dflt)) (W (append - 1))).bind fun xr52 => (back append t5 (W (t6 + xr52)) (W (t7 + 1)) t20 t21 t22 t23 t24))) (k1 t5 t6 t20 t21 t22 t23 t24)) (k1 t5 t6 t20 t21 t22 t23 t24))
def spec_l1Great.loop23 (n : Nat) (spec_l1Great_ : TJson → Int → Option Int) (k1 : Int → Int → Int → Int → Bs → (List TJson) → (List Bs) → Option Int) (N : Nat) : Int → Int → Int → Int → Int → Int → Bs → (List TJson) → (List Bs) → Option Int :=
  iterN (fun _ _ _ _ _ _ _ _ _ => none) (fun back => spec_l1Great.step23 n spec_l1Great_ k1 back) N
def spec_l1Great : Nat → TJson → Int → Option Int
  | 0, _, _ => none
  | n + 1, o, append =>
    (cond (append == 0) (some 401) (cond (o.kind == 0) (cond (o.n_ != 0) (some 401) (cond (o.kind != 3) (cond (!(o.s == [])) (some 401) (cond (o.kind == 3) (cond (o.n_ != 0) (some 401) (cond (decide (o.kind < 4)) (cond (decide ((o.list.length : Int) > 0)) (some 401) ((spec_l1Names n (TJson.re o)).bind fun xr1 => (cond (!xr1) (some 401) (some 1)))) ((spec_l1Names n (TJson.re o)).bind fun xr2 => (cond (!xr2) (some 401) (some 1))))) (cond (decide (o.kind ≥ 4)) (cond (o.n_ != 0) (some 401) (cond (decide (o.kind < 4)) (cond (decide ((o.list.length : Int) > 0)) (some 401) ((spec_l1Names n (TJson.re o)).bind fun xr3 => (cond (!xr3) (some 401) (some 1)))) ((spec_l1Names n (TJson.re o)).bind fun xr4 => (cond (!xr4) (some 401) (some 1))))) (cond (decide (o.kind < 4)) (cond (decide ((o.list.length : Int) > 0)) (some 401) ((spec_l1Names n (TJson.re o)).bind fun xr5 => (cond (!xr5) (some 401) (some 1)))) ((spec_l1Names n (TJson.re o)).bind fun xr6 => (cond (!xr6) (some 401) (some 1))))))) (cond (o.kind == 3) (cond (o.n_ != 0) (some 401) (cond (decide (o.kind < 4)) (cond (decide ((o.list.length : Int) > 0)) (some 401) ((spec_l1Names n (TJson.re o)).bind fun xr7 => (cond (!xr7) (some 401) (some 1)))) ((spec_l1Names n (TJson.re o)).bind fun xr8 => (cond (!xr8) (some 401) (some 1))))) (cond (decide (o.kind ≥ 4)) (cond (o.n_ != 0) (some 401) (cond (decide (o.kind < 4)) (cond (decide ((o.list.length : Int) > 0)) (some 401) ((spec_l1Names n (TJson.re o)).bind fun xr9 => (cond (!xr9) (some 401) (some 1)))) ((spec_l1Names n (TJson.re o)).bind fun xr10 => (cond (!xr10) (some 401) (some 1))))) (cond (decide (o.kind < 4)) (cond (decide ((o.list.length : Int) > 0)) (some 401) ((spec_l1Names n (TJson.re o)).bind fun xr11 => (cond (!xr11) (some 401) (some 1)))) ((spec_l1Names n (TJson.re o)).bind fun xr12 => (cond (!xr12) (some 401) (some 1)))))))) (cond (o.kind == 1) ((spec_l1In n o.n_ 0 1).bind fun xr13 => (cond (!xr13) (some 401) (cond (o.kind != 3) (cond (!(o.s == [])) (some 401) (cond (o.kind == 3) (cond (o.n_ != 0) (some 401) (cond (decide (o.kind < 4)) (cond (decide ((o.list.length : Int) > 0)) (some 401) ((spec_l1Names n (TJson.re o)).bind fun xr14 => (cond (!xr14) (some 401) (some 1)))) ((spec_l1Names n (TJson.re o)).bind fun xr15 => (cond (!xr15) (some 401) (some 1))))) (cond (decide (o.kind ≥ 4)) (cond (o.n_ != 0) (some 401) (cond (decide (o.kind < 4)) (cond (decide ((o.list.length : Int) > 0)) (some 401) ((spec_l1Names n (TJson.re o)).bind fun xr16 => (cond (!xr16) (some 401) (some 1)))) ((spec_l1Names n (TJson.re o)).bind fun xr17 => (cond (!xr17) (some 401) (some 1))))) (cond (decide (o.kind < 4)) (cond (decide ((o.list.length : Int) > 0)) (some 401) ((spec_l1Names n (TJson.re o)).bind fun xr18 => (cond (!xr18) (some 401) (some 1)))) ((spec_l1Names n (TJson.re o)).bind fun xr19 => (cond (!xr19) (some 401) (some 1))))))) (cond (o.kind == 3) (cond (o.n_ != 0) (some 401) (cond (decide (o.kind < 4)) (cond (decide ((o.list.length : Int) > 0)) (some 401) ((spec_l1Names n (TJson.re o)).bind fun xr20 => (cond (!xr20) (some 401) (some 1)))) ((spec_l1Names n (TJson.re o)).bind fun xr21 => (cond (!xr21) (some 401) (some 1))))) (cond (decide (o.kind ≥ 4)) (cond (o.n_ != 0) (some 401) (cond (decide (o.kind < 4)) (cond (decide ((o.list.length : Int) > 0)) (some 401) ((spec_l1Names n (TJson.re o)).bind fun xr22 => (cond (!xr22) (some 401) (some 1)))) ((spec_l1Names n (TJson.re o)).bind fun xr23 => (cond (!xr23) (some 401) (some 1))))) (cond (decide (o.kind < 4)) (cond (decide ((o.list.length : Int) > 0)) (some 401) ((spec_l1Names n (TJson.re o)).bind fun xr24 => (cond (!xr24) (some 401) (some 1)))) ((spec_l1Names n (TJson.re o)).bind fun xr25 => (cond (!xr25) (some 401) (some 1))))))))) (cond (o.kind == 2) ((spec_l1In n o.n_ (-1000000000) 1000000000).bind fun xr26 => (cond (!xr26) (some 401) (cond (o.kind != 3) (cond (!(o.s == [])) (some 401) (cond (o.kind == 3) (cond (o.n_ != 0) (some 401) (cond (decide (o.kind < 4)) (cond (decide ((o.list.length : Int) > 0)) (some 401) ((spec_l1Names n (TJson.re o)).bind fun xr27 => (cond (!xr27) (some 401) (some 1)))) ((spec_l1Names n (TJson.re o)).bind fun xr28 => (cond (!xr28) (some 401) (some 1))))) (cond (decide (o.kind ≥ 4)) (cond (o.n_ != 0) (some 401) (cond (decide (o.kind < 4)) (cond (decide ((o.list.length : Int) > 0)) (some 401) ((spec_l1Names n (TJson.re o)).bind fun xr29 => (cond (!xr29) (some 401) (some 1)))) ((spec_l1Names n (TJson.re o)).bind fun xr30 => (cond (!xr30) (some 401) (some 1))))) (cond (decide (o.kind < 4)) (cond (decide ((o.list.length : Int) > 0)) (some 401) ((spec_l1Names n (TJson.re o)).bind fun xr31 => (cond (!xr31) (some 401) (some 1)))) ((spec_l1Names n (TJson.re o)).bind fun xr32 => (cond (!xr32) (some 401) (some 1))))))) (cond (o.kind == 3) (cond (o.n_ != 0) (some 401) (cond (decide (o.kind < 4)) (cond (decide ((o.list.length : Int) > 0)) (some 401) ((spec_l1Names n (TJson.re o)).bind fun xr33 => (cond (!xr33) (some 401) (some 1)))) ((spec_l1Names n (TJson.re o)).bind fun xr34 => (cond (!xr34) (some 401) (some 1))))) (cond (decide (o.kind ≥ 4)) (cond (o.n_ != 0) (some 401) (cond (decide (o.kind < 4)) (cond (decide ((o.list.length : Int) > 0)) (some 401) ((spec_l1Names n (TJson.re o)).bind fun xr35 => (cond (!xr35) (some 401) (some 1)))) ((spec_l1Names n (TJson.re o)).bind fun xr36 => (cond (!xr36) (some 401) (some 1))))) (cond (decide (o.kind < 4)) (cond (decide ((o.list.length : Int) > 0)) (some 401) ((spec_l1Names n (TJson.re o)).bind fun xr37 => (cond (!xr37) (some 401) (some 1)))) ((spec_l1Names n (TJson.re o)).bind fun xr38 => (cond (!xr38) (some 401) (some 1))))))))) (cond (o.kind == 3) ((spec_l1Text n o.s).bind fun xr39 => (cond (!xr39) (some 401) (cond (o.kind != 3) (cond (!(o.s == [])) (some 401) (cond (o.kind == 3) (cond (o.n_ != 0) (some 401) (cond (decide (o.kind < 4)) (cond (decide ((o.list.length : Int) > 0)) (some 401) ((spec_l1Names n (TJson.re o)).bind fun xr40 => (cond (!xr40) (some 401) (some 1)))) ((spec_l1Names n (TJson.re o)).bind fun xr41 => (cond (!xr41) (some 401) (some 1))))) (cond (decide (o.kind ≥ 4)) (cond (o.n_ != 0) (some 401) (cond (decide (o.kind < 4)) (cond (decide ((o.list.length : Int) > 0)) (some 401) ((spec_l1Names n (TJson.re o)).bind fun xr42 => (cond (!xr42) (some 401) (some 1)))) ((spec_l1Names n (TJson.re o)).bind fun xr43 => (cond (!xr43) (some 401) (some 1))))) (cond (decide (o.kind < 4)) (cond (decide ((o.list.length : Int) > 0)) (some 401) ((spec_l1Names n (TJson.re o)).bind fun xr44 => (cond (!xr44) (some 401) (some 1)))) ((spec_l1Names n (TJson.re o)).bind fun xr45 => (cond (!xr45) (some 401) (some 1))))))) (cond (o.kind == 3) (cond (o.n_ != 0) (some 401) (cond (decide (o.kind < 4)) (cond (decide ((o.list.length : Int) > 0)) (some 401) ((spec_l1Names n (TJson.re o)).bind fun xr46 => (cond (!xr46) (some 401) (some 1)))) ((spec_l1Names n (TJson.re o)).bind fun xr47 => (cond (!xr47) (some 401) (some 1))))) (cond (decide (o.kind ≥ 4)) (cond (o.n_ != 0) (some 401) (cond (decide (o.kind < 4)) (cond (decide ((o.list.length : Int) > 0)) (some 401) ((spec_l1Names n (TJson.re o)).bind fun xr48 => (cond (!xr48) (some 401) (some 1)))) ((spec_l1Names n (TJson.re o)).bind fun xr49 => (cond (!xr49) (some 401) (some 1))))) (cond (decide (o.kind < 4)) (cond (decide ((o.list.length : Int) > 0)) (some 401) ((spec_l1Names n (TJson.re o)).bind fun xr50 => (cond (!xr50) (some 401) (some 1)))) ((spec_l1Names n (TJson.re o)).bind fun xr51 => (cond (!xr51) (some 401) (some 1))))))))) (cond (o.kind == 4) (cond (o.kind == 4) (spec_l1Great.loop23 n (spec_l1Great n) (fun xy53 xy54 xy55 xy56 xy57 xy58 xy59 => (cond (xy55 != 3) (cond (!(xy57 == [])) (some xy53) (cond (xy55 == 3) (cond (xy56 != 0) (some xy53) (cond (decide (xy55 < 4)) (cond (decide ((xy58.length : Int) > 0)) (some xy53) ((spec_l1Names n (TJson.mk xy55 xy56 xy57 xy58 xy59)).bind fun xr60 => (cond (!xr60) (some xy53) (some xy54)))) ((spec_l1Names n (TJson.mk xy55 xy56 xy57 xy58 xy59)).bind fun xr61 => (cond (!xr61) (some xy53) (some xy54))))) (cond (decide (xy55 ≥ 4)) (cond (xy56 != 0) (some xy53) (cond (decide (xy55 < 4)) (cond (decide ((xy58.length : Int) > 0)) (some xy53) ((spec_l1Names n (TJson.mk xy55 xy56 xy57 xy58 xy59)).bind fun xr62 => (cond (!xr62) (some xy53) (some xy54)))) ((spec_l1Names n (TJson.mk xy55 xy56 xy57 xy58 xy59)).bind fun xr63 => (cond (!xr63) (some xy53) (some xy54))))) (cond (decide (xy55 < 4)) (cond (decide ((xy58.length : Int) > 0)) (some xy53) ((spec_l1Names n (TJson.mk xy55 xy56 xy57 xy58 xy59)).bind fun xr64 => (cond (!xr64) (some xy53) (some xy54)))) ((spec_l1Names n (TJson.mk xy55 xy56 xy57 xy58 xy59)).bind fun xr65 => (cond (!xr65) (some xy53) (some xy54))))))) (cond (xy55 == 3) (cond (xy56 != 0) (some xy53) (cond (decide (xy55 < 4)) (cond (decide ((xy58.length : Int) > 0)) (some xy53) ((spec_l1Names n (TJson.mk xy55 xy56 xy57 xy58 xy59)).bind fun xr66 => (cond (!xr66) (some xy53) (some xy54)))) ((spec_l1Names n (TJson.mk xy55 xy56 xy57 xy58 xy59)).bind fun xr67 => (cond (!xr67) (some xy53) (some xy54))))) (cond (decide (xy55 ≥ 4)) (cond (xy56 != 0) (some xy53) (cond (decide (xy55 < 4)) (cond (decide ((xy58.length : Int) > 0)) (some xy53) ((spec_l1Names n (TJson.mk xy55 xy56 xy57 xy58 xy59)).bind fun xr68 => (cond (!xr68) (some xy53) (some xy54)))) ((spec_l1Names n (TJson.mk xy55 xy56 xy57 xy58 xy59)).bind fun xr69 => (cond (!xr69) (some xy53) (some xy54))))) (cond (decide (xy55 < 4)) (cond (decide ((xy58.length : Int) > 0)) (some xy53) ((spec_l1Names n (TJson.mk xy55 xy56 xy57 xy58 xy59)).bind fun xr70 => (cond (!xr70) (some xy53) (some xy54)))) ((spec_l1Names n (TJson.mk xy55 xy56 xy57 xy58 xy59)).bind fun xr71 => (cond (!xr71) (some xy53) (some xy54)))))))) n append 401 1 0 o.kind o.n_ o.s o.list o.names) (some 401)) (cond (o.kind == 5) (spec_l1Great.loop23 n (spec_l1Great n) (fun xy72 xy73 xy74 xy75 xy76 xy77 xy78 => (cond (xy74 != 3) (cond (!(xy76 == [])) (some xy72) (cond (xy74 == 3) (cond (xy75 != 0) (some xy72) (cond (decide (xy74 < 4)) (cond (decide ((xy77.length : Int) > 0)) (some xy72) ((spec_l1Names n (TJson.mk xy74 xy75 xy76 xy77 xy78)).bind fun xr79 => (cond (!xr79) (some xy72) (some xy73)))) ((spec_l1Names n (TJson.mk xy74 xy75 xy76 xy77 xy78)).bind fun xr80 => (cond (!xr80) (some xy72) (some xy73))))) (cond (decide (xy74 ≥ 4)) (cond (xy75 != 0) (some xy72) (cond (decide (xy74 < 4)) (cond (decide ((xy77.length : Int) > 0)) (some xy72) ((spec_l1Names n (TJson.mk xy74 xy75 xy76 xy77 xy78)).bind fun xr81 => (cond (!xr81) (some xy72) (some xy73)))) ((spec_l1Names n (TJson.mk xy74 xy75 xy76 xy77 xy78)).bind fun xr82 => (cond (!xr82) (some xy72) (some xy73))))) (cond (decide (xy74 < 4)) (cond (decide ((xy77.length : Int) > 0)) (some xy72) ((spec_l1Names n (TJson.mk xy74 xy75 xy76 xy77 xy78)).bind fun xr83 => (cond (!xr83) (some xy72) (some xy73)))) ((spec_l1Names n (TJson.mk xy74 xy75 xy76 xy77 xy78)).bind fun xr84 => (cond (!xr84) (some xy72) (some xy73))))))) (cond (xy74 == 3) (cond (xy75 != 0) (some xy72) (cond (decide (xy74 < 4)) (cond (decide ((xy77.length : Int) > 0)) (some xy72) ((spec_l1Names n (TJson.mk xy74 xy75 xy76 xy77 xy78)).bind fun xr85 => (cond (!xr85) (some xy72) (some xy73)))) ((spec_l1Names n (TJson.mk xy74 xy75 xy76 xy77 xy78)).bind fun xr86 => (cond (!xr86) (some xy72) (some xy73))))) (cond (decide (xy74 ≥ 4)) (cond (xy75 != 0) (some xy72) (cond (decide (xy74 < 4)) (cond (decide ((xy77.length : Int) > 0)) (some xy72) ((spec_l1Names n (TJson.mk xy74 xy75 xy76 xy77 xy78)).bind fun xr87 => (cond (!xr87) (some xy72) (some xy73)))) ((spec_l1Names n (TJson.mk xy74 xy75 xy76 xy77 xy78)).bind fun xr88 => (cond (!xr88) (some xy72) (some xy73))))) (cond (decide (xy74 < 4)) (cond (decide ((xy77.length : Int) > 0)) (some xy72) ((spec_l1Names n (TJson.mk xy74 xy75 xy76 xy77 xy78)).bind fun xr89 => (cond (!xr89) (some xy72) (some xy73)))) ((spec_l1Names n (TJson.mk xy74 xy75 xy76 xy77 xy78)).bind fun xr90 => (cond (!xr90) (some xy72) (some xy73)))))))) n append 401 1 0 o.kind o.n_ o.s o.list o.names) (some 401))))))))
def spec_JsonOk : Nat → TJson → Option Bool
  | 0, _ => none
  | n + 1, j =>
    ((spec_l1Great n (TJson.re j) 6).bind fun xr1 => (some (decide (xr1 ≤ 400))))
def spec_l2Digits.step7 (n : Nat) (k0 : Bool → Bs → Option Bs) (back : Int → Bool → Bs → Option Bs) (n_1 : Int) (below : Bool) (out_1 : Bs) : Option Bs :=
  (cond (n_1 != 0) (cond (decide ((Int.tmod n_1 10) < 0)) (let xv1 : Bs := (toBs ([(IntKind.u8.wrap ((W (48 + (W (0 - (Int.tmod n_1 10)))))))] : List Int)); (cond (decide (xv1.length + out_1.length ≤ 9223372036854775807)) (back (W (Int.tdiv n_1 10)) below (xv1 ++ out_1)) none)) (cond (decide ((toBs ([(IntKind.u8.wrap ((W (48 + (Int.tmod n_1 10)))))] : List Int)).length + out_1.length ≤ 9223372036854775807)) (let xv2 : Bs := ((toBs ([(IntKind.u8.wrap ((W (48 + (Int.tmod n_1 10)))))] : List Int)) ++ out_1); (back (W (Int.tdiv n_1 10)) below xv2)) none)) (k0 below out_1))
def spec_l2Digits.loop7 (n : Nat) (k0 : Bool → Bs → Option Bs) (N : Nat) : Int → Bool → Bs → Option Bs :=
  iterN (fun _ _ _ => none) (fun back => spec_l2Digits.step7 n k0 back) N
def spec_l2Digits : Nat → Int → Option Bs
  | 0, _ => none
  | n + 1, n1 =>
    (cond (n1 == 0) (some [48]) (spec_l2Digits.loop7 n (fun xy3 xy4 => (cond xy3 (cond (decide ([45].length + xy4.length ≤ 9223372036854775807)) (some (([45] : Bs) ++ xy4)) none) (some xy4))) n n1 (decide (n1 < 0)) []))
def spec_l2Quote.step4 (n : Nat) (k0 : (List Int) → Option Bs) (back : Bs → Int → (List Int) → Option Bs) (s : Bs) (i : Int) (out_1 : List Int) : Option Bs :=
  (cond (decide (i < (s.length : Int))) (inB i s.length (cond (((s.getD i.toNat 0).toNat : Int) == 34) (roomB (out_1.length + ([92] : List Int).length) 1 (inB i s.length (roomB ((out_1 ++ ([92] : List Int)).length + ([((s.getD i.toNat 0).toNat : Int)] : List Int).length) 1 (back s (W (i + 1)) ((out_1 ++ ([92] : List Int)) ++ ([((s.getD i.toNat 0).toNat : Int)] : List Int)))))) (inB i s.length (cond (((s.getD i.toNat 0).toNat : Int) == 92) (roomB (out_1.length + ([92] : List Int).length) 1 (inB i s.length (roomB ((out_1 ++ ([92] : List Int)).length + ([((s.getD i.toNat 0).toNat : Int)] : List Int).length) 1 (back s (W (i + 1)) ((out_1 ++ ([92] : List Int)) ++ ([((s.getD i.toNat 0).toNat : Int)] : List Int)))))) (inB i s.length (roomB (out_1.length + ([((s.getD i.toNat 0).toNat : Int)] : List Int).length) 1 (back s (W (i + 1)) (out_1 ++ ([((s.getD i.toNat 0).toNat : Int)] : List Int))))))))) (k0 out_1))
def spec_l2Quote.loop4 (n : Nat) (k0 : (List Int) → Option Bs) (N : Nat) : Bs → Int → (List Int) → Option Bs :=
  iterN (fun _ _ _ => none) (fun back => spec_l2Quote.step4 n k0 back) N
def spec_l2Quote : Nat → Bs → Option Bs
  | 0, _ => none
  | n + 1, s =>
    (spec_l2Quote.loop4 n (fun xy1 => (roomB (xy1.length + ([34] : List Int).length) 1 (some (toBs (xy1 ++ ([34] : List Int)))))) n s 0 ([34] : List Int))
def spec_l2Encode.step17 (n : Nat) (spec_l2Encode_ : TJson → Option Bs) (k1 : Bs → Int → Int → Bs → (List TJson) → (List Bs) → Option Bs) (back : Bs → Int → Int → Int → Bs → (List TJson) → (List Bs) → Option Bs) (out_1 : Bs) (i : Int) (j0 : Int) (j1 : Int) (j2 : Bs) (j3 : List TJson) (j4 : List Bs) : Option Bs :=
  (cond (decide (i < (j3.length : Int))) (cond (decide (i > 0)) (cond (decide (out_1.length + [44].length ≤ 9223372036854775807)) (cond (j0 == 5) (inB i j4.length ((spec_l2Quote n (j4.getD i.toNat [])).bind fun xr3 => (cond (decide ((out_1 ++ [44]).length + xr3.length ≤ 9223372036854775807)) (cond (decide (((out_1 ++ [44]) ++ xr3).length + [58].length ≤ 9223372036854775807)) (inB i j3.length ((spec_l2Encode_ (TJson.re (j3.getD i.toNat TJson.dflt))).bind fun xr4 => (cond (decide ((((out_1 ++ [44]) ++ xr3) ++ [58]).length + xr4.length ≤ 9223372036854775807)) (back ((((out_1 ++ [44]) ++ xr3) ++ [58]) ++ xr4) (W (i + 1)) j0 j1 j2 j3 j4) none))) none) none))) (inB i j3.length ((spec_l2Encode_ (TJson.re (j3.getD i.toNat TJson.dflt))).bind fun xr5 => (cond (decide ((out_1 ++ [44]).length + xr5.length ≤ 9223372036854775807)) (back ((out_1 ++ [44]) ++ xr5) (W (i + 1)) j0 j1 j2 j3 j4) none)))) none) (cond (j0 == 5) (inB i j4.length ((spec_l2Quote n (j4.getD i.toNat [])).bind fun xr6 => (cond (decide (out_1.length + xr6.length ≤ 9223372036854775807)) (cond (decide ((out_1 ++ xr6).length + [58].length ≤ 9223372036854775807)) (inB i j3.length ((spec_l2Encode_ (TJson.re (j3.getD i.toNat TJson.dflt))).bind fun xr7 => (cond (decide (((out_1 ++ xr6) ++ [58]).length + xr7.length ≤ 9223372036854775807)) (back (((out_1 ++ xr6) ++ [58]) ++ xr7) (W (i + 1)) j0 j1 j2 j3 j4) none))) none) none))) (inB i j3.length ((spec_l2Encode_ (TJson.re (j3.getD i.toNat TJson.dflt))).bind fun xr8 => (cond (decide (out_1.length + xr8.length ≤ 9223372036854775807)) (back (out_1 ++ xr8) (W (i + 1)) j0 j1 j2 j3 j4) none))))) (k1 out_1 j0 j1 j2 j3 j4))
def spec_l2Encode.loop17 (n : Nat) (spec_l2Encode_ : TJson → Option Bs) (k1 : Bs → Int → Int → Bs → (List TJson) → (List Bs) → Option Bs) (N : Nat) : Bs → Int → Int → Int → Bs → (List TJson) → (List Bs) → Option Bs :=
  iterN (fun _ _ _ _ _ _ _ => none) (fun back => spec_l2Encode.step17 n spec_l2Encode_ k1 back) N
def spec_l2Encode : Nat → TJson → Option Bs
  | 0, _ => none
  | n + 1, j =>
    (cond (j.kind == 0) (some [110, 117, 108, 108]) (cond (j.kind == 1) (cond (j.n_ == 1) (some [116, 114, 117, 101]) (some [102, 97, 108, 115, 101])) (cond (j.kind == 2) ((spec_l2Digits n j.n_).bind fun xr1 => (some xr1)) (cond (j.kind == 3) ((spec_l2Quote n j.s).bind fun xr2 => (some xr2)) (spec_l2Encode.loop17 n (spec_l2Encode n) (fun xy9 xy10 xy11 xy12 xy13 xy14 => (cond (xy10 == 5) (cond (decide ([123].length + xy9.length ≤ 9223372036854775807)) (cond (decide ((([123] : Bs) ++ xy9).length + [125].length ≤ 9223372036854775807)) (some ((([123] : Bs) ++ xy9) ++ [125])) none) none) (cond (decide ([91].length + xy9.length ≤ 9223372036854775807)) (cond (decide ((([91] : Bs) ++ xy9).length + [93].length ≤ 9223372036854775807)) (some ((([91] : Bs) ++ xy9) ++ [93])) none) none))) n [] 0 j.kind j.n_ j.s j.list j.names)))))
def spec_Encode : Nat → TJson → Option Bs
  | 0, _ => none
  | n + 1, j =>
    ((spec_JsonOk n (TJson.re j)).bind fun xr1 => (cond (!xr1) (some []) ((spec_l2Encode n (TJson.re j)).bind fun xr2 => (cond (decide ((xr2.length : Int) > 6000)) (some []) (some xr2)))))
def spec_l1Same.step6 (n : Nat) (spec_l1Same_ : TJson → TJson → Option Bool) (k0 : Int → Int → Bs → (List TJson) → (List Bs) → Int → Int → Bs → (List TJson) → (List Bs) → Option Bool) (back : Int → Int → Int → Bs → (List TJson) → (List Bs) → Int → Int → Bs → (List TJson) → (List Bs) → Option Bool) (t5 : Int) (t20 : Int) (t21 : Int) (t22 : Bs) (t23 : List TJson) (t24 : List Bs) (t30 : Int) (t31 : Int) (t32 : Bs) (t33 : List TJson) (t34 : List Bs) : Option Bool :=
  (cond (decide (t5 < (t23.length : Int))) (inB t5 t23.length (inB t5 t33.length ((spec_l1Same_ (TJson.re (t23.getD t5.toNat TJson.dflt)) (TJson.re (t33.getD t5.toNat TJson.dflt))).bind fun xr1 => (cond (!xr1) (some false) (back (W (t5 + 1)) t20 t21 t22 t23 t24 t30 t31 t32 t33 t34))))) (k0 t20 t21 t22 t23 t24 t30 t31 t32 t33 t34))
def spec_l1Same.loop6 (n : Nat) (spec_l1Same_ : TJson → TJson → Option Bool) (k0 : Int → Int → Bs → (List TJson) → (List Bs) → Int → Int → Bs → (List TJson) → (List Bs) → Option Bool) (N : Nat) : Int → Int → Int → Bs → (List TJson) → (List Bs) → Int → Int → Bs → (List TJson) → (List Bs) → Option Bool :=
  iterN (fun _ _ _ _ _ _ _ _ _ _ _ => none) (fun back => spec_l1Same.step6 n spec_l1Same_ k0 back) N
def spec_l1Same.step14 (n : Nat) (spec_l1Same_ : TJson → TJson → Option Bool) (k2 : Option Bool) (back : Int → Int → Int → Bs → (List TJson) → (List Bs) → Int → Int → Bs → (List TJson) → (List Bs) → Option Bool) (t6 : Int) (t20 : Int) (t21 : Int) (t22 : Bs) (t23 : List TJson) (t24 : List Bs) (t30 : Int) (t31 : Int) (t32 : Bs) (t33 : List TJson) (t34 : List Bs) : Option Bool :=
  (cond (decide (t6 < (t24.length : Int))) (inB t6 t24.length (inB t6 t34.length (cond (!((t24.getD t6.toNat []) == (t34.getD t6.toNat []))) (some false) (back (W (t6 + 1)) t20 t21 t22 t23 t24 t30 t31 t32 t33 t34)))) k2)
def spec_l1Same.loop14 (n : Nat) (spec_l1Same_ : TJson → TJson → Option Bool) (k2 : Option Bool) (N : Nat) : Int → Int → Int → Bs → (List TJson) → (List Bs) → Int → Int → Bs → (List TJson) → (List Bs) → Option Bool :=
  iterN (fun _ _ _ _ _ _ _ _ _ _ _ => none) (fun back => spec_l1Same.step14 n spec_l1Same_ k2 back) N
def spec_l1Same : Nat → TJson → TJson → Option Bool
  | 0, _, _ => none
  | n + 1, o, append =>
    (cond (o.kind != append.kind) (some false) (cond (o.n_ != append.n_) (some false) (cond (!(o.s == append.s)) (some false) (cond ((o.list.length : Int) != (append.list.length : Int)) (some false) (cond ((o.names.length : Int) != (append.names.length : Int)) (some false) (spec_l1Same.loop6 n (spec_l1Same n) (fun xy2 xy3 xy4 xy5 xy6 xy7 xy8 xy9 xy10 xy11 => (spec_l1Same.loop14 n (spec_l1Same n) (some true) n 0 xy2 xy3 xy4 xy5 xy6 xy7 xy8 xy9 xy10 xy11)) n 0 o.kind o.n_ o.s o.list o.names append.kind append.n_ append.s append.list append.names))))))
def spec_OpOk.step6 (n : Nat) (k0 : Int → (List Bs) → Int → Int → Bs → (List TJson) → (List Bs) → Option Bool) (back : Int → Int → (List Bs) → Int → Int → Bs → (List TJson) → (List Bs) → Option Bool) (i : Int) (o0 : Int) (o1 : List Bs) (o2 : Int) (o3 : Int) (o4 : Bs) (o5 : List TJson) (o6 : List Bs) : Option Bool :=
  (cond (decide (i < (o1.length : Int))) (inB i o1.length ((spec_l1Text n (o1.getD i.toNat [])).bind fun xr3 => (cond (!xr3) (some false) (back (W (i + 1)) o0 o1 o2 o3 o4 o5 o6)))) (k0 o0 o1 o2 o3 o4 o5 o6))
def spec_OpOk.loop6 (n : Nat) (k0 : Int → (List Bs) → Int → Int → Bs → (List TJson) → (List Bs) → Option Bool) (N : Nat) : Int → Int → (List Bs) → Int → Int → Bs → (List TJson) → (List Bs) → Option Bool :=
  iterN (fun _ _ _ _ _ _ _ _ => none) (fun back => spec_OpOk.step6 n k0 back) N
def spec_OpOk : Nat → TOp → Option Bool
  | 0, _ => none
  | n + 1, o =>
    ((spec_l1In n o.kind 1 4).bind fun xr1 => (cond (!xr1) (some false) (cond (decide ((o.way.length : Int) > 6)) (some false) ((spec_JsonOk n (TJson.re o.value)).bind fun xr2 => (cond (!xr2) (some false) (spec_OpOk.loop6 n (fun xy4 xy5 xy6 xy7 xy8 xy9 xy10 => (cond (xy4 != 2) (some true) ((spec_l1Same n (TJson.mk xy6 xy7 xy8 xy9 xy10) (TJson.mk 0 0 [] [] [])).bind fun xr11 => (some xr11)))) n 0 o.kind o.way o.value.kind o.value.n_ o.value.s o.value.list o.value.names))))))
def spec_l4Names : Nat → Unit → Option (List Bs)
  | 0, _ => none
  | n + 1, _u =>
    (some ([[], [97, 100, 100], [114, 101, 109, 111, 118, 101], [114, 101, 112, 108, 97, 99, 101], [116, 101, 115, 116]] : List Bs))
def spec_WayText.step10 (n : Nat) (k2 : (List Bs) → Int → (List Int) → Option Bs) (back : (List Bs) → Int → Int → (List Int) → Option Bs) (way : List Bs) (i : Int) (k : Int) (out_1 : List Int) : Option Bs :=
  (inB i way.length (cond (decide (k < ((way.getD i.toNat []).length : Int))) (inB i way.length (inB k (way.getD i.toNat []).length (cond ((((way.getD i.toNat []).getD k.toNat 0).toNat : Int) == 126) (roomB (out_1.length + ([126, 48] : List Int).length) 1 (back way i (W (k + 1)) (out_1 ++ ([126, 48] : List Int)))) (cond ((((way.getD i.toNat []).getD k.toNat 0).toNat : Int) == 47) (roomB (out_1.length + ([126, 49] : List Int).length) 1 (back way i (W (k + 1)) (out_1 ++ ([126, 49] : List Int)))) (inB i way.length (inB k (way.getD i.toNat []).length (roomB (out_1.length + ([(((way.getD i.toNat []).getD k.toNat 0).toNat : Int)] : List Int).length) 1 (back way i (W (k + 1)) (out_1 ++ ([(((way.getD i.toNat []).getD k.toNat 0).toNat : Int)] : List Int)))))))))) (k2 way i out_1)))
def spec_WayText.loop10 (n : Nat) (k2 : (List Bs) → Int → (List Int) → Option Bs) (N : Nat) : (List Bs) → Int → Int → (List Int) → Option Bs :=
  iterN (fun _ _ _ _ => none) (fun back => spec_WayText.step10 n k2 back) N
def spec_WayText.step4 (n : Nat) (k0 : (List Int) → Option Bs) (back : (List Bs) → Int → (List Int) → Option Bs) (way : List Bs) (i : Int) (out_1 : List Int) : Option Bs :=
  (cond (decide (i < (way.length : Int))) (roomB (out_1.length + ([47] : List Int).length) 1 (spec_WayText.loop10 n (fun xy1 xy2 xy3 => (back xy1 (W (xy2 + 1)) xy3)) n way i 0 (out_1 ++ ([47] : List Int)))) (k0 out_1))
def spec_WayText.loop4 (n : Nat) (k0 : (List Int) → Option Bs) (N : Nat) : (List Bs) → Int → (List Int) → Option Bs :=
  iterN (fun _ _ _ => none) (fun back => spec_WayText.step4 n k0 back) N
def spec_WayText : Nat → (List Bs) → Option Bs
  | 0, _ => none
  | n + 1, way =>
    (spec_WayText.loop4 n (fun xy4 => (some (toBs xy4))) n way 0 ([] : List Int))
def spec_l1Copy.step4 (n : Nat) (spec_l1Copy_ : TJson → Option TJson) (k0 : Int → Int → Bs → Int → Int → Bs → (List TJson) → (List Bs) → Option TJson) (back : Int → Int → Int → Bs → (List TJson) → (List Bs) → Int → Int → Bs → Int → Int → Bs → (List TJson) → (List Bs) → Option TJson) (i : Int) (j0 : Int) (j1 : Int) (j2 : Bs) (j3 : List TJson) (j4 : List Bs) (t20 : Int) (t21 : Int) (t22 : Bs) (out0 : Int) (out1 : Int) (out2 : Bs) (out3 : List TJson) (out4 : List Bs) : Option TJson :=
  (cond (decide (i < (j3.length : Int))) (inB i j3.length ((spec_l1Copy_ (TJson.re (j3.getD i.toNat TJson.dflt))).bind fun xr1 => (roomB (out3.length + ([(TJson.re xr1)] : List TJson).length) 80 (back (W (i + 1)) j0 j1 j2 j3 j4 t20 t21 t22 out0 out1 out2 (out3 ++ ([(TJson.re xr1)] : List TJson)) out4)))) (k0 t20 t21 t22 out0 out1 out2 out3 out4))
def spec_l1Copy.loop4 (n : Nat) (spec_l1Copy_ : TJson → Option TJson) (k0 : Int → Int → Bs → Int → Int → Bs → (List TJson) → (List Bs) → Option TJson) (N : Nat) : Int → Int → Int → Bs → (List TJson) → (List Bs) → Int → Int → Bs → Int → Int → Bs → (List TJson) → (List Bs) → Option TJson :=
  iterN (fun _ _ _ _ _ _ _ _ _ _ _ _ _ _ => none) (fun back => spec_l1Copy.step4 n spec_l1Copy_ k0 back) N
def spec_l1Copy : Nat → TJson → Option TJson
  | 0, _ => none
  | n + 1, j =>
    (roomB (([] : List Bs).length + j.names.length) 16 (spec_l1Copy.loop4 n (spec_l1Copy n) (fun xy2 xy3 xy4 xy5 xy6 xy7 xy8 xy9 => (some (TJson.mk xy5 xy6 xy7 xy8 xy9))) n 0 j.kind j.n_ j.s j.list j.names 0 0 [] j.kind j.n_ j.s ([] : List TJson) (([] : List Bs) ++ j.names)))
def spec_l1Put.step5 (n : Nat) (k0 : Bs → Bool → Int → Int → Bs → (List TJson) → (List Bs) → Int → Int → Bs → Int → Int → Bs → (List TJson) → (List Bs) → Option TJson) (back : Bs → Bool → Int → Int → Int → Bs → (List TJson) → (List Bs) → Int → Int → Bs → (List TJson) → (List Bs) → Int → Int → Bs → Int → Int → Bs → (List TJson) → (List Bs) → Option TJson) (append : Bs) (t8 : Bool) (t9 : Int) (t30 : Int) (t31 : Int) (t32 : Bs) (t33 : List TJson) (t34 : List Bs) (t50 : Int) (t51 : Int) (t52 : Bs) (t53 : List TJson) (t54 : List Bs) (t60 : Int) (t61 : Int) (t62 : Bs) (t70 : Int) (t71 : Int) (t72 : Bs) (t73 : List TJson) (t74 : List Bs) : Option TJson :=
  (cond (decide (t9 < (t34.length : Int))) (cond (!t8) (inB t9 t34.length (cond (!Op.bytesLess (t34.getD t9.toNat []) append) (roomB (t74.length + ([append] : List Bs).length) 16 (roomB (t73.length + ([(TJson.mk t50 t51 t52 t53 t54)] : List TJson).length) 80 (inB t9 t34.length (cond (!((t34.getD t9.toNat []) == append)) (inB t9 t34.length (roomB ((t74 ++ ([append] : List Bs)).length + ([(t34.getD t9.toNat [])] : List Bs).length) 16 (inB t9 t33.length (roomB ((t73 ++ ([(TJson.mk t50 t51 t52 t53 t54)] : List TJson)).length + ([(TJson.re (t33.getD t9.toNat TJson.dflt))] : List TJson).length) 80 (back append true (W (t9 + 1)) t30 t31 t32 t33 t34 t50 t51 t52 t53 t54 t60 t61 t62 t70 t71 t72 ((t73 ++ ([(TJson.mk t50 t51 t52 t53 t54)] : List TJson)) ++ ([(TJson.re (t33.getD t9.toNat TJson.dflt))] : List TJson)) ((t74 ++ ([append] : List Bs)) ++ ([(t34.getD t9.toNat [])] : List Bs))))))) (back append true (W (t9 + 1)) t30 t31 t32 t33 t34 t50 t51 t52 t53 t54 t60 t61 t62 t70 t71 t72 (t73 ++ ([(TJson.mk t50 t51 t52 t53 t54)] : List TJson)) (t74 ++ ([append] : List Bs))))))) (inB t9 t34.length (cond (!((t34.getD t9.toNat []) == append)) (inB t9 t34.length (roomB (t74.length + ([(t34.getD t9.toNat [])] : List Bs).length) 16 (inB t9 t33.length (roomB (t73.length + ([(TJson.re (t33.getD t9.toNat TJson.dflt))] : List TJson).length) 80 (back append t8 (W (t9 + 1)) t30 t31 t32 t33 t34 t50 t51 t52 t53 t54 t60 t61 t62 t70 t71 t72 (t73 ++ ([(TJson.re (t33.getD t9.toNat TJson.dflt))] : List TJson)) (t74 ++ ([(t34.getD t9.toNat [])] : List Bs))))))) (back append t8 (W (t9 + 1)) t30 t31 t32 t33 t34 t50 t51 t52 t53 t54 t60 t61 t62 t70 t71 t72 t73 t74))))) (inB t9 t34.length (cond (!((t34.getD t9.toNat []) == append)) (inB t9 t34.length (roomB (t74.length + ([(t34.getD t9.toNat [])] : List Bs).length) 16 (inB t9 t33.length (roomB (t73.length + ([(TJson.re (t33.getD t9.toNat TJson.dflt))] : List TJson).length) 80 (back append t8 (W (t9 + 1)) t30 t31 t32 t33 t34 t50 t51 t52 t53 t54 t60 t61 t62 t70 t71 t72 (t73 ++ ([(TJson.re (t33.getD t9.toNat TJson.dflt))] : List TJson)) (t74 ++ ([(t34.getD t9.toNat [])] : List Bs))))))) (back append t8 (W (t9 + 1)) t30 t31 t32 t33 t34 t50 t51 t52 t53 t54 t60 t61 t62 t70 t71 t72 t73 t74)))) (k0 append t8 t50 t51 t52 t53 t54 t60 t61 t62 t70 t71 t72 t73 t74))
def spec_l1Put.loop5 (n : Nat) (k0 : Bs → Bool → Int → Int → Bs → (List TJson) → (List Bs) → Int → Int → Bs → Int → Int → Bs → (List TJson) → (List Bs) → Option TJson) (N : Nat) : Bs → Bool → Int → Int → Int → Bs → (List TJson) → (List Bs) → Int → Int → Bs → (List TJson) → (List Bs) → Int → Int → Bs → Int → Int → Bs → (List TJson) → (List Bs) → Option TJson :=
  iterN (fun _ _ _ _ _ _ _ _ _ _ _ _ _ _ _ _ _ _ _ _ _ => none) (fun back => spec_l1Put.step5 n k0 back) N
def spec_l1Put : Nat → TJson → Bs → TJson → Option TJson
  | 0, _, _, _ => none
  | n + 1, o, append, a2 =>
    (spec_l1Put.loop5 n (fun xy1 xy2 xy3 xy4 xy5 xy6 xy7 xy8 xy9 xy10 xy11 xy12 xy13 xy14 xy15 => (cond (!xy2) (roomB (xy15.length + ([xy1] : List Bs).length) 16 (roomB (xy14.length + ([(TJson.mk xy3 xy4 xy5 xy6 xy7)] : List TJson).length) 80 (some (TJson.mk xy11 xy12 xy13 (xy14 ++ ([(TJson.mk xy3 xy4 xy5 xy6 xy7)] : List TJson)) (xy15 ++ ([xy1] : List Bs)))))) (some (TJson.mk xy11 xy12 xy13 xy14 xy15)))) n append false 0 o.kind o.n_ o.s o.list o.names a2.kind a2.n_ a2.s a2.list a2.names 0 0 [] 5 0 [] ([] : List TJson) ([] : List Bs))
def spec_OpJson : Nat → TOp → Option TJson
  | 0, _ => none
  | n + 1, o =>
    ((spec_OpOk n (TOp.mk o.kind o.way (TJson.re o.value))).bind fun xr1 => (cond (!xr1) (some (TJson.mk 0 0 [] ([] : List TJson) ([] : List Bs))) ((spec_l4Names n ()).bind fun xr2 => (inB o.kind xr2.length ((spec_WayText n o.way).bind fun xr3 => (cond (o.kind != 2) ((spec_l1Copy n (TJson.re o.value)).bind fun xr4 => ((spec_l1Put n (TJson.mk 5 0 [] ([(TJson.mk 3 0 (xr2.getD o.kind.toNat []) [] []), (TJson.mk 3 0 xr3 [] [])] : List TJson) ([[111, 112], [112, 97, 116, 104]] : List Bs)) [118, 97, 108, 117, 101] (TJson.re xr4)).bind fun xr5 => ((spec_JsonOk n (TJson.re xr5)).bind fun xr6 => (cond (!xr6) (some (TJson.mk 0 0 [] ([] : List TJson) ([] : List Bs))) (some (TJson.re xr5)))))) ((spec_JsonOk n (TJson.mk 5 0 [] ([(TJson.mk 3 0 (xr2.getD o.kind.toNat []) [] []), (TJson.mk 3 0 xr3 [] [])] : List TJson) ([[111, 112], [112, 97, 116, 104]] : List Bs))).bind fun xr7 => (cond (!xr7) (some (TJson.mk 0 0 [] ([] : List TJson) ([] : List Bs))) (some (TJson.mk 5 0 [] ([(TJson.mk 3 0 (xr2.getD o.kind.toNat []) [] []), (TJson.mk 3 0 xr3 [] [])] : List TJson) ([[111, 112], [112, 97, 116, 104]] : List Bs)))))))))))
def spec_l17Ops.step4 (n : Nat) (k0 : (List TOp) → Int → Int → Bs → Int → Int → Bs → (List TJson) → Option (TJson × Bool)) (back : (List TOp) → Int → Int → Int → Bs → Int → Int → Bs → (List TJson) → Option (TJson × Bool)) (list : List TOp) (i : Int) (t20 : Int) (t21 : Int) (t22 : Bs) (j0 : Int) (j1 : Int) (j2 : Bs) (j3 : List TJson) : Option (TJson × Bool) :=
  (cond (decide (i < (list.length : Int))) (inB i list.length ((spec_OpJson n { (list.getD i.toNat TOp.dflt) with value := (TJson.re ((list.getD i.toNat TOp.dflt).value)) }).bind fun xr1 => (cond (xr1.kind == 0) (some ((TJson.mk j0 j1 j2 j3 ([] : List Bs)), false)) (roomB (j3.length + ([(TJson.re xr1)] : List TJson).length) 80 (back list (W (i + 1)) t20 t21 t22 j0 j1 j2 (j3 ++ ([(TJson.re xr1)] : List TJson))))))) (k0 list t20 t21 t22 j0 j1 j2 j3))
def spec_l17Ops.loop4 (n : Nat) (k0 : (List TOp) → Int → Int → Bs → Int → Int → Bs → (List TJson) → Option (TJson × Bool)) (N : Nat) : (List TOp) → Int → Int → Int → Bs → Int → Int → Bs → (List TJson) → Option (TJson × Bool) :=
  iterN (fun _ _ _ _ _ _ _ _ _ => none) (fun back => spec_l17Ops.step4 n k0 back) N
def spec_l17Ops : Nat → (List TOp) → Option (TJson × Bool)
  | 0, _ => none
  | n + 1, list =>
    (spec_l17Ops.loop4 n (fun xy2 xy3 xy4 xy5 xy6 xy7 xy8 xy9 => (cond (decide ((xy2.length : Int) ≤ 40)) ((spec_Encode n (TJson.mk xy6 xy7 xy8 xy9 [])).bind fun xr10 => (some ((TJson.mk xy6 xy7 xy8 xy9 ([] : List Bs)), (!(xr10 == []))))) (some ((TJson.mk xy6 xy7 xy8 xy9 ([] : List Bs)), false)))) n list 0 0 0 [] 4 0 [] ([] : List TJson))
def spec_EventOk : Nat → TEvent → Option Bool
  | 0, _ => none
  | n + 1, e =>
    ((spec_l1In n e.version 0 100000).bind fun xr1 => (cond (!xr1) (some false) (cond (e.kind == 1) (cond (e.base == 0) (cond ((e.ops.length : Int) == 0) ((spec_Encode n (TJson.re e.doc)).bind fun xr2 => (some (!(xr2 == [])))) (some false)) (some false)) (cond (e.kind == 2) ((spec_l17Ops n e.ops).bind fun xr3 => (cond xr3.2 ((spec_l1In n e.base 0 (W (e.version - 1))).bind fun xr4 => (cond xr4 ((spec_l1Same n (TJson.re e.doc) (TJson.mk 0 0 [] [] [])).bind fun xr5 => (some xr5)) (some false))) (some false))) (some false)))))
def spec_EventText : Nat → TEvent → Option Bs
  | 0, _ => none
  | n + 1, e =>
    ((spec_EventOk n { e with doc := (TJson.re e.doc) }).bind fun xr1 => (cond (!xr1) (some []) ((spec_l2Digits n e.version).bind fun xr2 => (cond (decide ([105, 100, 58, 32].length + xr2.length ≤ 9223372036854775807)) (cond (decide ((([105, 100, 58, 32] : Bs) ++ xr2).length + [10].length ≤ 9223372036854775807)) (cond (e.kind == 1) (cond (decide ([101, 118, 101, 110, 116, 58, 32, 115, 110, 97, 112, 10].length + ((([105, 100, 58, 32] : Bs) ++ xr2) ++ [10]).length ≤ 9223372036854775807)) (let xv3 : Bs := (([101, 118, 101, 110, 116, 58, 32, 115, 110, 97, 112, 10] : Bs) ++ ((([105, 100, 58, 32] : Bs) ++ xr2) ++ [10])); (cond (decide (xv3.length + [100, 97, 116, 97, 58, 32].length ≤ 9223372036854775807)) ((spec_Encode n (TJson.re e.doc)).bind fun xr4 => (cond (decide ((xv3 ++ [100, 97, 116, 97, 58, 32]).length + xr4.length ≤ 9223372036854775807)) (cond (decide (((xv3 ++ [100, 97, 116, 97, 58, 32]) ++ xr4).length + [10, 10].length ≤ 9223372036854775807)) (some (((xv3 ++ [100, 97, 116, 97, 58, 32]) ++ xr4) ++ [10, 10])) none) none)) none)) none) ((spec_l17Ops n e.ops).bind fun xr5 => (cond (decide ([101, 118, 101, 110, 116, 58, 32, 112, 97, 116, 99, 104, 10].length + ((([105, 100, 58, 32] : Bs) ++ xr2) ++ [10]).length ≤ 9223372036854775807)) (let xv6 : Bs := (([101, 118, 101, 110, 116, 58, 32, 112, 97, 116, 99, 104, 10] : Bs) ++ ((([105, 100, 58, 32] : Bs) ++ xr2) ++ [10])); (cond (decide (xv6.length + [98, 97, 115, 101, 58, 32].length ≤ 9223372036854775807)) ((spec_l2Digits n e.base).bind fun xr7 => (cond (decide ((xv6 ++ [98, 97, 115, 101, 58, 32]).length + xr7.length ≤ 9223372036854775807)) (cond (decide (((xv6 ++ [98, 97, 115, 101, 58, 32]) ++ xr7).length + [10, 100, 97, 116, 97, 58, 32].length ≤ 9223372036854775807)) (let xv8 : Bs := (((xv6 ++ [98, 97, 115, 101, 58, 32]) ++ xr7) ++ [10, 100, 97, 116, 97, 58, 32]); ((spec_Encode n (TJson.re xr5.1)).bind fun xr9 => (cond (decide (xv8.length + xr9.length ≤ 9223372036854775807)) (cond (decide ((xv8 ++ xr9).length + [10, 10].length ≤ 9223372036854775807)) (some ((xv8 ++ xr9) ++ [10, 10])) none) none))) none) none)) none)) none))) none) none))))
def impl_within : Nat → Int → Int → Int → Option Bool
  | 0, _, _, _ => none
  | n + 1, n1, low, high =>
    (cond (decide (n1 ≥ low)) (some (decide (n1 ≤ high))) (some false))
def impl_isVersion : Nat → Int → Option Bool
  | 0, _ => none
  | n + 1, n1 =>
    ((impl_within n n1 0 100000).bind fun xr1 => (some xr1))
def impl_isNum : Nat → Int → Option Bool
  | 0, _ => none
  | n + 1, n1 =>
    ((impl_within n n1 (-1000000000) 1000000000).bind fun xr1 => (some xr1))
def impl_textOk.step3 (n : Nat) (k0 : Bs → Option Bool) (back : Bs → Int → Int → Option Bool) (s : Bs) (t5 : Int) (t6 : Int) : Option Bool :=
  (cond (decide (t6 < t5)) (inB t6 s.length ((impl_within n (W (((s.getD t6.toNat 0).toNat : Int))) 32 126).bind fun xr1 => (cond (!xr1) (some false) (back s t5 (W (t6 + 1)))))) (k0 s))
def impl_textOk.loop3 (n : Nat) (k0 : Bs → Option Bool) (N : Nat) : Bs → Int → Int → Option Bool :=
  iterN (fun _ _ _ => none) (fun back => impl_textOk.step3 n k0 back) N
def impl_textOk : Nat → Bs → Option Bool
  | 0, _ => none
  | n + 1, s =>
    (impl_textOk.loop3 n (fun xy2 => (some (decide ((xy2.length : Int) ≤ 60)))) n s (s.length : Int) 0)
def impl_namesOk.step3 (n : Nat) (k0 : Option Bool) (back : (List Bs) → (List Bs) → Int → Int → Option Bool) (names : List Bs) (t5 : List Bs) (t6 : Int) (t7 : Int) : Option Bool :=
  (cond (decide (t7 < t6)) (inB t7 t5.length ((impl_textOk n (t5.getD t7.toNat [])).bind fun xr1 => (cond (!xr1) (some false) (cond (decide (t7 > 0)) (inB (W (t7 - 1)) names.length (let xv2 : Bool := (!Op.bytesLess (names.getD (W (t7 - 1)).toNat []) (t5.getD t7.toNat [])); (cond xv2 (some false) (back names t5 t6 (W (t7 + 1)))))) (back names t5 t6 (W (t7 + 1))))))) k0)
def impl_namesOk.loop3 (n : Nat) (k0 : Option Bool) (N : Nat) : (List Bs) → (List Bs) → Int → Int → Option Bool :=
  iterN (fun _ _ _ _ => none) (fun back => impl_namesOk.step3 n k0 back) N
def impl_namesOk : Nat → (List Bs) → Option Bool
  | 0, _ => none
  | n + 1, names =>
    (impl_namesOk.loop3 n (some true) n names names (names.length : Int) 0)
def impl_ownOk : Nat → TJson → Option Bool
  | 0, _ => none
  | n + 1, o =>
    (cond (decide ((o.list.length : Int) > 0)) (cond (o.kind != 4) (cond (o.kind != 5) (some false) (cond (decide ((o.names.length : Int) > 0)) (cond (o.kind != 5) (some false) (cond (o.n_ != 0) (cond (o.kind != 1) (cond (o.kind != 2) (some false) (cond (!(o.s == [])) (cond (o.kind != 3) (some false) (cond (o.kind == 1) ((impl_within n o.n_ 0 1).bind fun xr1 => (some xr1)) (cond (o.kind == 2) ((impl_isNum n o.n_).bind fun xr2 => (some xr2)) (cond (o.kind == 3) ((impl_textOk n o.s).bind fun xr3 => (some xr3)) (cond (o.kind == 5) (cond ((o.names.length : Int) == (o.list.length : Int)) ((impl_namesOk n o.names).bind fun xr4 => (some xr4)) (some false)) (cond (o.kind == 0) (some true) (some (o.kind == 4)))))))) (cond (o.kind == 1) ((impl_within n o.n_ 0 1).bind fun xr5 => (some xr5)) (cond (o.kind == 2) ((impl_isNum n o.n_).bind fun xr6 => (some xr6)) (cond (o.kind == 3) ((impl_textOk n o.s).bind fun xr7 => (some xr7)) (cond (o.kind == 5) (cond ((o.names.length : Int) == (o.list.length : Int)) ((impl_namesOk n o.names).bind fun xr8 => (some xr8)) (some false)) (cond (o.kind == 0) (some true) (some (o.kind == 4))))))))) (cond (!(o.s == [])) (cond (o.kind != 3) (some false) (cond (o.kind == 1) ((impl_within n o.n_ 0 1).bind fun xr9 => (some xr9)) (cond (o.kind == 2) ((impl_isNum n o.n_).bind fun xr10 => (some xr10)) (cond (o.kind == 3) ((impl_textOk n o.s).bind fun xr11 => (some xr11)) (cond (o.kind == 5) (cond ((o.names.length : Int) == (o.list.length : Int)) ((impl_namesOk n o.names).bind fun xr12 => (some xr12)) (some false)) (cond (o.kind == 0) (some true) (some (o.kind == 4)))))))) (cond (o.kind == 1) ((impl_within n o.n_ 0 1).bind fun xr13 => (some xr13)) (cond (o.kind == 2) ((impl_isNum n o.n_).bind fun xr14 => (some xr14)) (cond (o.kind == 3) ((impl_textOk n o.s).bind fun xr15 => (some xr15)) (cond (o.kind == 5) (cond ((o.names.length : Int) == (o.list.length : Int)) ((impl_namesOk n o.names).bind fun xr16 => (some xr16)) (some false)) (cond (o.kind == 0) (some true) (some (o.kind == 4))))))))) (cond (!(o.s == [])) (cond (o.kind != 3) (some false) (cond (o.kind == 1) ((impl_within n o.n_ 0 1).bind fun xr17 => (some xr17)) (cond (o.kind == 2) ((impl_isNum n o.n_).bind fun xr18 => (some xr18)) (cond (o.kind == 3) ((impl_textOk n o.s).bind fun xr19 => (some xr19)) (cond (o.kind == 5) (cond ((o.names.length : Int) == (o.list.length : Int)) ((impl_namesOk n o.names).bind fun xr20 => (some xr20)) (some false)) (cond (o.kind == 0) (some true) (some (o.kind == 4)))))))) (cond (o.kind == 1) ((impl_within n o.n_ 0 1).bind fun xr21 => (some xr21)) (cond (o.kind == 2) ((impl_isNum n o.n_).bind fun xr22 => (some xr22)) (cond (o.kind == 3) ((impl_textOk n o.s).bind fun xr23 => (some xr23)) (cond (o.kind == 5) (cond ((o.names.length : Int) == (o.list.length : Int)) ((impl_namesOk n o.names).bind fun xr24 => (some xr24)) (some false)) (cond (o.kind == 0) (some true) (some (o.kind == 4)))))))))) (cond (o.n_ != 0) (cond (o.kind != 1) (cond (o.kind != 2) (some false) (cond (!(o.s == [])) (cond (o.kind != 3) (some false) (cond (o.kind == 1) ((impl_within n o.n_ 0 1).bind fun xr25 => (some xr25)) (cond (o.kind == 2) ((impl_isNum n o.n_).bind fun xr26 => (some xr26)) (cond (o.kind == 3) ((impl_textOk n o.s).bind fun xr27 => (some xr27)) (cond (o.kind == 5) (cond ((o.names.length : Int) == (o.list.length : Int)) ((impl_namesOk n o.names).bind fun xr28 => (some xr28)) (some false)) (cond (o.kind == 0) (some true) (some (o.kind == 4)))))))) (cond (o.kind == 1) ((impl_within n o.n_ 0 1).bind fun xr29 => (some xr29)) (cond (o.kind == 2) ((impl_isNum n o.n_).bind fun xr30 => (some xr30)) (cond (o.kind == 3) ((impl_textOk n o.s).bind fun xr31 => (some xr31)) (cond (o.kind == 5) (cond ((o.names.length : Int) == (o.list.length : Int)) ((impl_namesOk n o.names).bind fun xr32 => (some xr32)) (some false)) (cond (o.kind == 0) (some true) (some (o.kind == 4))))))))) (cond (!(o.s == [])) (cond (o.kind != 3) (some false) (cond (o.kind == 1) ((impl_within n o.n_ 0 1).bind fun xr33 => (some xr33)) (cond (o.kind == 2) ((impl_isNum n o.n_).bind fun xr34 => (some xr34)) (cond (o.kind == 3) ((impl_textOk n o.s).bind fun xr35 => (some xr35)) (cond (o.kind == 5) (cond ((o.names.length : Int) == (o.list.length : Int)) ((impl_namesOk n o.names).bind fun xr36 => (some xr36)) (some false)) (cond (o.kind == 0) (some true) (some (o.kind == 4)))))))) (cond (o.kind == 1) ((impl_within n o.n_ 0 1).bind fun xr37 => (some xr37)) (cond (o.kind == 2) ((impl_isNum n o.n_).bind fun xr38 => (some xr38)) (cond (o.kind == 3) ((impl_textOk n o.s).bind fun xr39 => (some xr39)) (cond (o.kind == 5) (cond ((o.names.length : Int) == (o.list.length : Int)) ((impl_namesOk n o.names).bind fun xr40 => (some xr40)) (some false)) (cond (o.kind == 0) (some true) (some (o.kind == 4))))))))) (cond (!(o.s == [])) (cond (o.kind != 3) (some false) (cond (o.kind == 1) ((impl_within n o.n_ 0 1).bind fun xr41 => (some xr41)) (cond (o.kind == 2) ((impl_isNum n o.n_).bind fun xr42 => (some xr42)) (cond (o.kind == 3) ((impl_textOk n o.s).bind fun xr43 => (some xr43)) (cond (o.kind == 5) (cond ((o.names.length : Int) == (o.list.length : Int)) ((impl_namesOk n o.names).bind fun xr44 => (some xr44)) (some false)) (cond (o.kind == 0) (some true) (some (o.kind == 4)))))))) (cond (o.kind == 1) ((impl_within n o.n_ 0 1).bind fun xr45 => (some xr45)) (cond (o.kind == 2) ((impl_isNum n o.n_).bind fun xr46 => (some xr46)) (cond (o.kind == 3) ((impl_textOk n o.s).bind fun xr47 => (some xr47)) (cond (o.kind == 5) (cond ((o.names.length : Int) == (o.list.length : Int)) ((impl_namesOk n o.names).bind fun xr48 => (some xr48)) (some false)) (cond (o.kind == 0) (some true) (some (o.kind == 4))))))))))) (cond (decide ((o.names.length : Int) > 0)) (cond (o.kind != 5) (some false) (cond (o.n_ != 0) (cond (o.kind != 1) (cond (o.kind != 2) (some false) (cond (!(o.s == [])) (cond (o.kind != 3) (some false) (cond (o.kind == 1) ((impl_within n o.n_ 0 1).bind fun xr49 => (some xr49)) (cond (o.kind == 2) ((impl_isNum n o.n_).bind fun xr50 => (some xr50)) (cond (o.kind == 3) ((impl_textOk n o.s).bind fun xr51 => (some xr51)) (cond (o.kind == 5) (cond ((o.names.length : Int) == (o.list.length : Int)) ((impl_namesOk n o.names).bind fun xr52 => (some xr52)) (some false)) (cond (o.kind == 0) (some true) (some (o.kind == 4)))))))) (cond (o.kind == 1) ((impl_within n o.n_ 0 1).bind fun xr53 => (some xr53)) (cond (o.kind == 2) ((impl_isNum n o.n_).bind fun xr54 => (some xr54)) (cond (o.kind == 3) ((impl_textOk n o.s).bind fun xr55 => (some xr55)) (cond (o.kind == 5) (cond ((o.names.length : Int) == (o.list.length : Int)) ((impl_namesOk n o.names).bind fun xr56 => (some xr56)) (some false)) (cond (o.kind == 0) (some true) (some (o.kind == 4))))))))) (cond (!(o.s == [])) (cond (o.kind != 3) (some false) (cond (o.kind == 1) ((impl_within n o.n_ 0 1).bind fun xr57 => (some xr57)) (cond (o.kind == 2) ((impl_isNum n o.n_).bind fun xr58 => (some xr58)) (cond (o.kind == 3) ((impl_textOk n o.s).bind fun xr59 => (some xr59)) (cond (o.kind == 5) (cond ((o.names.length : Int) == (o.list.length : Int)) ((impl_namesOk n o.names).bind fun xr60 => (some xr60)) (some false)) (cond (o.kind == 0) (some true) (some (o.kind == 4)))))))) (cond (o.kind == 1) ((impl_within n o.n_ 0 1).bind fun xr61 => (some xr61)) (cond (o.kind == 2) ((impl_isNum n o.n_).bind fun xr62 => (some xr62)) (cond (o.kind == 3) ((impl_textOk n o.s).bind fun xr63 => (some xr63)) (cond (o.kind == 5) (cond ((o.names.length : Int) == (o.list.length : Int)) ((impl_namesOk n o.names).bind fun xr64 => (some xr64)) (some false)) (cond (o.kind == 0) (some true) (some (o.kind == 4))))))))) (cond (!(o.s == [])) (cond (o.kind != 3) (some false) (cond (o.kind == 1) ((impl_within n o.n_ 0 1).bind fun xr65 => (some xr65)) (cond (o.kind == 2) ((impl_isNum n o.n_).bind fun xr66 => (some xr66)) (cond (o.kind == 3) ((impl_textOk n o.s).bind fun xr67 => (some xr67)) (cond (o.kind == 5) (cond ((o.names.length : Int) == (o.list.length : Int)) ((impl_namesOk n o.names).bind fun xr68 => (some xr68)) (some false)) (cond (o.kind == 0) (some true) (some (o.kind == 4)))))))) (cond (o.kind == 1) ((impl_within n o.n_ 0 1).bind fun xr69 => (some xr69)) (cond (o.kind == 2) ((impl_isNum n o.n_).bind fun xr70 => (some xr70)) (cond (o.kind == 3) ((impl_textOk n o.s).bind fun xr71 => (some xr71)) (cond (o.kind == 5) (cond ((o.names.length : Int) == (o.list.length : Int)) ((impl_namesOk n o.names).bind fun xr72 => (some xr72)) (some false)) (cond (o.kind == 0) (some true) (some (o.kind == 4)))))))))) (cond (o.n_ != 0) (cond (o.kind != 1) (cond (o.kind != 2) (some false) (cond (!(o.s == [])) (cond (o.kind != 3) (some false) (cond (o.kind == 1) ((impl_within n o.n_ 0 1).bind fun xr73 => (some xr73)) (cond (o.kind == 2) ((impl_isNum n o.n_).bind fun xr74 => (some xr74)) (cond (o.kind == 3) ((impl_textOk n o.s).bind fun xr75 => (some xr75)) (cond (o.kind == 5) (cond ((o.names.length : Int) == (o.list.length : Int)) ((impl_namesOk n o.names).bind fun xr76 => (some xr76)) (some false)) (cond (o.kind == 0) (some true) (some (o.kind == 4)))))))) (cond (o.kind == 1) ((impl_within n o.n_ 0 1).bind fun xr77 => (some xr77)) (cond (o.kind == 2) ((impl_isNum n o.n_).bind fun xr78 => (some xr78)) (cond (o.kind == 3) ((impl_textOk n o.s).bind fun xr79 => (some xr79)) (cond (o.kind == 5) (cond ((o.names.length : Int) == (o.list.length : Int)) ((impl_namesOk n o.names).bind fun xr80 => (some xr80)) (some false)) (cond (o.kind == 0) (some true) (some (o.kind == 4))))))))) (cond (!(o.s == [])) (cond (o.kind != 3) (some false) (cond (o.kind == 1) ((impl_within n o.n_ 0 1).bind fun xr81 => (some xr81)) (cond (o.kind == 2) ((impl_isNum n o.n_).bind fun xr82 => (some xr82)) (cond (o.kind == 3) ((impl_textOk n o.s).bind fun xr83 => (some xr83)) (cond (o.kind == 5) (cond ((o.names.length : Int) == (o.list.length : Int)) ((impl_namesOk n o.names).bind fun xr84 => (some xr84)) (some false)) (cond (o.kind == 0) (some true) (some (o.kind == 4)))))))) (cond (o.kind == 1) ((impl_within n o.n_ 0 1).bind fun xr85 => (some xr85)) (cond (o.kind == 2) ((impl_isNum n o.n_).bind fun xr86 => (some xr86)) (cond (o.kind == 3) ((impl_textOk n o.s).bind fun xr87 => (some xr87)) (cond (o.kind == 5) (cond ((o.names.length : Int) == (o.list.length : Int)) ((impl_namesOk n o.names).bind fun xr88 => (some xr88)) (some false)) (cond (o.kind == 0) (some true) (some (o.kind == 4))))))))) (cond (!(o.s == [])) (cond (o.kind != 3) (some false) (cond (o.kind == 1) ((impl_within n o.n_ 0 1).bind fun xr89 => (some xr89)) (cond (o.kind == 2) ((impl_isNum n o.n_).bind fun xr90 => (some xr90)) (cond (o.kind == 3) ((impl_textOk n o.s).bind fun xr91 => (some xr91)) (cond (o.kind == 5) (cond ((o.names.length : Int) == (o.list.length : Int)) ((impl_namesOk n o.names).bind fun xr92 => (some xr92)) (some false)) (cond (o.kind == 0) (some true) (some (o.kind == 4)))))))) (cond (o.kind == 1) ((impl_within n o.n_ 0 1).bind fun xr93 => (some xr93)) (cond (o.kind == 2) ((impl_isNum n o.n_).bind fun xr94 => (some xr94)) (cond (o.kind == 3) ((impl_textOk n o.s).bind fun xr95 => (some xr95)) (cond (o.kind == 5) (cond ((o.names.length : Int) == (o.list.length : Int)) ((impl_namesOk n o.names).bind fun xr96 => (some xr96)) (some false)) (cond (o.kind == 0) (some true) (some (o.kind == 4))))))))))) (cond (decide ((o.names.length : Int) > 0)) (cond (o.kind != 5) (some false) (cond (o.n_ != 0) (cond (o.kind != 1) (cond (o.kind != 2) (some false) (cond (!(o.s == [])) (cond (o.kind != 3) (some false) (cond (o.kind == 1) ((impl_within n o.n_ 0 1).bind fun xr97 => (some xr97)) (cond (o.kind == 2) ((impl_isNum n o.n_).bind fun xr98 => (some xr98)) (cond (o.kind == 3) ((impl_textOk n o.s).bind fun xr99 => (some xr99)) (cond (o.kind == 5) (cond ((o.names.length : Int) == (o.list.length : Int)) ((impl_namesOk n o.names).bind fun xr100 => (some xr100)) (some false)) (cond (o.kind == 0) (some true) (some (o.kind == 4)))))))) (cond (o.kind == 1) ((impl_within n o.n_ 0 1).bind fun xr101 => (some xr101)) (cond (o.kind == 2) ((impl_isNum n o.n_).bind fun xr102 => (some xr102)) (cond (o.kind == 3) ((impl_textOk n o.s).bind fun xr103 => (some xr103)) (cond (o.kind == 5) (cond ((o.names.length : Int) == (o.list.length : Int)) ((impl_namesOk n o.names).bind fun xr104 => (some xr104)) (some false)) (cond (o.kind == 0) (some true) (some (o.kind == 4))))))))) (cond (!(o.s == [])) (cond (o.kind != 3) (some false) (cond (o.kind == 1) ((impl_within n o.n_ 0 1).bind fun xr105 => (some xr105)) (cond (o.kind == 2) ((impl_isNum n o.n_).bind fun xr106 => (some xr106)) (cond (o.kind == 3) ((impl_textOk n o.s).bind fun xr107 => (some xr107)) (cond (o.kind == 5) (cond ((o.names.length : Int) == (o.list.length : Int)) ((impl_namesOk n o.names).bind fun xr108 => (some xr108)) (some false)) (cond (o.kind == 0) (some true) (some (o.kind == 4)))))))) (cond (o.kind == 1) ((impl_within n o.n_ 0 1).bind fun xr109 => (some xr109)) (cond (o.kind == 2) ((impl_isNum n o.n_).bind fun xr110 => (some xr110)) (cond (o.kind == 3) ((impl_textOk n o.s).bind fun xr111 => (some xr111)) (cond (o.kind == 5) (cond ((o.names.length : Int) == (o.list.length : Int)) ((impl_namesOk n o.names).bind fun xr112 => (some xr112)) (some false)) (cond (o.kind == 0) (some true) (some (o.kind == 4))))))))) (cond (!(o.s == [])) (cond (o.kind != 3) (some false) (cond (o.kind == 1) ((impl_within n o.n_ 0 1).bind fun xr113 => (some xr113)) (cond (o.kind == 2) ((impl_isNum n o.n_).bind fun xr114 => (some xr114)) (cond (o.kind == 3) ((impl_textOk n o.s).bind fun xr115 => (some xr115)) (cond (o.kind == 5) (cond ((o.names.length : Int) == (o.list.length : Int)) ((impl_namesOk n o.names).bind fun xr116 => (some xr116)) (some false)) (cond (o.kind == 0) (some true) (some (o.kind == 4)))))))) (cond (o.kind == 1) ((impl_within n o.n_ 0 1).bind fun xr117 => (some xr117)) (cond (o.kind == 2) ((impl_isNum n o.n_).bind fun xr118 => (some xr118)) (cond (o.kind == 3) ((impl_textOk n o.s).bind fun xr119 => (some xr119)) (cond (o.kind == 5) (cond ((o.names.length : Int) == (o.list.length : Int)) ((impl_namesOk n o.names).bind fun xr120 => (some xr120)) (some false)) (cond (o.kind == 0) (some true) (some (o.kind == 4)))))))))) (cond (o.n_ != 0) (cond (o.kind != 1) (cond (o.kind != 2) (some false) (cond (!(o.s == [])) (cond (o.kind != 3) (some false) (cond (o.kind == 1) ((impl_within n o.n_ 0 1).bind fun xr121 => (some xr121)) (cond (o.kind == 2) ((impl_isNum n o.n_).bind fun xr122 => (some xr122)) (cond (o.kind == 3) ((impl_textOk n o.s).bind fun xr123 => (some xr123)) (cond (o.kind == 5) (cond ((o.names.length : Int) == (o.list.length : Int)) ((impl_namesOk n o.names).bind fun xr124 => (some xr124)) (some false)) (cond (o.kind == 0) (some true) (some (o.kind == 4)))))))) (cond (o.kind == 1) ((impl_within n o.n_ 0 1).bind fun xr125 => (some xr125)) (cond (o.kind == 2) ((impl_isNum n o.n_).bind fun xr126 => (some xr126)) (cond (o.kind == 3) ((impl_textOk n o.s).bind fun xr127 => (some xr127)) (cond (o.kind == 5) (cond ((o.names.length : Int) == (o.list.length : Int)) ((impl_namesOk n o.names).bind fun xr128 => (some xr128)) (some false)) (cond (o.kind == 0) (some true) (some (o.kind == 4))))))))) (cond (!(o.s == [])) (cond (o.kind != 3) (some false) (cond (o.kind == 1) ((impl_within n o.n_ 0 1).bind fun xr129 => (some xr129)) (cond (o.kind == 2) ((impl_isNum n o.n_).bind fun xr130 => (some xr130)) (cond (o.kind == 3) ((impl_textOk n o.s).bind fun xr131 => (some xr131)) (cond (o.kind == 5) (cond ((o.names.length : Int) == (o.list.length : Int)) ((impl_namesOk n o.names).bind fun xr132 => (some xr132)) (some false)) (cond (o.kind == 0) (some true) (some (o.kind == 4)))))))) (cond (o.kind == 1) ((impl_within n o.n_ 0 1).bind fun xr133 => (some xr133)) (cond (o.kind == 2) ((impl_isNum n o.n_).bind fun xr134 => (some xr134)) (cond (o.kind == 3) ((impl_textOk n o.s).bind fun xr135 => (some xr135)) (cond (o.kind == 5) (cond ((o.names.length : Int) == (o.list.length : Int)) ((impl_namesOk n o.names).bind fun xr136 => (some xr136)) (some false)) (cond (o.kind == 0) (some true) (some (o.kind == 4))))))))) (cond (!(o.s == [])) (cond (o.kind != 3) (some false) (cond (o.kind == 1) ((impl_within n o.n_ 0 1).bind fun xr137 => (some xr137)) (cond (o.kind == 2) ((impl_isNum n o.n_).bind fun xr138 => (some xr138)) (cond (o.kind == 3) ((impl_textOk n o.s).bind fun xr139 => (some xr139)) (cond (o.kind == 5) (cond ((o.names.length : Int) == (o.list.length : Int)) ((impl_namesOk n o.names).bind fun xr140 => (some xr140)) (some false)) (cond (o.kind == 0) (some true) (some (o.kind == 4)))))))) (cond (o.kind == 1) ((impl_within n o.n_ 0 1).bind fun xr141 => (some xr141)) (cond (o.kind == 2) ((impl_isNum n o.n_).bind fun xr142 => (some xr142)) (cond (o.kind == 3) ((impl_textOk n o.s).bind fun xr143 => (some xr143)) (cond (o.kind == 5) (cond ((o.names.length : Int) == (o.list.length : Int)) ((impl_namesOk n o.names).bind fun xr144 => (some xr144)) (some false)) (cond (o.kind == 0) (some true) (some (o.kind == 4)))))))))))
def impl_sizeIn.step7 (n : Nat) (impl_sizeIn_ : TJson → Int → Option Int) (k0 : Int → Option Int) (back : Int → Int → (List TJson) → Int → Int → Option Int) (deep : Int) (n_1 : Int) (t16 : List TJson) (t17 : Int) (t18 : Int) : Option Int :=
  (cond (decide (t18 < t17)) (inB t18 t16.length ((impl_sizeIn_ (TJson.re (t16.getD t18.toNat TJson.dflt)) (W (deep - 1))).bind fun xr2 => (cond (decide ((W (n_1 + xr2)) > 400)) (some 401) (back deep (W (n_1 + xr2)) t16 t17 (W (t18 + 1)))))) (k0 n_1))
def impl_sizeIn.loop7 (n : Nat) (impl_sizeIn_ : TJson → Int → Option Int) (k0 : Int → Option Int) (N : Nat) : Int → Int → (List TJson) → Int → Int → Option Int :=
  iterN (fun _ _ _ _ _ => none) (fun back => impl_sizeIn.step7 n impl_sizeIn_ k0 back) N
def impl_sizeIn : Nat → TJson → Int → Option Int
  | 0, _, _ => none
  | n + 1, j, deep =>
    (cond (decide (deep < 1)) (some 401) ((impl_ownOk n (TJson.re j)).bind fun xr1 => (cond (!xr1) (some 401) (impl_sizeIn.loop7 n (impl_sizeIn n) (fun xy3 => (some xy3)) n deep 1 j.list (j.list.length : Int) 0))))
def impl_JsonOk : Nat → TJson → Option Bool
  | 0, _ => none
  | n + 1, j =>
    ((impl_sizeIn n (TJson.re j) 6).bind fun xr1 => (some (decide (xr1 ≤ 400))))
def impl_quoted.step4 (n : Nat) (k0 : (List Int) → Option Bs) (back : Bs → Int → Int → (List Int) → Option Bs) (s : Bs) (t7 : Int) (t8 : Int) (out_1 : List Int) : Option Bs :=
  (cond (decide (t8 < t7)) (inB t8 s.length (cond (((s.getD t8.toNat 0).toNat : Int) == 34) (roomB (out_1.length + ([92] : List Int).length) 1 (inB t8 s.length (roomB ((out_1 ++ ([92] : List Int)).length + ([((s.getD t8.toNat 0).toNat : Int)] : List Int).length) 1 (back s t7 (W (t8 + 1)) ((out_1 ++ ([92] : List Int)) ++ ([((s.getD t8.toNat 0).toNat : Int)] : List Int)))))) (inB t8 s.length (cond (((s.getD t8.toNat 0).toNat : Int) == 92) (roomB (out_1.length + ([92] : List Int).length) 1 (inB t8 s.length (roomB ((out_1 ++ ([92] : List Int)).length + ([((s.getD t8.toNat 0).toNat : Int)] : List Int).length) 1 (back s t7 (W (t8 + 1)) ((out_1 ++ ([92] : List Int)) ++ ([((s.getD t8.toNat 0).toNat : Int)] : List Int)))))) (inB t8 s.length (roomB (out_1.length + ([((s.getD t8.toNat 0).toNat : Int)] : List Int).length) 1 (back s t7 (W (t8 + 1)) (out_1 ++ ([((s.getD t8.toNat 0).toNat : Int)] : List Int))))))))) (k0 out_1))
def impl_quoted.loop4 (n : Nat) (k0 : (List Int) → Option Bs) (N : Nat) : Bs → Int → Int → (List Int) → Option Bs :=
  iterN (fun _ _ _ _ => none) (fun back => impl_quoted.step4 n k0 back) N
def impl_quoted : Nat → Bs → Option Bs
  | 0, _ => none
  | n + 1, s =>
    (impl_quoted.loop4 n (fun xy1 => (roomB (xy1.length + ([34] : List Int).length) 1 (some (toBs (xy1 ++ ([34] : List Int)))))) n s (s.length : Int) 0 ([34] : List Int))
def strconv_Itoa : Nat → Int → Option Bs
  | 0, _ => none
  | _ + 1, i => nItoa i
def strings_Join : Nat → List Bs → Bs → Option Bs
  | 0, _, _ => none
  | _ + 1, l, s => nJoin l s
def impl_written.step4 (n : Nat) (impl_written_ : TJson → Option Bs) (k0 : Int → Int → Bs → (List TJson) → (List Bs) → (List Bs) → Option Bs) (back : (List TJson) → Int → Int → Int → Int → Bs → (List TJson) → (List Bs) → (List Bs) → Option Bs) (t9 : List TJson) (t10 : Int) (t11 : Int) (append0 : Int) (append1 : Int) (append2 : Bs) (append3 : List TJson) (append4 : List Bs) (t3 : List Bs) : Option Bs :=
  (cond (decide (t11 < t10)) (inB t11 t9.length ((impl_written_ (TJson.re (t9.getD t11.toNat TJson.dflt))).bind fun xr1 => (cond (append0 == 5) (inB t11 append4.length ((impl_quoted n (append4.getD t11.toNat [])).bind fun xr2 => (cond (decide (xr2.length + [58].length ≤ 9223372036854775807)) (cond (decide ((xr2 ++ [58]).length + xr1.length ≤ 9223372036854775807)) (roomB (t3.length + ([((xr2 ++ [58]) ++ xr1)] : List Bs).length) 16 (back t9 t10 (W (t11 + 1)) append0 append1 append2 append3 append4 (t3 ++ ([((xr2 ++ [58]) ++ xr1)] : List Bs)))) none) none))) (roomB (t3.length + ([xr1] : List Bs).length) 16 (back t9 t10 (W (t11 + 1)) append0 append1 append2 append3 append4 (t3 ++ ([xr1] : List Bs))))))) (k0 append0 append1 append2 append3 append4 t3))
def impl_written.loop4 (n : Nat) (impl_written_ : TJson → Option Bs) (k0 : Int → Int → Bs → (List TJson) → (List Bs) → (List Bs) → Option Bs) (N : Nat) : (List TJson) → Int → Int → Int → Int → Bs → (List TJson) → (List Bs) → (List Bs) → Option Bs :=
  iterN (fun _ _ _ _ _ _ _ _ _ => none) (fun back => impl_written.step4 n impl_written_ k0 back) N
def impl_written : Nat → TJson → Option Bs
  | 0, _ => none
  | n + 1, o =>
    (impl_written.loop4 n (impl_written n) (fun xy3 xy4 xy5 xy6 xy7 xy8 => (cond (xy3 == 0) (some [110, 117, 108, 108]) (cond (xy3 == 1) (inB xy4 ([[102, 97, 108, 115, 101], [116, 114, 117, 101]] : List Bs).length (let xv9 : Bs := (([[102, 97, 108, 115, 101], [116, 114, 117, 101]] : List Bs).getD xy4.toNat []); (some xv9))) (cond (xy3 == 2) ((strconv_Itoa n xy4).bind fun xr10 => (some xr10)) (cond (xy3 == 3) ((impl_quoted n xy5).bind fun xr11 => (some xr11)) (cond (xy3 == 4) ((strings_Join n xy8 [44]).bind fun xr12 => (cond (decide ([91].length + xr12.length ≤ 9223372036854775807)) (cond (decide ((([91] : Bs) ++ xr12).length + [93].length ≤ 9223372036854775807)) (some ((([91] : Bs) ++ xr12) ++ [93])) none) none)) ((strings_Join n xy8 [44]).bind fun xr13 => (cond (decide ([123].length + xr13.length ≤ 9223372036854775807)) (cond (decide ((([123] : Bs) ++ xr13).length + [125].length ≤ 9223372036854775807)) (some ((([123] : Bs) ++ xr13) ++ [125])) none) none)))))))) n o.list (o.list.length : Int) 0 o.kind o.n_ o.s o.list o.names ([] : List Bs))
def impl_Encode : Nat → TJson → Option Bs
  | 0, _ => none
  | n + 1, j =>
    ((impl_JsonOk n (TJson.re j)).bind fun xr1 => (cond (!xr1) (some []) ((impl_written n (TJson.re j)).bind fun xr2 => (cond (decide ((xr2.length : Int) > 6000)) (some []) (some xr2)))))
def impl_isZero : Nat → TJson → Option Bool
  | 0, _ => none
  | n + 1, j =>
    (cond (j.kind == 0) (cond (j.n_ == 0) (cond (j.s == []) (cond ((j.list.length : Int) == 0) (some ((j.names.length : Int) == 0)) (some false)) (some false)) (some false)) (some false))
def impl_OpOk.step3 (n : Nat) (k0 : Int → (List Bs) → Int → Int → Bs → (List TJson) → (List Bs) → Option Bool) (back : (List Bs) → Int → Int → Int → (List Bs) → Int → Int → Bs → (List TJson) → (List Bs) → Option Bool) (t6 : List Bs) (t7 : Int) (t8 : Int) (o0 : Int) (o1 : List Bs) (o2 : Int) (o3 : Int) (o4 : Bs) (o5 : List TJson) (o6 : List Bs) : Option Bool :=
  (cond (decide (t8 < t7)) (inB t8 t6.length ((impl_textOk n (t6.getD t8.toNat [])).bind fun xr1 => (cond (!xr1) (some false) (back t6 t7 (W (t8 + 1)) o0 o1 o2 o3 o4 o5 o6)))) (k0 o0 o1 o2 o3 o4 o5 o6))
def impl_OpOk.loop3 (n : Nat) (k0 : Int → (List Bs) → Int → Int → Bs → (List TJson) → (List Bs) → Option Bool) (N : Nat) : (List Bs) → Int → Int → Int → (List Bs) → Int → Int → Bs → (List TJson) → (List Bs) → Option Bool :=
  iterN (fun _ _ _ _ _ _ _ _ _ _ => none) (fun back => impl_OpOk.step3 n k0 back) N
def impl_OpOk : Nat → TOp → Option Bool
  | 0, _ => none
  | n + 1, o =>
    (impl_OpOk.loop3 n (fun xy2 xy3 xy4 xy5 xy6 xy7 xy8 => ((impl_within n xy2 1 4).bind fun xr9 => (cond xr9 (cond (decide ((xy3.length : Int) ≤ 6)) ((impl_JsonOk n (TJson.mk xy4 xy5 xy6 xy7 xy8)).bind fun xr10 => (cond xr10 (cond (xy2 != 2) (some true) ((impl_isZero n (TJson.mk xy4 xy5 xy6 xy7 xy8)).bind fun xr11 => (some xr11))) (some false))) (some false)) (some false)))) n o.way (o.way.length : Int) 0 o.kind o.way o.value.kind o.value.n_ o.value.s o.value.list o.value.names)
def impl_opNames : Nat → Unit → Option (List Bs)
  | 0, _ => none
  | n + 1, _u =>
    (some ([[97, 100, 100], [114, 101, 109, 111, 118, 101], [114, 101, 112, 108, 97, 99, 101], [116, 101, 115, 116]] : List Bs))
def strings_ReplaceAll : Nat → Bs → Bs → Bs → Option Bs
  | 0, _, _, _ => none
  | _ + 1, s, a, b => nReplaceAll s a b
def impl_WayText.step4 (n : Nat) (k0 : Bs → Option Bs) (back : Bs → (List Bs) → Int → Int → Option Bs) (out_1 : Bs) (t6 : List Bs) (t7 : Int) (t8 : Int) : Option Bs :=
  (cond (decide (t8 < t7)) (inB t8 t6.length ((strings_ReplaceAll n (t6.getD t8.toNat []) [126] [126, 48]).bind fun xr1 => ((strings_ReplaceAll n xr1 [47] [126, 49]).bind fun xr2 => (cond (decide ([47].length + xr2.length ≤ 9223372036854775807)) (cond (decide (out_1.length + (([47] : Bs) ++ xr2).length ≤ 9223372036854775807)) (back (out_1 ++ (([47] : Bs) ++ xr2)) t6 t7 (W (t8 + 1))) none) none)))) (k0 out_1))
def impl_WayText.loop4 (n : Nat) (k0 : Bs → Option Bs) (N : Nat) : Bs → (List Bs) → Int → Int → Option Bs :=
  iterN (fun _ _ _ _ => none) (fun back => impl_WayText.step4 n k0 back) N
def impl_WayText : Nat → (List Bs) → Option Bs
  | 0, _ => none
  | n + 1, way =>
    (impl_WayText.loop4 n (fun xy3 => (some xy3)) n [] way (way.length : Int) 0)
def impl_copyTexts : Nat → (List Bs) → Option (List Bs)
  | 0, _ => none
  | n + 1, l =>
    (roomB (([] : List Bs).length + l.length) 16 (some (([] : List Bs) ++ l)))
def impl_copyJson.step4 (n : Nat) (impl_copyJson_ : TJson → Option TJson) (k0 : Int → Int → Bs → Int → Int → Bs → (List TJson) → (List Bs) → Option TJson) (back : (List TJson) → Int → Int → Int → Int → Bs → Int → Int → Bs → (List TJson) → (List Bs) → Option TJson) (t17 : List TJson) (t18 : Int) (t19 : Int) (t20 : Int) (t21 : Int) (t22 : Bs) (out0 : Int) (out1 : Int) (out2 : Bs) (out3 : List TJson) (out4 : List Bs) : Option TJson :=
  (cond (decide (t19 < t18)) (inB t19 t17.length ((impl_copyJson_ (TJson.re (t17.getD t19.toNat TJson.dflt))).bind fun xr2 => (roomB (out3.length + ([(TJson.re xr2)] : List TJson).length) 80 (back t17 t18 (W (t19 + 1)) t20 t21 t22 out0 out1 out2 (out3 ++ ([(TJson.re xr2)] : List TJson)) out4)))) (k0 t20 t21 t22 out0 out1 out2 out3 out4))
def impl_copyJson.loop4 (n : Nat) (impl_copyJson_ : TJson → Option TJson) (k0 : Int → Int → Bs → Int → Int → Bs → (List TJson) → (List Bs) → Option TJson) (N : Nat) : (List TJson) → Int → Int → Int → Int → Bs → Int → Int → Bs → (List TJson) → (List Bs) → Option TJson :=
  iterN (fun _ _ _ _ _ _ _ _ _ _ _ => none) (fun back => impl_copyJson.step4 n impl_copyJson_ k0 back) N
def impl_copyJson : Nat → TJson → Option TJson
  | 0, _ => none
  | n + 1, j =>
    ((impl_copyTexts n j.names).bind fun xr1 => (impl_copyJson.loop4 n (impl_copyJson n) (fun xy3 xy4 xy5 xy6 xy7 xy8 xy9 xy10 => (some (TJson.mk xy6 xy7 xy8 xy9 xy10))) n j.list (j.list.length : Int) 0 0 0 [] j.kind j.n_ j.s ([] : List TJson) xr1))
def impl_orNull : Nat → TJson → Option TJson
  | 0, _ => none
  | n + 1, j =>
    ((impl_JsonOk n (TJson.re j)).bind fun xr1 => (cond (!xr1) (some (TJson.mk 0 0 [] [] [])) (some (TJson.re j))))
def impl_OpJson : Nat → TOp → Option TJson
  | 0, _ => none
  | n + 1, o =>
    ((impl_OpOk n (TOp.mk o.kind o.way (TJson.re o.value))).bind fun xr1 => (cond (!xr1) (some (TJson.mk 0 0 [] [] [])) ((impl_opNames n ()).bind fun xr2 => (inB (W (o.kind - 1)) xr2.length ((impl_WayText n o.way).bind fun xr3 => (cond (o.kind != 2) (roomB (([[111, 112], [112, 97, 116, 104]] : List Bs).length + ([[118, 97, 108, 117, 101]] : List Bs).length) 16 ((impl_copyJson n (TJson.re o.value)).bind fun xr4 => (roomB (([(TJson.mk 3 0 (xr2.getD ((W (o.kind - 1)).toNat) []) [] []), (TJson.mk 3 0 xr3 [] [])] : List TJson).length + ([(TJson.re xr4)] : List TJson).length) 80 ((impl_orNull n (TJson.mk 5 0 [] (([(TJson.mk 3 0 (xr2.getD ((W (o.kind - 1)).toNat) []) [] []), (TJson.mk 3 0 xr3 [] [])] : List TJson) ++ ([(TJson.re xr4)] : List TJson)) (([[111, 112], [112, 97, 116, 104]] : List Bs) ++ ([[118, 97, 108, 117, 101]] : List Bs)))).bind fun xr5 => (some (TJson.re xr5)))))) ((impl_orNull n (TJson.mk 5 0 [] ([(TJson.mk 3 0 (xr2.getD ((W (o.kind - 1)).toNat) []) [] []), (TJson.mk 3 0 xr3 [] [])] : List TJson) ([[111, 112], [112, 97, 116, 104]] : List Bs))).bind fun xr6 => (some (TJson.re xr6)))))))))
def impl_opsJson.step4 (n : Nat) (k0 : Int → Int → Bs → Int → Int → Bs → (List TJson) → Option (TJson × Bool)) (back : (List TOp) → Int → Int → Int → Int → Bs → Int → Int → Bs → (List TJson) → Option (TJson × Bool)) (t9 : List TOp) (t10 : Int) (t11 : Int) (t20 : Int) (t21 : Int) (t22 : Bs) (j0 : Int) (j1 : Int) (j2 : Bs) (j3 : List TJson) : Option (TJson × Bool) :=
  (cond (decide (t11 < t10)) (inB t11 t9.length ((impl_OpJson n { (t9.getD t11.toNat TOp.dflt) with value := (TJson.re ((t9.getD t11.toNat TOp.dflt).value)) }).bind fun xr1 => (cond (xr1.kind == 0) (some ((TJson.mk 0 0 [] ([] : List TJson) ([] : List Bs)), false)) (roomB (j3.length + ([(TJson.re xr1)] : List TJson).length) 80 (back t9 t10 (W (t11 + 1)) t20 t21 t22 j0 j1 j2 (j3 ++ ([(TJson.re xr1)] : List TJson))))))) (k0 t20 t21 t22 j0 j1 j2 j3))
def impl_opsJson.loop4 (n : Nat) (k0 : Int → Int → Bs → Int → Int → Bs → (List TJson) → Option (TJson × Bool)) (N : Nat) : (List TOp) → Int → Int → Int → Int → Bs → Int → Int → Bs → (List TJson) → Option (TJson × Bool) :=
  iterN (fun _ _ _ _ _ _ _ _ _ _ => none) (fun back => impl_opsJson.step4 n k0 back) N
def impl_opsJson : Nat → (List TOp) → Option (TJson × Bool)
  | 0, _ => none
  | n + 1, list =>
    (impl_opsJson.loop4 n (fun xy2 xy3 xy4 xy5 xy6 xy7 xy8 => (some ((TJson.mk xy5 xy6 xy7 xy8 ([] : List Bs)), true))) n list (list.length : Int) 0 0 0 [] 4 0 [] ([] : List TJson))
def impl_PatchSize : Nat → (List TOp) → Option Int
  | 0, _ => none
  | n + 1, list =>
    ((impl_opsJson n list).bind fun xr1 => ((impl_Encode n (TJson.re xr1.1)).bind fun xr2 => (cond (!xr1.2) (some (-1)) (cond (xr2 == []) (some (-1)) (some (xr2.length : Int))))))
def impl_EventOk : Nat → TEvent → Option Bool
  | 0, _ => none
  | n + 1, e =>
    (cond (e.kind == 1) ((impl_isVersion n e.version).bind fun xr1 => (cond xr1 (cond (e.base == 0) ((impl_Encode n (TJson.re e.doc)).bind fun xr2 => (cond (!(xr2 == [])) (some ((e.ops.length : Int) == 0)) (some false))) (some false)) (some false))) (cond (e.kind == 2) ((impl_isVersion n e.version).bind fun xr3 => (cond xr3 ((impl_within n e.base 0 (W (e.version - 1))).bind fun xr4 => (cond xr4 ((impl_isZero n (TJson.re e.doc)).bind fun xr5 => (cond xr5 (cond (decide ((e.ops.length : Int) ≤ 40)) ((impl_PatchSize n e.ops).bind fun xr6 => (some (decide (xr6 ≥ 0)))) (some false)) (some false))) (some false))) (some false))) (some false)))
def impl_digits : Nat → Int → Option Bs
  | 0, _ => none
  | n + 1, n1 =>
    ((strconv_Itoa n n1).bind fun xr1 => (some xr1))
def impl_EventText : Nat → TEvent → Option Bs
  | 0, _ => none
  | n + 1, e =>
    ((impl_EventOk n { e with doc := (TJson.re e.doc) }).bind fun xr1 => (cond (!xr1) (some []) ((impl_digits n e.version).bind fun xr2 => (cond (decide ([105, 100, 58, 32].length + xr2.length ≤ 9223372036854775807)) (cond (decide ((([105, 100, 58, 32] : Bs) ++ xr2).length + [10].length ≤ 9223372036854775807)) (cond (e.kind == 1) (cond (decide ([101, 118, 101, 110, 116, 58, 32, 115, 110, 97, 112, 10].length + ((([105, 100, 58, 32] : Bs) ++ xr2) ++ [10]).length ≤ 9223372036854775807)) (let xv3 : Bs := (([101, 118, 101, 110, 116, 58, 32, 115, 110, 97, 112, 10] : Bs) ++ ((([105, 100, 58, 32] : Bs) ++ xr2) ++ [10])); (cond (decide (xv3.length + [100, 97, 116, 97, 58, 32].length ≤ 9223372036854775807)) ((impl_Encode n (TJson.re e.doc)).bind fun xr4 => (cond (decide ((xv3 ++ [100, 97, 116, 97, 58, 32]).length + xr4.length ≤ 9223372036854775807)) (cond (decide (((xv3 ++ [100, 97, 116, 97, 58, 32]) ++ xr4).length + [10, 10].length ≤ 9223372036854775807)) (some (((xv3 ++ [100, 97, 116, 97, 58, 32]) ++ xr4) ++ [10, 10])) none) none)) none)) none) ((impl_opsJson n e.ops).bind fun xr5 => (cond (decide ([101, 118, 101, 110, 116, 58, 32, 112, 97, 116, 99, 104, 10].length + ((([105, 100, 58, 32] : Bs) ++ xr2) ++ [10]).length ≤ 9223372036854775807)) (let xv6 : Bs := (([101, 118, 101, 110, 116, 58, 32, 112, 97, 116, 99, 104, 10] : Bs) ++ ((([105, 100, 58, 32] : Bs) ++ xr2) ++ [10])); (cond (decide (xv6.length + [98, 97, 115, 101, 58, 32].length ≤ 9223372036854775807)) ((impl_digits n e.base).bind fun xr7 => (cond (decide ((xv6 ++ [98, 97, 115, 101, 58, 32]).length + xr7.length ≤ 9223372036854775807)) (cond (decide (((xv6 ++ [98, 97, 115, 101, 58, 32]) ++ xr7).length + [10, 100, 97, 116, 97, 58, 32].length ≤ 9223372036854775807)) (let xv8 : Bs := (((xv6 ++ [98, 97, 115, 101, 58, 32]) ++ xr7) ++ [10, 100, 97, 116, 97, 58, 32]); ((impl_Encode n (TJson.re xr5.1)).bind fun xr9 => (cond (decide (xv8.length + xr9.length ≤ 9223372036854775807)) (cond (decide ((xv8 ++ xr9).length + [10, 10].length ≤ 9223372036854775807)) (some ((xv8 ++ xr9) ++ [10, 10])) none) none))) none) none)) none)) none))) none) none))))
def laws_eqStringS.step6 (n : Nat) (k0 : Option Bool) (back : (List Bs) → (List Bs) → Int → Option Bool) (a : List Bs) (b : List Bs) (i : Int) : Option Bool :=
  (cond (decide (i < (a.length : Int))) (inB i a.length (inB i b.length (cond (!((a.getD i.toNat []) == (b.getD i.toNat []))) (some false) (back a b (W (i + 1)))))) k0)
def laws_eqStringS.loop6 (n : Nat) (k0 : Option Bool) (N : Nat) : (List Bs) → (List Bs) → Int → Option Bool :=
  iterN (fun _ _ _ => none) (fun back => laws_eqStringS.step6 n k0 back) N
def laws_eqStringS : Nat → (List Bs) → (List Bs) → Option Bool
  | 0, _, _ => none
  | n + 1, a, b =>
    (cond ((a.length : Int) != (b.length : Int)) (some false) (laws_eqStringS.loop6 n (some true) n a b 0))
def laws_eqJsonS.step6 (n : Nat) (laws_eqJson_ : TJson → TJson → Option Bool) (k0 : Option Bool) (back : (List TJson) → (List TJson) → Int → Option Bool) (a : List TJson) (b : List TJson) (i : Int) : Option Bool :=
  (cond (decide (i < (a.length : Int))) (inB i a.length (inB i b.length ((laws_eqJson_ (TJson.re (a.getD i.toNat TJson.dflt)) (TJson.re (b.getD i.toNat TJson.dflt))).bind fun xr1 => (cond (!xr1) (some false) (back a b (W (i + 1))))))) k0)
def laws_eqJsonS.loop6 (n : Nat) (laws_eqJson_ : TJson → TJson → Option Bool) (k0 : Option Bool) (N : Nat) : (List TJson) → (List TJson) → Int → Option Bool :=
  iterN (fun _ _ _ => none) (fun back => laws_eqJsonS.step6 n laws_eqJson_ k0 back) N
mutual
def laws_eqJson : Nat → TJson → TJson → Option Bool
  | 0, _, _ => none
  | n + 1, a, b =>
    (cond (a.kind != b.kind) (some false) (cond (a.n_ != b.n_) (some false) (cond (!(a.s == b.s)) (some false) ((laws_eqJsonS n a.list b.list).bind fun xr1 => (cond (!xr1) (some false) ((laws_eqStringS n a.names b.names).bind fun xr2 => (cond (!xr2) (some false) (some true))))))))
def laws_eqJsonS : Nat → (List TJson) → (List TJson) → Option Bool
  | 0, _, _ => none
  | n + 1, a, b =>
    (cond ((a.length : Int) != (b.length : Int)) (some false) (laws_eqJsonS.loop6 n (laws_eqJson n) (some true) n a b 0))
end
def laws_eqOp : Nat → TOp → TOp → Option Bool
  | 0, _, _ => none
  | n + 1, a, b =>
    (cond (a.kind != b.kind) (some false) ((laws_eqStringS n a.way b.way).bind fun xr1 => (cond (!xr1) (some false) ((laws_eqJson n (TJson.re a.value) (TJson.re b.value)).bind fun xr2 => (cond (!xr2) (some false) (some true))))))
def laws_eqOpS.step6 (n : Nat) (k0 : Option Bool) (back : (List TOp) → (List TOp) → Int → Option Bool) (a : List TOp) (b : List TOp) (i : Int) : Option Bool :=
  (cond (decide (i < (a.length : Int))) (inB i a.length (inB i b.length ((laws_eqOp n { (a.getD i.toNat TOp.dflt) with value := (TJson.re ((a.getD i.toNat TOp.dflt).value)) } { (b.getD i.toNat TOp.dflt) with value := (TJson.re ((b.getD i.toNat TOp.dflt).value)) }).bind fun xr1 => (cond (!xr1) (some false) (back a b (W (i + 1))))))) k0)
def laws_eqOpS.loop6 (n : Nat) (k0 : Option Bool) (N : Nat) : (List TOp) → (List TOp) → Int → Option Bool :=
  iterN (fun _ _ _ => none) (fun back => laws_eqOpS.step6 n k0 back) N
def laws_eqOpS : Nat → (List TOp) → (List TOp) → Option Bool
  | 0, _, _ => none
  | n + 1, a, b =>
    (cond ((a.length : Int) != (b.length : Int)) (some false) (laws_eqOpS.loop6 n (some true) n a b 0))
def laws_eqEvent : Nat → TEvent → TEvent → Option Bool
  | 0, _, _ => none
  | n + 1, a, b =>
    (cond (a.kind != b.kind) (some false) (cond (a.version != b.version) (some false) (cond (a.base != b.base) (some false) ((laws_eqJson n (TJson.re a.doc) (TJson.re b.doc)).bind fun xr1 => (cond (!xr1) (some false) ((laws_eqOpS n a.ops b.ops).bind fun xr2 => (cond (!xr2) (some false) (some true))))))))
def laws_FnExactEventText : Nat → TEvent → Option Bool
  | 0, _ => none
  | n + 1, aE =>
    ((laws_szEvent n { aE with doc := (TJson.re aE.doc) } 1048576).bind fun xr1 => (cond (decide (xr1 < 0)) (some true) ((laws_toEvent n { aE with doc := (TJson.re aE.doc) }).bind fun xr2 => ((spec_EventText n { xr2 with doc := (TJson.re xr2.doc) }).bind fun xr3 => ((laws_toEvent n { aE with doc := (TJson.re aE.doc) }).bind fun xr4 => ((impl_EventText n { xr4 with doc := (TJson.re xr4.doc) }).bind fun xr5 => (cond (!(xr5 == xr3)) (some false) ((laws_toEvent n { aE with doc := (TJson.re aE.doc) }).bind fun xr6 => ((laws_eqEvent n { xr4 with doc := (TJson.re xr4.doc) } { xr6 with doc := (TJson.re xr6.doc) }).bind fun xr7 => (cond (!xr7) (some false) (some true)))))))))))
end Go.Pi
end
section
set_option linter.unusedVariables false
set_option maxRecDepth 100000
namespace Go.Pi
def TJson.p (m : M) : List Pat := [.i .i64, .i .i64, .s, .sl m .lJson, .sl m .str]
def TJson.q1 (m : M) : List Pat := [.i .i64, .i .i64, .s, .sl m .iJson, .sl m .str]
abbrev TJson.c : Type := Int × Int × Bs × (List TJson) × (List Bs) × Unit
def TJson.of : TJson.c → TJson := fun (x0, x1, x2, x3, x4, _) => ⟨x0, x1, x2, x3, x4⟩
def TJson.to (s : TJson) : TJson.c := (s.kind, s.n_, s.s, s.list, s.names, ())
def TOp.p (m : M) : List Pat := [.i .i64, .sl m .str, .i .i64, .i .i64, .s, .sl m .lJson, .sl m .str]
def TOp.q1 (m : M) : List Pat := [.i .i64, .sl m .str, .i .i64, .i .i64, .s, .sl m .iJson, .sl m .str]
abbrev TOp.c : Type := Int × (List Bs) × Int × Int × Bs × (List TJson) × (List Bs) × Unit
def TOp.of : TOp.c → TOp := fun (x0, x1, x2, x3, x4, x5, x6, _) => ⟨x0, x1, ⟨x2, x3, x4, x5, x6⟩⟩
def TOp.to (s : TOp) : TOp.c := (s.kind, s.way, s.value.kind, s.value.n_, s.value.s, s.value.list, s.value.names, ())
def TEvent.p (m : M) : List Pat := [.i .i64, .i .i64, .i .i64, .i .i64, .i .i64, .s, .sl m .lJson, .sl m .str, .sl m .lOp]
def TEvent.q1 (m : M) : List Pat := [.i .i64, .i .i64, .i .i64, .i .i64, .i .i64, .s, .sl m .iJson, .sl m .str, .sl m .iOp]
abbrev TEvent.c : Type := Int × Int × Int × Int × Int × Bs × (List TJson) × (List Bs) × (List TOp) × Unit
def TEvent.of : TEvent.c → TEvent := fun (x0, x1, x2, x3, x4, x5, x6, x7, x8, _) => ⟨x0, x1, x2, ⟨x3, x4, x5, x6, x7⟩, x8⟩
def TEvent.to (s : TEvent) : TEvent.c := (s.kind, s.version, s.base, s.doc.kind, s.doc.n_, s.doc.s, s.doc.list, s.doc.names, s.ops, ())

def laws_szJsonS.p7 : OD := ⟨[(0, .view .lJson), (1, .k), (5, .k)], [.sl .v .lJson, .i .i64, .i .i64], [.ext]⟩
def laws_szJsonS.o0 : OD := ⟨[(1, .k)], [.i .i64], [.ext]⟩
def laws_szJsonS.d : FD Int := ⟨30, 27, 1, [.sl .v .lJson, .i .i64], [.i .i64], fun (a0, _) => a0, fun r => (r, ()), [.v, .v], [.v], [.k], [.tmp 4], [], [(7, laws_szJsonS.p7)], [], [(0, laws_szJsonS.o0)]⟩
def laws_szJsonS.F (n : Nat) : Pat.Ts laws_szJsonS.d.ps → Option Int := fun (a0, a1, _) => laws_szJsonS n a0 a1

def laws_szStringS.p7 : OD := ⟨[(0, .view .str), (1, .k), (5, .k)], [.sl .v .str, .i .i64, .i .i64], [.ext]⟩
def laws_szStringS.o0 : OD := ⟨[(1, .k)], [.i .i64], [.ext]⟩
def laws_szStringS.d : FD Int := ⟨31, 28, 1, [.sl .v .str, .i .i64], [.i .i64], fun (a0, _) => a0, fun r => (r, ()), [.v, .v], [.v], [.k], [.tmp 4], [], [(7, laws_szStringS.p7)], [], [(0, laws_szStringS.o0)]⟩
def laws_szStringS.F (n : Nat) : Pat.Ts laws_szStringS.d.ps → Option Int := fun (a0, a1, _) => laws_szStringS n a0 a1

def laws_szJson.d : FD Int := ⟨12, 25, 1, [.ag (TJson.p .v), .i .i64], [.i .i64], fun (a0, _) => a0, fun r => (r, ()), [.ag [.v, .v, .v, .v, .v], .v], [.v], [.k], [.tmp 4], [], [], [], []⟩
def laws_szJson.F (n : Nat) : Pat.Ts laws_szJson.d.ps → Option Int := fun (a0, a1, _) => laws_szJson n (TJson.of a0) a1

def laws_szOp.d : FD Int := ⟨32, 18, 1, [.ag (TOp.p .v), .i .i64], [.i .i64], fun (a0, _) => a0, fun r => (r, ()), [.ag [.v, .v, .v, .v, .v, .v, .v], .v], [.v], [.k], [.tmp 4], [], [], [], []⟩
def laws_szOp.F (n : Nat) : Pat.Ts laws_szOp.d.ps → Option Int := fun (a0, a1, _) => laws_szOp n (TOp.of a0) a1

def laws_szOpS.p7 : OD := ⟨[(0, .view .lOp), (1, .k), (5, .k)], [.sl .v .lOp, .i .i64, .i .i64], [.ext]⟩
def laws_szOpS.o0 : OD := ⟨[(1, .k)], [.i .i64], [.ext]⟩
def laws_szOpS.d : FD Int := ⟨13, 27, 1, [.sl .v .lOp, .i .i64], [.i .i64], fun (a0, _) => a0, fun r => (r, ()), [.v, .v], [.v], [.k], [.tmp 4], [], [(7, laws_szOpS.p7)], [], [(0, laws_szOpS.o0)]⟩
def laws_szOpS.F (n : Nat) : Pat.Ts laws_szOpS.d.ps → Option Int := fun (a0, a1, _) => laws_szOpS n a0 a1

def laws_szEvent.d : FD Int := ⟨5, 18, 1, [.ag (TEvent.p .v), .i .i64], [.i .i64], fun (a0, _) => a0, fun r => (r, ()), [.ag [.v, .v, .v, .v, .v, .v, .v, .v, .v], .v], [.v], [.k], [.tmp 4], [], [], [], []⟩
def laws_szEvent.F (n : Nat) : Pat.Ts laws_szEvent.d.ps → Option Int := fun (a0, a1, _) => laws_szEvent n (TEvent.of a0) a1

def laws_toJsonS.p4 : OD := ⟨[(0, .view .lJson), (3, .own .d .iJson), (4, .k)], [.sl .v .lJson, .rt 1, .i .i64], [.ext, .arr .d .iJson 2]⟩
def laws_toJsonS.o0 : OD := ⟨[(3, .own .d .iJson)], [.rt 1], [.ext, .arr .d .iJson 2]⟩
def laws_toJsonS.d : FD (List TJson) := ⟨36, 23, 1, [.sl .v .lJson], [.sl .d .iJson], fun (a0, _) => a0, fun r => (r, ()), [.v], [.o], [.own .d .iJson], [.tmp 2], [], [(4, laws_toJsonS.p4)], [], [(0, laws_toJsonS.o0)]⟩
def laws_toJsonS.F (n : Nat) : Pat.Ts laws_toJsonS.d.ps → Option (List TJson) := fun (a0, _) => laws_toJsonS n a0

def laws_toStringS.p4 : OD := ⟨[(0, .view .str), (3, .own .d .str), (4, .k)], [.sl .v .str, .rt 1, .i .i64], [.ext, .arr .d .str 2]⟩
def laws_toStringS.o0 : OD := ⟨[(3, .own .d .str)], [.rt 1], [.ext, .arr .d .str 2]⟩
def laws_toStringS.d : FD (List Bs) := ⟨37, 22, 1, [.sl .v .str], [.sl .d .str], fun (a0, _) => a0, fun r => (r, ()), [.v], [.o], [.own .d .str], [.tmp 2], [], [(4, laws_toStringS.p4)], [], [(0, laws_toStringS.o0)]⟩
def laws_toStringS.F (n : Nat) : Pat.Ts laws_toStringS.d.ps → Option (List Bs) := fun (a0, _) => laws_toStringS n a0

def laws_toJson.d : FD TJson := ⟨18, 22, 1, [.ag (TJson.p .v)], [.ag (TJson.q1 .d)], fun (a0, _) => (TJson.of a0), fun r => (TJson.to r, ()), [.ag [.v, .v, .v, .v, .v]], [.ag [.v, .v, .v, .o, .o]], [.ag [.k, .k, .k, .own .d .iJson, .own .d .str]], [.cell 2 33], [], [], [], []⟩
def laws_toJson.F (n : Nat) : Pat.Ts laws_toJson.d.ps → Option TJson := fun (a0, _) => laws_toJson n (TJson.of a0)

def laws_toOp.d : FD TOp := ⟨38, 16, 1, [.ag (TOp.p .v)], [.ag (TOp.q1 .d)], fun (a0, _) => (TOp.of a0), fun r => (TOp.to r, ()), [.ag [.v, .v, .v, .v, .v, .v, .v]], [.ag [.v, .o, .v, .v, .v, .o, .o]], [.ag [.k, .own .d .str, .k, .k, .k, .own .d .iJson, .own .d .str]], [.cell 2 62], [], [], [], []⟩
def laws_toOp.F (n : Nat) : Pat.Ts laws_toOp.d.ps → Option TOp := fun (a0, _) => laws_toOp n (TOp.of a0)

def laws_toOpS.p4 : OD := ⟨[(0, .view .lOp), (3, .own .d .iOp), (4, .k)], [.sl .v .lOp, .rt 1, .i .i64], [.ext, .arr .d .iOp 2]⟩
def laws_toOpS.o0 : OD := ⟨[(3, .own .d .iOp)], [.rt 1], [.ext, .arr .d .iOp 2]⟩
def laws_toOpS.d : FD (List TOp) := ⟨19, 23, 1, [.sl .v .lOp], [.sl .d .iOp], fun (a0, _) => a0, fun r => (r, ()), [.v], [.o], [.own .d .iOp], [.tmp 2], [], [(4, laws_toOpS.p4)], [], [(0, laws_toOpS.o0)]⟩
def laws_toOpS.F (n : Nat) : Pat.Ts laws_toOpS.d.ps → Option (List TOp) := fun (a0, _) => laws_toOpS n a0

def laws_toEvent.d : FD TEvent := ⟨7, 22, 1, [.ag (TEvent.p .v)], [.ag (TEvent.q1 .d)], fun (a0, _) => (TEvent.of a0), fun r => (TEvent.to r, ()), [.ag [.v, .v, .v, .v, .v, .v, .v, .v, .v]], [.ag [.v, .v, .v, .v, .v, .v, .o, .o, .o]], [.ag [.k, .k, .k, .k, .k, .k, .own .d .iJson, .own .d .str, .own .d .iOp]], [.cell 2 36], [], [], [], []⟩
def laws_toEvent.F (n : Nat) : Pat.Ts laws_toEvent.d.ps → Option TEvent := fun (a0, _) => laws_toEvent n (TEvent.of a0)

def spec_l1In.d : FD Bool := ⟨14, 15, 1, [.i .i64, .i .i64, .i .i64], [.b], fun (a0, _) => a0, fun r => (r, ()), [.v, .v, .v], [.v], [.k], [.tmp 6], [], [], [], []⟩
def spec_l1In.F (n : Nat) : Pat.Ts spec_l1In.d.ps → Option Bool := fun (a0, a1, a2, _) => spec_l1In n a0 a1 a2

def spec_l1Text.p3 : OD := ⟨[(0, .k), (3, .k)], [.s, .i .i64], [.ext]⟩
def spec_l1Text.o0 : OD := ⟨[(0, .k)], [.s], [.ext]⟩
def spec_l1Text.d : FD Bool := ⟨62, 23, 1, [.s], [.b], fun (a0, _) => a0, fun r => (r, ()), [.v], [.v], [.k], [.tmp 2], [], [(3, spec_l1Text.p3)], [], [(0, spec_l1Text.o0)]⟩
def spec_l1Text.F (n : Nat) : Pat.Ts spec_l1Text.d.ps → Option Bool := fun (a0, _) => spec_l1Text n a0

def spec_l1Names.p6 : OD := ⟨[(1, .box [.k, .k, .k, .view .iJson, .view .str]), (3, .k)], [.pb 1 0, .i .i64], [.ext, .box (TJson.q1 .v)]⟩
def spec_l1Names.o0 : OD := ⟨[(1, .box [.k, .k, .k, .view .iJson, .view .str])], [.pb 1 0], [.ext, .box (TJson.q1 .v)]⟩
def spec_l1Names.d : FD Bool := ⟨63, 50, 1, [.ag (TJson.q1 .v)], [.b], fun (a0, _) => a0, fun r => (r, ()), [.ag [.v, .v, .v, .v, .v]], [.v], [.k], [.tmp 2], [], [(6, spec_l1Names.p6)], [], [(0, spec_l1Names.o0)]⟩
def spec_l1Names.F (n : Nat) : Pat.Ts spec_l1Names.d.ps → Option Bool := fun (a0, _) => spec_l1Names n (TJson.of a0)

def spec_l1Great.p23 : OD := ⟨[(1, .k), (2, .box [.k, .k, .k, .view .iJson, .view .str]), (5, .k), (6, .k), (7, .k)], [.i .i64, .pb 1 0, .i .i64, .i .i64, .i .i64], [.ext, .box (TJson.q1 .v)]⟩
def spec_l1Great.o1 : OD := ⟨[(2, .box [.k, .k, .k, .view .iJson, .view .str]), (5, .k), (6, .k)], [.pb 1 0, .i .i64, .i .i64], [.ext, .box (TJson.q1 .v)]⟩
def spec_l1Great.d : FD Int := ⟨46, 106, 1, [.ag (TJson.q1 .v), .i .i64], [.i .i64], fun (a0, _) => a0, fun r => (r, ()), [.ag [.v, .v, .v, .v, .v], .v], [.v], [.k], [.tmp 4], [], [(23, spec_l1Great.p23)], [], [(1, spec_l1Great.o1)]⟩
def spec_l1Great.F (n : Nat) : Pat.Ts spec_l1Great.d.ps → Option Int := fun (a0, a1, _) => spec_l1Great n (TJson.of a0) a1

def spec_JsonOk.d : FD Bool := ⟨33, 6, 1, [.ag (TJson.q1 .v)], [.b], fun (a0, _) => a0, fun r => (r, ()), [.ag [.v, .v, .v, .v, .v]], [.v], [.k], [.tmp 2], [], [], [], []⟩
def spec_JsonOk.F (n : Nat) : Pat.Ts spec_JsonOk.d.ps → Option Bool := fun (a0, _) => spec_JsonOk n (TJson.of a0)

def spec_l2Digits.p7 : OD := ⟨[(0, .k), (3, .k), (4, .k)], [.i .i64, .b, .s], [.ext]⟩
def spec_l2Digits.o0 : OD := ⟨[(3, .k), (4, .k)], [.b, .s], [.ext]⟩
def spec_l2Digits.d : FD Bs := ⟨27, 31, 1, [.i .i64], [.s], fun (a0, _) => a0, fun r => (r, ()), [.v], [.v], [.k], [.tmp 2], [], [(7, spec_l2Digits.p7)], [], [(0, spec_l2Digits.o0)]⟩
def spec_l2Digits.F (n : Nat) : Pat.Ts spec_l2Digits.d.ps → Option Bs := fun (a0, _) => spec_l2Digits n a0

def spec_l2Quote.p4 : OD := ⟨[(0, .k), (3, .own .d .u8), (4, .k)], [.s, .rt 1, .i .i64], [.ext, .arr .d .u8 2]⟩
def spec_l2Quote.o0 : OD := ⟨[(3, .own .d .u8)], [.rt 1], [.ext, .arr .d .u8 2]⟩
def spec_l2Quote.d : FD Bs := ⟨47, 35, 1, [.s], [.s], fun (a0, _) => a0, fun r => (r, ()), [.v], [.v], [.k], [.tmp 2], [], [(4, spec_l2Quote.p4)], [], [(0, spec_l2Quote.o0)]⟩
def spec_l2Quote.F (n : Nat) : Pat.Ts spec_l2Quote.d.ps → Option Bs := fun (a0, _) => spec_l2Quote n a0

def spec_l2Encode.p17 : OD := ⟨[(1, .box [.k, .k, .k, .view .iJson, .view .str]), (3, .k), (4, .k)], [.pb 1 0, .s, .i .i64], [.ext, .box (TJson.q1 .v)]⟩
def spec_l2Encode.o1 : OD := ⟨[(1, .box [.k, .k, .k, .view .iJson, .view .str]), (3, .k)], [.pb 1 0, .s], [.ext, .box (TJson.q1 .v)]⟩
def spec_l2Encode.d : FD Bs := ⟨34, 64, 1, [.ag (TJson.q1 .v)], [.s], fun (a0, _) => a0, fun r => (r, ()), [.ag [.v, .v, .v, .v, .v]], [.v], [.k], [.tmp 2], [], [(17, spec_l2Encode.p17)], [], [(1, spec_l2Encode.o1)]⟩
def spec_l2Encode.F (n : Nat) : Pat.Ts spec_l2Encode.d.ps → Option Bs := fun (a0, _) => spec_l2Encode n (TJson.of a0)

def spec_Encode.d : FD Bs := ⟨15, 13, 1, [.ag (TJson.q1 .v)], [.s], fun (a0, _) => a0, fun r => (r, ()), [.ag [.v, .v, .v, .v, .v]], [.v], [.k], [.tmp 2], [], [], [], []⟩
def spec_Encode.F (n : Nat) : Pat.Ts spec_Encode.d.ps → Option Bs := fun (a0, _) => spec_Encode n (TJson.of a0)

def spec_l1Same.p6 : OD := ⟨[(2, .box [.k, .k, .k, .view .iJson, .view .str]), (3, .box [.k, .k, .k, .view .iJson, .view .str]), (5, .k)], [.pb 1 0, .pb 2 0, .i .i64], [.ext, .box (TJson.q1 .v), .box (TJson.q1 .v)]⟩
def spec_l1Same.p14 : OD := ⟨[(2, .box [.k, .k, .k, .view .iJson, .view .str]), (3, .box [.k, .k, .k, .view .iJson, .view .str]), (6, .k)], [.pb 1 0, .pb 2 0, .i .i64], [.ext, .box (TJson.q1 .v), .box (TJson.q1 .v)]⟩
def spec_l1Same.o0 : OD := ⟨[(2, .box [.k, .k, .k, .view .iJson, .view .str]), (3, .box [.k, .k, .k, .view .iJson, .view .str])], [.pb 1 0, .pb 2 0], [.ext, .box (TJson.q1 .v), .box (TJson.q1 .v)]⟩
def spec_l1Same.o2 : OD := ⟨[], [], [.ext]⟩
def spec_l1Same.d : FD Bool := ⟨17, 81, 1, [.ag (TJson.q1 .v), .ag (TJson.q1 .v)], [.b], fun (a0, _) => a0, fun r => (r, ()), [.ag [.v, .v, .v, .v, .v], .ag [.v, .v, .v, .v, .v]], [.v], [.k], [.tmp 4], [], [(6, spec_l1Same.p6), (14, spec_l1Same.p14)], [], [(0, spec_l1Same.o0), (2, spec_l1Same.o2)]⟩
def spec_l1Same.F (n : Nat) : Pat.Ts spec_l1Same.d.ps → Option Bool := fun (a0, a1, _) => spec_l1Same n (TJson.of a0) (TJson.of a1)

def spec_OpOk.p6 : OD := ⟨[(1, .box [.k, .view .str, .k, .k, .k, .view .iJson, .view .str]), (3, .k)], [.pb 1 0, .i .i64], [.ext, .box (TOp.q1 .v)]⟩
def spec_OpOk.o0 : OD := ⟨[(1, .box [.k, .view .str, .k, .k, .k, .view .iJson, .view .str])], [.pb 1 0], [.ext, .box (TOp.q1 .v)]⟩
def spec_OpOk.d : FD Bool := ⟨48, 43, 1, [.ag (TOp.q1 .v)], [.b], fun (a0, _) => a0, fun r => (r, ()), [.ag [.v, .v, .v, .v, .v, .v, .v]], [.v], [.k], [.tmp 2], [], [(6, spec_OpOk.p6)], [], [(0, spec_OpOk.o0)]⟩
def spec_OpOk.F (n : Nat) : Pat.Ts spec_OpOk.d.ps → Option Bool := fun (a0, _) => spec_OpOk n (TOp.of a0)

def spec_l4Names.d : FD (List Bs) := ⟨49, 2, 1, [], [.sl .d .str], fun (a0, _) => a0, fun r => (r, ()), [], [.o], [.own .d .str], [.tmp 0], [], [], [], []⟩
def spec_l4Names.F (n : Nat) : Pat.Ts spec_l4Names.d.ps → Option (List Bs) := fun _ => spec_l4Names n ()

def spec_WayText.p4 : OD := ⟨[(0, .view .str), (3, .own .d .u8), (4, .k)], [.sl .v .str, .rt 1, .i .i64], [.ext, .arr .d .u8 2]⟩
def spec_WayText.p10 : OD := ⟨[(0, .view .str), (3, .own .d .u8), (4, .k), (5, .k)], [.sl .v .str, .rt 1, .i .i64, .i .i64], [.ext, .arr .d .u8 2]⟩
def spec_WayText.o0 : OD := ⟨[(3, .own .d .u8)], [.rt 1], [.ext, .arr .d .u8 2]⟩
def spec_WayText.o2 : OD := ⟨[(0, .view .str), (3, .own .d .u8), (4, .k)], [.sl .v .str, .rt 1, .i .i64], [.ext, .arr .d .u8 2]⟩
def spec_WayText.d : FD Bs := ⟨50, 52, 1, [.sl .v .str], [.s], fun (a0, _) => a0, fun r => (r, ()), [.v], [.v], [.k], [.tmp 2], [], [(10, spec_WayText.p10), (4, spec_WayText.p4)], [], [(0, spec_WayText.o0), (2, spec_WayText.o2)]⟩
def spec_WayText.F (n : Nat) : Pat.Ts spec_WayText.d.ps → Option Bs := fun (a0, _) => spec_WayText n a0

def spec_l1Copy.p4 : OD := ⟨[(1, .box [.k, .k, .k, .view .iJson, .view .str]), (2, .box [.k, .k, .k, .k, .k]), (3, .box [.k, .k, .k, .own .d .iJson, .own .d .str]), (4, .k)], [.pb 1 0, .pb 2 0, .pb 3 0, .i .i64], [.ext, .box (TJson.q1 .v), .box [.i .i64, .i .i64, .s, .nils, .nils], .box [.i .i64, .i .i64, .s, .rt 4, .rt 5], .arr .d .iJson 2, .arr .d .str 2]⟩
def spec_l1Copy.o0 : OD := ⟨[(2, .box [.k, .k, .k, .k, .k]), (3, .box [.k, .k, .k, .own .d .iJson, .own .d .str])], [.pb 1 0, .pb 2 0], [.ext, .box [.i .i64, .i .i64, .s, .nils, .nils], .box [.i .i64, .i .i64, .s, .rt 3, .rt 4], .arr .d .iJson 2, .arr .d .str 2]⟩
def spec_l1Copy.d : FD TJson := ⟨52, 35, 1, [.ag (TJson.q1 .v)], [.ag (TJson.q1 .d)], fun (a0, _) => (TJson.of a0), fun r => (TJson.to r, ()), [.ag [.v, .v, .v, .v, .v]], [.ag [.v, .v, .v, .o, .o]], [.ag [.k, .k, .k, .own .d .iJson, .own .d .str]], [.cell 2 33], [], [(4, spec_l1Copy.p4)], [], [(0, spec_l1Copy.o0)]⟩
def spec_l1Copy.F (n : Nat) : Pat.Ts spec_l1Copy.d.ps → Option TJson := fun (a0, _) => spec_l1Copy n (TJson.of a0)

def spec_l1Put.p5 : OD := ⟨[(1, .k), (3, .box [.k, .k, .k, .view .iJson, .view .str]), (5, .box [.k, .k, .k, .view .iJson, .view .str]), (6, .box [.k, .k, .k, .k, .k]), (7, .box [.k, .k, .k, .own .s .iJson, .own .d .str]), (8, .k), (9, .k)], [.s, .pb 1 0, .pb 2 0, .pb 3 0, .pb 4 0, .b, .i .i64], [.ext, .box (TJson.q1 .v), .box (TJson.q1 .v), .box [.i .i64, .i .i64, .s, .nils, .nils], .box [.i .i64, .i .i64, .s, .rt 5, .rt 6], .arr .s .iJson 2, .arr .d .str 2]⟩
def spec_l1Put.o0 : OD := ⟨[(1, .k), (5, .box [.k, .k, .k, .view .iJson, .view .str]), (6, .box [.k, .k, .k, .k, .k]), (7, .box [.k, .k, .k, .own .s .iJson, .own .d .str]), (8, .k)], [.s, .pb 1 0, .pb 2 0, .pb 3 0, .b], [.ext, .box (TJson.q1 .v), .box [.i .i64, .i .i64, .s, .nils, .nils], .box [.i .i64, .i .i64, .s, .rt 4, .rt 5], .arr .s .iJson 2, .arr .d .str 2]⟩
def spec_l1Put.d : FD TJson := ⟨51, 83, 1, [.ag (TJson.q1 .v), .s, .ag (TJson.q1 .v)], [.ag [.i .i64, .i .i64, .s, .sl .s .iJson, .sl .d .str]], fun (a0, _) => (TJson.of a0), fun r => (TJson.to r, ()), [.ag [.v, .v, .v, .v, .v], .v, .ag [.v, .v, .v, .v, .v]], [.ag [.v, .v, .v, .o, .o]], [.ag [.k, .k, .k, .own .s .iJson, .own .d .str]], [.cell 6 33], [], [(5, spec_l1Put.p5)], [], [(0, spec_l1Put.o0)]⟩
def spec_l1Put.F (n : Nat) : Pat.Ts spec_l1Put.d.ps → Option TJson := fun (a0, a1, a2, _) => spec_l1Put n (TJson.of a0) a1 (TJson.of a2)

def spec_OpJson.d : FD TJson := ⟨35, 34, 1, [.ag (TOp.q1 .v)], [.ag [.i .i64, .i .i64, .s, .sl .s .iJson, .sl .d .str]], fun (a0, _) => (TJson.of a0), fun r => (TJson.to r, ()), [.ag [.v, .v, .v, .v, .v, .v, .v]], [.ag [.v, .v, .v, .o, .o]], [.ag [.k, .k, .k, .own .s .iJson, .own .d .str]], [.cell 2 33], [], [], [], []⟩
def spec_OpJson.F (n : Nat) : Pat.Ts spec_OpJson.d.ps → Option TJson := fun (a0, _) => spec_OpJson n (TOp.of a0)

def spec_l17Ops.p4 : OD := ⟨[(0, .view .iOp), (2, .box [.k, .k, .k, .k, .k]), (4, .box [.k, .k, .k, .own .s .iJson, .k]), (5, .k)], [.sl .v .iOp, .pb 1 0, .pb 2 0, .i .i64], [.ext, .box [.i .i64, .i .i64, .s, .nils, .nils], .box [.i .i64, .i .i64, .s, .rt 3, .nils], .arr .s .iJson 2]⟩
def spec_l17Ops.o0 : OD := ⟨[(0, .view .iOp), (2, .box [.k, .k, .k, .k, .k]), (4, .box [.k, .k, .k, .own .s .iJson, .k])], [.sl .v .iOp, .pb 1 0, .pb 2 0], [.ext, .box [.i .i64, .i .i64, .s, .nils, .nils], .box [.i .i64, .i .i64, .s, .rt 3, .nils], .arr .s .iJson 2]⟩
def spec_l17Ops.d : FD (TJson × Bool) := ⟨16, 38, 1, [.sl .v .iOp], [.ag [.i .i64, .i .i64, .s, .sl .s .iJson, .sl .d .str], .b], fun (a0, a1, _) => ((TJson.of a0), a1), fun (a0, a1) => (TJson.to a0, a1, ()), [.v], [.ag [.v, .v, .v, .o, .o], .v], [.ag [.k, .k, .k, .own .s .iJson, .own .d .str], .k], [.cell 2 33, .tmp 3], [], [(4, spec_l17Ops.p4)], [], [(0, spec_l17Ops.o0)]⟩
def spec_l17Ops.F (n : Nat) : Pat.Ts spec_l17Ops.d.ps → Option (TJson × Bool) := fun (a0, _) => spec_l17Ops n a0

def spec_EventOk.d : FD Bool := ⟨6, 51, 1, [.ag (TEvent.q1 .v)], [.b], fun (a0, _) => a0, fun r => (r, ()), [.ag [.v, .v, .v, .v, .v, .v, .v, .v, .v]], [.v], [.k], [.tmp 2], [], [], [], []⟩
def spec_EventOk.F (n : Nat) : Pat.Ts spec_EventOk.d.ps → Option Bool := fun (a0, _) => spec_EventOk n (TEvent.of a0)

def spec_EventText.d : FD Bs := ⟨10, 43, 1, [.ag (TEvent.q1 .v)], [.s], fun (a0, _) => a0, fun r => (r, ()), [.ag [.v, .v, .v, .v, .v, .v, .v, .v, .v]], [.v], [.k], [.tmp 2], [], [], [], []⟩
def spec_EventText.F (n : Nat) : Pat.Ts spec_EventText.d.ps → Option Bs := fun (a0, _) => spec_EventText n (TEvent.of a0)

def impl_within.d : FD Bool := ⟨22, 15, 1, [.i .i64, .i .i64, .i .i64], [.b], fun (a0, _) => a0, fun r => (r, ()), [.v, .v, .v], [.v], [.k], [.tmp 6], [], [], [], []⟩
def impl_within.F (n : Nat) : Pat.Ts impl_within.d.ps → Option Bool := fun (a0, a1, a2, _) => impl_within n a0 a1 a2

def impl_isVersion.d : FD Bool := ⟨20, 5, 1, [.i .i64], [.b], fun (a0, _) => a0, fun r => (r, ()), [.v], [.v], [.k], [.tmp 2], [], [], [], []⟩
def impl_isVersion.F (n : Nat) : Pat.Ts impl_isVersion.d.ps → Option Bool := fun (a0, _) => impl_isVersion n a0

def impl_isNum.d : FD Bool := ⟨72, 5, 1, [.i .i64], [.b], fun (a0, _) => a0, fun r => (r, ()), [.v], [.v], [.k], [.tmp 2], [], [], [], []⟩
def impl_isNum.F (n : Nat) : Pat.Ts impl_isNum.d.ps → Option Bool := fun (a0, _) => impl_isNum n a0

def impl_textOk.p3 : OD := ⟨[(0, .k), (5, .k), (6, .k)], [.s, .i .i64, .i .i64], [.ext]⟩
def impl_textOk.o0 : OD := ⟨[(0, .k)], [.s], [.ext]⟩
def impl_textOk.d : FD Bool := ⟨69, 19, 1, [.s], [.b], fun (a0, _) => a0, fun r => (r, ()), [.v], [.v], [.k], [.tmp 2], [], [(3, impl_textOk.p3)], [], [(0, impl_textOk.o0)]⟩
def impl_textOk.F (n : Nat) : Pat.Ts impl_textOk.d.ps → Option Bool := fun (a0, _) => impl_textOk n a0

def impl_namesOk.p3 : OD := ⟨[(0, .view .str), (5, .view .str), (6, .k), (7, .k)], [.sl .v .str, .sl .v .str, .i .i64, .i .i64], [.ext]⟩
def impl_namesOk.o0 : OD := ⟨[], [], [.ext]⟩
def impl_namesOk.d : FD Bool := ⟨73, 29, 1, [.sl .v .str], [.b], fun (a0, _) => a0, fun r => (r, ()), [.v], [.v], [.k], [.tmp 2], [], [(3, impl_namesOk.p3)], [], [(0, impl_namesOk.o0)]⟩
def impl_namesOk.F (n : Nat) : Pat.Ts impl_namesOk.d.ps → Option Bool := fun (a0, _) => impl_namesOk n a0

def impl_ownOk.d : FD Bool := ⟨64, 90, 1, [.ag (TJson.q1 .v)], [.b], fun (a0, _) => a0, fun r => (r, ()), [.ag [.v, .v, .v, .v, .v]], [.v], [.k], [.tmp 2], [], [], [], []⟩
def impl_ownOk.F (n : Nat) : Pat.Ts impl_ownOk.d.ps → Option Bool := fun (a0, _) => impl_ownOk n (TJson.of a0)

def impl_sizeIn.p7 : OD := ⟨[(1, .k), (5, .k), (16, .view .iJson), (17, .k), (18, .k)], [.i .i64, .i .i64, .sl .v .iJson, .i .i64, .i .i64], [.ext]⟩
def impl_sizeIn.o0 : OD := ⟨[(5, .k)], [.i .i64], [.ext]⟩
def impl_sizeIn.d : FD Int := ⟨53, 32, 1, [.ag (TJson.q1 .v), .i .i64], [.i .i64], fun (a0, _) => a0, fun r => (r, ()), [.ag [.v, .v, .v, .v, .v], .v], [.v], [.k], [.tmp 4], [], [(7, impl_sizeIn.p7)], [], [(0, impl_sizeIn.o0)]⟩
def impl_sizeIn.F (n : Nat) : Pat.Ts impl_sizeIn.d.ps → Option Int := fun (a0, a1, _) => impl_sizeIn n (TJson.of a0) a1

def impl_JsonOk.d : FD Bool := ⟨39, 6, 1, [.ag (TJson.q1 .v)], [.b], fun (a0, _) => a0, fun r => (r, ()), [.ag [.v, .v, .v, .v, .v]], [.v], [.k], [.tmp 2], [], [], [], []⟩
def impl_JsonOk.F (n : Nat) : Pat.Ts impl_JsonOk.d.ps → Option Bool := fun (a0, _) => impl_JsonOk n (TJson.of a0)

def impl_quoted.p4 : OD := ⟨[(0, .k), (3, .own .d .u8), (7, .k), (8, .k)], [.s, .rt 1, .i .i64, .i .i64], [.ext, .arr .d .u8 2]⟩
def impl_quoted.o0 : OD := ⟨[(3, .own .d .u8)], [.rt 1], [.ext, .arr .d .u8 2]⟩
def impl_quoted.d : FD Bs := ⟨54, 35, 1, [.s], [.s], fun (a0, _) => a0, fun r => (r, ()), [.v], [.v], [.k], [.tmp 2], [], [(4, impl_quoted.p4)], [], [(0, impl_quoted.o0)]⟩
def impl_quoted.F (n : Nat) : Pat.Ts impl_quoted.d.ps → Option Bs := fun (a0, _) => impl_quoted n a0

def strconv_Itoa.d : FD Bs := ⟨44, 5, 1, [.i .i64], [.s], fun (a0, _) => a0, fun r => (r, ()), [.v], [], [], [.tmp 2], [], [], [], []⟩
def strconv_Itoa.F (n : Nat) : Pat.Ts strconv_Itoa.d.ps → Option Bs := fun (a0, _) => strconv_Itoa n a0

def strings_Join.d : FD Bs := ⟨55, 75, 1, [.sl .v .str, .s], [.s], fun (a0, _) => a0, fun r => (r, ()), [.v, .v], [], [], [.tmp 4], [], [], [], []⟩
def strings_Join.F (n : Nat) : Pat.Ts strings_Join.d.ps → Option Bs := fun (a0, a1, _) => strings_Join n a0 a1

def impl_written.p4 : OD := ⟨[(1, .box [.k, .k, .k, .view .iJson, .view .str]), (3, .own .d .str), (9, .view .iJson), (10, .k), (11, .k)], [.pb 1 0, .rt 2, .sl .v .iJson, .i .i64, .i .i64], [.ext, .box (TJson.q1 .v), .arr .d .str 2]⟩
def impl_written.o0 : OD := ⟨[(1, .box [.k, .k, .k, .view .iJson, .view .str]), (3, .own .d .str)], [.pb 1 0, .rt 2], [.ext, .box (TJson.q1 .v), .arr .d .str 2]⟩
def impl_written.d : FD Bs := ⟨40, 66, 1, [.ag (TJson.q1 .v)], [.s], fun (a0, _) => a0, fun r => (r, ()), [.ag [.v, .v, .v, .v, .v]], [.v], [.k], [.tmp 2], [], [(4, impl_written.p4)], [], [(0, impl_written.o0)]⟩
def impl_written.F (n : Nat) : Pat.Ts impl_written.d.ps → Option Bs := fun (a0, _) => impl_written n (TJson.of a0)

def impl_Encode.d : FD Bs := ⟨21, 13, 1, [.ag (TJson.q1 .v)], [.s], fun (a0, _) => a0, fun r => (r, ()), [.ag [.v, .v, .v, .v, .v]], [.v], [.k], [.tmp 2], [], [], [], []⟩
def impl_Encode.F (n : Nat) : Pat.Ts impl_Encode.d.ps → Option Bs := fun (a0, _) => impl_Encode n (TJson.of a0)

def impl_isZero.d : FD Bool := ⟨23, 28, 1, [.ag (TJson.q1 .v)], [.b], fun (a0, _) => a0, fun r => (r, ()), [.ag [.v, .v, .v, .v, .v]], [.v], [.k], [.tmp 2], [], [], [], []⟩
def impl_isZero.F (n : Nat) : Pat.Ts impl_isZero.d.ps → Option Bool := fun (a0, _) => impl_isZero n (TJson.of a0)

def impl_OpOk.p3 : OD := ⟨[(1, .box [.k, .view .str, .k, .k, .k, .view .iJson, .view .str]), (6, .view .str), (7, .k), (8, .k)], [.pb 1 0, .sl .v .str, .i .i64, .i .i64], [.ext, .box (TOp.q1 .v)]⟩
def impl_OpOk.o0 : OD := ⟨[(1, .box [.k, .view .str, .k, .k, .k, .view .iJson, .view .str])], [.pb 1 0], [.ext, .box (TOp.q1 .v)]⟩
def impl_OpOk.d : FD Bool := ⟨57, 40, 1, [.ag (TOp.q1 .v)], [.b], fun (a0, _) => a0, fun r => (r, ()), [.ag [.v, .v, .v, .v, .v, .v, .v]], [.v], [.k], [.tmp 2], [], [(3, impl_OpOk.p3)], [], [(0, impl_OpOk.o0)]⟩
def impl_OpOk.F (n : Nat) : Pat.Ts impl_OpOk.d.ps → Option Bool := fun (a0, _) => impl_OpOk n (TOp.of a0)

def impl_opNames.d : FD (List Bs) := ⟨58, 2, 1, [], [.sl .d .str], fun (a0, _) => a0, fun r => (r, ()), [], [.o], [.own .d .str], [.tmp 0], [], [], [], []⟩
def impl_opNames.F (n : Nat) : Pat.Ts impl_opNames.d.ps → Option (List Bs) := fun _ => impl_opNames n ()

def strings_ReplaceAll.d : FD Bs := ⟨70, 11, 1, [.s, .s, .s], [.s], fun (a0, _) => a0, fun r => (r, ()), [.v, .v, .v], [], [], [.tmp 6], [], [], [], []⟩
def strings_ReplaceAll.F (n : Nat) : Pat.Ts strings_ReplaceAll.d.ps → Option Bs := fun (a0, a1, a2, _) => strings_ReplaceAll n a0 a1 a2

def impl_WayText.p4 : OD := ⟨[(3, .k), (6, .view .str), (7, .k), (8, .k)], [.s, .sl .v .str, .i .i64, .i .i64], [.ext]⟩
def impl_WayText.o0 : OD := ⟨[(3, .k)], [.s], [.ext]⟩
def impl_WayText.d : FD Bs := ⟨59, 20, 1, [.sl .v .str], [.s], fun (a0, _) => a0, fun r => (r, ()), [.v], [.v], [.k], [.tmp 2], [], [(4, impl_WayText.p4)], [], [(0, impl_WayText.o0)]⟩
def impl_WayText.F (n : Nat) : Pat.Ts impl_WayText.d.ps → Option Bs := fun (a0, _) => impl_WayText n a0

def impl_copyTexts.d : FD (List Bs) := ⟨71, 6, 1, [.sl .v .str], [.sl .d .str], fun (a0, _) => a0, fun r => (r, ()), [.v], [.o], [.own .d .str], [.tmp 2], [], [], [], []⟩
def impl_copyTexts.F (n : Nat) : Pat.Ts impl_copyTexts.d.ps → Option (List Bs) := fun (a0, _) => impl_copyTexts n a0

def impl_copyJson.p4 : OD := ⟨[(2, .box [.k, .k, .k, .k, .k]), (3, .box [.k, .k, .k, .own .d .iJson, .own .d .str]), (17, .view .iJson), (18, .k), (19, .k)], [.pb 1 0, .pb 2 0, .sl .v .iJson, .i .i64, .i .i64], [.ext, .box [.i .i64, .i .i64, .s, .nils, .nils], .box [.i .i64, .i .i64, .s, .rt 3, .rt 4], .arr .d .iJson 2, .arr .d .str 2]⟩
def impl_copyJson.o0 : OD := ⟨[(2, .box [.k, .k, .k, .k, .k]), (3, .box [.k, .k, .k, .own .d .iJson, .own .d .str])], [.pb 1 0, .pb 2 0], [.ext, .box [.i .i64, .i .i64, .s, .nils, .nils], .box [.i .i64, .i .i64, .s, .rt 3, .rt 4], .arr .d .iJson 2, .arr .d .str 2]⟩
def impl_copyJson.d : FD TJson := ⟨60, 32, 1, [.ag (TJson.q1 .v)], [.ag (TJson.q1 .d)], fun (a0, _) => (TJson.of a0), fun r => (TJson.to r, ()), [.ag [.v, .v, .v, .v, .v]], [.ag [.v, .v, .v, .o, .o]], [.ag [.k, .k, .k, .own .d .iJson, .own .d .str]], [.cell 2 33], [], [(4, impl_copyJson.p4)], [], [(0, impl_copyJson.o0)]⟩
def impl_copyJson.F (n : Nat) : Pat.Ts impl_copyJson.d.ps → Option TJson := fun (a0, _) => impl_copyJson n (TJson.of a0)

def impl_orNull.d : FD TJson := ⟨61, 8, 1, [.ag (TJson.q1 .v)], [.ag (TJson.q1 .v)], fun (a0, _) => (TJson.of a0), fun r => (TJson.to r, ()), [.ag [.v, .v, .v, .v, .v]], [.ag [.v, .v, .v, .v, .v]], [.ag [.k, .k, .k, .view .iJson, .view .str]], [.cell 2 33], [], [], [], []⟩
def impl_orNull.F (n : Nat) : Pat.Ts impl_orNull.d.ps → Option TJson := fun (a0, _) => impl_orNull n (TJson.of a0)

def impl_OpJson.d : FD TJson := ⟨45, 41, 1, [.ag (TOp.q1 .v)], [.ag (TJson.q1 .v)], fun (a0, _) => (TJson.of a0), fun r => (TJson.to r, ()), [.ag [.v, .v, .v, .v, .v, .v, .v]], [.ag [.v, .v, .v, .v, .v]], [.ag [.k, .k, .k, .view .iJson, .view .str]], [.cell 2 33], [], [], [], []⟩
def impl_OpJson.F (n : Nat) : Pat.Ts impl_OpJson.d.ps → Option TJson := fun (a0, _) => impl_OpJson n (TOp.of a0)

def impl_opsJson.p4 : OD := ⟨[(2, .box [.k, .k, .k, .k, .k]), (4, .box [.k, .k, .k, .own .s .iJson, .k]), (9, .view .iOp), (10, .k), (11, .k)], [.pb 1 0, .pb 2 0, .sl .v .iOp, .i .i64, .i .i64], [.ext, .box [.i .i64, .i .i64, .s, .nils, .nils], .box [.i .i64, .i .i64, .s, .rt 3, .nils], .arr .s .iJson 2]⟩
def impl_opsJson.o0 : OD := ⟨[(2, .box [.k, .k, .k, .k, .k]), (4, .box [.k, .k, .k, .own .s .iJson, .k])], [.pb 1 0, .pb 2 0], [.ext, .box [.i .i64, .i .i64, .s, .nils, .nils], .box [.i .i64, .i .i64, .s, .rt 3, .nils], .arr .s .iJson 2]⟩
def impl_opsJson.d : FD (TJson × Bool) := ⟨29, 29, 1, [.sl .v .iOp], [.ag [.i .i64, .i .i64, .s, .sl .s .iJson, .sl .d .str], .b], fun (a0, a1, _) => ((TJson.of a0), a1), fun (a0, a1) => (TJson.to a0, a1, ()), [.v], [.ag [.v, .v, .v, .o, .o], .v], [.ag [.k, .k, .k, .own .s .iJson, .own .d .str], .k], [.cell 2 33, .tmp 3], [], [(4, impl_opsJson.p4)], [], [(0, impl_opsJson.o0)]⟩
def impl_opsJson.F (n : Nat) : Pat.Ts impl_opsJson.d.ps → Option (TJson × Bool) := fun (a0, _) => impl_opsJson n a0

def impl_PatchSize.d : FD Int := ⟨24, 21, 1, [.sl .v .iOp], [.i .i64], fun (a0, _) => a0, fun r => (r, ()), [.v], [.v], [.k], [.tmp 2], [], [], [], []⟩
def impl_PatchSize.F (n : Nat) : Pat.Ts impl_PatchSize.d.ps → Option Int := fun (a0, _) => impl_PatchSize n a0

def impl_EventOk.d : FD Bool := ⟨8, 57, 1, [.ag (TEvent.q1 .v)], [.b], fun (a0, _) => a0, fun r => (r, ()), [.ag [.v, .v, .v, .v, .v, .v, .v, .v, .v]], [.v], [.k], [.tmp 2], [], [], [], []⟩
def impl_EventOk.F (n : Nat) : Pat.Ts impl_EventOk.d.ps → Option Bool := fun (a0, _) => impl_EventOk n (TEvent.of a0)

def impl_digits.d : FD Bs := ⟨28, 5, 1, [.i .i64], [.s], fun (a0, _) => a0, fun r => (r, ()), [.v], [.v], [.k], [.tmp 2], [], [], [], []⟩
def impl_digits.F (n : Nat) : Pat.Ts impl_digits.d.ps → Option Bs := fun (a0, _) => impl_digits n a0

def impl_EventText.d : FD Bs := ⟨11, 43, 1, [.ag (TEvent.q1 .v)], [.s], fun (a0, _) => a0, fun r => (r, ()), [.ag [.v, .v, .v, .v, .v, .v, .v, .v, .v]], [.v], [.k], [.tmp 2], [], [], [], []⟩
def impl_EventText.F (n : Nat) : Pat.Ts impl_EventText.d.ps → Option Bs := fun (a0, _) => impl_EventText n (TEvent.of a0)

def laws_eqJsonS.p6 : OD := ⟨[(0, .view .iJson), (1, .view .iJson), (5, .k)], [.sl .v .iJson, .sl .v .iJson, .i .i64], [.ext]⟩
def laws_eqJsonS.o0 : OD := ⟨[], [], [.ext]⟩
def laws_eqJsonS.d : FD Bool := ⟨41, 27, 1, [.sl .v .iJson, .sl .v .iJson], [.b], fun (a0, _) => a0, fun r => (r, ()), [.v, .v], [.v], [.k], [.tmp 4], [], [(6, laws_eqJsonS.p6)], [], [(0, laws_eqJsonS.o0)]⟩
def laws_eqJsonS.F (n : Nat) : Pat.Ts laws_eqJsonS.d.ps → Option Bool := fun (a0, a1, _) => laws_eqJsonS n a0 a1

def laws_eqStringS.p6 : OD := ⟨[(0, .view .str), (1, .view .str), (5, .k)], [.sl .v .str, .sl .v .str, .i .i64], [.ext]⟩
def laws_eqStringS.o0 : OD := ⟨[], [], [.ext]⟩
def laws_eqStringS.d : FD Bool := ⟨42, 26, 1, [.sl .v .str, .sl .v .str], [.b], fun (a0, _) => a0, fun r => (r, ()), [.v, .v], [.v], [.k], [.tmp 4], [], [(6, laws_eqStringS.p6)], [], [(0, laws_eqStringS.o0)]⟩
def laws_eqStringS.F (n : Nat) : Pat.Ts laws_eqStringS.d.ps → Option Bool := fun (a0, a1, _) => laws_eqStringS n a0 a1

def laws_eqJson.d : FD Bool := ⟨25, 32, 1, [.ag (TJson.q1 .v), .ag (TJson.q1 .v)], [.b], fun (a0, _) => a0, fun r => (r, ()), [.ag [.v, .v, .v, .v, .v], .ag [.v, .v, .v, .v, .v]], [.v], [.k], [.tmp 4], [], [], [], []⟩
def laws_eqJson.F (n : Nat) : Pat.Ts laws_eqJson.d.ps → Option Bool := fun (a0, a1, _) => laws_eqJson n (TJson.of a0) (TJson.of a1)

def laws_eqOp.d : FD Bool := ⟨43, 22, 1, [.ag (TOp.q1 .v), .ag (TOp.q1 .v)], [.b], fun (a0, _) => a0, fun r => (r, ()), [.ag [.v, .v, .v, .v, .v, .v, .v], .ag [.v, .v, .v, .v, .v, .v, .v]], [.v], [.k], [.tmp 4], [], [], [], []⟩
def laws_eqOp.F (n : Nat) : Pat.Ts laws_eqOp.d.ps → Option Bool := fun (a0, a1, _) => laws_eqOp n (TOp.of a0) (TOp.of a1)

def laws_eqOpS.p6 : OD := ⟨[(0, .view .iOp), (1, .view .iOp), (5, .k)], [.sl .v .iOp, .sl .v .iOp, .i .i64], [.ext]⟩
def laws_eqOpS.o0 : OD := ⟨[], [], [.ext]⟩
def laws_eqOpS.d : FD Bool := ⟨26, 27, 1, [.sl .v .iOp, .sl .v .iOp], [.b], fun (a0, _) => a0, fun r => (r, ()), [.v, .v], [.v], [.k], [.tmp 4], [], [(6, laws_eqOpS.p6)], [], [(0, laws_eqOpS.o0)]⟩
def laws_eqOpS.F (n : Nat) : Pat.Ts laws_eqOpS.d.ps → Option Bool := fun (a0, a1, _) => laws_eqOpS n a0 a1

def laws_eqEvent.d : FD Bool := ⟨9, 32, 1, [.ag (TEvent.q1 .v), .ag (TEvent.q1 .v)], [.b], fun (a0, _) => a0, fun r => (r, ()), [.ag [.v, .v, .v, .v, .v, .v, .v, .v, .v], .ag [.v, .v, .v, .v, .v, .v, .v, .v, .v]], [.v], [.k], [.tmp 4], [], [], [], []⟩
def laws_eqEvent.F (n : Nat) : Pat.Ts laws_eqEvent.d.ps → Option Bool := fun (a0, a1, _) => laws_eqEvent n (TEvent.of a0) (TEvent.of a1)

def laws_FnExactEventText.d : FD Bool := ⟨4, 27, 1, [.ag (TEvent.p .v)], [.b], fun (a0, _) => a0, fun r => (r, ()), [.ag [.v, .v, .v, .v, .v, .v, .v, .v, .v]], [.v], [.k], [.tmp 2], [], [], [], []⟩
def laws_FnExactEventText.F (n : Nat) : Pat.Ts laws_FnExactEventText.d.ps → Option Bool := fun (a0, _) => laws_FnExactEventText n (TEvent.of a0)

def KL (n : Nat) : List (Nat × Hd) := [
  (4, ⟨fun _ => laws_FnExactEventText.d.K (laws_FnExactEventText.F n)⟩),
  (5, ⟨fun _ => laws_szEvent.d.K (laws_szEvent.F n)⟩),
  (6, ⟨fun _ => spec_EventOk.d.K (spec_EventOk.F n)⟩),
  (7, ⟨fun _ => laws_toEvent.d.K (laws_toEvent.F n)⟩),
  (8, ⟨fun _ => impl_EventOk.d.K (impl_EventOk.F n)⟩),
  (9, ⟨fun _ => laws_eqEvent.d.K (laws_eqEvent.F n)⟩),
  (10, ⟨fun _ => spec_EventText.d.K (spec_EventText.F n)⟩),
  (11, ⟨fun _ => impl_EventText.d.K (impl_EventText.F n)⟩),
  (12, ⟨fun _ => laws_szJson.d.K (laws_szJson.F n)⟩),
  (13, ⟨fun _ => laws_szOpS.d.K (laws_szOpS.F n)⟩),
  (14, ⟨fun _ => spec_l1In.d.K (spec_l1In.F n)⟩),
  (15, ⟨fun _ => spec_Encode.d.K (spec_Encode.F n)⟩),
  (16, ⟨fun _ => spec_l17Ops.d.K (spec_l17Ops.F n)⟩),
  (17, ⟨fun _ => spec_l1Same.d.K (spec_l1Same.F n)⟩),
  (18, ⟨fun _ => laws_toJson.d.K (laws_toJson.F n)⟩),
  (19, ⟨fun _ => laws_toOpS.d.K (laws_toOpS.F n)⟩),
  (20, ⟨fun _ => impl_isVersion.d.K (impl_isVersion.F n)⟩),
  (21, ⟨fun _ => impl_Encode.d.K (impl_Encode.F n)⟩),
  (22, ⟨fun _ => impl_within.d.K (impl_within.F n)⟩),
  (23, ⟨fun _ => impl_isZero.d.K (impl_isZero.F n)⟩),
  (24, ⟨fun _ => impl_PatchSize.d.K (impl_PatchSize.F n)⟩),
  (25, ⟨fun _ => laws_eqJson.d.K (laws_eqJson.F n)⟩),
  (26, ⟨fun _ => laws_eqOpS.d.K (laws_eqOpS.F n)⟩),
  (27, ⟨fun _ => spec_l2Digits.d.K (spec_l2Digits.F n)⟩),
  (28, ⟨fun _ => impl_digits.d.K (impl_digits.F n)⟩),
  (29, ⟨fun _ => impl_opsJson.d.K (impl_opsJson.F n)⟩),
  (30, ⟨fun _ => laws_szJsonS.d.K (laws_szJsonS.F n)⟩),
  (31, ⟨fun _ => laws_szStringS.d.K (laws_szStringS.F n)⟩),
  (32, ⟨fun _ => laws_szOp.d.K (laws_szOp.F n)⟩),
  (33, ⟨fun _ => spec_JsonOk.d.K (spec_JsonOk.F n)⟩),
  (34, ⟨fun _ => spec_l2Encode.d.K (spec_l2Encode.F n)⟩),
  (35, ⟨fun _ => spec_OpJson.d.K (spec_OpJson.F n)⟩),
  (36, ⟨fun _ => laws_toJsonS.d.K (laws_toJsonS.F n)⟩),
  (37, ⟨fun _ => laws_toStringS.d.K (laws_toStringS.F n)⟩),
  (38, ⟨fun _ => laws_toOp.d.K (laws_toOp.F n)⟩),
  (39, ⟨fun _ => impl_JsonOk.d.K (impl_JsonOk.F n)⟩),
  (40, ⟨fun _ => impl_written.d.K (impl_written.F n)⟩),
  (41, ⟨fun _ => laws_eqJsonS.d.K (laws_eqJsonS.F n)⟩),
  (42, ⟨fun _ => laws_eqStringS.d.K (laws_eqStringS.F n)⟩),
  (43, ⟨fun _ => laws_eqOp.d.K (laws_eqOp.F n)⟩),
  (44, ⟨fun _ => strconv_Itoa.d.K (strconv_Itoa.F n)⟩),
  (45, ⟨fun _ => impl_OpJson.d.K (impl_OpJson.F n)⟩),
  (46, ⟨fun _ => spec_l1Great.d.K (spec_l1Great.F n)⟩),
  (47, ⟨fun _ => spec_l2Quote.d.K (spec_l2Quote.F n)⟩),
  (48, ⟨fun _ => spec_OpOk.d.K (spec_OpOk.F n)⟩),
  (49, ⟨fun _ => spec_l4Names.d.K (spec_l4Names.F n)⟩),
  (50, ⟨fun _ => spec_WayText.d.K (spec_WayText.F n)⟩),
  (51, ⟨fun _ => spec_l1Put.d.K (spec_l1Put.F n)⟩),
  (52, ⟨fun _ => spec_l1Copy.d.K (spec_l1Copy.F n)⟩),
  (53, ⟨fun _ => impl_sizeIn.d.K (impl_sizeIn.F n)⟩),
  (54, ⟨fun _ => impl_quoted.d.K (impl_quoted.F n)⟩),
  (55, ⟨fun _ => strings_Join.d.K (strings_Join.F n)⟩),
  (57, ⟨fun _ => impl_OpOk.d.K (impl_OpOk.F n)⟩),
  (58, ⟨fun _ => impl_opNames.d.K (impl_opNames.F n)⟩),
  (59, ⟨fun _ => impl_WayText.d.K (impl_WayText.F n)⟩),
  (60, ⟨fun _ => impl_copyJson.d.K (impl_copyJson.F n)⟩),
  (61, ⟨fun _ => impl_orNull.d.K (impl_orNull.F n)⟩),
  (62, ⟨fun _ => spec_l1Text.d.K (spec_l1Text.F n)⟩),
  (63, ⟨fun _ => spec_l1Names.d.K (spec_l1Names.F n)⟩),
  (64, ⟨fun _ => impl_ownOk.d.K (impl_ownOk.F n)⟩),
  (69, ⟨fun _ => impl_textOk.d.K (impl_textOk.F n)⟩),
  (70, ⟨fun _ => strings_ReplaceAll.d.K (strings_ReplaceAll.F n)⟩),
  (71, ⟨fun _ => impl_copyTexts.d.K (impl_copyTexts.F n)⟩),
  (72, ⟨fun _ => impl_isNum.d.K (impl_isNum.F n)⟩),
  (73, ⟨fun _ => impl_namesOk.d.K (impl_namesOk.F n)⟩)]
def sigL : List (Nat × List PS) := [
  (4, laws_FnExactEventText.d.sig),
  (5, laws_szEvent.d.sig),
  (6, spec_EventOk.d.sig),
  (7, laws_toEvent.d.sig),
  (8, impl_EventOk.d.sig),
  (9, laws_eqEvent.d.sig),
  (10, spec_EventText.d.sig),
  (11, impl_EventText.d.sig),
  (12, laws_szJson.d.sig),
  (13, laws_szOpS.d.sig),
  (14, spec_l1In.d.sig),
  (15, spec_Encode.d.sig),
  (16, spec_l17Ops.d.sig),
  (17, spec_l1Same.d.sig),
  (18, laws_toJson.d.sig),
  (19, laws_toOpS.d.sig),
  (20, impl_isVersion.d.sig),
  (21, impl_Encode.d.sig),
  (22, impl_within.d.sig),
  (23, impl_isZero.d.sig),
  (24, impl_PatchSize.d.sig),
  (25, laws_eqJson.d.sig),
  (26, laws_eqOpS.d.sig),
  (27, spec_l2Digits.d.sig),
  (28, impl_digits.d.sig),
  (29, impl_opsJson.d.sig),
  (30, laws_szJsonS.d.sig),
  (31, laws_szStringS.d.sig),
  (32, laws_szOp.d.sig),
  (33, spec_JsonOk.d.sig),
  (34, spec_l2Encode.d.sig),
  (35, spec_OpJson.d.sig),
  (36, laws_toJsonS.d.sig),
  (37, laws_toStringS.d.sig),
  (38, laws_toOp.d.sig),
  (39, impl_JsonOk.d.sig),
  (40, impl_written.d.sig),
  (41, laws_eqJsonS.d.sig),
  (42, laws_eqStringS.d.sig),
  (43, laws_eqOp.d.sig),
  (44, strconv_Itoa.d.sig),
  (45, impl_OpJson.d.sig),
  (46, spec_l1Great.d.sig),
  (47, spec_l2Quote.d.sig),
  (48, spec_OpOk.d.sig),
  (49, spec_l4Names.d.sig),
  (50, spec_WayText.d.sig),
  (51, spec_l1Put.d.sig),
  (52, spec_l1Copy.d.sig),
  (53, impl_sizeIn.d.sig),
  (54, impl_quoted.d.sig),
  (55, strings_Join.d.sig),
  (57, impl_OpOk.d.sig),
  (58, impl_opNames.d.sig),
  (59, impl_WayText.d.sig),
  (60, impl_copyJson.d.sig),
  (61, impl_orNull.d.sig),
  (62, spec_l1Text.d.sig),
  (63, spec_l1Names.d.sig),
  (64, impl_ownOk.d.sig),
  (69, impl_textOk.d.sig),
  (70, strings_ReplaceAll.d.sig),
  (71, impl_copyTexts.d.sig),
  (72, impl_isNum.d.sig),
  (73, impl_namesOk.d.sig)]
def fzL : List Nat := [16, 29, 35, 45, 51, 61]
def cx (n nt : Nat) : Cx := ⟨nt, tt, fun f => look2 sigL f, KH (KL n), fun f => fzL.any (Nat.beq f)⟩
end Go.Pi
end
