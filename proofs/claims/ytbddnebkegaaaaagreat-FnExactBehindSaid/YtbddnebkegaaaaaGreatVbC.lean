/- The law FnExactBehind returns true at every input, and leaves its arguments as they were; no condition. Text 3 of 5. -/
import Derived.Test.YtbddnebkegaaaaaGreatVbB
import Derived.Deep.LoopGhost
import Derived.Scope
import Derived.Test.YtbddnebkegaaaaaGreatChecked
section
set_option linter.unusedVariables false
namespace Go.Pi
variable {ω : Type}
def namesAt (e : Nat) (x : X) (vs : List AV) : List Nat := close x.h 2 (addNew (List.range e) (vs.flatMap AV.refsD))
theorem namesAt_nodup (e : Nat) (x : X) (vs : List AV) : (namesAt e x vs).Nodup := (close_ok 2 _).1 (addNew_nodup _ _ List.nodup_range)
theorem namesAt_keep (e : Nat) (x : X) (vs : List AV) (k : Nat) (h : k < e) : (namesAt e x vs)[k]? = some k :=
  (close_ok 2 _).2 k k (addNew_keep _ _ k k (by simp [h]))
def look : List (Nat × Sh) → List AV → Nat → AV
  | p :: l, v :: vs, t => cond (Nat.beq p.1 t) v (look l vs t)
  | _, _, _ => .u
def St.ofC (live : List (Nat × Sh)) (vals : List AV) (blks : List (Option Blk)) : St := ⟨look live vals, X.ofL blks⟩
section
variable [Coding]
def cutK (e : Nat) (live : List (Nat × Sh)) (s : St) (κ : List AV → List (Option Blk) → Option ω) : Option ω :=
  coerces s.x 1000000 (live.map fun p => p.2) (live.map fun p => s.tmps p.1) fun x vs =>
    κ (vs.map (AV.renD (namesAt e x vs))) (renL 2 x (namesAt e x vs))
end
/-- the number of places that may be cut -/
def nc : Code → Nat
  | .seq a b => nc a + nc b + 1
  | .cond _ a b => nc a + nc b
  | .block _ a => nc a
  | .scope a => nc a
  | .loop a => nc a + 1
  | _ => 0
abbrev Live := List (Nat × Sh)
/-- what lives at a cut, behind a joint, at an exit -/
structure Ann where
  cut : Nat → Option Live
  nxt : Nat → Live
  out : Nat → Live
abbrev D (ω : Type) := List AV → List (Option Blk) → Option ω
abbrev LF (ω : Type) := Nat → D ω → (Nat → D ω) → D ω
inductive Piece where
  | loop (a : Code) (k : Nat)
  | tail (a : Code) (k : Nat)
/-- what stands at a cut -/
def pieceAt (ann : Ann) : Code → Nat → Nat → Option Piece
  | .seq a b, k, key => cond (Nat.beq key k) (some (.tail b (k + 1 + nc a))) (cond (Nat.blt key (k + 1 + nc a)) (pieceAt ann a (k + 1) key) (pieceAt ann b (k + 1 + nc a) key))
  | .cond _ a b, k, key => cond (Nat.blt key (k + nc a)) (pieceAt ann a k key) (pieceAt ann b (k + nc a) key)
  | .block _ a, k, key => pieceAt ann a k key
  | .scope a, k, key => pieceAt ann a k key
  | .loop a, k, key => cond (Nat.beq key k) (some (.loop a (k + 1))) (pieceAt ann a (k + 1) key)
  | _, _, _ => none
theorem piece_range {ann : Ann} : ∀ (C : Code) (k key : Nat) (p : Piece), pieceAt ann C k key = some p → k ≤ key ∧ key < k + nc C
  | .seq a b, k, key, p, h => by
    simp only [pieceAt] at h
    cases h1 : Nat.beq key k with
    | true => have := beq_iff.1 h1; simp only [nc]; omega
    | false =>
      rw [h1] at h
      simp only [cond_false] at h
      cases h2 : Nat.blt key (k + 1 + nc a) with
      | true => rw [h2] at h; have := piece_range a _ _ _ h; simp only [nc]; omega
      | false => rw [h2] at h; have := piece_range b _ _ _ h; simp only [nc]; omega
  | .cond o a b, k, key, p, h => by
    simp only [pieceAt] at h
    cases h2 : Nat.blt key (k + nc a) with
    | true => rw [h2] at h; have := piece_range a _ _ _ h; simp only [nc]; omega
    | false => rw [h2] at h; have := piece_range b _ _ _ h; simp only [nc]; omega
  | .block id a, k, key, p, h => by
    simp only [pieceAt] at h
    have := piece_range a _ _ _ h
    simp only [nc]; omega
  | .scope a, k, key, p, h => by
    simp only [pieceAt] at h
    have := piece_range a _ _ _ h
    simp only [nc]; omega
  | .loop a, k, key, p, h => by
    simp only [pieceAt] at h
    cases h1 : Nat.beq key k with
    | true => have := beq_iff.1 h1; simp only [nc]; omega
    | false =>
      rw [h1] at h
      have := piece_range a _ _ _ h
      simp only [nc]; omega
  | .skip, _, _, _, h => by simp [pieceAt] at h
  | .region .., _, _, _, h => by simp [pieceAt] at h
  | .rangeFunc .., _, _, _, h => by simp [pieceAt] at h
  | .exit .., _, _, _, h => by simp [pieceAt] at h
  | .label .., _, _, _, h => by simp [pieceAt] at h
  | .goto .., _, _, _, h => by simp [pieceAt] at h
  | .ret, _, _, _, h => by simp [pieceAt] at h
  | .refuse .., _, _, _, h => by simp [pieceAt] at h
section
variable [Coding]
def run (c : Cx) (e : Nat) (ann : Ann) (lf : LF ω) (κr : St → Option ω) : Code → Nat → (St → Option ω) → (Nat → St → Option ω) → St → Option ω
  | .seq a b, k, κn, κx, s => match ann.cut k with
    | some live => run c e ann lf κr a (k + 1) (fun s => cutK e live s (lf k (fun v b => κn (St.ofC (ann.nxt k) v b)) (fun j v b => κx j (St.ofC (ann.out j) v b)))) κx s
    | none => run c e ann lf κr a (k + 1) (fun s => run c e ann lf κr b (k + 1 + nc a) κn κx s) κx s
  | .cond o a b, k, κn, κx, s => match s.eval o with
    | .b t => cond t (run c e ann lf κr a k κn κx s) (run c e ann lf κr b (k + nc a) κn κx s)
    | _ => none
  | .block id a, k, κn, κx, s => run c e ann lf κr a k κn (fun j s => cond (Nat.beq j id) (κn s) (κx j s)) s
  | .scope a, k, κn, κx, s => run c e ann lf κr a k κn κx s
  | .loop _, k, _, κx, s => match ann.cut k with
    | some live => cutK e live s (lf k (fun _ _ => none) (fun j v b => κx j (St.ofC (ann.out j) v b)))
    | none => none
  | .region _ ops d, _, κn, _, s => regK c ops d s κn
  | .skip, _, κn, _, s => κn s
  | .exit id, _, _, κx, s => κx id s
  | .ret, _, _, _, s => κr s
  | _, _, _, _, _ => none
/-- so many rounds of a loop -/
def rounds (c : Cx) (e : Nat) (ann : Ann) (lf : LF ω) (κr : St → Option ω) (a : Code) (k : Nat) (live : Live) (κe : Nat → D ω) : Nat → D ω
  | 0, _, _ => none
  | n + 1, v, b => run c e ann lf κr a k (fun s => cutK e live s (rounds c e ann lf κr a k live κe n)) (fun j s => cutK e (ann.out j) s (κe j)) (St.ofC live v b)
/-- what a piece makes of the data at its cut -/
def pieceIs (c : Cx) (e : Nat) (ann : Ann) (lf : LF ω) (κr : St → Option ω) (key : Nat) (live : Live) (κd : D ω) (κe : Nat → D ω) (v : List AV) (b : List (Option Blk)) (r : ω) : Piece → Prop
  | .loop a k => ∃ n, rounds c e ann lf κr a k live κe n v b = some r
  | .tail a k => run c e ann lf κr a k (fun s => cutK e (ann.nxt key) s κd) (fun j s => cutK e (ann.out j) s (κe j)) (St.ofC live v b) = some r
end
variable [Coding]
open Coding
variable {E : Env} {w : World} {G : Ghost} {r : ω}
omit [Coding] in
theorem look_ok {P : AV → Value → Prop} {Q : AV → Prop} {a : Nat → Value} (hu : ∀ v, P .u v) (qu : Q .u) : ∀ {live : List (Nat × Sh)} {vals : List AV}, AllF P vals (live.map fun p => a p.1) → (∀ v ∈ vals, Q v) → ∀ t, P (look live vals t) (a t) ∧ Q (look live vals t)
  | [], [], _, _, t => ⟨hu _, qu⟩
  | [], _ :: _, h, _, _ => h.elim
  | _ :: _, [], h, _, _ => h.elim
  | p :: l, v :: vs, h, hq, t => by
    simp only [look]
    cases hb : Nat.beq p.1 t with
    | true => have := beq_iff.1 hb; subst this; exact ⟨h.1, hq v (List.mem_cons_self ..)⟩
    | false => exact look_ok hu qu h.2 (fun v hv => hq v (List.mem_cons_of_mem _ hv)) t
/-- a cut is sound -/
theorem cut_sound [CodingOk] {c : Cx} {s : St} {a : Act} {e : Nat} {x0 : X} {w0 : World} {G0 : Ghost} (h : Sim E c s a w G) (he : Ent e x0) (ev : Evo x0 w0 G0 s.x w G) {live : List (Nat × Sh)} {κ : List AV → List (Option Blk) → Option ω} (hk : cutK e live s κ = some r) :
    ∃ vals blks G', κ vals blks = some r ∧ Sim E c (St.ofC live vals blks) a w G' ∧ Evo x0 w0 G0 (X.ofL blks) w G' := by
  unfold cutK at hk
  have h1 : AllF (RT E w s.x G) (live.map fun p => s.tmps p.1) (live.map fun p => a.tmps.getD p.1 undef) := by
    clear hk
    induction live with
    | nil => trivial
    | cons p l ih => exact ⟨h.slot p.1, ih⟩
  obtain ⟨x1, G1, vs, k1, s1, v1, u1⟩ := coerces_sound _ _ _ _ _ _ _ h.mem h1 (fun v hv => by
    obtain ⟨p, _, rfl⟩ := List.mem_map.1 hv
    exact h.used p.1) hk
  refine ⟨_, _, G1.ren (namesAt e x1 vs), k1, ?_, (ev.trans s1.1).ren (by decide) he (namesAt_keep e x1 vs)⟩
  have h2 : AllF (fun a v => RT E w (X.ofL (renL 2 x1 (namesAt e x1 vs))) (G1.ren (namesAt e x1 vs)) a v) (vs.map (AV.renD (namesAt e x1 vs))) (live.map fun p => a.tmps.getD p.1 undef) := by
    clear k1
    generalize (live.map fun p => a.tmps.getD p.1 undef) = us at v1
    generalize namesAt e x1 vs = L
    induction vs generalizing us with
    | nil => cases us with
      | nil => trivial
      | cons => exact v1.elim
    | cons v vs ih => cases us with
      | nil => exact v1.elim
      | cons u us => exact ⟨(RT.ren v1.1).1, ih (fun a ha => u1 a (List.mem_cons_of_mem _ ha)) us v1.2⟩
  have h3 : ∀ v ∈ vs.map (AV.renD (namesAt e x1 vs)), Used (X.ofL (renL 2 x1 (namesAt e x1 vs))) v.refsT := by
    intro v hv
    obtain ⟨v0, hv0, rfl⟩ := List.mem_map.1 hv
    have : ∃ u, RT E w x1 G1 v0 u := by
      clear h2 hv h1
      generalize (live.map fun p => a.tmps.getD p.1 undef) = us at v1
      clear k1 u1
      induction vs generalizing us with
      | nil => cases hv0
      | cons v vs ih => cases us with
        | nil => exact v1.elim
        | cons u us =>
          rcases List.mem_cons.1 hv0 with rfl | hv0
          · exact ⟨u, v1.1⟩
          · exact ih hv0 us v1.2
    obtain ⟨u, hu⟩ := this
    exact (RT.ren hu).2
  have h4 := look_ok (P := RT E w (X.ofL (renL 2 x1 (namesAt e x1 vs))) (G1.ren (namesAt e x1 vs))) (Q := fun v => Used (X.ofL (renL 2 x1 (namesAt e x1 vs))) v.refsT) (a := fun t => a.tmps.getD t undef) (fun v => RT.scl trivial) used_nil h2 h3
  exact ⟨s1.2.ren (namesAt_nodup _ _ _), h.defers, h.size, fun t => (h4 t).1, fun t => (h4 t).2⟩
end Go.Pi
end
section
set_option linter.unusedVariables false
namespace Go.Pi
variable {ω : Type}
variable [Coding]
open Coding
variable {E : Env} {w : World} {G : Ghost} {r : ω}
structure Fix (ω : Type) where
  c : Cx
  e : Nat
  ann : Ann
  lf : LF ω
  κr : St → Option ω
  x0 : X
  w0 : World
  G0 : Ghost
/-- where a state has come -/
def Here (E : Env) (f : Fix ω) (r : ω) (κ : St → Option ω) (a : Act) (w : World) : Prop :=
  ∃ s G, κ s = some r ∧ Sim E f.c s a w G ∧ Evo f.x0 f.w0 f.G0 s.x w G
def Post (E : Env) (f : Fix ω) (r : ω) (κn : St → Option ω) (κx : Nat → St → Option ω) : Exit → Act → World → Prop
  | .normal, a, w => Here E f r κn a w
  | .exit id, a, w => Here E f r (κx id) a w
  | .ret, a, w => Here E f r f.κr a w
  | _, _, _ => False
structure FixOk (E : Env) (f : Fix ω) : Prop where
  cx : CxOk E f.c
  ent : Ent f.e f.x0
  par : KPar f.c
  mixed : E.P.follows .mixedOrders = true
theorem Here.cut [CodingOk] {f : Fix ω} (hf : FixOk E f) {live : Live} {κ : D ω} {a : Act} (h : Here E f r (fun s => cutK f.e live s κ) a w) :
    ∃ v b G, κ v b = some r ∧ Sim E f.c (St.ofC live v b) a w G ∧ Evo f.x0 f.w0 f.G0 (X.ofL b) w G := by
  obtain ⟨s, G, h1, h2, h3⟩ := h
  exact cut_sound h2 hf.ent h3 h1
/-- what the cuts' names stand for -/
def Cuts (c : Cx) (e : Nat) (ann : Ann) (lf : LF ω) (κr : St → Option ω) (B : Code) : Prop :=
  ∀ key κd κe v b (r : ω), lf key κd κe v b = some r → ∃ live p, ann.cut key = some live ∧ pieceAt ann B 0 key = some p ∧ pieceIs c e ann lf κr key live κd κe v b r p
theorem run_wp [CodingOk] {f : Fix ω} (hf : FixOk E f) {B : Code} (hcut : Cuts f.c f.e f.ann f.lf f.κr B) :
    ∀ (C : Code) (k : Nat) (κn : St → Option ω) (κx : Nat → St → Option ω),
      (∀ key p, pieceAt f.ann C k key = some p → pieceAt f.ann B 0 key = some p) →
      ∀ (s : St) (a : Act) (w : World) (G : Ghost), Sim E f.c s a w G → Evo f.x0 f.w0 f.G0 s.x w G → run f.c f.e f.ann f.lf f.κr C k κn κx s = some r → C.wp E.P (Post E f r κn κx) a w := by
  intro C
  induction C with
  | skip => intro k κn κx hl s a w G h ev hr; exact wp_skip ⟨s, G, hr, h, ev⟩
  | ret => intro k κn κx hl s a w G h ev hr; exact wp_ret ⟨s, G, hr, h, ev⟩
  | exit id => intro k κn κx hl s a w G h ev hr; exact wp_exit ⟨s, G, hr, h, ev⟩
  | rangeFunc => intro k κn κx hl s a w G h ev hr; cases hr
  | label => intro k κn κx hl s a w G h ev hr; cases hr
  | goto => intro k κn κx hl s a w G h ev hr; cases hr
  | refuse => intro k κn κx hl s a w G h ev hr; cases hr
  | region id ops d =>
    intro k κn κx hl s a w G h ev hr
    simp only [run] at hr
    exact reg_wp hf.cx hf.par hf.mixed h hr fun a' w' ⟨s', G', h1, h2, h3⟩ => ⟨s', G', h1, h2, ev.trans h3⟩
  | cond o A B' ihA ihB =>
    intro k κn κx hl s a w G h ev hr
    simp only [run] at hr
    have ho := (h.eval o).1
    revert hr ho
    cases ht : s.eval o <;> intro hr ho <;> (try (cases hr; done))
    rename_i t
    refine wp_cond ho.b ?_
    cases t with
    | true =>
      refine ihA k κn κx (fun key p hg => hl key p ?_) s a w G h ev hr
      have := piece_range _ _ _ _ hg
      simp only [pieceAt, blt_iff.2 this.2, cond_true]; exact hg
    | false =>
      refine ihB (k + nc A) κn κx (fun key p hg => hl key p ?_) s a w G h ev hr
      have := piece_range _ _ _ _ hg
      simp only [pieceAt, blt_no this.1, cond_false]; exact hg
  | block id A ih =>
    intro k κn κx hl s a w G h ev hr
    simp only [run] at hr
    refine wp_block (wp_mono (ih k κn (fun j s => cond (Nat.beq j id) (κn s) (κx j s)) (fun key p hg => hl key p hg) s a w G h ev hr) fun e a' w' hq => ?_)
    cases e <;> simp only [Post, Exit.inBlock] at hq ⊢ <;> (try exact hq)
    rename_i j
    by_cases e : j = id
    · subst e
      simp only [Nat.beq_refl, cond_true] at hq
      rw [if_pos rfl]; exact hq
    · simp only [beq_no e, cond_false] at hq
      rw [if_neg e]; exact hq
  | scope A ih =>
    intro k κn κx hl s a w G h ev hr
    simp only [run] at hr
    refine wp_scope_straight (wp_mono (ih k κn κx (fun key p hg => hl key p hg) s a w G h ev hr) fun e a' w' hq => ?_)
    cases e <;> first | exact hq | exact hq.elim
  | seq A B' ihA ihB =>
    intro k κn κx hl s a w G h ev hr
    simp only [run] at hr
    have hA : ∀ key p, pieceAt f.ann A (k + 1) key = some p → pieceAt f.ann B 0 key = some p := fun key p hg => hl key p (by
      have := piece_range _ _ _ _ hg
      simp only [pieceAt, beq_no (show key ≠ k by omega), blt_iff.2 this.2, cond_true, cond_false]; exact hg)
    have hB : ∀ key p, pieceAt f.ann B' (k + 1 + nc A) key = some p → pieceAt f.ann B 0 key = some p := fun key p hg => hl key p (by
      have := piece_range _ _ _ _ hg
      simp only [pieceAt, beq_no (show key ≠ k by omega), blt_no this.1, cond_false]; exact hg)
    cases ha : f.ann.cut k with
    | none =>
      rw [ha] at hr
      refine wp_seq (wp_mono (ihA (k + 1) _ κx hA s a w G h ev hr) fun e a' w' hq => ?_)
      cases e <;> simp only [Exit.then] <;> (try exact hq)
      obtain ⟨s1, G1, k1, k2, k3⟩ := hq
      exact ihB (k + 1 + nc A) κn κx hB s1 a' w' G1 k2 k3 k1
    | some live =>
      rw [ha] at hr
      refine wp_seq (wp_mono (ihA (k + 1) _ κx hA s a w G h ev hr) fun e a' w' hq => ?_)
      cases e <;> simp only [Exit.then] <;> (try exact hq)
      obtain ⟨v, b, G2, j1, j2, j3⟩ := Here.cut hf hq
      obtain ⟨live', p, e1, e2, e3⟩ := hcut _ _ _ _ _ _ j1
      rw [ha] at e1
      cases e1
      have := hl k (.tail B' (k + 1 + nc A)) (by simp only [pieceAt, Nat.beq_refl, cond_true])
      rw [this] at e2
      cases e2
      refine wp_mono (ihB (k + 1 + nc A) _ _ hB _ a' w' G2 j2 j3 e3) fun e a2 w2 hq2 => ?_
      cases e <;> simp only [Post] at hq2 ⊢ <;> (try exact hq2)
      · obtain ⟨v, b, G3, i1, i2, i3⟩ := Here.cut hf hq2
        exact ⟨_, G3, i1, i2, i3⟩
      · obtain ⟨v, b, G3, i1, i2, i3⟩ := Here.cut hf hq2
        exact ⟨_, G3, i1, i2, i3⟩
  | loop A ih =>
    intro k κn κx hl s a w G h ev hr
    simp only [run] at hr
    cases ha : f.ann.cut k with
    | none => rw [ha] at hr; cases hr
    | some live =>
      rw [ha] at hr
      obtain ⟨v, b, G2, j1, j2, j3⟩ := cut_sound h hf.ent ev hr
      obtain ⟨live', p, e1, e2, e3⟩ := hcut _ _ _ _ _ _ j1
      rw [ha] at e1
      cases e1
      have := hl k (.loop A (k + 1)) (by simp only [pieceAt, Nat.beq_refl, cond_true])
      rw [this] at e2
      cases e2
      obtain ⟨N, hN⟩ := e3
      have hA : ∀ key p, pieceAt f.ann A (k + 1) key = some p → pieceAt f.ann B 0 key = some p := fun key p hg => hl key p (by
        have := piece_range _ _ _ _ hg
        simp only [pieceAt, beq_no (show key ≠ k by omega), cond_false]; exact hg)
      refine wp_loop_ghost (fun n a w => ∃ v b G, rounds f.c f.e f.ann f.lf f.κr A (k + 1) live (fun j v b => κx j (St.ofC (f.ann.out j) v b)) n v b = some r ∧ Sim E f.c (St.ofC live v b) a w G ∧ Evo f.x0 f.w0 f.G0 (X.ofL b) w G) N ⟨v, b, G2, hN, j2, j3⟩ fun n a w ⟨v, b, G, j1, j2, j3⟩ => ?_
      cases n with
      | zero => cases j1
      | succ n =>
        refine wp_mono (ih (k + 1) _ _ hA _ a w G j2 j3 j1) fun e a' w' hq => ?_
        cases e <;> simp only [Exit.then, Post] at hq ⊢ <;> (try exact hq)
        · obtain ⟨v, b, G3, i1, i2, i3⟩ := Here.cut hf hq
          exact ⟨n, Nat.lt_succ_self n, v, b, G3, i1, i2, i3⟩
        · obtain ⟨v, b, G3, i1, i2, i3⟩ := Here.cut hf hq
          exact ⟨_, G3, i1, i2, i3⟩
end Go.Pi
end
section
set_option linter.unusedVariables false
namespace Go.Pi
/-! ### A function: how it begins, how it ends -/
variable {ω : Type}
/-- the state in which a call begins: root 0 stands for all that others own -/
def xStart : X := ⟨fun r => cond (Nat.beq r 0) (some .ext) none, fun r => cond (Nat.beq r 0) true (Nat.beq r 1000003)⟩
mutual
/-- the memory that a call writes to for its caller -/
def outOf : PS → AV → Option (List AV)
  | .mu, .rt r => some [.rt r]
  | .ptr _, .pb r off => some [.pb r off]
  | .ag ps, .ag cs => outOfAll ps cs
  | .v, _ => some []
  | .o, _ => some []
  | _, _ => none
def outOfAll : List PS → List AV → Option (List AV)
  | p :: ps, a :: az => match outOf p a with
    | some l => match outOfAll ps az with
      | some l' => some (l ++ l')
      | none => none
    | none => none
  | [], [] => some []
  | _, _ => none
end
def entryK (e : Nat) (avs : List AV) (κ : D ω) : Option ω :=
  takenAll 0 xStart 1 avs fun x k az => cond (Nat.beq k e) (match x.h 0 with
    | some .ext => κ (az.map (AV.renD (List.range e))) (renL 1 x (List.range e))
    | _ => none) none
def rvOf (nres : Nat) (out : List AV) : AV := cond (Nat.beq nres 1) (out.headD .u) (.tu (out.take nres))
def live0 (n : Nat) : Live := (List.range n).map fun i => (i, .k)
section
variable [Coding]
def resOf (c : Cx) (s : St) : List ResultVar → Option (List AV)
  | [] => some []
  | .tmp t :: l => match resOf c s l with
    | some vs => some (s.tmps t :: vs)
    | none => none
  | .cell t T :: l => match c.tt T with
    | some td => match s.tmps t with
      | .pb q off => match s.x.h q with
        | some (.box bs) => cond (Nat.beq ((bs.drop off).take td.size).length td.size && ((bs.drop off).take td.size).all AV.cel) (match resOf c s l with
          | some vs => some (td.val ((bs.drop off).take td.size) :: vs)
          | none => none) none
        | _ => none
      | _ => none
    | none => none
def retK (c : Cx) (rsh : List Sh) (rps : List PS) (rs : List ResultVar) (outs : List AV) (fin : List AV → Option ω) (s : St) : Option ω :=
  match resOf c s rs with
  | none => none
  | some vs0 => coerces s.x 2000000 rsh (vs0 ++ outs) fun x vs => match handedAll x rps vs with
    | some (x3, avs, _, []) => match x3.h 0 with
      | some .ext => fin avs
      | _ => none
    | _ => none
end
variable [Coding]
open Coding
variable {E : Env} {w : World} {G : Ghost} {r : ω}
theorem out_aux [CodingOk] {x : X} : ∀ n : Nat,
    (∀ (p : PS) (a : AV) (v : Value) (os : List AV), SizeOf.sizeOf p < n → RT E w x G a v → Used x a.refsT → outOf p a = some os → AllF (RT E w x G) os (PS.outs p v) ∧ ∀ o ∈ os, Used x o.refsT) ∧
    (∀ (ps : List PS) (az : List AV) (vs : List Value) (os : List AV), SizeOf.sizeOf ps < n → AllF (RT E w x G) az vs → (∀ a ∈ az, Used x a.refsT) → outOfAll ps az = some os → AllF (RT E w x G) os (PS.outsAll ps vs) ∧ ∀ o ∈ os, Used x o.refsT) := by
  intro n
  induction n with
  | zero => exact ⟨fun _ _ _ _ h => absurd h (Nat.not_lt_zero _), fun _ _ _ _ h => absurd h (Nat.not_lt_zero _)⟩
  | succ n ih =>
    refine ⟨fun p a v os hn hv hu h => ?_, fun ps az vs os hn hv hu h => ?_⟩
    · cases p with
      | v => simp only [outOf, Option.some.injEq] at h; subst h; exact ⟨by simp only [PS.outs]; trivial, fun o ho => by cases ho⟩
      | o => simp only [outOf, Option.some.injEq] at h; subst h; exact ⟨by simp only [PS.outs]; trivial, fun o ho => by cases ho⟩
      | mu =>
        cases a <;> simp only [outOf] at h <;> (try (cases h; done))
        cases h
        exact ⟨by simp only [PS.outs]; exact ⟨hv, trivial⟩, fun o ho => by rw [List.mem_singleton] at ho; subst ho; exact hu⟩
      | ptr ps =>
        cases a <;> simp only [outOf] at h <;> (try (cases h; done))
        cases h
        exact ⟨by simp only [PS.outs]; exact ⟨hv, trivial⟩, fun o ho => by rw [List.mem_singleton] at ho; subst ho; exact hu⟩
      | ag ps =>
        cases a <;> simp only [outOf] at h <;> (try (cases h; done))
        rename_i cs
        obtain ⟨us, rfl, hall⟩ := hv.ag
        simp only [PS.outs]
        refine ih.2 ps cs us os (by simp at hn; omega) (hall.mono fun a v _ h => h.flat) (fun a ha => ?_) h
        have : ∃ v, RF E w x G a v := by
          clear hv hu h
          induction cs generalizing us with
          | nil => cases ha
          | cons c cs ih2 => cases us with
            | nil => exact hall.elim
            | cons u us =>
              rcases List.mem_cons.1 ha with rfl | ha
              · exact ⟨u, hall.1⟩
              · exact ih2 us hall.2 ha
        obtain ⟨v, hv'⟩ := this
        have hu' : Used x (cs.flatMap AV.refs) := hu
        exact hv'.refsT (hu'.mem ha)
    · cases ps with
      | nil =>
        cases az with
        | cons => simp [outOfAll] at h
        | nil =>
          cases vs with
          | cons => exact hv.elim
          | nil =>
            simp only [outOfAll, Option.some.injEq] at h
            subst h
            exact ⟨by simp only [PS.outsAll]; trivial, fun o ho => by cases ho⟩
      | cons p ps =>
        cases az with
        | nil => simp [outOfAll] at h
        | cons a az =>
          cases vs with
          | nil => exact hv.elim
          | cons v vs =>
            simp only [outOfAll] at h
            cases h1 : outOf p a with
            | none => rw [h1] at h; cases h
            | some l =>
              rw [h1] at h
              simp only at h
              cases h2 : outOfAll ps az with
              | none => rw [h2] at h; cases h
              | some l' =>
                rw [h2] at h
                simp only [Option.some.injEq] at h
                subst h
                obtain ⟨k1, k2⟩ := ih.1 p a v l (by simp at hn; omega) hv.1 (hu a (List.mem_cons_self ..)) h1
                obtain ⟨j1, j2⟩ := ih.2 ps az vs l' (by simp at hn; omega) hv.2 (fun a ha => hu a (List.mem_cons_of_mem _ ha)) h2
                simp only [PS.outsAll]
                exact ⟨k1.append j1, fun o ho => (List.mem_append.1 ho).elim (k2 o) (j2 o)⟩
theorem out_ok [CodingOk] {x : X} {ps : List PS} {az : List AV} {vs : List Value} {os : List AV} (hv : AllF (RT E w x G) az vs) (hu : ∀ a ∈ az, Used x a.refsT) (h : outOfAll ps az = some os) :
    AllF (RT E w x G) os (PS.outsAll ps vs) ∧ ∀ o ∈ os, Used x o.refsT := (out_aux (SizeOf.sizeOf ps + 1)).2 ps az vs os (Nat.lt_succ_self _) hv hu h
/-- how a call begins -/
structure Began (E : Env) (w : World) (F : Nat → Prop) (φ : Nat → Nat) (e : Nat) (Vs : List Value) (v : List AV) (b : List (Option Blk)) (G : Ghost) : Prop where
  mem : Mem E (X.ofL b) w G
  ent : Ent e (X.ofL b)
  slots : AllF (RT E w (X.ofL b) G) v Vs
  used : ∀ a ∈ v, Used (X.ofL b) a.refsT
  ext : ∀ c, G.φ 0 c ≠ 0 ↔ (F c ∧ φ c = 0)
  ext0 : (X.ofL b).h 0 = some .ext
  inF : ∀ c, Fof (X.ofL b) G c → F c
  u0 : (X.ofL b).u 0 = true
theorem entry_ok [CodingOk] {e : Nat} (he : 0 < e) {F : Nat → Prop} {avs : List AV} {Vs : List Value} {φ : Nat → Nat} (hrl : RL E w F avs Vs φ) (h1 : ∀ b, φ b ≤ 1) (hlow : ∀ b, F b → b < w.heap.size) {κ : D ω} (h : entryK e avs κ = some r) :
    ∃ v b G, κ v b = some r ∧ Began E w F φ e Vs v b G := by
  classical
  let G : Ghost := ⟨fun _ => undef, fun _ => [], fun r b => if r = 0 then (if F b ∧ φ b = 0 then 1 else 0) else if r = 1000003 then (if F b then 1 else 0) else 0, fun _ => 0⟩
  let x0 : X := ⟨fun r => cond (Nat.beq r 1000003) (some .ext) none, fun r => Nat.beq r 1000003⟩
  have hx : ∀ r blk, xStart.h r = some blk → r = 0 ∧ blk = .ext := by
    intro r blk hr
    simp only [xStart] at hr
    cases hb : Nat.beq r 0 with
    | false => rw [hb] at hr; cases hr
    | true => rw [hb] at hr; exact ⟨beq_iff.1 hb, (Option.some.inj hr).symm⟩
  have hfof : ∀ b, Fof xStart G b ↔ F b ∧ φ b = 0 := by
    intro b
    constructor
    · rintro ⟨r, blk, k1, k2⟩
      obtain ⟨rfl, rfl⟩ := hx r blk k1
      simp only [G, if_true] at k2
      by_cases hc : F b ∧ φ b = 0
      · exact hc
      · rw [if_neg hc] at k2; exact absurd rfl k2
    · intro hc
      exact ⟨0, .ext, rfl, by simp only [G, if_true]; rw [if_pos hc]; decide⟩
  have hfof0 : ∀ b, F b → Fof x0 G b := fun b hb => ⟨1000003, .ext, by simp [x0], by simp [G, hb]⟩
  have hφF : ∀ b, φ b ≠ 0 → F b := fun b hb => (hrl.low b hb).1
  have hA : After E x0 w G xStart xStart w G F (fun b => φ b + 0) := by
    refine ⟨⟨rfl, rfl, rfl, Nat.le_refl _, fun _ _ _ => rfl, fun b hb hF => hfof0 b ((hfof b).1 hF).1, fun r hr => ?_, fun r blk' hu hr => ?_, fun r b hu hr => ?_⟩, fun b hb => ((hfof b).1 hb).1, fun b hb => hφF b (by omega), fun b hb hF => ?_, fun b => by have := h1 b; omega, fun b hb _ => hfof0 b (hφF b (by omega)), fun b hb => (hrl.low b (by omega)).2, fun b hb => ?_, fun r blk hr => ?_, fun r blk hr => ?_, fun r r' blk blk' b k1 k2 _ _ => ?_⟩
    · have := beq_iff.1 (show Nat.beq r 1000003 = true from hr)
      subst this
      simp [xStart]
    · have := beq_iff.1 (show Nat.beq r 1000003 = true from hu)
      subst this
      have := (hx _ _ hr).1
      omega
    · have := beq_iff.1 (show Nat.beq r 1000003 = true from hu)
      subst this
      have := (hx _ _ hr).1
      omega
    · have := ((hfof b).1 hF).2; omega
    · by_cases hc : φ b = 0
      · exact .inl ((hfof b).2 ⟨hb, hc⟩)
      · exact .inr (by omega)
    · exact .inl ⟨hr, rfl, rfl, rfl, fun _ => rfl⟩
    · obtain ⟨rfl, rfl⟩ := hx r blk hr
      rfl
    · rw [(hx _ _ k1).1, (hx _ _ k2).1]
  unfold entryK at h
  obtain ⟨x', G', k', as', hk, hA', hv, _⟩ := (taken_aux 0 (SizeOf.sizeOf avs + 1)).2 avs 1 xStart G (fun _ => 0) φ Vs ω _ r (Nat.lt_succ_self _) hrl (hA.congr fun b => rfl) h
  cases hke : Nat.beq k' e with
  | false => rw [hke] at hk; cases hk
  | true =>
    rw [hke] at hk
    simp only [cond_true] at hk
    cases hx0 : x'.h 0 with
    | none => rw [hx0] at hk; cases hk
    | some blk =>
      rw [hx0] at hk
      cases blk with
      | box => cases hk
      | arr => cases hk
      | ext =>
        simp only at hk
        have hroot0 : ∀ b, G'.φ 0 b = G.φ 0 b := by
          rcases hA'.roots 0 _ hx0 with ⟨_, _, _, _, k⟩ | ⟨k, _⟩
          · exact k
          · exact k.elim
        have hM : Mem E x' w G' := by
          refine ⟨fun r blk hr => ?_, hA'.used, fun r blk b hr => ?_, fun r blk b hr hb => ?_, hA'.sep⟩
          · rcases hA'.roots r blk hr with ⟨k1, _⟩ | ⟨k1, _⟩
            · obtain ⟨rfl, rfl⟩ := hx r blk k1
              trivial
            · exact k1.ok hA'.inF hr
          · rcases hA'.roots r blk hr with ⟨k1, _, _, _, k5⟩ | ⟨_, k2⟩
            · obtain ⟨rfl, rfl⟩ := hx r blk k1
              rw [k5]
              simp only [G, if_true]
              split <;> omega
            · exact (k2 b).1
          · exact hlow b (hA'.inF b ⟨r, blk, hr, hb⟩)
        have hL : ∀ k, k < e → (List.range e)[k]? = some k := fun k hk => by simp [hk]
        have hget0 : (List.range e).getD 0 0 = 0 := by
          have := hL 0 he
          simp [List.getD, this]
        refine ⟨_, _, G'.ren (List.range e), hk, hM.ren List.nodup_range, ⟨fun r hr => ?_, fun r m t st xs hr => ?_⟩, ?_, ?_, fun c => ?_, ?_, fun c hc => hA'.inF c (ofL_fof hc), ?_⟩
        · have := ofL_u.1 hr
          simpa using this
        · obtain ⟨r', b0, e1, e2, e3, e4⟩ := ofL_h hr
          cases b0 <;> simp only [Blk.ren] at e4 <;> (try (cases e4; done))
          simp only [Blk.arr.injEq] at e4
          exact e4.2.2.1
        · have h5 : AllF (RT E w x' G') as' Vs := hv.mono fun a v _ h => h.rt hA'.inF
          clear hk hv h
          induction as' generalizing Vs with
          | nil => cases Vs with
            | nil => trivial
            | cons => exact h5.elim
          | cons a az ih => cases Vs with
            | nil => exact h5.elim
            | cons u us => exact ⟨(RT.ren h5.1).1, by
                clear ih
                have h6 := h5.2
                clear h5 hrl
                induction az generalizing us with
                | nil => cases us with
                  | nil => trivial
                  | cons => exact h6.elim
                | cons a az ih => cases us with
                  | nil => exact h6.elim
                  | cons u us => exact ⟨(RT.ren h6.1).1, ih us h6.2⟩⟩
        · intro a ha
          obtain ⟨a0, ha0, rfl⟩ := List.mem_map.1 ha
          have h5 : AllF (RT E w x' G') as' Vs := hv.mono fun a v _ h => h.rt hA'.inF
          have : ∀ {az : List AV} {us : List Value}, AllF (RT E w x' G') az us → a0 ∈ az → ∃ u, RT E w x' G' a0 u := by
            intro az
            induction az with
            | nil => intro us _ h; cases h
            | cons a az ih =>
              intro us h hm
              cases us with
              | nil => exact h.elim
              | cons u us =>
                rcases List.mem_cons.1 hm with rfl | hm
                · exact ⟨u, h.1⟩
                · exact ih h.2 hm
          obtain ⟨u, hu⟩ := this h5 ha0
          exact (RT.ren hu).2
        · simp only [Ghost.ren, hget0]
          rw [hroot0]
          simp only [G, if_true]
          constructor
          · intro h
            by_cases hc : F c ∧ φ c = 0
            · exact hc
            · rw [if_neg hc] at h; exact absurd rfl h
          · intro hc; rw [if_pos hc]; decide
        · have := hL 0 he
          simp only [X.ofL, renL, List.getElem?_map, this, Option.map_some, hx0, Blk.ren]
        · exact ofL_u.2 (by simpa using he)
end Go.Pi
end
section
set_option linter.unusedVariables false
namespace Go.Pi
variable {ω : Type}
def AV.sameRoot : AV → AV → Bool
  | .rt p, .rt q => Nat.beq p q
  | .pb p j, .pb q j' => Nat.beq p q && Nat.beq j j'
  | _, _ => false
def AV.allRoots : List AV → List AV → Bool
  | [], [] => true
  | p :: l, q :: r => AV.sameRoot p q && AV.allRoots l r
  | _, _ => false
theorem sameRoot_eq {a b : AV} (h : AV.sameRoot a b = true) : a = b := by
  cases a <;> cases b <;> simp only [AV.sameRoot] at h <;> (try (cases h; done))
  · have := beq_iff.1 h; subst this; rfl
  · simp only [Bool.and_eq_true] at h
    have := beq_iff.1 h.1; have := beq_iff.1 h.2; subst_vars; rfl
theorem allRoots_eq : ∀ {l r : List AV}, AV.allRoots l r = true → l = r
  | [], [], _ => rfl
  | a :: l, b :: r, h => by
    simp only [AV.allRoots, Bool.and_eq_true] at h
    rw [sameRoot_eq h.1, allRoots_eq h.2]
  | [], _ :: _, h => by simp [AV.allRoots] at h
  | _ :: _, [], h => by simp [AV.allRoots] at h
variable [Coding]
open Coding
variable {E : Env} {w : World} {G : Ghost} {r : ω}
theorem res_ok [CodingOk] {c : Cx} (hc : CxOk E c) {s : St} {a : Act} (h : Sim E c s a w G) {g : ResultVar → Sem Value} (hg : ∀ t, g (.tmp t) = pure (a.tmps.getD t undef))
    (hg' : ∀ t T, g (.cell t T) = (asAddr (a.tmps.getD t undef) >>= fun l => loadVar T l)) : ∀ (rs : List ResultVar) (vs : List AV), resOf c s rs = some vs →
    ∃ Vs, Vs.length = rs.length ∧ AllF (RT E w s.x G) vs Vs ∧ (∀ v ∈ vs, Used s.x v.refsT) ∧ (List.mapM g rs).run E.P w = .ok Vs w
  | [], vs, hr => by
    simp only [resOf, Option.some.injEq] at hr
    subst hr
    exact ⟨[], rfl, trivial, fun v hv => (by cases hv), rfl⟩
  | .tmp t :: rs, vs, hr => by
    simp only [resOf] at hr
    cases h1 : resOf c s rs with
    | none => rw [h1] at hr; cases hr
    | some vs1 =>
      rw [h1] at hr
      simp only [Option.some.injEq] at hr
      subst hr
      obtain ⟨Vs, k1, k2, k3, k4⟩ := res_ok hc h hg hg' rs vs1 h1
      refine ⟨_ :: Vs, by simp [k1], ⟨h.slot t, k2⟩, fun v hv => ?_, ?_⟩
      · rcases List.mem_cons.1 hv with rfl | hv
        · exact h.used t
        · exact k3 v hv
      · simp only [List.mapM_cons, Sem.run_bind, Sem.run_pure, Result.andThen_ok, k4, hg]
  | .cell t T :: rs, vs, hr => by
    simp only [resOf] at hr
    cases ht : c.tt T with
    | none => rw [ht] at hr; cases hr
    | some td =>
      rw [ht] at hr
      simp only at hr
      have hs := h.slot t
      have hu := h.used t
      cases hp : s.tmps t <;> rw [hp] at hr hs hu <;> (try (cases hr; done))
      rename_i q off
      simp only at hr
      cases hq : s.x.h q with
      | none => rw [hq] at hr; cases hr
      | some blk =>
        rw [hq] at hr
        cases blk with
        | arr => cases hr
        | ext => cases hr
        | box bs =>
          simp only at hr
          obtain ⟨h1, h2⟩ := cond_some hr
          simp only [Bool.and_eq_true] at h1
          cases h3 : resOf c s rs with
          | none => rw [h3] at h2; cases h2
          | some vs1 =>
            rw [h3] at h2
            simp only [Option.some.injEq] at h2
            subst h2
            obtain ⟨Vs, k1, k2, k3, k4⟩ := res_ok hc h hg hg' rs vs1 h3
            have hf := hs.rf (by intro cs e; cases e) (by intro cs e; cases e) (by intro f cs e; cases e)
            have hV := hf.2 bs hq
            obtain ⟨⟨cur, T', hcur, hall⟩, hφ, hus⟩ := h.mem.root q _ hq
            have htd := (hc.tt T).ok td ht
            have hl := beq_iff.1 h1.1
            have hall' := (hall.drop off).take td.size
            have hr' := rangeAt_part (rangeAt_cells hcur) off td.size
            rw [Nat.zero_add] at hr'
            have hus' : Used s.x (((bs.drop off).take td.size).flatMap AV.refs) := by
              intro z hz
              obtain ⟨c, hc1, hc2⟩ := List.mem_flatMap.1 hz
              exact hus z (List.mem_flatMap.2 ⟨c, List.mem_of_mem_drop (List.mem_of_mem_take hc1), hc2⟩)
            refine ⟨_ :: Vs, by simp [k1], ⟨RT.val htd hall' hl, k2⟩, fun v hv => ?_, ?_⟩
            · rcases List.mem_cons.1 hv with rfl | hv
              · exact used_val hus' h1.2
              · exact k3 v hv
            · have := run_loadVar htd hr' (hall'.len.trans hl)
              simp only [List.mapM_cons, Sem.run_bind, Sem.run_pure, Result.andThen_ok, k4, hg', hV, asAddr, this]
def resVal (vs : List Value) : Value := if vs.length = 1 then vs.headD undef else .tuple (List.toArray vs)
theorem run_results [CodingOk] {c : Cx} (hc : CxOk E c) {s : St} {a : Act} (h : Sim E c s a w G) {fn : Func} {rs : List ResultVar} {vs : List AV} (hr : fn.results = List.toArray rs) (hv : resOf c s rs = some vs) :
    ∃ Vs, Vs.length = rs.length ∧ AllF (RT E w s.x G) vs Vs ∧ (∀ v ∈ vs, Used s.x v.refsT) ∧ (results fn a.tmps).run E.P w = .ok (resVal Vs) w := by
  unfold results
  rw [hr]
  simp only [List.mapM_toArray, Sem.run_bind, Sem.run_map, Sem.run_pure]
  suffices ∀ g : ResultVar → Sem Value, (∀ t, g (.tmp t) = pure (a.tmps.getD t undef)) → (∀ t T, g (.cell t T) = (asAddr (a.tmps.getD t undef) >>= fun l => loadVar T l)) →
      ∃ Vs : List Value, Vs.length = rs.length ∧ AllF (RT E w s.x G) vs Vs ∧ (∀ v ∈ vs, Used s.x v.refsT) ∧ ((((List.mapM g rs).run E.P w).andThen fun a w' => Result.ok a.toArray w').andThen fun a w' => Result.ok (if h : a.size = 1 then a[0] else Value.tuple a) w') = .ok (resVal Vs) w from
    this _ (fun t => rfl) (fun t T => rfl)
  intro g hg hg'
  obtain ⟨Vs, k1, k2, k3, k4⟩ := res_ok hc h hg hg' rs vs hv
  refine ⟨Vs, k1, k2, k3, ?_⟩
  rw [k4]
  simp only [Result.andThen_ok, resVal, List.size_toArray]
  congr 1
  split
  · rename_i h1
    obtain ⟨v, hv⟩ := List.length_eq_one_iff.1 h1
    subst hv
    rfl
  · rfl
/-- the values of a call's results, and what it wrote -/
theorem rl_results {F : Nat → Prop} {out : List AV} {vs os : List Value} {φ : Nat → Nat} (h : RL E w F out (vs ++ os) φ) : RL E w F (rvOf vs.length out :: out.drop vs.length) (resVal vs :: os) φ := by
  have hl := h.length
  have e : out = out.take vs.length ++ out.drop vs.length := (List.take_append_drop _ _).symm
  rw [e] at h
  obtain ⟨us, us', φ₁, φ₂, e1, h1, h2, h3⟩ := RL.split h
  have l1 : us.length = vs.length := by rw [← h1.length, List.length_take]; simp at hl; omega
  obtain ⟨rfl, rfl⟩ := List.append_inj e1.symm l1
  unfold rvOf resVal
  by_cases hc : us.length = 1
  · rw [hc] at h1 ⊢
    simp only [if_true]
    cases us with
    | nil => cases hc
    | cons u us =>
      cases us with
      | cons => simp at hc
      | nil =>
        have : ∃ a, out.take 1 = [a] ∧ out.headD .u = a := by
          cases out with
          | nil => simp at hl
          | cons a l => exact ⟨a, rfl, rfl⟩
        obtain ⟨a, e2, e3⟩ := this
        rw [e2] at h1
        show RL E w F (cond (Nat.beq 1 1) (out.headD .u) _ :: _) (u :: _) φ
        rw [e3]
        exact h1.cons h2 h3
  · rw [if_neg hc, beq_no hc, cond_false]
    exact .tu _ us φ₁ _ _ φ₂ _ h1 h2 h3
/-- what a function owes, out of what its code makes -/
theorem fn_sound [CodingOk] {c : Cx} (hc : CxOk E c) (hK : KPar c) (hm : E.P.follows .mixedOrders = true) {f : FuncId} {fn : Func} {B : Code} (hfn : E.P.funcs[f]? = some fn) (hbody : fn.body = some B) {rs : List ResultVar} (hres : fn.results = List.toArray rs) (hnt : fn.ntmps = c.nt)
    {e : Nat} (he : 0 < e) {ann : Ann} {lf : LF ω} {rsh : List Sh} {rps ps : List PS} {outs : List AV} {fin : List AV → Option ω} {inj : ω → List AV} (hfin : ∀ o r, fin o = some r → o = inj r)
    {avs : List AV} (hn : Nat.ble avs.length c.nt = true)
    (hrun : entryK e avs (fun v b => match outOfAll ps v with
      | some o => cond (AV.allRoots o outs) (run c e ann lf (retK c rsh rps rs outs fin) B 0 (retK c rsh rps rs outs fin) (fun _ _ => none) (St.ofC (live0 avs.length) v b)) none
      | none => none) = some r)
    (hcut : Cuts c e ann lf (retK c rsh rps rs outs fin) B) :
    CallOk E f avs (rvOf rs.length (inj r)) ((inj r).drop rs.length) ps := by
  intro w F Vs φ hrl h1 hlow
  obtain ⟨v, b, G, hk, hB⟩ := entry_ok he hrl h1 hlow hrun
  cases ho : outOfAll ps v with
  | none => rw [ho] at hk; cases hk
  | some o =>
    rw [ho] at hk
    simp only at hk
    cases har : AV.allRoots o outs with
    | false => rw [har] at hk; cases hk
    | true =>
      rw [har] at hk
      simp only [cond_true] at hk
      have := allRoots_eq har
      subst this
      obtain ⟨hO1, hO2⟩ := out_ok hB.slots hB.used ho
      have hlen : Vs.length = avs.length := hrl.length.symm
      have hnle : avs.length ≤ c.nt := Nat.le_of_ble_eq_true hn
      let a0 : Act := { tmps := List.toArray Vs ++ Array.replicate (fn.ntmps - (List.toArray Vs).size) undef, defers := [] }
      have hget : (live0 avs.length).map (fun p => a0.tmps.getD p.1 undef) = Vs := by
        apply List.ext_getElem?
        intro i
        simp only [live0, List.map_map, List.getElem?_map]
        by_cases hi : i < avs.length
        · have hi' : i < Vs.length := by omega
          simp [a0, hi, hi']
          rw [Array.getElem?_append_left (by simpa using hi')]
          simp [hi']
        · simp [hi, show Vs.length ≤ i by omega]
      have hsl := look_ok (P := RT E w (X.ofL b) G) (Q := fun v => Used (X.ofL b) v.refsT) (a := fun t => a0.tmps.getD t undef) (fun v => RT.scl trivial) used_nil (live := live0 avs.length) (vals := v) (by rw [hget]; exact hB.slots) hB.used
      have hsim : Sim E c (St.ofC (live0 avs.length) v b) a0 w G := ⟨hB.mem, rfl, by simp [a0, hnt]; omega, fun t => (hsl t).1, fun t => (hsl t).2⟩
      have hwp := run_wp (f := ⟨c, e, ann, lf, retK c rsh rps rs o fin, X.ofL b, w, G⟩) ⟨hc, hB.ent, hK, hm⟩ hcut B 0 (retK c rsh rps rs o fin) (fun _ _ => none) (fun key p h => h) _ a0 w G hsim (Evo.refl _ _ _) hk
      refine calls_of_wp hfn hbody (wp_mono hwp fun ex a1 w1 hq => ?_)
      have fin_ : Here E ⟨c, e, ann, lf, retK c rsh rps rs o fin, X.ofL b, w, G⟩ r (retK c rsh rps rs o fin) a1 w1 → a1.defers = [] ∧ ∃ v, (results fn a1.tmps).run E.P w1 = .ok v w1 ∧ ∃ V φ', Ending.returned v = .returned V ∧
          RL E w1 (fun b => (F b ∧ φ b = 0) ∨ φ' b ≠ 0) (rvOf rs.length (inj r) :: (inj r).drop rs.length) (V :: PS.outsAll ps Vs) φ' ∧ (∀ b, φ' b ≤ 1) ∧ (∀ b, φ' b ≠ 0 → φ b ≠ 0 ∨ w.heap.size ≤ b) ∧
          w1.os = w.os ∧ w1.tape = w.tape ∧ w1.output = w.output ∧ w.heap.size ≤ w1.heap.size ∧ ∀ b, b < w.heap.size → φ b = 0 → w1.heap[b]? = w.heap[b]? := by
        rintro ⟨s, G1, k1, k2, k3⟩
        have k3 : Evo (X.ofL b) w G s.x w1 G1 := k3
        unfold retK at k1
        cases hrs : resOf c s rs with
        | none => rw [hrs] at k1; cases k1
        | some vs0 =>
        rw [hrs] at k1
        simp only at k1
        obtain ⟨Rs, i1, i2, i3, i4⟩ := run_results hc k2 hres hrs
        refine ⟨k2.defers, _, i4, ?_⟩
        have hvals : AllF (RT E w1 s.x G1) (vs0 ++ o) (Rs ++ PS.outsAll ps Vs) := AllF.append i2 (hO1.mono fun a v ha h => h.evolve k3 (hO2 a ha))
        obtain ⟨x2, G2, vs, j1, j2, j3, j4⟩ := coerces_sound _ _ _ _ _ _ _ k2.mem hvals (fun a ha => (List.mem_append.1 ha).elim (i3 a) fun ha => Used.evolve k3 (hO2 a ha)) k1
        cases hh : handedAll x2 rps vs with
        | none => rw [hh] at j1; cases j1
        | some z =>
          obtain ⟨x3, avs', ws, q⟩ := z
          rw [hh] at j1
          cases q with
          | cons => cases j1
          | nil =>
            simp only at j1
            cases h30 : x3.h 0 with
            | none => rw [h30] at j1; cases j1
            | some blk =>
              rw [h30] at j1
              cases blk with
              | box => cases j1
              | arr => cases j1
              | ext =>
                simp only at j1
                have := hfin _ _ j1
                subst this
                obtain ⟨φ', k⟩ := handedAll_ok j2.2 rps vs _ x2 x3 _ ws [] (Sub.refl x2) j3 hh
                have ev2 : Evo (X.ofL b) w G x2 w1 G2 := k3.trans j2.1
                have hx20 : x2.h 0 = some .ext := k.sub.1 0 _ h30
                have hext := fun c => ev2.ext 0 c hB.u0 hx20
                have hφ'ext : ∀ c, φ' c ≠ 0 → G.φ 0 c = 0 := fun c hc => by
                  refine Classical.byContradiction fun h0 => k.out c hc ⟨0, .ext, h30, ?_⟩
                  rw [(hext c).1]; exact h0
                refine ⟨_, φ', rfl, ?_, k.one, fun c hc => ?_, ev2.os, ev2.tape, ev2.output, ev2.size, fun c hc h0 => ?_⟩
                · have h5 := k.rl (fun b => (F b ∧ φ b = 0) ∨ φ' b ≠ 0) (fun c hc => ?_) (fun s hs => by cases hs) (fun c hc => .inr hc)
                  · have := rl_results h5
                    rwa [i1] at this
                  · rcases hc with hc | hc
                    · exact ⟨0, .ext, hx20, by rw [(hext c).1]; exact (hB.ext c).2 hc⟩
                    · exact k.from_ c hc
                · by_cases hlt : c < w.heap.size
                  · left
                    intro h0
                    have h6 := ev2.fresh c hlt (k.from_ c hc)
                    have h7 := hB.inF c h6
                    exact (hB.ext c).2 ⟨h7, h0⟩ (hφ'ext c hc)
                  · exact .inr (by omega)
                · by_cases hF : F c
                  · exact (hext c).2 ((hB.ext c).2 ⟨hF, h0⟩) hc
                  · exact ev2.heap c hc fun hc' => hF (hB.inF c hc')
      cases ex with
      | normal => exact fin_ hq
      | ret => exact fin_ hq
      | exit id => obtain ⟨s, G1, k1, _⟩ := hq; cases k1
      | goto => exact hq.elim
      | panic => exact hq.elim
      | outgrown => exact hq.elim
end Go.Pi
end
section
set_option linter.unusedVariables false
namespace Go.Pi
/-- so many times -/
def iterN {α : Type} (z : α) (step : α → α) : Nat → α
  | 0 => z
  | n + 1 => step (iterN z step n)
/-- slices.Delete and slices.Insert, az they answer -/
def nDelete {α : Type} (xs : List α) (i j : Int) : Option (List α) :=
  cond (decide (0 ≤ i) && (decide (i ≤ j) && decide (j ≤ (xs.length : Int)))) (some (xs.take i.toNat ++ xs.drop j.toNat)) none
def nInsert {α : Type} (bytes : Nat) (xs : List α) (i : Int) (ys : List α) : Option (List α) :=
  cond (decide (0 ≤ i) && decide (i ≤ (xs.length : Int))) (cond (decide ((xs.length + ys.length) * bytes ≤ 140737488355328)) (some (xs.take i.toNat ++ ys ++ xs.drop i.toNat)) none) none
end Go.Pi
end
section
set_option linter.unusedVariables false
namespace Go.Pi
/-! ### Taking data apart, one thing at a time -/
variable {ω : Type} {r : ω}
def uc {α : Type} : List α → (α → List α → Option ω) → Option ω
  | a :: l, κ => κ a l
  | [], _ => none
def un {α : Type} : List α → Option ω → Option ω
  | [], κ => κ
  | _ :: _, _ => none
theorem uc_ok {α : Type} {v : List α} {κ : α → List α → Option ω} (h : uc v κ = some r) : ∃ a l, v = a :: l ∧ κ a l = some r := by
  cases v with
  | nil => cases h
  | cons a l => exact ⟨a, l, rfl, h⟩
theorem un_ok {α : Type} {v : List α} {κ : Option ω} (h : un v κ = some r) : v = [] ∧ κ = some r := by
  cases v with
  | nil => exact ⟨rfl, h⟩
  | cons => cases h
def getI (k : IntKind) (a : AV) (κ : Int → Option ω) : Option ω := match a with
  | .i k' n => cond (decide (k' = k)) (κ n) none
  | _ => none
theorem getI_ok {k : IntKind} {a : AV} {κ : Int → Option ω} (h : getI k a κ = some r) : ∃ n, a = .i k n ∧ κ n = some r := by
  cases a <;> (try (cases h; done))
  obtain ⟨h1, h2⟩ := cond_some h
  have := of_decide_eq_true h1
  subst this
  exact ⟨_, rfl, h2⟩
def getB (a : AV) (κ : Bool → Option ω) : Option ω := match a with
  | .b q => κ q
  | _ => none
theorem getB_ok {a : AV} {κ : Bool → Option ω} (h : getB a κ = some r) : ∃ n, a = .b n ∧ κ n = some r := by
  cases a <;> (try (cases h; done))
  exact ⟨_, rfl, h⟩
def getS (a : AV) (κ : Bs → Option ω) : Option ω := match a with
  | .s q => κ q
  | _ => none
theorem getS_ok {a : AV} {κ : Bs → Option ω} (h : getS a κ = some r) : ∃ n, a = .s n ∧ κ n = some r := by
  cases a <;> (try (cases h; done))
  exact ⟨_, rfl, h⟩
def M.same : M → M → Bool
  | .v, .v | .s, .s | .d, .d => true
  | _, _ => false
theorem M.same_eq {m m' : M} (h : M.same m m' = true) : m = m' := by cases m <;> cases m' <;> first | rfl | cases h
def getSl (m : M) (t : TC) (a : AV) (κ : List (El t) → Option ω) : Option ω := match a with
  | .sl m' t' xs => cond (M.same m' m) (if h : t' = t then κ (h ▸ xs) else none) none
  | _ => none
theorem getSl_ok {m : M} {t : TC} {a : AV} {κ : List (El t) → Option ω} (h : getSl m t a κ = some r) : ∃ xs, a = .sl m t xs ∧ κ xs = some r := by
  cases a <;> (try (cases h; done))
  rename_i m' t' xs
  obtain ⟨h1, h2⟩ := cond_some h
  have := M.same_eq h1
  subst this
  by_cases e : t' = t
  · subst e
    simp only [dite_true] at h2
    exact ⟨xs, rfl, h2⟩
  · simp [e] at h2
def isRt (q : Nat) (a : AV) (κ : Option ω) : Option ω := match a with
  | .rt p => cond (Nat.beq p q) κ none
  | _ => none
theorem isRt_ok {q : Nat} {a : AV} {κ : Option ω} (h : isRt q a κ = some r) : a = .rt q ∧ κ = some r := by
  cases a <;> (try (cases h; done))
  obtain ⟨h1, h2⟩ := cond_some h
  have := beq_iff.1 h1
  subst this
  exact ⟨rfl, h2⟩
def isPb (q off : Nat) (a : AV) (κ : Option ω) : Option ω := match a with
  | .pb p o => cond (Nat.beq p q && Nat.beq o off) κ none
  | _ => none
theorem isPb_ok {q off : Nat} {a : AV} {κ : Option ω} (h : isPb q off a κ = some r) : a = .pb q off ∧ κ = some r := by
  cases a <;> (try (cases h; done))
  obtain ⟨h1, h2⟩ := cond_some h
  simp only [Bool.and_eq_true] at h1
  have e1 := beq_iff.1 h1.1
  have e2 := beq_iff.1 h1.2
  subst e1 e2
  exact ⟨rfl, h2⟩
def getAg (a : AV) (κ : List AV → Option ω) : Option ω := match a with
  | .ag cs => κ cs
  | _ => none
theorem getAg_ok {a : AV} {κ : List AV → Option ω} (h : getAg a κ = some r) : ∃ cs, a = .ag cs ∧ κ cs = some r := by
  cases a <;> (try (cases h; done))
  exact ⟨_, rfl, h⟩
def getTu (a : AV) (κ : List AV → Option ω) : Option ω := match a with
  | .tu cs => κ cs
  | _ => none
theorem getTu_ok {a : AV} {κ : List AV → Option ω} (h : getTu a κ = some r) : ∃ cs, a = .tu cs ∧ κ cs = some r := by
  cases a <;> (try (cases h; done))
  exact ⟨_, rfl, h⟩
def getBx (a : AV) (κ : List AV → Option ω) : Option ω := match a with
  | .bx cs => κ cs
  | _ => none
theorem getBx_ok {a : AV} {κ : List AV → Option ω} (h : getBx a κ = some r) : ∃ cs, a = .bx cs ∧ κ cs = some r := by
  cases a <;> (try (cases h; done))
  exact ⟨_, rfl, h⟩
def getPc (off : Nat) (a : AV) (κ : List AV → Option ω) : Option ω := match a with
  | .pc cs o => cond (Nat.beq o off) (κ cs) none
  | _ => none
theorem getPc_ok {off : Nat} {a : AV} {κ : List AV → Option ω} (h : getPc off a κ = some r) : ∃ cs, a = .pc cs off ∧ κ cs = some r := by
  cases a <;> (try (cases h; done))
  obtain ⟨h1, h2⟩ := cond_some h
  have := beq_iff.1 h1
  subst this
  exact ⟨_, rfl, h2⟩
def getClo (f : Nat) (a : AV) (κ : List AV → Option ω) : Option ω := match a with
  | .clo g cs => cond (Nat.beq g f) (κ cs) none
  | _ => none
theorem getClo_ok {f : Nat} {a : AV} {κ : List AV → Option ω} (h : getClo f a κ = some r) : ∃ cs, a = .clo f cs ∧ κ cs = some r := by
  cases a <;> (try (cases h; done))
  obtain ⟨h1, h2⟩ := cond_some h
  have := beq_iff.1 h1
  subst this
  exact ⟨_, rfl, h2⟩
def isNils (a : AV) (κ : Option ω) : Option ω := match a with
  | .nils => κ
  | _ => none
theorem isNils_ok {a : AV} {κ : Option ω} (h : isNils a κ = some r) : a = .nils ∧ κ = some r := by
  cases a <;> (try (cases h; done))
  exact ⟨rfl, h⟩
def isNili (a : AV) (κ : Option ω) : Option ω := match a with
  | .nili => κ
  | _ => none
theorem isNili_ok {a : AV} {κ : Option ω} (h : isNili a κ = some r) : a = .nili ∧ κ = some r := by
  cases a <;> (try (cases h; done))
  exact ⟨rfl, h⟩
def isU (a : AV) (κ : Option ω) : Option ω := match a with
  | .u => κ
  | _ => none
theorem isU_ok {a : AV} {κ : Option ω} (h : isU a κ = some r) : a = .u ∧ κ = some r := by
  cases a <;> (try (cases h; done))
  exact ⟨rfl, h⟩
def noBlk (a : Option Blk) (κ : Option ω) : Option ω := match a with
  | none => κ
  | some _ => none
theorem noBlk_ok {a : Option Blk} {κ : Option ω} (h : noBlk a κ = some r) : a = none ∧ κ = some r := by
  cases a with
  | none => exact ⟨rfl, h⟩
  | some => cases h
def isExt (a : Option Blk) (κ : Option ω) : Option ω := match a with
  | some .ext => κ
  | _ => none
theorem isExt_ok {a : Option Blk} {κ : Option ω} (h : isExt a κ = some r) : a = some .ext ∧ κ = some r := by
  cases a with
  | none => cases h
  | some b => cases b <;> first | exact ⟨rfl, h⟩ | cases h
def getBox (a : Option Blk) (κ : List AV → Option ω) : Option ω := match a with
  | some (.box cs) => κ cs
  | _ => none
theorem getBox_ok {a : Option Blk} {κ : List AV → Option ω} (h : getBox a κ = some r) : ∃ cs, a = some (.box cs) ∧ κ cs = some r := by
  cases a with
  | none => cases h
  | some b => cases b <;> first | exact ⟨_, rfl, h⟩ | cases h
def getArr (m : M) (t : TC) (st : Nat) (a : Option Blk) (κ : List (El t) → Option ω) : Option ω := match a with
  | some (.arr m' t' st' xs) => cond (M.same m' m && Nat.beq st' st) (if h : t' = t then κ (h ▸ xs) else none) none
  | _ => none
theorem getArr_ok {m : M} {t : TC} {st : Nat} {a : Option Blk} {κ : List (El t) → Option ω} (h : getArr m t st a κ = some r) : ∃ xs, a = some (.arr m t st xs) ∧ κ xs = some r := by
  cases a with
  | none => cases h
  | some b =>
    cases b <;> (try (cases h; done))
    rename_i m' t' st' xs
    obtain ⟨h1, h2⟩ := cond_some h
    simp only [Bool.and_eq_true] at h1
    have e1 := M.same_eq h1.1
    have e2 := beq_iff.1 h1.2
    subst e1 e2
    by_cases e : t' = t
    · subst e
      simp only [dite_true] at h2
      exact ⟨xs, rfl, h2⟩
    · simp [e] at h2
/-! ### Slices without memory, az a callee takes them -/
inductive Sk where
  | k
  | sl (m : M) (t : TC)
  | ag (l : List Sk)
def fix1 : Sk → AV → AV
  | .sl m t, .nils => .sl m t []
  | .sl .s _, .sl .d t' xs => .sl .s t' xs
  | _, a => a
def fixL : List Sk → List AV → List AV
  | s :: ss, a :: az => fix1 s a :: fixL ss az
  | _, az => az
def fix : Sk → AV → AV
  | .ag l, .ag cs => .ag (fixL l cs)
  | s, a => fix1 s a
def fixes : List Sk → List AV → List AV
  | s :: ss, a :: az => fix s a :: fixes ss az
  | _, az => az
variable [Coding]
variable {E : Env} {w : World} {F : Nat → Prop}
theorem RL.shrink {F' : Nat → Prop} {l vs φ} (h : RL E w F l vs φ) (hφ : ∀ b, φ b ≠ 0 → F' b) (hF : ∀ b, F' b → F b) : RL E w F' l vs φ :=
  h.frame (Nat.le_refl _) (fun b hb => ⟨rfl, hφ b hb⟩) (fun b _ hn => ⟨rfl, fun h => hn (hF b h)⟩)
theorem asView_rows [CodingOk] (m : M) (t : TC) (xs : List (El t)) : (encRows m t xs).map AV.asView = encRows .v t xs := by
  simp only [encRows, List.map_flatMap]
  congr 1
  funext x
  exact CodingOk.view m t x
/-- what is given up when an argument is taken for less -/
def Gives (E : Env) (w : World) (F : Nat → Prop) (l : List AV) (vs : List Value) (φ : Nat → Nat) : Prop :=
  ∃ δ : Nat → Nat, (∀ b, δ b ≤ φ b) ∧ RL E w (fun b => F b ∧ δ b = 0) l vs (fun b => φ b - δ b)
theorem Gives.none {l vs φ} (h : RL E w F l vs φ) : Gives E w F l vs φ :=
  ⟨fun _ => 0, fun b => Nat.zero_le _, h.shrink (fun b hb => ⟨(h.low b hb).1, rfl⟩) fun b hb => hb.1⟩
theorem fix1_ok [CodingOk] {s : Sk} {a : AV} {v : Value} {φ : Nat → Nat} (h : RL E w F [a] [v] φ) (h1 : ∀ b, φ b ≤ 1) : Gives E w F [fix1 s a] [v] φ := by
  cases s <;> (try exact Gives.none h)
  rename_i m t
  cases a <;> (try (cases m <;> exact Gives.none h))
  case nils =>
    refine Gives.none ?_
    cases h with
    | scal _ _ _ _ _ hs hn =>
      simp only [scl] at hs
      subst hs
      have h0 := (RL.nil_inv hn).2
      cases m with
      | v => exact .view t [] none 0 0 [] (fun _ => 0) _ _ _ ⟨rfl, Nat.le_refl _⟩ (.nil _ fun _ => rfl) (fun _ => rfl) (fun hp => by omega) (.nil _ h0)
      | s => exact .own .s t [] _ [] (fun _ => 0) _ _ (fun _ => 0) _ (by decide) (World.ownsRow_nil _ _ _ _) (.nil _ fun _ => rfl) (fun b hb => by simp [own1] at hb) (.nil _ fun _ => rfl) (fun b => by rw [h0 b]; simp [own1])
      | d => exact .own .d t [] _ [] (fun _ => 0) _ _ (fun _ => 0) _ (by decide) (World.ownsRow_nil _ _ _ _) (.nil _ fun _ => rfl) (fun b hb => by simp [own1] at hb) (.nil _ fun _ => rfl) (fun b => by rw [h0 b]; simp [own1])
  case sl m' t' xs =>
    cases m <;> cases m' <;> (try exact Gives.none h)
    cases h with
    | scal _ _ _ _ _ hs _ => exact hs.elim
    | own _ _ _ _ vals φ₁ _ _ φ₂ _ hm how hrl hF hn he =>
      have h0 := (RL.nil_inv hn).2
      refine ⟨φ₁, fun b => by rw [he]; omega, ?_⟩
      have hs := hrl.seen (F' := fun b => F b ∧ φ₁ b = 0) (fun b hb hc => hb hc.2) (fun b _ hn hc => hn hc.1)
      have hs2 : RL E w (fun b => F b ∧ φ₁ b = 0) (encRows .v t' xs) vals (fun _ => 0) := by rw [asView_rows] at hs; exact hs
      exact .own .s t' xs v vals (fun _ => 0) _ _ (fun _ => 0) _ (by decide) how hs2 (fun b hb => ⟨hF b hb, by have := h1 b; rw [he] at this; omega⟩) (.nil _ fun _ => rfl) (fun b => by rw [he, h0 b]; omega)
theorem Gives.cons {a : AV} {v : Value} {l : List AV} {vs : List Value} {φ₁ φ₂ φ : Nat → Nat} (k1 : Gives E w F [a] [v] φ₁) (k2 : Gives E w F l vs φ₂) (e : ∀ b, φ b = φ₁ b + φ₂ b) (h1 : ∀ b, φ b ≤ 1) (hF : ∀ b, φ b ≠ 0 → F b) : Gives E w F (a :: l) (v :: vs) φ := by
  obtain ⟨δ₁, a1, a2⟩ := k1
  obtain ⟨δ₂, b1, b2⟩ := k2
  refine ⟨fun b => δ₁ b + δ₂ b, fun b => by have := a1 b; have := b1 b; have := e b; show δ₁ b + δ₂ b ≤ φ b; omega, ?_⟩
  have s1 : RL E w (fun b => F b ∧ δ₁ b + δ₂ b = 0) [a] [v] (fun b => φ₁ b - δ₁ b) := a2.shrink (fun b hb => by
    have hb : φ₁ b - δ₁ b ≠ 0 := hb
    have := a1 b; have := b1 b; have := h1 b; have := e b
    exact ⟨hF b (by omega), by omega⟩) fun b hb => ⟨hb.1, by have := hb.2; omega⟩
  have s2 : RL E w (fun b => F b ∧ δ₁ b + δ₂ b = 0) l vs (fun b => φ₂ b - δ₂ b) := b2.shrink (fun b hb => by
    have hb : φ₂ b - δ₂ b ≠ 0 := hb
    have := a1 b; have := b1 b; have := h1 b; have := e b
    exact ⟨hF b (by omega), by omega⟩) fun b hb => ⟨hb.1, by have := hb.2; omega⟩
  exact s1.cons s2 (fun b => by have := a1 b; have := b1 b; have := e b; show φ b - (δ₁ b + δ₂ b) = (φ₁ b - δ₁ b) + (φ₂ b - δ₂ b); omega)
theorem fixL_ok [CodingOk] : ∀ {ss : List Sk} {az : List AV} {vs : List Value} {φ : Nat → Nat}, RL E w F az vs φ → (∀ b, φ b ≤ 1) → Gives E w F (fixL ss az) vs φ
  | [], az, vs, φ, h, _ => by cases az <;> exact Gives.none h
  | s :: ss, [], vs, φ, h, _ => Gives.none h
  | s :: ss, a :: az, vs, φ, h, h1 => by
    have hF := fun b hb => (h.low b hb).1
    obtain ⟨v, vs', φ₁, φ₂, rfl, k1, k2, e⟩ := RL.uncons h
    exact (fix1_ok k1 fun b => by have := h1 b; rw [e] at this; omega).cons (fixL_ok k2 fun b => by have := h1 b; rw [e] at this; omega) e h1 hF
theorem fix_ok [CodingOk] {s : Sk} {a : AV} {v : Value} {φ : Nat → Nat} (h : RL E w F [a] [v] φ) (h1 : ∀ b, φ b ≤ 1) : Gives E w F [fix s a] [v] φ := by
  by_cases hc : ∃ l cs, s = .ag l ∧ a = .ag cs
  · obtain ⟨l, cs, rfl, rfl⟩ := hc
    cases h with
    | scal _ _ _ _ _ hs _ => exact hs.elim
    | ag _ us φ₁ _ _ φ₂ _ k1 k2 he =>
      have h0 := (RL.nil_inv k2).2
      obtain ⟨δ, d1, d2⟩ := fixL_ok (ss := l) k1 fun b => by have := h1 b; rw [he] at this; omega
      exact ⟨δ, fun b => by rw [he]; have := d1 b; omega, .ag _ us _ _ _ (fun _ => 0) _ d2 (.nil _ fun _ => rfl) (fun b => by rw [he, h0 b]; omega)⟩
  · have : fix s a = fix1 s a := by
      cases s <;> (try rfl)
      cases a <;> (try rfl)
      exact absurd ⟨_, _, rfl, rfl⟩ hc
    rw [this]; exact fix1_ok h h1
theorem fixes_ok [CodingOk] : ∀ {ss : List Sk} {az : List AV} {vs : List Value} {φ : Nat → Nat}, RL E w F az vs φ → (∀ b, φ b ≤ 1) → Gives E w F (fixes ss az) vs φ
  | [], az, vs, φ, h, _ => by cases az <;> exact Gives.none h
  | s :: ss, [], vs, φ, h, _ => Gives.none h
  | s :: ss, a :: az, vs, φ, h, h1 => by
    have hF := fun b hb => (h.low b hb).1
    obtain ⟨v, vs', φ₁, φ₂, rfl, k1, k2, e⟩ := RL.uncons h
    exact (fix_ok k1 fun b => by have := h1 b; rw [e] at this; omega).cons (fixes_ok k2 fun b => by have := h1 b; rw [e] at this; omega) e h1 hF
theorem CallOk.fix [CodingOk] {f : FuncId} {avs : List AV} {rv : AV} {outs : List AV} {ps : List PS} {ss : List Sk} (h : CallOk E f (fixes ss avs) rv outs ps) : CallOk E f avs rv outs ps := by
  intro w F Vs φ hrl h1 hlow
  obtain ⟨δ, d1, d2⟩ := fixes_ok (ss := ss) hrl h1
  refine (h w _ Vs _ d2 (fun b => by have := h1 b; omega) (fun b hb => hlow b hb.1)).mono ?_
  rintro e w' ⟨V, φ', rfl, k1, k2, k3, k4, k5, k6, k7, k8⟩
  refine ⟨V, φ', rfl, ?_, k2, fun b hb => ?_, k4, k5, k6, k7, fun b hb h0 => k8 b hb (by omega)⟩
  · have e : (fun b => ((F b ∧ δ b = 0) ∧ φ b - δ b = 0) ∨ φ' b ≠ 0) = fun b => (F b ∧ φ b = 0) ∨ φ' b ≠ 0 := by
      funext b
      have := d1 b
      refine propext (or_congr_left ⟨fun h => ⟨h.1.1, ?_⟩, fun h => ⟨⟨h.1, ?_⟩, ?_⟩⟩)
      · have h1 := h.1.2; have h2 := h.2; omega
      · have := h.2; omega
      · have := h.2; omega
    rw [← e]; exact k1
  · rcases k3 b hb with h | h
    · exact .inl (by omega)
    · exact .inr h
end Go.Pi
end
section
set_option linter.unusedVariables false
namespace Go.Pi
/-! ### The tables, looked over by program -/
def sclB : AV → Value → Bool
  | .i k n, .int k' n' => decide (k = k') && decide (n = n')
  | .b p, .bool q => p == q
  | .s [], .string s => Nat.beq s.size 0
  | .nils, .slice none 0 0 => true
  | .nilp, .pointer none => true
  | .nili, .nilIface => true
  | _, _ => false
def sclsB : List AV → List Value → Bool
  | [], [] => true
  | a :: l, v :: r => sclB a v && sclsB l r
  | _, _ => false
theorem sclB_ok {a : AV} {v : Value} (h : sclB a v = true) : scl a v := by
  unfold sclB at h
  split at h <;> simp only [scl] <;> (try rfl)
  · simp only [Bool.and_eq_true, decide_eq_true_eq] at h
    rw [h.1, h.2]
  · have := eq_of_beq h
    rw [this]
  · rename_i s
    have h0 := Nat.eq_of_beq_eq_true h
    obtain ⟨⟨l⟩⟩ := s
    have : l = [] := by
      cases l with
      | nil => rfl
      | cons a l => simp [ByteArray.size] at h0
    subst this; rfl
  · cases h
theorem sclsB_ok : ∀ {l : List AV} {r : List Value}, sclsB l r = true → AllF scl l r
  | [], [], _ => trivial
  | a :: l, v :: r, h => by
    simp only [sclsB, Bool.and_eq_true] at h
    exact ⟨sclB_ok h.1, sclsB_ok h.2⟩
  | [], _ :: _, h => by simp [sclsB] at h
  | _ :: _, [], h => by simp [sclsB] at h
def descB (d : TypeDesc) (td : TD) (eid : TC → TypeId) : Bool :=
  (match td.elem with
    | none => true
    | some t => match d with | .slice e => Nat.beq e (eid t) | _ => false) &&
  (match td.kind with
    | none => true
    | some k => match d with | .int k' => decide (k' = k) | _ => false) &&
  (cond td.isStr (match d with | .string => true | _ => false) true) &&
  (cond td.isBool (match d with | .bool => true | _ => false) true)
def fieldsB (P : Program) : List Field → List (Nat × Nat) → Bool
  | [], [] => true
  | f :: fs, p :: ps => Nat.beq f.offset p.1 && (match P.info? f.type with | some i => Nat.beq i.size p.2 | none => false) && Nat.blt 0 p.2 && fieldsB P fs ps
  | _, _ => false
def cmpB (P : Program) : Nat → List Field → List CK → Bool
  | _, [], [] => true
  | k, f :: fs, q :: qs => !(f.name == "_") && Nat.beq f.offset k && P.plainKey f.type && (match P.underlying f.type, q with
      | some (.int _), .i => true
      | some .bool, .b => true
      | some .string, .s => true
      | _, _ => false) && cmpB P (k + 1) fs qs
  | _, _, _ => false
def tdB (P : Program) (eid : TC → TypeId) (T : TypeId) (td : TD) : Bool :=
  match P.info? T, P.underlying T with
  | some i, some d =>
    Nat.beq i.size td.size && Nat.blt 0 td.size && (cond td.agg d.isRow (Nat.beq td.size 1 && !d.isRow)) &&
    (match i.zero with
      | some z => Nat.beq td.zero.length td.size && td.zero.all AV.one && sclsB td.zero z.cells.toList
      | none => false) &&
    (match td.fields with
      | [] => !td.agg
      | fs => match d with
        | .struct gs => fieldsB P gs.toList fs
        | _ => false) &&
    descB d td eid &&
    (match td.cmp with
      | [] => true
      | qs => match d with
        | .struct gs => cmpB P 0 gs.toList qs && !(P.stoodInHeld T) && !(P.eqGuardType P.depth T)
        | _ => false)
  | _, _ => false
theorem fieldsB_ok {P : Program} : ∀ {fs : List Field} {ps : List (Nat × Nat)}, fieldsB P fs ps = true → fs.length = ps.length ∧ ∀ (f off n : Nat), ps[f]? = some (off, n) → ∃ fd : Field, fs[f]? = some fd ∧ fd.offset = off ∧ (P.info? fd.type).map (·.size) = some n ∧ 0 < n
  | [], [], _ => ⟨rfl, fun f off n h => by simp at h⟩
  | g :: fs, p :: ps, h => by
    simp only [fieldsB, Bool.and_eq_true] at h
    obtain ⟨⟨⟨h1, h2⟩, h3⟩, h4⟩ := h
    obtain ⟨k1, k2⟩ := fieldsB_ok h4
    refine ⟨by simp [k1], fun f off n hf => ?_⟩
    cases f with
    | zero =>
      simp only [List.getElem?_cons_zero, Option.some.injEq] at hf
      subst hf
      refine ⟨g, rfl, Nat.eq_of_beq_eq_true h1, ?_, blt_iff.1 h3⟩
      cases hi : P.info? g.type with
      | none => rw [hi] at h2; cases h2
      | some i => rw [hi] at h2; simp [Nat.eq_of_beq_eq_true h2]
    | succ f => exact k2 f off n (by simpa using hf)
  | [], _ :: _, h => by simp [fieldsB] at h
  | _ :: _, [], h => by simp [fieldsB] at h
theorem cmpB_ok {P : Program} : ∀ {k0 : Nat} {fs : List Field} {qs : List CK}, cmpB P k0 fs qs = true → fs.length = qs.length ∧ ∀ (k : Nat) (f : Field) (q : CK), fs[k]? = some f → qs[k]? = some q → (f.name == "_") = false ∧ f.offset = k0 + k ∧ P.plainKey f.type = true ∧
      match q with
      | .i => ∃ kk, P.underlying f.type = some (.int kk)
      | .b => P.underlying f.type = some .bool
      | .s => P.underlying f.type = some .string
  | k0, [], [], _ => ⟨rfl, fun k f q h => by simp at h⟩
  | k0, g :: fs, p :: qs, h => by
    simp only [cmpB, Bool.and_eq_true, Bool.not_eq_true'] at h
    obtain ⟨⟨⟨⟨h1, h2⟩, h3⟩, h4⟩, h5⟩ := h
    obtain ⟨k1, k2⟩ := cmpB_ok h5
    refine ⟨by simp [k1], fun k f q hf hq => ?_⟩
    cases k with
    | zero =>
      simp only [List.getElem?_cons_zero, Option.some.injEq] at hf hq
      subst hf hq
      refine ⟨h1, Nat.eq_of_beq_eq_true h2, h3, ?_⟩
      split at h4 <;> (try (cases h4; done))
      · rename_i kk e1; exact ⟨kk, e1⟩
      · rename_i e1; exact e1
      · rename_i e1; exact e1
    | succ k =>
      obtain ⟨j1, j2, j3⟩ := k2 k f q (by simpa using hf) (by simpa using hq)
      exact ⟨j1, by omega, j3⟩
  | _, [], _ :: _, h => by simp [cmpB] at h
  | _, _ :: _, [], h => by simp [cmpB] at h
variable [Coding]
omit [Coding] in
theorem tdB_ok {E : Env} {T : TypeId} {td : TD} (h : tdB E.P E.eid T td = true) : TDok E T td := by
  unfold tdB at h
  cases hi : E.P.info? T with
  | none => rw [hi] at h; cases h
  | some i =>
    cases hu : E.P.underlying T with
    | none => rw [hi, hu] at h; cases h
    | some d =>
      rw [hi, hu] at h
      simp only [Bool.and_eq_true] at h
      obtain ⟨⟨⟨⟨⟨⟨h1, h2⟩, h3⟩, h4⟩, h5⟩, h6⟩, h7⟩ := h
      simp only [descB, Bool.and_eq_true] at h6
      obtain ⟨⟨⟨g1, g2⟩, g3⟩, g4⟩ := h6
      refine ⟨by rw [hi]; simp [Nat.eq_of_beq_eq_true h1], blt_iff.1 h2, fun e => ⟨d, hu, by rw [e] at h3; exact h3⟩, fun e => ?_, ?_, fun e => ?_, fun e => ?_, fun t e => ?_, fun k e => ?_, fun e => ?_, fun e => ?_, fun e => ?_⟩
      · rw [e] at h3
        simp only [cond_false, Bool.and_eq_true, Bool.not_eq_true'] at h3
        exact ⟨Nat.eq_of_beq_eq_true h3.1, d, hu, h3.2⟩
      · cases hz : i.zero with
        | none => rw [hz] at h4; cases h4
        | some z =>
          rw [hz] at h4
          simp only [Bool.and_eq_true] at h4
          exact ⟨Nat.eq_of_beq_eq_true h4.1.1, h4.1.2, i, z, z.cells.toList, hi, hz, by simp, sclsB_ok h4.2⟩
      · cases hf : td.fields with
        | nil => exact absurd hf e
        | cons p ps =>
          rw [hf] at h5
          cases d <;> simp only at h5 <;> (try (cases h5; done))
          rename_i gs
          obtain ⟨k1, k2⟩ := fieldsB_ok h5
          exact ⟨gs, hu, by simpa using k1, fun f off n hq => by
            obtain ⟨fd, j1, j2⟩ := k2 f off n hq
            exact ⟨fd, by simpa using j1, j2⟩⟩
      · intro e'
        rw [e'] at h5
        simp only [e] at h5
        cases h5
      · rw [e] at g1
        cases d <;> simp only at g1 <;> (try (cases g1; done))
        rw [hu, Nat.eq_of_beq_eq_true g1]
      · rw [e] at g2
        cases d <;> simp only at g2 <;> (try (cases g2; done))
        rw [hu, of_decide_eq_true g2]
      · rw [e] at g3
        cases d <;> simp only [cond_true] at g3 <;> first | exact hu | cases g3
      · rw [e] at g4
        cases d <;> simp only [cond_true] at g4 <;> first | exact hu | cases g4
      · cases hq : td.cmp with
        | nil => exact absurd hq e
        | cons p ps =>
          rw [hq] at h7
          cases d <;> simp only at h7 <;> (try (cases h7; done))
          rename_i gs
          simp only [Bool.and_eq_true, Bool.not_eq_true'] at h7
          obtain ⟨k1, k2⟩ := cmpB_ok h7.1.1
          refine ⟨gs, hu, h7.1.2, h7.2, by simpa using k1, fun k f q hf hq' => ?_⟩
          obtain ⟨j1, j2, j3⟩ := k2 k f q (by simpa using hf) hq'
          exact ⟨j1, by omega, j3⟩
def look2 {α : Type _} : List (Nat × α) → Nat → Option α
  | [], _ => none
  | (k, a) :: l, n => cond (Nat.beq n k) (some a) (look2 l n)
def allB {α : Type _} (p : Nat → α → Bool) : List (Nat × α) → Bool
  | [] => true
  | (k, a) :: l => p k a && allB p l
omit [Coding] in
theorem look2_ok {α : Type _} {p : Nat → α → Bool} : ∀ {l : List (Nat × α)} {n : Nat} {a : α}, allB p l = true → look2 l n = some a → p n a = true
  | [], n, a, _, h => by cases h
  | (k, b) :: l, n, a, h, h' => by
    simp only [allB, Bool.and_eq_true] at h
    simp only [look2] at h'
    cases hb : Nat.beq n k with
    | true =>
      rw [hb] at h'
      simp only [cond_true, Option.some.injEq] at h'
      have := Nat.eq_of_beq_eq_true hb
      subst this h'
      exact h.1
    | false => rw [hb] at h'; exact look2_ok h.2 h'
omit [Coding] in
theorem tt_ok {E : Env} {l : List (Nat × TD)} (h : allB (tdB E.P E.eid) l = true) (T : TypeId) : TTok E T (look2 l T) :=
  ⟨fun td ht => tdB_ok (look2_ok h ht)⟩
open Coding
def tcB (P : Program) (eid : TC → TypeId) (t : TC) (zc : List AV) : Bool :=
  match P.info? (eid t) with
  | some i => Nat.beq i.size t.width && Nat.beq i.bytes t.bytes && Nat.blt 0 t.bytes && zc.all AV.one && match i.zero with
    | some z => sclsB zc z.cells.toList
    | none => false
  | none => false
theorem tcB_ok {E : Env} {t : TC} {zc : List AV} (h : tcB E.P E.eid t zc = true) (hz : ∀ m, sims m zc (enc m t (El.dflt t))) : TCok E t := by
  unfold tcB at h
  cases hi : E.P.info? (E.eid t) with
  | none => rw [hi] at h; cases h
  | some i =>
    rw [hi] at h
    simp only [Bool.and_eq_true] at h
    obtain ⟨⟨⟨⟨h1, h2⟩, h3⟩, h4⟩, h5⟩ := h
    cases hq : i.zero with
    | none => rw [hq] at h5; cases h5
    | some z =>
      rw [hq] at h5
      exact ⟨⟨i, z, z.cells.toList, zc, hi, hq, Nat.eq_of_beq_eq_true h1, Nat.eq_of_beq_eq_true h2, by simp, sclsB_ok h5, h4, hz⟩, blt_iff.1 h3⟩
omit [Coding] in
theorem cond_t {α : Type _} {c : Bool} {a b x : α} (hc : c = true) (h : cond c a b = x) : a = x := by subst hc; exact h
omit [Coding] in
theorem cond_f {α : Type _} {c : Bool} {a b x : α} (hc : c = false) (h : cond c a b = x) : b = x := by subst hc; exact h
omit [Coding] in
theorem cond_is {α : Type _} {c : Bool} (hc : c = true) (a b : α) : cond c a b = a := by subst hc; rfl
omit [Coding] in
theorem cond_no {α : Type _} {c : Bool} (hc : c = false) (a b : α) : cond c a b = b := by subst hc; rfl
/-- are the rows handed of these kinds? -/
def selM : List M → List AV → Bool
  | m :: ms, .sl m' _ _ :: az => (match m, m' with | .d, .d => true | .s, .s => true | .v, .v => true | _, _ => false) && selM ms az
  | _ :: ms, _ :: az => selM ms az
  | _, _ => true
def selClo (k : Nat) (avs : List AV) : Nat := match avs[k]? with
  | some (.clo g _) => g
  | _ => 0
/-- a callee, az the table bears it -/
structure Hd : Type 1 where
  K : (ω : Type) → List AV → (AV → List AV → Option ω) → Option ω
def AllP {α : Type _} (p : Nat → α → Prop) : List (Nat × α) → Prop
  | [] => True
  | (k, a) :: l => p k a ∧ AllP p l
omit [Coding] in
theorem look2_all {α : Type _} {p : Nat → α → Prop} : ∀ {l : List (Nat × α)} {n : Nat} {a : α}, AllP p l → look2 l n = some a → p n a
  | [], n, a, _, h => by cases h
  | (k, b) :: l, n, a, h, h' => by
    simp only [look2] at h'
    cases hb : Nat.beq n k with
    | true =>
      rw [hb] at h'
      simp only [cond_true, Option.some.injEq] at h'
      have := Nat.eq_of_beq_eq_true hb
      subst this h'
      exact h.1
    | false => rw [hb] at h'; exact look2_all h.2 h'
def KH (l : List (Nat × Hd)) (ω : Type) (f : Nat) (avs : List AV) (κ : AV → List AV → Option ω) : Option ω := match look2 l f with
  | some h => h.K ω avs κ
  | none => none
omit [Coding] in
theorem KH_par {l : List (Nat × Hd)} {nt : Nat} {tt : Nat → Option TD} {sig : Nat → Option (List PS)} {fz : Nat → Bool} (h : AllP (fun _ (h : Hd) => ∀ (ω : Type) (avs : List AV) (κ : AV → List AV → Option ω) (q : ω), h.K ω avs κ = some q → ∃ rv outs, κ rv outs = some q ∧ ∀ (ω' : Type) (κ' : AV → List AV → Option ω'), h.K ω' avs κ' = κ' rv outs) l) :
    KPar ⟨nt, tt, sig, KH l, fz⟩ := by
  intro ω f avs κ q hK
  have hK : KH l ω f avs κ = some q := hK
  show ∃ rv outs, κ rv outs = some q ∧ ∀ (ω' : Type) (κ' : AV → List AV → Option ω'), KH l ω' f avs κ' = κ' rv outs
  unfold KH at hK ⊢
  cases hl : look2 l f with
  | none => rw [hl] at hK; cases hK
  | some g => rw [hl] at hK; exact look2_all h hl ω avs κ q hK
theorem KH_ok {E : Env} {l : List (Nat × Hd)} {nt : Nat} {tt : Nat → Option TD} {sig : Nat → Option (List PS)} {fz : Nat → Bool} (h : AllP (fun f (h : Hd) => ∀ (ω : Type) (avs : List AV) (κ : AV → List AV → Option ω) (q : ω), h.K ω avs κ = some q → FnOk E f ∧ ∃ ps rv outs, sig f = some ps ∧ κ rv outs = some q ∧ CallOk E f avs rv outs ps) l) :
    KOk E ⟨nt, tt, sig, KH l, fz⟩ := by
  intro ω f avs κ q hK
  have hK : KH l ω f avs κ = some q := hK
  unfold KH at hK
  cases hl : look2 l f with
  | none => rw [hl] at hK; cases hK
  | some g => rw [hl] at hK; exact look2_all h hl ω avs κ q hK
/-- a slice's rows, whatever it is -/
def getAny (t : TC) (a : AV) {ω : Type} (κ : List (El t) → Option ω) : Option ω := match decSl t a with
  | some xs => κ xs
  | none => none
omit [Coding] in
theorem getAny_ok {t : TC} {a : AV} {ω : Type} {r : ω} {κ : List (El t) → Option ω} (h : getAny t a κ = some r) : ∃ xs, κ xs = some r ∧ ∀ m, AV.sim m a (.sl m t xs) := by
  unfold getAny at h
  cases hd : decSl t a with
  | none => rw [hd] at h; cases h
  | some xs =>
    rw [hd] at h
    refine ⟨xs, h, fun m => ?_⟩
    cases a <;> simp only [decSl] at hd <;> (try (cases hd; done))
    case nils => simp only [Option.some.injEq] at hd; subst hd; exact ⟨t, rfl⟩
    case sl m' t' ys =>
      by_cases e : t' = t
      · subst e
        simp only [dite_true, Option.some.injEq] at hd
        subst hd; rfl
      · simp [e] at hd
/-- is a cell such az an element bears? -/
def codedB (m : M) : AV → Bool
  | .i _ _ | .b _ | .s _ => true
  | .sl m' _ _ => M.same m' m
  | _ => false
omit [Coding] in
theorem coded_of {m : M} {l : List AV} (h : l.all (codedB m) = true) (a : AV) (ha : a ∈ l) : (∃ k n, a = .i k n) ∨ (∃ q, a = .b q) ∨ (∃ l, a = .s l) ∨ ∃ t' xs, a = .sl m t' xs := by
  have := List.all_eq_true.1 h a ha
  cases a <;> simp only [codedB] at this <;> (try (cases this; done))
  · exact .inl ⟨_, _, rfl⟩
  · exact .inr (.inl ⟨_, rfl⟩)
  · exact .inr (.inr (.inl ⟨_, rfl⟩))
  · rw [M.same_eq this]; exact .inr (.inr (.inr ⟨_, _, rfl⟩))
end Go.Pi
end
section
set_option linter.unusedVariables false
set_option maxRecDepth 100000
namespace Go.Pi
open Go.Proofs
instance coding : Coding where
  enc := fun m t => match t with
    | .int => fun (x : Int) => [AV.i .i64 x]
    | .u8 => fun (x : Int) => [AV.i .u8 x]
    | .str => fun (x : Bs) => [AV.s x]
    | .lRow => fun (x : TRow) => [AV.i .i64 x.id_, AV.sl m .int x.cells]
    | .s_lRow => fun (x : List TRow) => [AV.sl m .lRow x]
    | .lChange => fun (x : TChange) => [AV.i .i64 x.table, AV.b x.had, AV.b x.has, AV.i .i64 x.old.id_, AV.sl m .int x.old.cells, AV.i .i64 x.new.id_, AV.sl m .int x.new.cells]
    | .s_lChange => fun (x : List TChange) => [AV.sl m .lChange x]
    | .lSeat => fun (x : TSeat) => [AV.i .i64 x.sess.view.q.table, AV.sl m .lCond x.sess.view.q.where_, AV.i .i64 x.sess.view.q.order, AV.b x.sess.view.q.down, AV.i .i64 x.sess.view.q.first, AV.sl m .int x.sess.view.q.show_, AV.b x.sess.view.q.kids, AV.i .i64 x.sess.view.q.kidTable, AV.i .i64 x.sess.view.q.kidCol, AV.sl m .lRow x.sess.view.rows, AV.sl m .lKid x.sess.view.kids, AV.i .i64 x.sess.version, AV.i .i64 x.sess.last.q.table, AV.sl m .lCond x.sess.last.q.where_, AV.i .i64 x.sess.last.q.order, AV.b x.sess.last.q.down, AV.i .i64 x.sess.last.q.first, AV.sl m .int x.sess.last.q.show_, AV.b x.sess.last.q.kids, AV.i .i64 x.sess.last.q.kidTable, AV.i .i64 x.sess.last.q.kidCol, AV.sl m .lRow x.sess.last.rows, AV.sl m .lKid x.sess.last.kids, AV.i .i64 x.sess.lastVersion, AV.b x.sess.began, AV.s x.line.wait, AV.i .i64 x.line.gone, AV.s x.sent, AV.s x.came, AV.b x.gone]
    | .lCond => fun (x : TCond) => [AV.i .i64 x.col, AV.i .i64 x.op, AV.i .i64 x.v]
    | .lKid => fun (x : TKid) => [AV.i .i64 x.id_, AV.i .i64 x.n_]
    | .iRow => fun (x : TRow) => [AV.i .i64 x.id_, AV.sl m .int x.cells]
    | .s_iRow => fun (x : List TRow) => [AV.sl m .iRow x]
    | .iChange => fun (x : TChange) => [AV.i .i64 x.table, AV.b x.had, AV.b x.has, AV.i .i64 x.old.id_, AV.sl m .int x.old.cells, AV.i .i64 x.new.id_, AV.sl m .int x.new.cells]
    | .s_iChange => fun (x : List TChange) => [AV.sl m .iChange x]
    | .iSeat => fun (x : TSeat) => [AV.i .i64 x.sess.view.q.table, AV.sl m .iCond x.sess.view.q.where_, AV.i .i64 x.sess.view.q.order, AV.b x.sess.view.q.down, AV.i .i64 x.sess.view.q.first, AV.sl m .int x.sess.view.q.show_, AV.b x.sess.view.q.kids, AV.i .i64 x.sess.view.q.kidTable, AV.i .i64 x.sess.view.q.kidCol, AV.sl m .iRow x.sess.view.rows, AV.sl m .iKid x.sess.view.kids, AV.i .i64 x.sess.version, AV.i .i64 x.sess.last.q.table, AV.sl m .iCond x.sess.last.q.where_, AV.i .i64 x.sess.last.q.order, AV.b x.sess.last.q.down, AV.i .i64 x.sess.last.q.first, AV.sl m .int x.sess.last.q.show_, AV.b x.sess.last.q.kids, AV.i .i64 x.sess.last.q.kidTable, AV.i .i64 x.sess.last.q.kidCol, AV.sl m .iRow x.sess.last.rows, AV.sl m .iKid x.sess.last.kids, AV.i .i64 x.sess.lastVersion, AV.b x.sess.began, AV.s x.line.wait, AV.i .i64 x.line.gone, AV.s x.sent, AV.s x.came, AV.b x.gone]
    | .iCond => fun (x : TCond) => [AV.i .i64 x.col, AV.i .i64 x.op, AV.i .i64 x.v]
    | .iKid => fun (x : TKid) => [AV.i .i64 x.id_, AV.i .i64 x.n_]
  dec := fun t => match t with
    | .int => fun l => uc l fun a1 l2 => getI .i64 a1 fun x3 => un l2 (some (x3 : Int))
    | .u8 => fun l => uc l fun a1 l2 => getI .u8 a1 fun x3 => un l2 (some (x3 : Int))
    | .str => fun l => uc l fun a1 l2 => getS a1 fun x3 => un l2 (some (x3 : Bs))
    | .lRow => fun l => uc l fun a1 l2 => getI .i64 a1 fun x3 => uc l2 fun a4 l5 => getAny .int a4 fun x6 => un l5 (some ((TRow.mk x3 x6) : TRow))
    | .s_lRow => fun l => uc l fun a1 l2 => getAny .lRow a1 fun x3 => un l2 (some (x3 : List TRow))
    | .lChange => fun l => uc l fun a1 l2 => getI .i64 a1 fun x3 => uc l2 fun a4 l5 => getB a4 fun x6 => uc l5 fun a7 l8 => getB a7 fun x9 => uc l8 fun a10 l11 => getI .i64 a10 fun x12 => uc l11 fun a13 l14 => getAny .int a13 fun x15 => uc l14 fun a17 l18 => getI .i64 a17 fun x19 => uc l18 fun a20 l21 => getAny .int a20 fun x22 => un l21 (some ((TChange.mk x3 x6 x9 (TRow.mk x12 x15) (TRow.mk x19 x22)) : TChange))
    | .s_lChange => fun l => uc l fun a1 l2 => getAny .lChange a1 fun x3 => un l2 (some (x3 : List TChange))
    | .lSeat => fun l => uc l fun a1 l2 => getI .i64 a1 fun x3 => uc l2 fun a4 l5 => getAny .lCond a4 fun x6 => uc l5 fun a8 l9 => getI .i64 a8 fun x10 => uc l9 fun a11 l12 => getB a11 fun x13 => uc l12 fun a14 l15 => getI .i64 a14 fun x16 => uc l15 fun a17 l18 => getAny .int a17 fun x19 => uc l18 fun a21 l22 => getB a21 fun x23 => uc l22 fun a24 l25 => getI .i64 a24 fun x26 => uc l25 fun a27 l28 => getI .i64 a27 fun x29 => uc l28 fun a30 l31 => getAny .lRow a30 fun x32 => uc l31 fun a34 l35 => getAny .lKid a34 fun x36 => uc l35 fun a38 l39 => getI .i64 a38 fun x40 => uc l39 fun a41 l42 => getI .i64 a41 fun x43 => uc l42 fun a44 l45 => getAny .lCond a44 fun x46 => uc l45 fun a48 l49 => getI .i64 a48 fun x50 => uc l49 fun a51 l52 => getB a51 fun x53 => uc l52 fun a54 l55 => getI .i64 a54 fun x56 => uc l55 fun a57 l58 => getAny .int a57 fun x59 => uc l58 fun a61 l62 => getB a61 fun x63 => uc l62 fun a64 l65 => getI .i64 a64 fun x66 => uc l65 fun a67 l68 => getI .i64 a67 fun x69 => uc l68 fun a70 l71 => getAny .lRow a70 fun x72 => uc l71 fun a74 l75 => getAny .lKid a74 fun x76 => uc l75 fun a78 l79 => getI .i64 a78 fun x80 => uc l79 fun a81 l82 => getB a81 fun x83 => uc l82 fun a84 l85 => getS a84 fun x86 => uc l85 fun a87 l88 => getI .i64 a87 fun x89 => uc l88 fun a90 l91 => getS a90 fun x92 => uc l91 fun a93 l94 => getS a93 fun x95 => uc l94 fun a96 l97 => getB a96 fun x98 => un l97 (some ((TSeat.mk (TSess.mk (TView.mk (TQuery.mk x3 x6 x10 x13 x16 x19 x23 x26 x29) x32 x36) x40 (TView.mk (TQuery.mk x43 x46 x50 x53 x56 x59 x63 x66 x69) x72 x76) x80 x83) (TLine.mk x86 x89) x92 x95 x98) : TSeat))
    | .lCond => fun l => uc l fun a1 l2 => getI .i64 a1 fun x3 => uc l2 fun a4 l5 => getI .i64 a4 fun x6 => uc l5 fun a7 l8 => getI .i64 a7 fun x9 => un l8 (some ((TCond.mk x3 x6 x9) : TCond))
    | .lKid => fun l => uc l fun a1 l2 => getI .i64 a1 fun x3 => uc l2 fun a4 l5 => getI .i64 a4 fun x6 => un l5 (some ((TKid.mk x3 x6) : TKid))
    | .iRow => fun l => uc l fun a1 l2 => getI .i64 a1 fun x3 => uc l2 fun a4 l5 => getAny .int a4 fun x6 => un l5 (some ((TRow.mk x3 x6) : TRow))
    | .s_iRow => fun l => uc l fun a1 l2 => getAny .iRow a1 fun x3 => un l2 (some (x3 : List TRow))
    | .iChange => fun l => uc l fun a1 l2 => getI .i64 a1 fun x3 => uc l2 fun a4 l5 => getB a4 fun x6 => uc l5 fun a7 l8 => getB a7 fun x9 => uc l8 fun a10 l11 => getI .i64 a10 fun x12 => uc l11 fun a13 l14 => getAny .int a13 fun x15 => uc l14 fun a17 l18 => getI .i64 a17 fun x19 => uc l18 fun a20 l21 => getAny .int a20 fun x22 => un l21 (some ((TChange.mk x3 x6 x9 (TRow.mk x12 x15) (TRow.mk x19 x22)) : TChange))
    | .s_iChange => fun l => uc l fun a1 l2 => getAny .iChange a1 fun x3 => un l2 (some (x3 : List TChange))
    | .iSeat => fun l => uc l fun a1 l2 => getI .i64 a1 fun x3 => uc l2 fun a4 l5 => getAny .iCond a4 fun x6 => uc l5 fun a8 l9 => getI .i64 a8 fun x10 => uc l9 fun a11 l12 => getB a11 fun x13 => uc l12 fun a14 l15 => getI .i64 a14 fun x16 => uc l15 fun a17 l18 => getAny .int a17 fun x19 => uc l18 fun a21 l22 => getB a21 fun x23 => uc l22 fun a24 l25 => getI .i64 a24 fun x26 => uc l25 fun a27 l28 => getI .i64 a27 fun x29 => uc l28 fun a30 l31 => getAny .iRow a30 fun x32 => uc l31 fun a34 l35 => getAny .iKid a34 fun x36 => uc l35 fun a38 l39 => getI .i64 a38 fun x40 => uc l39 fun a41 l42 => getI .i64 a41 fun x43 => uc l42 fun a44 l45 => getAny .iCond a44 fun x46 => uc l45 fun a48 l49 => getI .i64 a48 fun x50 => uc l49 fun a51 l52 => getB a51 fun x53 => uc l52 fun a54 l55 => getI .i64 a54 fun x56 => uc l55 fun a57 l58 => getAny .int a57 fun x59 => uc l58 fun a61 l62 => getB a61 fun x63 => uc l62 fun a64 l65 => getI .i64 a64 fun x66 => uc l65 fun a67 l68 => getI .i64 a67 fun x69 => uc l68 fun a70 l71 => getAny .iRow a70 fun x72 => uc l71 fun a74 l75 => getAny .iKid a74 fun x76 => uc l75 fun a78 l79 => getI .i64 a78 fun x80 => uc l79 fun a81 l82 => getB a81 fun x83 => uc l82 fun a84 l85 => getS a84 fun x86 => uc l85 fun a87 l88 => getI .i64 a87 fun x89 => uc l88 fun a90 l91 => getS a90 fun x92 => uc l91 fun a93 l94 => getS a93 fun x95 => uc l94 fun a96 l97 => getB a96 fun x98 => un l97 (some ((TSeat.mk (TSess.mk (TView.mk (TQuery.mk x3 x6 x10 x13 x16 x19 x23 x26 x29) x32 x36) x40 (TView.mk (TQuery.mk x43 x46 x50 x53 x56 x59 x63 x66 x69) x72 x76) x80 x83) (TLine.mk x86 x89) x92 x95 x98) : TSeat))
    | .iCond => fun l => uc l fun a1 l2 => getI .i64 a1 fun x3 => uc l2 fun a4 l5 => getI .i64 a4 fun x6 => uc l5 fun a7 l8 => getI .i64 a7 fun x9 => un l8 (some ((TCond.mk x3 x6 x9) : TCond))
    | .iKid => fun l => uc l fun a1 l2 => getI .i64 a1 fun x3 => uc l2 fun a4 l5 => getI .i64 a4 fun x6 => un l5 (some ((TKid.mk x3 x6) : TKid))
instance codingOk : CodingOk where
  len := by intro m t x; cases t <;> rfl
  pos := by intro t; cases t <;> decide
  view := by intro m t x; cases t <;> rfl
  flat := by intro m m' t x h; cases t <;> first | rfl | cases h
  cell := by
    intro m t x a ha
    refine coded_of ?_ a ha
    cases t <;> cases m <;> rfl
  u8 := by intro m n; rfl
  dec := by
    intro m t l y h
    cases t with
    | int =>
      replace h : (uc l fun a1 l2 => getI .i64 a1 fun x3 => un l2 (some (x3 : Int))) = some y := h
      replace h := uc_ok h; obtain ⟨a1, l2, rfl, h⟩ := h
      replace h := getI_ok h; obtain ⟨x3, rfl, h⟩ := h
      replace h := un_ok h; obtain ⟨rfl, h⟩ := h
      cases h
      exact ⟨rfl, trivial⟩
    | u8 =>
      replace h : (uc l fun a1 l2 => getI .u8 a1 fun x3 => un l2 (some (x3 : Int))) = some y := h
      replace h := uc_ok h; obtain ⟨a1, l2, rfl, h⟩ := h
      replace h := getI_ok h; obtain ⟨x3, rfl, h⟩ := h
      replace h := un_ok h; obtain ⟨rfl, h⟩ := h
      cases h
      exact ⟨rfl, trivial⟩
    | str =>
      replace h : (uc l fun a1 l2 => getS a1 fun x3 => un l2 (some (x3 : Bs))) = some y := h
      replace h := uc_ok h; obtain ⟨a1, l2, rfl, h⟩ := h
      replace h := getS_ok h; obtain ⟨x3, rfl, h⟩ := h
      replace h := un_ok h; obtain ⟨rfl, h⟩ := h
      cases h
      exact ⟨rfl, trivial⟩
    | lRow =>
      replace h : (uc l fun a1 l2 => getI .i64 a1 fun x3 => uc l2 fun a4 l5 => getAny .int a4 fun x6 => un l5 (some ((TRow.mk x3 x6) : TRow))) = some y := h
      replace h := uc_ok h; obtain ⟨a1, l2, rfl, h⟩ := h
      replace h := getI_ok h; obtain ⟨x3, rfl, h⟩ := h
      replace h := uc_ok h; obtain ⟨a4, l5, rfl, h⟩ := h
      replace h := getAny_ok h; obtain ⟨x6, h, z7⟩ := h
      replace h := un_ok h; obtain ⟨rfl, h⟩ := h
      cases h
      exact ⟨rfl, z7 m, trivial⟩
    | s_lRow =>
      replace h : (uc l fun a1 l2 => getAny .lRow a1 fun x3 => un l2 (some (x3 : List TRow))) = some y := h
      replace h := uc_ok h; obtain ⟨a1, l2, rfl, h⟩ := h
      replace h := getAny_ok h; obtain ⟨x3, h, z4⟩ := h
      replace h := un_ok h; obtain ⟨rfl, h⟩ := h
      cases h
      exact ⟨z4 m, trivial⟩
    | lChange =>
      replace h : (uc l fun a1 l2 => getI .i64 a1 fun x3 => uc l2 fun a4 l5 => getB a4 fun x6 => uc l5 fun a7 l8 => getB a7 fun x9 => uc l8 fun a10 l11 => getI .i64 a10 fun x12 => uc l11 fun a13 l14 => getAny .int a13 fun x15 => uc l14 fun a17 l18 => getI .i64 a17 fun x19 => uc l18 fun a20 l21 => getAny .int a20 fun x22 => un l21 (some ((TChange.mk x3 x6 x9 (TRow.mk x12 x15) (TRow.mk x19 x22)) : TChange))) = some y := h
      replace h := uc_ok h; obtain ⟨a1, l2, rfl, h⟩ := h
      replace h := getI_ok h; obtain ⟨x3, rfl, h⟩ := h
      replace h := uc_ok h; obtain ⟨a4, l5, rfl, h⟩ := h
      replace h := getB_ok h; obtain ⟨x6, rfl, h⟩ := h
      replace h := uc_ok h; obtain ⟨a7, l8, rfl, h⟩ := h
      replace h := getB_ok h; obtain ⟨x9, rfl, h⟩ := h
      replace h := uc_ok h; obtain ⟨a10, l11, rfl, h⟩ := h
      replace h := getI_ok h; obtain ⟨x12, rfl, h⟩ := h
      replace h := uc_ok h; obtain ⟨a13, l14, rfl, h⟩ := h
      replace h := getAny_ok h; obtain ⟨x15, h, z16⟩ := h
      replace h := uc_ok h; obtain ⟨a17, l18, rfl, h⟩ := h
      replace h := getI_ok h; obtain ⟨x19, rfl, h⟩ := h
      replace h := uc_ok h; obtain ⟨a20, l21, rfl, h⟩ := h
      replace h := getAny_ok h; obtain ⟨x22, h, z23⟩ := h
      replace h := un_ok h; obtain ⟨rfl, h⟩ := h
      cases h
      exact ⟨rfl, rfl, rfl, rfl, z16 m, rfl, z23 m, trivial⟩
    | s_lChange =>
      replace h : (uc l fun a1 l2 => getAny .lChange a1 fun x3 => un l2 (some (x3 : List TChange))) = some y := h
      replace h := uc_ok h; obtain ⟨a1, l2, rfl, h⟩ := h
      replace h := getAny_ok h; obtain ⟨x3, h, z4⟩ := h
      replace h := un_ok h; obtain ⟨rfl, h⟩ := h
      cases h
      exact ⟨z4 m, trivial⟩
    | lSeat =>
      replace h : (uc l fun a1 l2 => getI .i64 a1 fun x3 => uc l2 fun a4 l5 => getAny .lCond a4 fun x6 => uc l5 fun a8 l9 => getI .i64 a8 fun x10 => uc l9 fun a11 l12 => getB a11 fun x13 => uc l12 fun a14 l15 => getI .i64 a14 fun x16 => uc l15 fun a17 l18 => getAny .int a17 fun x19 => uc l18 fun a21 l22 => getB a21 fun x23 => uc l22 fun a24 l25 => getI .i64 a24 fun x26 => uc l25 fun a27 l28 => getI .i64 a27 fun x29 => uc l28 fun a30 l31 => getAny .lRow a30 fun x32 => uc l31 fun a34 l35 => getAny .lKid a34 fun x36 => uc l35 fun a38 l39 => getI .i64 a38 fun x40 => uc l39 fun a41 l42 => getI .i64 a41 fun x43 => uc l42 fun a44 l45 => getAny .lCond a44 fun x46 => uc l45 fun a48 l49 => getI .i64 a48 fun x50 => uc l49 fun a51 l52 => getB a51 fun x53 => uc l52 fun a54 l55 => getI .i64 a54 fun x56 => uc l55 fun a57 l58 => getAny .int a57 fun x59 => uc l58 fun a61 l62 => getB a61 fun x63 => uc l62 fun a64 l65 => getI .i64 a64 fun x66 => uc l65 fun a67 l68 => getI .i64 a67 fun x69 => uc l68 fun a70 l71 => getAny .lRow a70 fun x72 => uc l71 fun a74 l75 => getAny .lKid a74 fun x76 => uc l75 fun a78 l79 => getI .i64 a78 fun x80 => uc l79 fun a81 l82 => getB a81 fun x83 => uc l82 fun a84 l85 => getS a84 fun x86 => uc l85 fun a87 l88 => getI .i64 a87 fun x89 => uc l88 fun a90 l91 => getS a90 fun x92 => uc l91 fun a93 l94 => getS a93 fun x95 => uc l94 fun a96 l97 => getB a96 fun x98 => un l97 (some ((TSeat.mk (TSess.mk (TView.mk (TQuery.mk x3 x6 x10 x13 x16 x19 x23 x26 x29) x32 x36) x40 (TView.mk (TQuery.mk x43 x46 x50 x53 x56 x59 x63 x66 x69) x72 x76) x80 x83) (TLine.mk x86 x89) x92 x95 x98) : TSeat))) = some y := h
      replace h := uc_ok h; obtain ⟨a1, l2, rfl, h⟩ := h
      replace h := getI_ok h; obtain ⟨x3, rfl, h⟩ := h
      replace h := uc_ok h; obtain ⟨a4, l5, rfl, h⟩ := h
      replace h := getAny_ok h; obtain ⟨x6, h, z7⟩ := h
      replace h := uc_ok h; obtain ⟨a8, l9, rfl, h⟩ := h
      replace h := getI_ok h; obtain ⟨x10, rfl, h⟩ := h
      replace h := uc_ok h; obtain ⟨a11, l12, rfl, h⟩ := h
      replace h := getB_ok h; obtain ⟨x13, rfl, h⟩ := h
      replace h := uc_ok h; obtain ⟨a14, l15, rfl, h⟩ := h
      replace h := getI_ok h; obtain ⟨x16, rfl, h⟩ := h
      replace h := uc_ok h; obtain ⟨a17, l18, rfl, h⟩ := h
      replace h := getAny_ok h; obtain ⟨x19, h, z20⟩ := h
      replace h := uc_ok h; obtain ⟨a21, l22, rfl, h⟩ := h
      replace h := getB_ok h; obtain ⟨x23, rfl, h⟩ := h
      replace h := uc_ok h; obtain ⟨a24, l25, rfl, h⟩ := h
      replace h := getI_ok h; obtain ⟨x26, rfl, h⟩ := h
      replace h := uc_ok h; obtain ⟨a27, l28, rfl, h⟩ := h
      replace h := getI_ok h; obtain ⟨x29, rfl, h⟩ := h
      replace h := uc_ok h; obtain ⟨a30, l31, rfl, h⟩ := h
      replace h := getAny_ok h; obtain ⟨x32, h, z33⟩ := h
      replace h := uc_ok h; obtain ⟨a34, l35, rfl, h⟩ := h
      replace h := getAny_ok h; obtain ⟨x36, h, z37⟩ := h
      replace h := uc_ok h; obtain ⟨a38, l39, rfl, h⟩ := h
      replace h := getI_ok h; obtain ⟨x40, rfl, h⟩ := h
      replace h := uc_ok h; obtain ⟨a41, l42, rfl, h⟩ := h
      replace h := getI_ok h; obtain ⟨x43, rfl, h⟩ := h
      replace h := uc_ok h; obtain ⟨a44, l45, rfl, h⟩ := h
      replace h := getAny_ok h; obtain ⟨x46, h, z47⟩ := h
      replace h := uc_ok h; obtain ⟨a48, l49, rfl, h⟩ := h
      replace h := getI_ok h; obtain ⟨x50, rfl, h⟩ := h
      replace h := uc_ok h; obtain ⟨a51, l52, rfl, h⟩ := h
      replace h := getB_ok h; obtain ⟨x53, rfl, h⟩ := h
      replace h := uc_ok h; obtain ⟨a54, l55, rfl, h⟩ := h
      replace h := getI_ok h; obtain ⟨x56, rfl, h⟩ := h
      replace h := uc_ok h; obtain ⟨a57, l58, rfl, h⟩ := h
      replace h := getAny_ok h; obtain ⟨x59, h, z60⟩ := h
      replace h := uc_ok h; obtain ⟨a61, l62, rfl, h⟩ := h
      replace h := getB_ok h; obtain ⟨x63, rfl, h⟩ := h
      replace h := uc_ok h; obtain ⟨a64, l65, rfl, h⟩ := h
      replace h := getI_ok h; obtain ⟨x66, rfl, h⟩ := h
      replace h := uc_ok h; obtain ⟨a67, l68, rfl, h⟩ := h
      replace h := getI_ok h; obtain ⟨x69, rfl, h⟩ := h
      replace h := uc_ok h; obtain ⟨a70, l71, rfl, h⟩ := h
      replace h := getAny_ok h; obtain ⟨x72, h, z73⟩ := h
      replace h := uc_ok h; obtain ⟨a74, l75, rfl, h⟩ := h
      replace h := getAny_ok h; obtain ⟨x76, h, z77⟩ := h
      replace h := uc_ok h; obtain ⟨a78, l79, rfl, h⟩ := h
      replace h := getI_ok h; obtain ⟨x80, rfl, h⟩ := h
      replace h := uc_ok h; obtain ⟨a81, l82, rfl, h⟩ := h
      replace h := getB_ok h; obtain ⟨x83, rfl, h⟩ := h
      replace h := uc_ok h; obtain ⟨a84, l85, rfl, h⟩ := h
      replace h := getS_ok h; obtain ⟨x86, rfl, h⟩ := h
      replace h := uc_ok h; obtain ⟨a87, l88, rfl, h⟩ := h
      replace h := getI_ok h; obtain ⟨x89, rfl, h⟩ := h
      replace h := uc_ok h; obtain ⟨a90, l91, rfl, h⟩ := h
      replace h := getS_ok h; obtain ⟨x92, rfl, h⟩ := h
      replace h := uc_ok h; obtain ⟨a93, l94, rfl, h⟩ := h
      replace h := getS_ok h; obtain ⟨x95, rfl, h⟩ := h
      replace h := uc_ok h; obtain ⟨a96, l97, rfl, h⟩ := h
      replace h := getB_ok h; obtain ⟨x98, rfl, h⟩ := h
      replace h := un_ok h; obtain ⟨rfl, h⟩ := h
      cases h
      exact ⟨rfl, z7 m, rfl, rfl, rfl, z20 m, rfl, rfl, rfl, z33 m, z37 m, rfl, rfl, z47 m, rfl, rfl, rfl, z60 m, rfl, rfl, rfl, z73 m, z77 m, rfl, rfl, rfl, rfl, rfl, rfl, rfl, trivial⟩
    | lCond =>
      replace h : (uc l fun a1 l2 => getI .i64 a1 fun x3 => uc l2 fun a4 l5 => getI .i64 a4 fun x6 => uc l5 fun a7 l8 => getI .i64 a7 fun x9 => un l8 (some ((TCond.mk x3 x6 x9) : TCond))) = some y := h
      replace h := uc_ok h; obtain ⟨a1, l2, rfl, h⟩ := h
      replace h := getI_ok h; obtain ⟨x3, rfl, h⟩ := h
      replace h := uc_ok h; obtain ⟨a4, l5, rfl, h⟩ := h
      replace h := getI_ok h; obtain ⟨x6, rfl, h⟩ := h
      replace h := uc_ok h; obtain ⟨a7, l8, rfl, h⟩ := h
      replace h := getI_ok h; obtain ⟨x9, rfl, h⟩ := h
      replace h := un_ok h; obtain ⟨rfl, h⟩ := h
      cases h
      exact ⟨rfl, rfl, rfl, trivial⟩
    | lKid =>
      replace h : (uc l fun a1 l2 => getI .i64 a1 fun x3 => uc l2 fun a4 l5 => getI .i64 a4 fun x6 => un l5 (some ((TKid.mk x3 x6) : TKid))) = some y := h
      replace h := uc_ok h; obtain ⟨a1, l2, rfl, h⟩ := h
      replace h := getI_ok h; obtain ⟨x3, rfl, h⟩ := h
      replace h := uc_ok h; obtain ⟨a4, l5, rfl, h⟩ := h
      replace h := getI_ok h; obtain ⟨x6, rfl, h⟩ := h
      replace h := un_ok h; obtain ⟨rfl, h⟩ := h
      cases h
      exact ⟨rfl, rfl, trivial⟩
    | iRow =>
      replace h : (uc l fun a1 l2 => getI .i64 a1 fun x3 => uc l2 fun a4 l5 => getAny .int a4 fun x6 => un l5 (some ((TRow.mk x3 x6) : TRow))) = some y := h
      replace h := uc_ok h; obtain ⟨a1, l2, rfl, h⟩ := h
      replace h := getI_ok h; obtain ⟨x3, rfl, h⟩ := h
      replace h := uc_ok h; obtain ⟨a4, l5, rfl, h⟩ := h
      replace h := getAny_ok h; obtain ⟨x6, h, z7⟩ := h
      replace h := un_ok h; obtain ⟨rfl, h⟩ := h
      cases h
      exact ⟨rfl, z7 m, trivial⟩
    | s_iRow =>
      replace h : (uc l fun a1 l2 => getAny .iRow a1 fun x3 => un l2 (some (x3 : List TRow))) = some y := h
      replace h := uc_ok h; obtain ⟨a1, l2, rfl, h⟩ := h
      replace h := getAny_ok h; obtain ⟨x3, h, z4⟩ := h
      replace h := un_ok h; obtain ⟨rfl, h⟩ := h
      cases h
      exact ⟨z4 m, trivial⟩
    | iChange =>
      replace h : (uc l fun a1 l2 => getI .i64 a1 fun x3 => uc l2 fun a4 l5 => getB a4 fun x6 => uc l5 fun a7 l8 => getB a7 fun x9 => uc l8 fun a10 l11 => getI .i64 a10 fun x12 => uc l11 fun a13 l14 => getAny .int a13 fun x15 => uc l14 fun a17 l18 => getI .i64 a17 fun x19 => uc l18 fun a20 l21 => getAny .int a20 fun x22 => un l21 (some ((TChange.mk x3 x6 x9 (TRow.mk x12 x15) (TRow.mk x19 x22)) : TChange))) = some y := h
      replace h := uc_ok h; obtain ⟨a1, l2, rfl, h⟩ := h
      replace h := getI_ok h; obtain ⟨x3, rfl, h⟩ := h
      replace h := uc_ok h; obtain ⟨a4, l5, rfl, h⟩ := h
      replace h := getB_ok h; obtain ⟨x6, rfl, h⟩ := h
      replace h := uc_ok h; obtain ⟨a7, l8, rfl, h⟩ := h
      replace h := getB_ok h; obtain ⟨x9, rfl, h⟩ := h
      replace h := uc_ok h; obtain ⟨a10, l11, rfl, h⟩ := h
      replace h := getI_ok h; obtain ⟨x12, rfl, h⟩ := h
      replace h := uc_ok h; obtain ⟨a13, l14, rfl, h⟩ := h
      replace h := getAny_ok h; obtain ⟨x15, h, z16⟩ := h
      replace h := uc_ok h; obtain ⟨a17, l18, rfl, h⟩ := h
      replace h := getI_ok h; obtain ⟨x19, rfl, h⟩ := h
      replace h := uc_ok h; obtain ⟨a20, l21, rfl, h⟩ := h
      replace h := getAny_ok h; obtain ⟨x22, h, z23⟩ := h
      replace h := un_ok h; obtain ⟨rfl, h⟩ := h
      cases h
      exact ⟨rfl, rfl, rfl, rfl, z16 m, rfl, z23 m, trivial⟩
    | s_iChange =>
      replace h : (uc l fun a1 l2 => getAny .iChange a1 fun x3 => un l2 (some (x3 : List TChange))) = some y := h
      replace h := uc_ok h; obtain ⟨a1, l2, rfl, h⟩ := h
      replace h := getAny_ok h; obtain ⟨x3, h, z4⟩ := h
      replace h := un_ok h; obtain ⟨rfl, h⟩ := h
      cases h
      exact ⟨z4 m, trivial⟩
    | iSeat =>
      replace h : (uc l fun a1 l2 => getI .i64 a1 fun x3 => uc l2 fun a4 l5 => getAny .iCond a4 fun x6 => uc l5 fun a8 l9 => getI .i64 a8 fun x10 => uc l9 fun a11 l12 => getB a11 fun x13 => uc l12 fun a14 l15 => getI .i64 a14 fun x16 => uc l15 fun a17 l18 => getAny .int a17 fun x19 => uc l18 fun a21 l22 => getB a21 fun x23 => uc l22 fun a24 l25 => getI .i64 a24 fun x26 => uc l25 fun a27 l28 => getI .i64 a27 fun x29 => uc l28 fun a30 l31 => getAny .iRow a30 fun x32 => uc l31 fun a34 l35 => getAny .iKid a34 fun x36 => uc l35 fun a38 l39 => getI .i64 a38 fun x40 => uc l39 fun a41 l42 => getI .i64 a41 fun x43 => uc l42 fun a44 l45 => getAny .iCond a44 fun x46 => uc l45 fun a48 l49 => getI .i64 a48 fun x50 => uc l49 fun a51 l52 => getB a51 fun x53 => uc l52 fun a54 l55 => getI .i64 a54 fun x56 => uc l55 fun a57 l58 => getAny .int a57 fun x59 => uc l58 fun a61 l62 => getB a61 fun x63 => uc l62 fun a64 l65 => getI .i64 a64 fun x66 => uc l65 fun a67 l68 => getI .i64 a67 fun x69 => uc l68 fun a70 l71 => getAny .iRow a70 fun x72 => uc l71 fun a74 l75 => getAny .iKid a74 fun x76 => uc l75 fun a78 l79 => getI .i64 a78 fun x80 => uc l79 fun a81 l82 => getB a81 fun x83 => uc l82 fun a84 l85 => getS a84 fun x86 => uc l85 fun a87 l88 => getI .i64 a87 fun x89 => uc l88 fun a90 l91 => getS a90 fun x92 => uc l91 fun a93 l94 => getS a93 fun x95 => uc l94 fun a96 l97 => getB a96 fun x98 => un l97 (some ((TSeat.mk (TSess.mk (TView.mk (TQuery.mk x3 x6 x10 x13 x16 x19 x23 x26 x29) x32 x36) x40 (TView.mk (TQuery.mk x43 x46 x50 x53 x56 x59 x63 x66 x69) x72 x76) x80 x83) (TLine.mk x86 x89) x92 x95 x98) : TSeat))) = some y := h
      replace h := uc_ok h; obtain ⟨a1, l2, rfl, h⟩ := h
      replace h := getI_ok h; obtain ⟨x3, rfl, h⟩ := h
      replace h := uc_ok h; obtain ⟨a4, l5, rfl, h⟩ := h
      replace h := getAny_ok h; obtain ⟨x6, h, z7⟩ := h
      replace h := uc_ok h; obtain ⟨a8, l9, rfl, h⟩ := h
      replace h := getI_ok h; obtain ⟨x10, rfl, h⟩ := h
      replace h := uc_ok h; obtain ⟨a11, l12, rfl, h⟩ := h
      replace h := getB_ok h; obtain ⟨x13, rfl, h⟩ := h
      replace h := uc_ok h; obtain ⟨a14, l15, rfl, h⟩ := h
      replace h := getI_ok h; obtain ⟨x16, rfl, h⟩ := h
      replace h := uc_ok h; obtain ⟨a17, l18, rfl, h⟩ := h
      replace h := getAny_ok h; obtain ⟨x19, h, z20⟩ := h
      replace h := uc_ok h; obtain ⟨a21, l22, rfl, h⟩ := h
      replace h := getB_ok h; obtain ⟨x23, rfl, h⟩ := h
      replace h := uc_ok h; obtain ⟨a24, l25, rfl, h⟩ := h
      replace h := getI_ok h; obtain ⟨x26, rfl, h⟩ := h
      replace h := uc_ok h; obtain ⟨a27, l28, rfl, h⟩ := h
      replace h := getI_ok h; obtain ⟨x29, rfl, h⟩ := h
      replace h := uc_ok h; obtain ⟨a30, l31, rfl, h⟩ := h
      replace h := getAny_ok h; obtain ⟨x32, h, z33⟩ := h
      replace h := uc_ok h; obtain ⟨a34, l35, rfl, h⟩ := h
      replace h := getAny_ok h; obtain ⟨x36, h, z37⟩ := h
      replace h := uc_ok h; obtain ⟨a38, l39, rfl, h⟩ := h
      replace h := getI_ok h; obtain ⟨x40, rfl, h⟩ := h
      replace h := uc_ok h; obtain ⟨a41, l42, rfl, h⟩ := h
      replace h := getI_ok h; obtain ⟨x43, rfl, h⟩ := h
      replace h := uc_ok h; obtain ⟨a44, l45, rfl, h⟩ := h
      replace h := getAny_ok h; obtain ⟨x46, h, z47⟩ := h
      replace h := uc_ok h; obtain ⟨a48, l49, rfl, h⟩ := h
      replace h := getI_ok h; obtain ⟨x50, rfl, h⟩ := h
      replace h := uc_ok h; obtain ⟨a51, l52, rfl, h⟩ := h
      replace h := getB_ok h; obtain ⟨x53, rfl, h⟩ := h
      replace h := uc_ok h; obtain ⟨a54, l55, rfl, h⟩ := h
      replace h := getI_ok h; obtain ⟨x56, rfl, h⟩ := h
      replace h := uc_ok h; obtain ⟨a57, l58, rfl, h⟩ := h
      replace h := getAny_ok h; obtain ⟨x59, h, z60⟩ := h
      replace h := uc_ok h; obtain ⟨a61, l62, rfl, h⟩ := h
      replace h := getB_ok h; obtain ⟨x63, rfl, h⟩ := h
      replace h := uc_ok h; obtain ⟨a64, l65, rfl, h⟩ := h
      replace h := getI_ok h; obtain ⟨x66, rfl, h⟩ := h
      replace h := uc_ok h; obtain ⟨a67, l68, rfl, h⟩ := h
      replace h := getI_ok h; obtain ⟨x69, rfl, h⟩ := h
      replace h := uc_ok h; obtain ⟨a70, l71, rfl, h⟩ := h
      replace h := getAny_ok h; obtain ⟨x72, h, z73⟩ := h
      replace h := uc_ok h; obtain ⟨a74, l75, rfl, h⟩ := h
      replace h := getAny_ok h; obtain ⟨x76, h, z77⟩ := h
      replace h := uc_ok h; obtain ⟨a78, l79, rfl, h⟩ := h
      replace h := getI_ok h; obtain ⟨x80, rfl, h⟩ := h
      replace h := uc_ok h; obtain ⟨a81, l82, rfl, h⟩ := h
      replace h := getB_ok h; obtain ⟨x83, rfl, h⟩ := h
      replace h := uc_ok h; obtain ⟨a84, l85, rfl, h⟩ := h
      replace h := getS_ok h; obtain ⟨x86, rfl, h⟩ := h
      replace h := uc_ok h; obtain ⟨a87, l88, rfl, h⟩ := h
      replace h := getI_ok h; obtain ⟨x89, rfl, h⟩ := h
      replace h := uc_ok h; obtain ⟨a90, l91, rfl, h⟩ := h
      replace h := getS_ok h; obtain ⟨x92, rfl, h⟩ := h
      replace h := uc_ok h; obtain ⟨a93, l94, rfl, h⟩ := h
      replace h := getS_ok h; obtain ⟨x95, rfl, h⟩ := h
      replace h := uc_ok h; obtain ⟨a96, l97, rfl, h⟩ := h
      replace h := getB_ok h; obtain ⟨x98, rfl, h⟩ := h
      replace h := un_ok h; obtain ⟨rfl, h⟩ := h
      cases h
      exact ⟨rfl, z7 m, rfl, rfl, rfl, z20 m, rfl, rfl, rfl, z33 m, z37 m, rfl, rfl, z47 m, rfl, rfl, rfl, z60 m, rfl, rfl, rfl, z73 m, z77 m, rfl, rfl, rfl, rfl, rfl, rfl, rfl, trivial⟩
    | iCond =>
      replace h : (uc l fun a1 l2 => getI .i64 a1 fun x3 => uc l2 fun a4 l5 => getI .i64 a4 fun x6 => uc l5 fun a7 l8 => getI .i64 a7 fun x9 => un l8 (some ((TCond.mk x3 x6 x9) : TCond))) = some y := h
      replace h := uc_ok h; obtain ⟨a1, l2, rfl, h⟩ := h
      replace h := getI_ok h; obtain ⟨x3, rfl, h⟩ := h
      replace h := uc_ok h; obtain ⟨a4, l5, rfl, h⟩ := h
      replace h := getI_ok h; obtain ⟨x6, rfl, h⟩ := h
      replace h := uc_ok h; obtain ⟨a7, l8, rfl, h⟩ := h
      replace h := getI_ok h; obtain ⟨x9, rfl, h⟩ := h
      replace h := un_ok h; obtain ⟨rfl, h⟩ := h
      cases h
      exact ⟨rfl, rfl, rfl, trivial⟩
    | iKid =>
      replace h : (uc l fun a1 l2 => getI .i64 a1 fun x3 => uc l2 fun a4 l5 => getI .i64 a4 fun x6 => un l5 (some ((TKid.mk x3 x6) : TKid))) = some y := h
      replace h := uc_ok h; obtain ⟨a1, l2, rfl, h⟩ := h
      replace h := getI_ok h; obtain ⟨x3, rfl, h⟩ := h
      replace h := uc_ok h; obtain ⟨a4, l5, rfl, h⟩ := h
      replace h := getI_ok h; obtain ⟨x6, rfl, h⟩ := h
      replace h := un_ok h; obtain ⟨rfl, h⟩ := h
      cases h
      exact ⟨rfl, rfl, trivial⟩
def eid : TC → TypeId
  | .int => 3
  | .u8 => 5
  | .str => 9
  | .lRow => 143
  | .s_lRow => 81
  | .lChange => 145
  | .s_lChange => 107
  | .lSeat => 89
  | .lCond => 183
  | .lKid => 178
  | .iRow => 112
  | .s_iRow => 57
  | .iChange => 114
  | .s_iChange => 92
  | .iSeat => 66
  | .iCond => 153
  | .iKid => 125
noncomputable def E : Env := ⟨Tryz.prog, eid⟩
def ttL : List (Nat × TD) := [
  (3, ⟨1, false, [.i .i64 0], [], none, some .i64, false, false, []⟩),
  (4, ⟨1, false, [.b false], [], none, none, false, true, []⟩),
  (9, ⟨1, false, [.s []], [], none, none, true, false, []⟩),
  (22, ⟨1, false, [.nils], [], some .int, none, false, false, []⟩),
  (24, ⟨1, true, [.nils], [(0, 1)], none, none, false, false, []⟩),
  (25, ⟨1, false, [.nils], [], some .s_lRow, none, false, false, []⟩),
  (27, ⟨3, true, [.nils, .i .i64 0, .nils], [(0, 1), (1, 1), (2, 1)], none, none, false, false, []⟩),
  (28, ⟨1, false, [.nils], [], some .s_lChange, none, false, false, []⟩),
  (30, ⟨4, true, [.nils, .i .i64 0, .nils, .nils], [(0, 3), (3, 1)], none, none, false, false, []⟩),
  (31, ⟨1, false, [.nils], [], some .lSeat, none, false, false, []⟩),
  (33, ⟨5, true, [.nils, .i .i64 0, .nils, .nils, .nils], [(0, 4), (4, 1)], none, none, false, false, []⟩),
  (36, ⟨1, true, [.nils], [(0, 1)], none, none, false, false, []⟩),
  (37, ⟨1, false, [.nils], [], some .s_iRow, none, false, false, []⟩),
  (39, ⟨3, true, [.nils, .i .i64 0, .nils], [(0, 1), (1, 1), (2, 1)], none, none, false, false, []⟩),
  (40, ⟨1, false, [.nils], [], some .s_iChange, none, false, false, []⟩),
  (42, ⟨4, true, [.nils, .i .i64 0, .nils, .nils], [(0, 3), (3, 1)], none, none, false, false, []⟩),
  (43, ⟨1, false, [.nils], [], some .iSeat, none, false, false, []⟩),
  (45, ⟨5, true, [.nils, .i .i64 0, .nils, .nils, .nils], [(0, 4), (4, 1)], none, none, false, false, []⟩),
  (54, ⟨1, false, [.nils], [], some .iCond, none, false, false, []⟩),
  (56, ⟨9, true, [.i .i64 0, .nils, .i .i64 0, .b false, .i .i64 0, .nils, .b false, .i .i64 0, .i .i64 0], [(0, 1), (1, 1), (2, 1), (3, 1), (4, 1), (5, 1), (6, 1), (7, 1), (8, 1)], none, none, false, false, []⟩),
  (57, ⟨1, false, [.nils], [], some .iRow, none, false, false, []⟩),
  (58, ⟨1, false, [.nils], [], some .iKid, none, false, false, []⟩),
  (60, ⟨11, true, [.i .i64 0, .nils, .i .i64 0, .b false, .i .i64 0, .nils, .b false, .i .i64 0, .i .i64 0, .nils, .nils], [(0, 9), (9, 1), (10, 1)], none, none, false, false, []⟩),
  (62, ⟨25, true, [.i .i64 0, .nils, .i .i64 0, .b false, .i .i64 0, .nils, .b false, .i .i64 0, .i .i64 0, .nils, .nils, .i .i64 0, .i .i64 0, .nils, .i .i64 0, .b false, .i .i64 0, .nils, .b false, .i .i64 0, .i .i64 0, .nils, .nils, .i .i64 0, .b false], [(0, 11), (11, 1), (12, 11), (23, 1), (24, 1)], none, none, false, false, []⟩),
  (64, ⟨2, true, [.s [], .i .i64 0], [(0, 1), (1, 1)], none, none, false, false, [.s, .i]⟩),
  (66, ⟨30, true, [.i .i64 0, .nils, .i .i64 0, .b false, .i .i64 0, .nils, .b false, .i .i64 0, .i .i64 0, .nils, .nils, .i .i64 0, .i .i64 0, .nils, .i .i64 0, .b false, .i .i64 0, .nils, .b false, .i .i64 0, .i .i64 0, .nils, .nils, .i .i64 0, .b false, .s [], .i .i64 0, .s [], .s [], .b false], [(0, 25), (25, 2), (27, 1), (28, 1), (29, 1)], none, none, false, false, []⟩),
  (78, ⟨1, false, [.nils], [], some .lCond, none, false, false, []⟩),
  (80, ⟨9, true, [.i .i64 0, .nils, .i .i64 0, .b false, .i .i64 0, .nils, .b false, .i .i64 0, .i .i64 0], [(0, 1), (1, 1), (2, 1), (3, 1), (4, 1), (5, 1), (6, 1), (7, 1), (8, 1)], none, none, false, false, []⟩),
  (81, ⟨1, false, [.nils], [], some .lRow, none, false, false, []⟩),
  (82, ⟨1, false, [.nils], [], some .lKid, none, false, false, []⟩),
  (84, ⟨11, true, [.i .i64 0, .nils, .i .i64 0, .b false, .i .i64 0, .nils, .b false, .i .i64 0, .i .i64 0, .nils, .nils], [(0, 9), (9, 1), (10, 1)], none, none, false, false, []⟩),
  (86, ⟨25, true, [.i .i64 0, .nils, .i .i64 0, .b false, .i .i64 0, .nils, .b false, .i .i64 0, .i .i64 0, .nils, .nils, .i .i64 0, .i .i64 0, .nils, .i .i64 0, .b false, .i .i64 0, .nils, .b false, .i .i64 0, .i .i64 0, .nils, .nils, .i .i64 0, .b false], [(0, 11), (11, 1), (12, 11), (23, 1), (24, 1)], none, none, false, false, []⟩),
  (87, ⟨2, true, [.s [], .i .i64 0], [(0, 1), (1, 1)], none, none, false, false, [.s, .i]⟩),
  (89, ⟨30, true, [.i .i64 0, .nils, .i .i64 0, .b false, .i .i64 0, .nils, .b false, .i .i64 0, .i .i64 0, .nils, .nils, .i .i64 0, .i .i64 0, .nils, .i .i64 0, .b false, .i .i64 0, .nils, .b false, .i .i64 0, .i .i64 0, .nils, .nils, .i .i64 0, .b false, .s [], .i .i64 0, .s [], .s [], .b false], [(0, 25), (25, 2), (27, 1), (28, 1), (29, 1)], none, none, false, false, []⟩),
  (92, ⟨1, false, [.nils], [], some .iChange, none, false, false, []⟩),
  (107, ⟨1, false, [.nils], [], some .lChange, none, false, false, []⟩),
  (112, ⟨2, true, [.i .i64 0, .nils], [(0, 1), (1, 1)], none, none, false, false, []⟩),
  (114, ⟨7, true, [.i .i64 0, .b false, .b false, .i .i64 0, .nils, .i .i64 0, .nils], [(0, 1), (1, 1), (2, 1), (3, 2), (5, 2)], none, none, false, false, []⟩),
  (125, ⟨2, true, [.i .i64 0, .i .i64 0], [(0, 1), (1, 1)], none, none, false, false, [.i, .i]⟩),
  (143, ⟨2, true, [.i .i64 0, .nils], [(0, 1), (1, 1)], none, none, false, false, []⟩),
  (145, ⟨7, true, [.i .i64 0, .b false, .b false, .i .i64 0, .nils, .i .i64 0, .nils], [(0, 1), (1, 1), (2, 1), (3, 2), (5, 2)], none, none, false, false, []⟩),
  (153, ⟨3, true, [.i .i64 0, .i .i64 0, .i .i64 0], [(0, 1), (1, 1), (2, 1)], none, none, false, false, [.i, .i, .i]⟩),
  (178, ⟨2, true, [.i .i64 0, .i .i64 0], [(0, 1), (1, 1)], none, none, false, false, [.i, .i]⟩),
  (183, ⟨3, true, [.i .i64 0, .i .i64 0, .i .i64 0], [(0, 1), (1, 1), (2, 1)], none, none, false, false, [.i, .i, .i]⟩)]
def tt (T : Nat) : Option TD := look2 ttL T
theorem ttOk (T : TypeId) : TTok E T (tt T) := tt_ok (E := E) (by kernel_rfl) T
theorem tcOk (t : TC) : TCok E t := by
  cases t with
  | int => exact tcB_ok (zc := [.i .i64 0]) (by kernel_rfl) (fun m => ⟨rfl, trivial⟩)
  | u8 => exact tcB_ok (zc := [.i .u8 0]) (by kernel_rfl) (fun m => ⟨rfl, trivial⟩)
  | str => exact tcB_ok (zc := [.s []]) (by kernel_rfl) (fun m => ⟨rfl, trivial⟩)
  | lRow => exact tcB_ok (zc := [.i .i64 0, .nils]) (by kernel_rfl) (fun m => ⟨rfl, ⟨_, rfl⟩, trivial⟩)
  | s_lRow => exact tcB_ok (zc := [.nils]) (by kernel_rfl) (fun m => ⟨⟨_, rfl⟩, trivial⟩)
  | lChange => exact tcB_ok (zc := [.i .i64 0, .b false, .b false, .i .i64 0, .nils, .i .i64 0, .nils]) (by kernel_rfl) (fun m => ⟨rfl, rfl, rfl, rfl, ⟨_, rfl⟩, rfl, ⟨_, rfl⟩, trivial⟩)
  | s_lChange => exact tcB_ok (zc := [.nils]) (by kernel_rfl) (fun m => ⟨⟨_, rfl⟩, trivial⟩)
  | lSeat => exact tcB_ok (zc := [.i .i64 0, .nils, .i .i64 0, .b false, .i .i64 0, .nils, .b false, .i .i64 0, .i .i64 0, .nils, .nils, .i .i64 0, .i .i64 0, .nils, .i .i64 0, .b false, .i .i64 0, .nils, .b false, .i .i64 0, .i .i64 0, .nils, .nils, .i .i64 0, .b false, .s [], .i .i64 0, .s [], .s [], .b false]) (by kernel_rfl) (fun m => ⟨rfl, ⟨_, rfl⟩, rfl, rfl, rfl, ⟨_, rfl⟩, rfl, rfl, rfl, ⟨_, rfl⟩, ⟨_, rfl⟩, rfl, rfl, ⟨_, rfl⟩, rfl, rfl, rfl, ⟨_, rfl⟩, rfl, rfl, rfl, ⟨_, rfl⟩, ⟨_, rfl⟩, rfl, rfl, rfl, rfl, rfl, rfl, rfl, trivial⟩)
  | lCond => exact tcB_ok (zc := [.i .i64 0, .i .i64 0, .i .i64 0]) (by kernel_rfl) (fun m => ⟨rfl, rfl, rfl, trivial⟩)
  | lKid => exact tcB_ok (zc := [.i .i64 0, .i .i64 0]) (by kernel_rfl) (fun m => ⟨rfl, rfl, trivial⟩)
  | iRow => exact tcB_ok (zc := [.i .i64 0, .nils]) (by kernel_rfl) (fun m => ⟨rfl, ⟨_, rfl⟩, trivial⟩)
  | s_iRow => exact tcB_ok (zc := [.nils]) (by kernel_rfl) (fun m => ⟨⟨_, rfl⟩, trivial⟩)
  | iChange => exact tcB_ok (zc := [.i .i64 0, .b false, .b false, .i .i64 0, .nils, .i .i64 0, .nils]) (by kernel_rfl) (fun m => ⟨rfl, rfl, rfl, rfl, ⟨_, rfl⟩, rfl, ⟨_, rfl⟩, trivial⟩)
  | s_iChange => exact tcB_ok (zc := [.nils]) (by kernel_rfl) (fun m => ⟨⟨_, rfl⟩, trivial⟩)
  | iSeat => exact tcB_ok (zc := [.i .i64 0, .nils, .i .i64 0, .b false, .i .i64 0, .nils, .b false, .i .i64 0, .i .i64 0, .nils, .nils, .i .i64 0, .i .i64 0, .nils, .i .i64 0, .b false, .i .i64 0, .nils, .b false, .i .i64 0, .i .i64 0, .nils, .nils, .i .i64 0, .b false, .s [], .i .i64 0, .s [], .s [], .b false]) (by kernel_rfl) (fun m => ⟨rfl, ⟨_, rfl⟩, rfl, rfl, rfl, ⟨_, rfl⟩, rfl, rfl, rfl, ⟨_, rfl⟩, ⟨_, rfl⟩, rfl, rfl, ⟨_, rfl⟩, rfl, rfl, rfl, ⟨_, rfl⟩, rfl, rfl, rfl, ⟨_, rfl⟩, ⟨_, rfl⟩, rfl, rfl, rfl, rfl, rfl, rfl, rfl, trivial⟩)
  | iCond => exact tcB_ok (zc := [.i .i64 0, .i .i64 0, .i .i64 0]) (by kernel_rfl) (fun m => ⟨rfl, rfl, rfl, trivial⟩)
  | iKid => exact tcB_ok (zc := [.i .i64 0, .i .i64 0]) (by kernel_rfl) (fun m => ⟨rfl, rfl, trivial⟩)
theorem u8Ok : E.P.underlying (E.eid .u8) = some (.int .u8) := by kernel_rfl
theorem mixedOk : E.P.follows .mixedOrders = true := by kernel_rfl
end Go.Pi
end
section
set_option linter.unusedVariables false
/-! Patterns of abstract values: what they hold, how it is read and laid. -/
namespace Go.Pi
def both {α β : Type} (a : Option α) (b : Option β) : Option (α × β) := match a with
  | some x => match b with
    | some y => some (x, y)
    | none => none
  | none => none
theorem both_ok {α β : Type} {a : Option α} {b : Option β} {z : α × β} (h : both a b = some z) : a = some z.1 ∧ b = some z.2 := by
  cases a with
  | none => cases h
  | some x => cases b with
    | none => cases h
    | some y => cases h; exact ⟨rfl, rfl⟩
inductive Pat : Type where
  | i (k : IntKind) | b | s
  | sl (m : M) (t : TC)
  | ag (ps : List Pat) | tu (ps : List Pat) | bx (ps : List Pat)
  | pc (ps : List Pat) (off : Nat)
  | clo (f : FuncId) (ps : List Pat)
  | rt (r : Nat) | pb (r off : Nat)
  | nils | nili | u
mutual
def Pat.T : Pat → Type
  | .i _ => Int
  | .b => Bool
  | .s => Bs
  | .sl _ t => List (El t)
  | .ag ps => Pat.Ts ps
  | .tu ps => Pat.Ts ps
  | .bx ps => Pat.Ts ps
  | .pc ps _ => Pat.Ts ps
  | .clo _ ps => Pat.Ts ps
  | .rt _ => Unit
  | .pb _ _ => Unit
  | .nils => Unit
  | .nili => Unit
  | .u => Unit
def Pat.Ts : List Pat → Type
  | [] => Unit
  | p :: ps => Pat.T p × Pat.Ts ps
end
mutual
def Pat.enc : (p : Pat) → Pat.T p → AV
  | .i k, n => .i k n
  | .b, q => .b q
  | .s, l => .s l
  | .sl m t, xs => .sl m t xs
  | .ag ps, x => .ag (Pat.encs ps x)
  | .tu ps, x => .tu (Pat.encs ps x)
  | .bx ps, x => .bx (Pat.encs ps x)
  | .pc ps off, x => .pc (Pat.encs ps x) off
  | .clo f ps, x => .clo f (Pat.encs ps x)
  | .rt r, _ => .rt r
  | .pb r off, _ => .pb r off
  | .nils, _ => .nils
  | .nili, _ => .nili
  | .u, _ => .u
def Pat.encs : (ps : List Pat) → Pat.Ts ps → List AV
  | [], _ => []
  | p :: ps, x => Pat.enc p x.1 :: Pat.encs ps x.2
end
mutual
def Pat.dec : (p : Pat) → AV → Option (Pat.T p)
  | .i k, a => getI k a fun n => some n
  | .b, a => getB a fun q => some q
  | .s, a => getS a fun l => some l
  | .sl m t, a => getSl m t a fun xs => some xs
  | .ag ps, a => getAg a fun l => Pat.decs ps l
  | .tu ps, a => getTu a fun l => Pat.decs ps l
  | .bx ps, a => getBx a fun l => Pat.decs ps l
  | .pc ps off, a => getPc off a fun l => Pat.decs ps l
  | .clo f ps, a => getClo f a fun l => Pat.decs ps l
  | .rt r, a => isRt r a (some ())
  | .pb r off, a => isPb r off a (some ())
  | .nils, a => isNils a (some ())
  | .nili, a => isNili a (some ())
  | .u, a => isU a (some ())
def Pat.decs : (ps : List Pat) → List AV → Option (Pat.Ts ps)
  | [], l => un l (some ())
  | p :: ps, l => uc l fun a l => both (Pat.dec p a) (Pat.decs ps l)
end
mutual
theorem Pat.dec_ok : ∀ (p : Pat) (a : AV) (x : Pat.T p), Pat.dec p a = some x → a = Pat.enc p x
  | .i k, a, x, h => by simp only [Pat.dec] at h; replace h := getI_ok h; obtain ⟨n, rfl, h⟩ := h; cases h; simp only [Pat.enc]
  | .b, a, x, h => by simp only [Pat.dec] at h; replace h := getB_ok h; obtain ⟨n, rfl, h⟩ := h; cases h; simp only [Pat.enc]
  | .s, a, x, h => by simp only [Pat.dec] at h; replace h := getS_ok h; obtain ⟨n, rfl, h⟩ := h; cases h; simp only [Pat.enc]
  | .sl m t, a, x, h => by simp only [Pat.dec] at h; replace h := getSl_ok h; obtain ⟨n, rfl, h⟩ := h; cases h; simp only [Pat.enc]
  | .ag ps, a, x, h => by simp only [Pat.dec] at h; replace h := getAg_ok h; obtain ⟨l, rfl, h⟩ := h; rw [Pat.decs_ok ps l x h]; simp only [Pat.enc]
  | .tu ps, a, x, h => by simp only [Pat.dec] at h; replace h := getTu_ok h; obtain ⟨l, rfl, h⟩ := h; rw [Pat.decs_ok ps l x h]; simp only [Pat.enc]
  | .bx ps, a, x, h => by simp only [Pat.dec] at h; replace h := getBx_ok h; obtain ⟨l, rfl, h⟩ := h; rw [Pat.decs_ok ps l x h]; simp only [Pat.enc]
  | .pc ps off, a, x, h => by simp only [Pat.dec] at h; replace h := getPc_ok h; obtain ⟨l, rfl, h⟩ := h; rw [Pat.decs_ok ps l x h]; simp only [Pat.enc]
  | .clo f ps, a, x, h => by simp only [Pat.dec] at h; replace h := getClo_ok h; obtain ⟨l, rfl, h⟩ := h; rw [Pat.decs_ok ps l x h]; simp only [Pat.enc]
  | .rt r, a, x, h => by simp only [Pat.dec] at h; replace h := isRt_ok h; obtain ⟨rfl, h⟩ := h; simp only [Pat.enc]
  | .pb r off, a, x, h => by simp only [Pat.dec] at h; replace h := isPb_ok h; obtain ⟨rfl, h⟩ := h; simp only [Pat.enc]
  | .nils, a, x, h => by simp only [Pat.dec] at h; replace h := isNils_ok h; obtain ⟨rfl, h⟩ := h; simp only [Pat.enc]
  | .nili, a, x, h => by simp only [Pat.dec] at h; replace h := isNili_ok h; obtain ⟨rfl, h⟩ := h; simp only [Pat.enc]
  | .u, a, x, h => by simp only [Pat.dec] at h; replace h := isU_ok h; obtain ⟨rfl, h⟩ := h; simp only [Pat.enc]
theorem Pat.decs_ok : ∀ (ps : List Pat) (l : List AV) (x : Pat.Ts ps), Pat.decs ps l = some x → l = Pat.encs ps x
  | [], l, x, h => by simp only [Pat.decs] at h; replace h := un_ok h; obtain ⟨rfl, h⟩ := h; simp only [Pat.encs]
  | p :: ps, l, x, h => by
    simp only [Pat.decs] at h
    replace h := uc_ok h; obtain ⟨a, l, rfl, h⟩ := h
    obtain ⟨h1, h2⟩ := both_ok h
    rw [Pat.dec_ok p a x.1 h1, Pat.decs_ok ps l x.2 h2]
    simp only [Pat.encs]
end
/-! the blocks of roots -/
inductive BPat : Type where
  | ext | non
  | box (ps : List Pat)
  | arr (m : M) (t : TC) (st : Nat)
def BPat.T : BPat → Type
  | .ext => Unit
  | .non => Unit
  | .box ps => Pat.Ts ps
  | .arr _ t _ => List (El t)
def BPat.Ts : List BPat → Type
  | [] => Unit
  | p :: ps => BPat.T p × BPat.Ts ps
def BPat.enc : (p : BPat) → BPat.T p → Option Blk
  | .ext, _ => some .ext
  | .non, _ => none
  | .box ps, x => some (.box (Pat.encs ps x))
  | .arr m t st, xs => some (.arr m t st xs)
def BPat.encs : (ps : List BPat) → BPat.Ts ps → List (Option Blk)
  | [], _ => []
  | p :: ps, x => BPat.enc p x.1 :: BPat.encs ps x.2
def BPat.dec : (p : BPat) → Option Blk → Option (BPat.T p)
  | .ext, a => isExt a (some ())
  | .non, a => noBlk a (some ())
  | .box ps, a => getBox a fun l => Pat.decs ps l
  | .arr m t st, a => getArr m t st a fun xs => some xs
def BPat.decs : (ps : List BPat) → List (Option Blk) → Option (BPat.Ts ps)
  | [], l => un l (some ())
  | p :: ps, l => uc l fun a l => both (BPat.dec p a) (BPat.decs ps l)
theorem BPat.dec_ok (p : BPat) (a : Option Blk) (x : BPat.T p) (h : BPat.dec p a = some x) : a = BPat.enc p x := by
  cases p with
  | ext => obtain ⟨rfl, _⟩ := isExt_ok h; rfl
  | non => obtain ⟨rfl, _⟩ := noBlk_ok h; rfl
  | box ps => replace h := getBox_ok h; obtain ⟨l, rfl, h⟩ := h; rw [Pat.decs_ok ps l x h]; rfl
  | arr m t st => replace h := getArr_ok h; obtain ⟨l, rfl, h⟩ := h; cases h; rfl
theorem BPat.decs_ok : ∀ (ps : List BPat) (l : List (Option Blk)) (x : BPat.Ts ps), BPat.decs ps l = some x → l = BPat.encs ps x
  | [], l, x, h => by simp only [BPat.decs] at h; replace h := un_ok h; obtain ⟨rfl, h⟩ := h; rfl
  | p :: ps, l, x, h => by
    simp only [BPat.decs] at h
    replace h := uc_ok h; obtain ⟨a, l, rfl, h⟩ := h
    obtain ⟨h1, h2⟩ := both_ok h
    rw [BPat.dec_ok p a x.1 h1, BPat.decs_ok ps l x.2 h2]
    rfl
/-- what a piece makes of its data -/
def piece {R : Type} (vp : List Pat) (bp : List BPat) (v : List AV) (b : List (Option Blk)) (g : Pat.Ts vp → BPat.Ts bp → Option R) : Option R :=
  match Pat.decs vp v with
  | some x => (match BPat.decs bp b with
    | some y => g x y
    | none => none)
  | none => none
theorem piece_ok {R : Type} {vp : List Pat} {bp : List BPat} {v : List AV} {b : List (Option Blk)} {g : Pat.Ts vp → BPat.Ts bp → Option R} {r : R} (h : piece vp bp v b g = some r) :
    ∃ x y, v = Pat.encs vp x ∧ b = BPat.encs bp y ∧ g x y = some r := by
  unfold piece at h
  cases h1 : Pat.decs vp v with
  | none => rw [h1] at h; cases h
  | some x =>
    rw [h1] at h
    cases h2 : BPat.decs bp b with
    | none => rw [h2] at h; cases h
    | some y => rw [h2] at h; exact ⟨x, y, Pat.decs_ok _ _ _ h1, BPat.decs_ok _ _ _ h2, h⟩
/-- what is left at the end, az the answer -/
def finP {R : Type} (ps : List Pat) (k : Pat.Ts ps → R) (o : List AV) : Option R := match Pat.decs ps o with
  | some x => some (k x)
  | none => none
theorem finP_ok {R : Type} {ps : List Pat} {k : Pat.Ts ps → R} {inj : R → List AV} (hk : ∀ x, Pat.encs ps x = inj (k x)) {o : List AV} {r : R} (h : finP ps k o = some r) : o = inj r := by
  unfold finP at h
  cases h1 : Pat.decs ps o with
  | none => rw [h1] at h; cases h
  | some x =>
    rw [h1] at h
    cases h
    rw [Pat.decs_ok _ _ _ h1, hk]
end Go.Pi
end
section
set_option linter.unusedVariables false
namespace Go.Pi
/-- a callee, out of what its arguments are and what it answers -/
def mkK {R : Type} (ss : List Sk) (ps : List Pat) (f : Pat.Ts ps → Option R) (rv : R → AV) (outs : R → List AV) {ω : Type} (avs : List AV) (κ : AV → List AV → Option ω) : Option ω :=
  match Pat.decs ps (fixes ss avs) with
  | some x => (f x).bind fun r => κ (rv r) (outs r)
  | none => none
theorem mkK_par {R : Type} {ss : List Sk} {ps : List Pat} {f : Pat.Ts ps → Option R} {rv : R → AV} {outs : R → List AV} {ω : Type} {avs : List AV} {κ : AV → List AV → Option ω} {q : ω} (h : mkK ss ps f rv outs avs κ = some q) :
    ∃ r o, κ r o = some q ∧ ∀ (ω' : Type) (κ' : AV → List AV → Option ω'), mkK ss ps f rv outs avs κ' = κ' r o := by
  unfold mkK at h
  cases hd : Pat.decs ps (fixes ss avs) with
  | none => rw [hd] at h; cases h
  | some x =>
    rw [hd] at h
    simp only at h
    cases hf : f x with
    | none => rw [hf] at h; cases h
    | some r =>
      rw [hf] at h
      exact ⟨_, _, h, fun ω' κ' => by unfold mkK; rw [hd]; simp only [hf]; rfl⟩
variable [Coding]
theorem mkK_ok [CodingOk] {E : Env} {fid : FuncId} {sg : Option (List PS)} {R : Type} {ss : List Sk} {ps : List Pat} {f : Pat.Ts ps → Option R} {rv : R → AV} {outs : R → List AV} {pss : List PS} (hfn : FnOk E fid) (hsig : sg = some pss)
    (ho : ∀ x r, f x = some r → CallOk E fid (Pat.encs ps x) (rv r) (outs r) pss) {ω : Type} {avs : List AV} {κ : AV → List AV → Option ω} {q : ω} (h : mkK ss ps f rv outs avs κ = some q) :
    FnOk E fid ∧ ∃ ps' r o, sg = some ps' ∧ κ r o = some q ∧ CallOk E fid avs r o ps' := by
  unfold mkK at h
  cases hd : Pat.decs ps (fixes ss avs) with
  | none => rw [hd] at h; cases h
  | some x =>
    rw [hd] at h
    simp only at h
    cases hf : f x with
    | none => rw [hf] at h; cases h
    | some r =>
      rw [hf] at h
      exact ⟨hfn, pss, _, _, hsig, h, CallOk.fix (ss := ss) (by rw [Pat.decs_ok _ _ _ hd]; exact ho x r hf)⟩
end Go.Pi
end
section
set_option linter.unusedVariables false
set_option linter.unusedSectionVars false
/-! What a function's print says of it, az data; what it owes, out of a few closed facts. -/
namespace Go.Pi
mutual
def Pat.C : Pat → Type → Type
  | .i _, α => Int → α
  | .b, α => Bool → α
  | .s, α => Bs → α
  | .sl _ t, α => List (El t) → α
  | .ag ps, α => Pat.Cs ps α
  | .tu ps, α => Pat.Cs ps α
  | .bx ps, α => Pat.Cs ps α
  | .pc ps _, α => Pat.Cs ps α
  | .clo _ ps, α => Pat.Cs ps α
  | .rt _, α => α
  | .pb _ _, α => α
  | .nils, α => α
  | .nili, α => α
  | .u, α => α
def Pat.Cs : List Pat → Type → Type
  | [], α => α
  | p :: ps, α => Pat.C p (Pat.Cs ps α)
end
mutual
def Pat.ap : (p : Pat) → (α : Type) → Pat.C p α → Pat.T p → α
  | .i _, _, f, x => f x
  | .b, _, f, x => f x
  | .s, _, f, x => f x
  | .sl _ _, _, f, x => f x
  | .ag ps, α, f, x => Pat.aps ps α f x
  | .tu ps, α, f, x => Pat.aps ps α f x
  | .bx ps, α, f, x => Pat.aps ps α f x
  | .pc ps _, α, f, x => Pat.aps ps α f x
  | .clo _ ps, α, f, x => Pat.aps ps α f x
  | .rt _, _, f, _ => f
  | .pb _ _, _, f, _ => f
  | .nils, _, f, _ => f
  | .nili, _, f, _ => f
  | .u, _, f, _ => f
def Pat.aps : (ps : List Pat) → (α : Type) → Pat.Cs ps α → Pat.Ts ps → α
  | [], _, f, _ => f
  | p :: ps, α, f, x => Pat.aps ps α (Pat.ap p (Pat.Cs ps α) f x.1) x.2
end
mutual
def Pat.lm : (p : Pat) → (α : Type) → (Pat.T p → α) → Pat.C p α
  | .i _, _, f => f
  | .b, _, f => f
  | .s, _, f => f
  | .sl _ _, _, f => f
  | .ag ps, α, f => Pat.lms ps α f
  | .tu ps, α, f => Pat.lms ps α f
  | .bx ps, α, f => Pat.lms ps α f
  | .pc ps _, α, f => Pat.lms ps α f
  | .clo _ ps, α, f => Pat.lms ps α f
  | .rt _, _, f => f ()
  | .pb _ _, _, f => f ()
  | .nils, _, f => f ()
  | .nili, _, f => f ()
  | .u, _, f => f ()
def Pat.lms : (ps : List Pat) → (α : Type) → (Pat.Ts ps → α) → Pat.Cs ps α
  | [], _, f => f ()
  | p :: ps, α, f => Pat.lm p (Pat.Cs ps α) fun a => Pat.lms ps α fun r => f (a, r)
end
mutual
theorem Pat.ap_lm : ∀ (p : Pat) (α : Type) (f : Pat.T p → α) (x : Pat.T p), Pat.ap p α (Pat.lm p α f) x = f x
  | .i _, _, f, x => rfl
  | .b, _, f, x => rfl
  | .s, _, f, x => rfl
  | .sl _ _, _, f, x => rfl
  | .ag ps, α, f, x => Pat.aps_lms ps α f x
  | .tu ps, α, f, x => Pat.aps_lms ps α f x
  | .bx ps, α, f, x => Pat.aps_lms ps α f x
  | .pc ps _, α, f, x => Pat.aps_lms ps α f x
  | .clo _ ps, α, f, x => Pat.aps_lms ps α f x
  | .rt _, _, f, x => rfl
  | .pb _ _, _, f, x => rfl
  | .nils, _, f, x => rfl
  | .nili, _, f, x => rfl
  | .u, _, f, x => rfl
theorem Pat.aps_lms : ∀ (ps : List Pat) (α : Type) (f : Pat.Ts ps → α) (x : Pat.Ts ps), Pat.aps ps α (Pat.lms ps α f) x = f x
  | [], _, f, x => rfl
  | p :: ps, α, f, x => by
    show Pat.aps ps α (Pat.ap p (Pat.Cs ps α) (Pat.lm p (Pat.Cs ps α) fun a => Pat.lms ps α fun r => f (a, r)) x.1) x.2 = f x
    rw [Pat.ap_lm p _ _ x.1, Pat.aps_lms ps α _ x.2]
    rfl
end
mutual
theorem Pat.lm_ap : ∀ (p : Pat) (α : Type) (f : Pat.C p α), Pat.lm p α (Pat.ap p α f) = f
  | .i _, _, f => rfl
  | .b, _, f => rfl
  | .s, _, f => rfl
  | .sl _ _, _, f => rfl
  | .ag ps, α, f => Pat.lms_aps ps α f
  | .tu ps, α, f => Pat.lms_aps ps α f
  | .bx ps, α, f => Pat.lms_aps ps α f
  | .pc ps _, α, f => Pat.lms_aps ps α f
  | .clo _ ps, α, f => Pat.lms_aps ps α f
  | .rt _, _, f => rfl
  | .pb _ _, _, f => rfl
  | .nils, _, f => rfl
  | .nili, _, f => rfl
  | .u, _, f => rfl
theorem Pat.lms_aps : ∀ (ps : List Pat) (α : Type) (f : Pat.Cs ps α), Pat.lms ps α (Pat.aps ps α f) = f
  | [], _, f => rfl
  | p :: ps, α, f => by
    show Pat.lm p (Pat.Cs ps α) (fun a => Pat.lms ps α (Pat.aps ps α (Pat.ap p (Pat.Cs ps α) f a))) = f
    rw [show (fun a => Pat.lms ps α (Pat.aps ps α (Pat.ap p (Pat.Cs ps α) f a))) = Pat.ap p (Pat.Cs ps α) f from funext fun a => Pat.lms_aps ps α _]
    exact Pat.lm_ap p _ f
end
def BPat.C : BPat → Type → Type
  | .ext, α => α
  | .non, α => α
  | .box ps, α => Pat.Cs ps α
  | .arr _ t _, α => List (El t) → α
def BPat.Cs : List BPat → Type → Type
  | [], α => α
  | p :: ps, α => BPat.C p (BPat.Cs ps α)
def BPat.ap : (p : BPat) → (α : Type) → BPat.C p α → BPat.T p → α
  | .ext, _, f, _ => f
  | .non, _, f, _ => f
  | .box ps, α, f, x => Pat.aps ps α f x
  | .arr _ _ _, _, f, x => f x
def BPat.aps : (ps : List BPat) → (α : Type) → BPat.Cs ps α → BPat.Ts ps → α
  | [], _, f, _ => f
  | p :: ps, α, f, x => BPat.aps ps α (BPat.ap p (BPat.Cs ps α) f x.1) x.2
def BPat.lm : (p : BPat) → (α : Type) → (BPat.T p → α) → BPat.C p α
  | .ext, _, f => f ()
  | .non, _, f => f ()
  | .box ps, α, f => Pat.lms ps α f
  | .arr _ _ _, _, f => f
def BPat.lms : (ps : List BPat) → (α : Type) → (BPat.Ts ps → α) → BPat.Cs ps α
  | [], _, f => f ()
  | p :: ps, α, f => BPat.lm p (BPat.Cs ps α) fun a => BPat.lms ps α fun r => f (a, r)
theorem BPat.ap_lm (p : BPat) (α : Type) (f : BPat.T p → α) (x : BPat.T p) : BPat.ap p α (BPat.lm p α f) x = f x := by
  cases p with
  | ext => rfl
  | non => rfl
  | box ps => exact Pat.aps_lms ps α f x
  | arr m t st => rfl
theorem BPat.lm_ap (p : BPat) (α : Type) (f : BPat.C p α) : BPat.lm p α (BPat.ap p α f) = f := by
  cases p with
  | ext => rfl
  | non => rfl
  | box ps => exact Pat.lms_aps ps α f
  | arr m t st => rfl
theorem BPat.aps_lms : ∀ (ps : List BPat) (α : Type) (f : BPat.Ts ps → α) (x : BPat.Ts ps), BPat.aps ps α (BPat.lms ps α f) x = f x
  | [], _, f, x => rfl
  | p :: ps, α, f, x => by
    show BPat.aps ps α (BPat.ap p (BPat.Cs ps α) (BPat.lm p (BPat.Cs ps α) fun a => BPat.lms ps α fun r => f (a, r)) x.1) x.2 = f x
    rw [BPat.ap_lm p _ _ x.1, BPat.aps_lms ps α _ x.2]
    rfl
theorem BPat.lms_aps : ∀ (ps : List BPat) (α : Type) (f : BPat.Cs ps α), BPat.lms ps α (BPat.aps ps α f) = f
  | [], _, f => rfl
  | p :: ps, α, f => by
    show BPat.lm p (BPat.Cs ps α) (fun a => BPat.lms ps α (BPat.aps ps α (BPat.ap p (BPat.Cs ps α) f a))) = f
    rw [show (fun a => BPat.lms ps α (BPat.aps ps α (BPat.ap p (BPat.Cs ps α) f a))) = BPat.ap p (BPat.Cs ps α) f from funext fun a => BPat.lms_aps ps α _]
    exact BPat.lm_ap p _ f
/-- what lives at a place, and of what form it is -/
structure OD where
  live : Live
  vp : List Pat
  bp : List BPat
abbrev OD.Cu (o : OD) (α : Type) : Type := Pat.Cs o.vp (BPat.Cs o.bp α)
def OD.ap (o : OD) {α : Type} (f : o.Cu α) (x : Pat.Ts o.vp) (y : BPat.Ts o.bp) : α := BPat.aps o.bp α (Pat.aps o.vp _ f x) y
def OD.lm (o : OD) {α : Type} (g : Pat.Ts o.vp → BPat.Ts o.bp → α) : o.Cu α := Pat.lms o.vp _ fun x => BPat.lms o.bp α fun y => g x y
theorem OD.ap_lm (o : OD) {α : Type} (g : Pat.Ts o.vp → BPat.Ts o.bp → α) (x : Pat.Ts o.vp) (y : BPat.Ts o.bp) : o.ap (o.lm g) x y = g x y := by
  unfold OD.ap OD.lm; rw [Pat.aps_lms, BPat.aps_lms]
theorem OD.lm_ap (o : OD) {α : Type} (f : o.Cu α) : o.lm (fun x y => o.ap f x y) = f := by
  unfold OD.ap OD.lm
  rw [show (fun x => BPat.lms o.bp α fun y => BPat.aps o.bp α (Pat.aps o.vp _ f x) y) = Pat.aps o.vp _ f from funext fun x => BPat.lms_aps _ _ _]
  exact Pat.lms_aps _ _ _
/-- what goes on behind a place -/
def OD.k {R : Type} (o : OD) (κ : D R) : o.Cu (Option R) := o.lm fun x y => κ (Pat.encs o.vp x) (BPat.encs o.bp y)
/-- what the pieces make of their data -/
def PFs (R : Type) : List (Nat × OD) → Type
  | [] => Unit
  | (_, o) :: l => (D R → (Nat → D R) → o.Cu (Option R)) × PFs R l
structure FD (R : Type) where
  fid : Nat
  nt : Nat
  e : Nat
  ps : List Pat
  rp : List Pat
  toR : Pat.Ts rp → R
  ofR : R → Pat.Ts rp
  sig : List PS
  rps : List PS
  rsh : List Sh
  rs : List ResultVar
  outs : List AV
  cut : List (Nat × OD)
  nxt : List (Nat × OD)
  out : List (Nat × OD)
variable {R : Type}
abbrev FD.nres (d : FD R) : Nat := d.rs.length
abbrev FD.Fs (d : FD R) : Type := PFs R d.cut
def liveOf (l : List (Nat × OD)) (k : Nat) : Live := match look2 l k with
  | some o => o.live
  | none => []
def FD.ann (d : FD R) : Ann := ⟨fun k => match look2 d.cut k with
  | some o => some o.live
  | none => none, liveOf d.nxt, liveOf d.out⟩
def FD.inj (d : FD R) (r : R) : List AV := Pat.encs d.rp (d.ofR r)
def FD.fin (d : FD R) (o : List AV) : Option R := match Pat.decs d.rp o with
  | some x => some (d.toR x)
  | none => none
def lfL : (l : List (Nat × OD)) → PFs R l → LF R
  | [], _, _, _, _, _, _ => none
  | (k, o) :: l, fs, key, κd, κe, v, b => cond (Nat.beq key k) (piece o.vp o.bp v b fun x y => o.ap (fs.1 κd κe) x y) (lfL l fs.2 key κd κe v b)
/-- of all pieces -/
def AllQ (q : Nat → (o : OD) → (D R → (Nat → D R) → o.Cu (Option R)) → Prop) : (l : List (Nat × OD)) → PFs R l → Prop
  | [], _ => True
  | (k, o) :: l, fs => q k o fs.1 ∧ AllQ q l fs.2
theorem AllQ.nil {q : Nat → (o : OD) → (D R → (Nat → D R) → o.Cu (Option R)) → Prop} {u : PFs R []} : AllQ q [] u := trivial
theorem AllQ.cons {q : Nat → (o : OD) → (D R → (Nat → D R) → o.Cu (Option R)) → Prop} {k : Nat} {o : OD} {l : List (Nat × OD)} {fs : PFs R ((k, o) :: l)} (h : q k o fs.1) (hl : AllQ q l fs.2) : AllQ q ((k, o) :: l) fs := ⟨h, hl⟩
def codeAt : Option Piece → Code
  | some (.loop a _) => a
  | some (.tail a _) => a
  | none => .skip
def keyAt : Option Piece → Nat
  | some (.loop _ k) => k
  | some (.tail _ k) => k
  | none => 0
def isLoopB : Option Piece → Bool
  | some (.loop _ _) => true
  | _ => false
def isTailB : Option Piece → Bool
  | some (.tail _ _) => true
  | _ => false
theorem isLoop_eq {p : Option Piece} (h : isLoopB p = true) : p = some (.loop (codeAt p) (keyAt p)) := by
  match p, h with
  | some (.loop a k), _ => rfl
theorem isTail_eq {p : Option Piece} (h : isTailB p = true) : p = some (.tail (codeAt p) (keyAt p)) := by
  match p, h with
  | some (.tail a k), _ => rfl
def bodyOf (fn : Func) : Code := match fn.body with
  | some c => c
  | none => .skip
mutual
def Pat.sk : Pat → Sk
  | .sl m t => .sl m t
  | .ag ps => .ag (Pat.sks ps)
  | _ => .k
def Pat.sks : List Pat → List Sk
  | [] => []
  | p :: ps => Pat.sk p :: Pat.sks ps
end
theorem Pat.encs_length : ∀ (ps : List Pat) (x : Pat.Ts ps), (Pat.encs ps x).length = ps.length
  | [], _ => rfl
  | p :: ps, x => by simp only [Pat.encs, List.length_cons, Pat.encs_length ps x.2]
section
variable [Coding]
def FD.kr (d : FD R) (c : Cx) : St → Option R := retK c d.rsh d.rps d.rs d.outs d.fin
def FD.at (d : FD R) (B : Code) (key : Nat) : Option Piece := pieceAt d.ann B 0 key
/-- one round of a loop -/
def FD.Round (d : FD R) (fs : d.Fs) (c : Cx) (B : Code) (key : Nat) (o : OD) (step : (Nat → D R) → o.Cu (Option R) → o.Cu (Option R)) : Prop :=
  ∀ (κ : D R) (κe : Nat → D R) (x : Pat.Ts o.vp) (y : BPat.Ts o.bp), run c d.e d.ann (lfL d.cut fs) (d.kr c) (codeAt (d.at B key)) (keyAt (d.at B key)) (fun s => cutK d.e o.live s κ) (fun j s => cutK d.e (d.ann.out j) s (κe j)) (St.ofC o.live (Pat.encs o.vp x) (BPat.encs o.bp y)) =
    o.ap (step κe (o.k κ)) x y
def FD.Tail (d : FD R) (fs : d.Fs) (c : Cx) (B : Code) (key : Nat) (o : OD) (f : D R → (Nat → D R) → o.Cu (Option R)) : Prop :=
  ∀ (κd : D R) (κe : Nat → D R) (x : Pat.Ts o.vp) (y : BPat.Ts o.bp), run c d.e d.ann (lfL d.cut fs) (d.kr c) (codeAt (d.at B key)) (keyAt (d.at B key)) (fun s => cutK d.e (d.ann.nxt key) s κd) (fun j s => cutK d.e (d.ann.out j) s (κe j)) (St.ofC o.live (Pat.encs o.vp x) (BPat.encs o.bp y)) =
    o.ap (f κd κe) x y
def FD.PieceOk (d : FD R) (fs : d.Fs) (c : Cx) (B : Code) (key : Nat) (o : OD) (f : D R → (Nat → D R) → o.Cu (Option R)) : Prop :=
  ∀ (κd : D R) (κe : Nat → D R) (x : Pat.Ts o.vp) (y : BPat.Ts o.bp) (r : R), o.ap (f κd κe) x y = some r →
    ∃ q, pieceAt d.ann B 0 key = some q ∧ pieceIs c d.e d.ann (lfL d.cut fs) (d.kr c) key o.live κd κe (Pat.encs o.vp x) (BPat.encs o.bp y) r q
theorem FD.rounds_eq {d : FD R} {fs : d.Fs} {c : Cx} {B : Code} {key : Nat} {o : OD} {step : (Nat → D R) → o.Cu (Option R) → o.Cu (Option R)} (h : d.Round fs c B key o step) (κe : Nat → D R) :
    ∀ (N : Nat) (x : Pat.Ts o.vp) (y : BPat.Ts o.bp), rounds c d.e d.ann (lfL d.cut fs) (d.kr c) (codeAt (d.at B key)) (keyAt (d.at B key)) o.live κe N (Pat.encs o.vp x) (BPat.encs o.bp y) = o.ap (iterN (o.lm fun _ _ => none) (step κe) N) x y
  | 0, x, y => (o.ap_lm (fun _ _ => (none : Option R)) x y).symm
  | N + 1, x, y => by
    show run c d.e d.ann (lfL d.cut fs) (d.kr c) (codeAt (d.at B key)) (keyAt (d.at B key)) (fun s => cutK d.e o.live s (rounds c d.e d.ann (lfL d.cut fs) (d.kr c) (codeAt (d.at B key)) (keyAt (d.at B key)) o.live κe N)) (fun j s => cutK d.e (d.ann.out j) s (κe j)) (St.ofC o.live (Pat.encs o.vp x) (BPat.encs o.bp y)) = o.ap (step κe (iterN (o.lm fun _ _ => none) (step κe) N)) x y
    rw [h]
    congr 2
    unfold OD.k
    rw [← o.lm_ap (iterN (o.lm fun _ _ => none) (step κe) N)]
    congr 1
    funext x y
    exact FD.rounds_eq h κe N x y
theorem FD.lp {d : FD R} {fs : d.Fs} {c : Cx} {B : Code} {key : Nat} {o : OD} {f : D R → (Nat → D R) → o.Cu (Option R)} {step : (Nat → D R) → o.Cu (Option R) → o.Cu (Option R)} (N : Nat) (hr : d.Round fs c B key o step) (h1 : isLoopB (d.at B key) = true)
    (hf : ∀ κd κe, f κd κe = iterN (o.lm fun _ _ => none) (step κe) N) : d.PieceOk fs c B key o f := by
  intro κd κe x y r h
  refine ⟨_, isLoop_eq h1, N, (FD.rounds_eq hr κe N x y).trans ?_⟩
  rw [← hf κd κe]
  exact h
theorem FD.tl {d : FD R} {fs : d.Fs} {c : Cx} {B : Code} {key : Nat} {o : OD} {f : D R → (Nat → D R) → o.Cu (Option R)} (hr : d.Tail fs c B key o f) (h1 : isTailB (d.at B key) = true) : d.PieceOk fs c B key o f := by
  intro κd κe x y r h
  exact ⟨_, isTail_eq h1, (hr κd κe x y).trans h⟩
theorem lfL_some : ∀ {l : List (Nat × OD)} {fs : PFs R l} {q : Nat → (o : OD) → (D R → (Nat → D R) → o.Cu (Option R)) → Prop} {key : Nat} {κd : D R} {κe : Nat → D R} {v : List AV} {b : List (Option Blk)} {r : R}, AllQ q l fs → lfL l fs key κd κe v b = some r →
    ∃ o f x y, look2 l key = some o ∧ q key o f ∧ v = Pat.encs o.vp x ∧ b = BPat.encs o.bp y ∧ o.ap (f κd κe) x y = some r
  | [], _, _, _, _, _, _, _, _, _, h => by cases h
  | (k, o) :: l, fs, q, key, κd, κe, v, b, r, ha, h => by
    simp only [lfL] at h
    cases hk : Nat.beq key k with
    | true =>
      rw [hk] at h
      simp only [cond_true] at h
      obtain ⟨x, y, h1, h2, h3⟩ := piece_ok h
      have := beq_iff.1 hk
      subst this
      exact ⟨o, _, x, y, by simp only [look2, hk, cond_true], ha.1, h1, h2, h3⟩
    | false =>
      rw [hk] at h
      simp only [cond_false] at h
      obtain ⟨o', f, x, y, h0, h1⟩ := lfL_some ha.2 h
      exact ⟨o', f, x, y, by simp only [look2, hk, cond_false]; exact h0, h1⟩
theorem FD.cuts {d : FD R} {fs : d.Fs} {c : Cx} {B : Code} (h : AllQ (fun key o f => d.PieceOk fs c B key o f) d.cut fs) : Cuts c d.e d.ann (lfL d.cut fs) (d.kr c) B := by
  intro key κd κe v b r hl
  obtain ⟨o, f, x, y, h0, hp, rfl, rfl, h3⟩ := lfL_some h hl
  obtain ⟨q, h4, h5⟩ := hp κd κe x y r h3
  exact ⟨o.live, q, by simp only [FD.ann, h0], h4, h5⟩
theorem FD.fin_ok {d : FD R} (hi : ∀ x, d.ofR (d.toR x) = x) (o : List AV) (r : R) (h : d.fin o = some r) : o = d.inj r := by
  unfold FD.fin at h
  cases h1 : Pat.decs d.rp o with
  | none => rw [h1] at h; cases h
  | some x =>
    rw [h1] at h
    simp only [Option.some.injEq] at h
    subst h
    rw [Pat.decs_ok _ _ _ h1, FD.inj, hi]
/-- the whole of a function, az it is run -/
def FD.whole (d : FD R) (fs : d.Fs) (c : Cx) (B : Code) (x : Pat.Ts d.ps) : Option R :=
  entryK d.e (Pat.encs d.ps x) fun v b => match outOfAll d.sig v with
    | some o => cond (AV.allRoots o d.outs) (run c d.e d.ann (lfL d.cut fs) (d.kr c) B 0 (d.kr c) (fun _ _ => none) (St.ofC (live0 d.ps.length) v b)) none
    | none => none
/-- what a function owes -/
def FD.Ok (d : FD R) (E : Env) (F : Pat.Ts d.ps → Option R) : Prop :=
  ∀ x r, F x = some r → CallOk E d.fid (Pat.encs d.ps x) (rvOf d.nres (d.inj r)) ((d.inj r).drop d.nres) d.sig
def FD.K (d : FD R) (F : Pat.Ts d.ps → Option R) {ω : Type} (avs : List AV) (κ : AV → List AV → Option ω) : Option ω :=
  mkK (Pat.sks d.ps) d.ps F (fun r => rvOf d.nres (d.inj r)) (fun r => (d.inj r).drop d.nres) avs κ
theorem FD.kpar {d : FD R} {F : Pat.Ts d.ps → Option R} {ω : Type} {avs : List AV} {κ : AV → List AV → Option ω} {q : ω} (h : d.K F avs κ = some q) :
    ∃ r o, κ r o = some q ∧ ∀ (ω' : Type) (κ' : AV → List AV → Option ω'), d.K F avs κ' = κ' r o := mkK_par h
theorem FD.kok [CodingOk] {E : Env} {d : FD R} {F : Pat.Ts d.ps → Option R} {sg : Option (List PS)} (hfn : FnOk E d.fid) (hsig : sg = some d.sig) (ho : d.Ok E F) {ω : Type} {avs : List AV} {κ : AV → List AV → Option ω} {q : ω} (h : d.K F avs κ = some q) :
    FnOk E d.fid ∧ ∃ ps' r o, sg = some ps' ∧ κ r o = some q ∧ CallOk E d.fid avs r o ps' := mkK_ok hfn hsig ho h
def notNG (fn : Func) : Bool := !(decide (fn.name = "runtime.NumGoroutine"))
theorem FD.kf [CodingOk] {E : Env} {d : FD R} {F : Pat.Ts d.ps → Option R} {sg : Option (List PS)} {fn : Func} (hfn : E.P.funcs[d.fid]? = some fn) (h1 : notNG fn = true) (h2 : fn.body = some (bodyOf fn)) (hsig : sg = some d.sig) (ho : d.Ok E F) (ω : Type) (avs : List AV) (κ : AV → List AV → Option ω) (q : ω) (h : d.K F avs κ = some q) :
    FnOk E d.fid ∧ ∃ ps' r o, sg = some ps' ∧ κ r o = some q ∧ CallOk E d.fid avs r o ps' :=
  FD.kok ⟨fn, _, hfn, fun e => by simp [notNG, e] at h1, h2⟩ hsig ho h
theorem FD.kp {d : FD R} {F : Pat.Ts d.ps → Option R} (ω : Type) (avs : List AV) (κ : AV → List AV → Option ω) (q : ω) (h : d.K F avs κ = some q) :
    ∃ r o, κ r o = some q ∧ ∀ (ω' : Type) (κ' : AV → List AV → Option ω'), d.K F avs κ' = κ' r o := FD.kpar h
theorem FD.ok [CodingOk] {E : Env} {d : FD R} {fs : d.Fs} {c : Cx} {fn : Func} {F : Pat.Ts d.ps → Option R} (hm : E.P.follows .mixedOrders = true) (hfn : E.P.funcs[d.fid]? = some fn) (hbody : fn.body = some (bodyOf fn)) (hres : fn.results = List.toArray d.rs)
    (hnt : fn.ntmps = c.nt) (he : Nat.blt 0 d.e = true) (hi : ∀ x, d.ofR (d.toR x) = x) (hn : Nat.ble d.ps.length c.nt = true) (top : ∀ x, d.whole fs c (bodyOf fn) x = F x)
    (cuts : AllQ (fun key o f => d.PieceOk fs c (bodyOf fn) key o f) d.cut fs) (hc : CxOk E c) (hK : KPar c) : d.Ok E F := by
  intro x r h
  refine fn_sound (avs := Pat.encs d.ps x) hc hK hm hfn hbody hres hnt (blt_iff.1 he) (FD.fin_ok hi) (by rw [Pat.encs_length]; exact hn) ?_ (FD.cuts cuts)
  rw [Pat.encs_length]
  exact (top x).trans h
end
end Go.Pi
end
section
set_option linter.unusedVariables false
set_option maxRecDepth 100000
namespace Go.Pi
def laws_szIntS : Nat → (List Int) → Int → Option Int
  | 0, _, _ => none
  | n + 1, a, left =>
    (cond (decide ((W (left - (a.length : Int))) < 0)) (some (-1)) (some (W (left - (a.length : Int)))))
def laws_szSchema : Nat → TSchema → Int → Option Int
  | 0, _, _ => none
  | n + 1, a, left =>
    ((laws_szIntS n a.cols left).bind fun xr1 => (cond (decide (xr1 < 0)) (some (-1)) (some xr1)))
def laws_szRow : Nat → TRow → Int → Option Int
  | 0, _, _ => none
  | n + 1, a, left =>
    ((laws_szIntS n a.cells left).bind fun xr1 => (cond (decide (xr1 < 0)) (some (-1)) (some xr1)))
def laws_szRowS.step7 (n : Nat) (k0 : Int → Option Int) (back : (List TRow) → Int → Int → Option Int) (a : List TRow) (left : Int) (i : Int) : Option Int :=
  (cond (decide (i < (a.length : Int))) (inB i a.length ((laws_szRow n (a.getD i.toNat TRow.dflt) left).bind fun xr1 => (cond (decide (xr1 < 0)) (some (-1)) (back a xr1 (W (i + 1)))))) (k0 left))
def laws_szRowS.loop7 (n : Nat) (k0 : Int → Option Int) (N : Nat) : (List TRow) → Int → Int → Option Int :=
  iterN (fun _ _ _ => none) (fun back => laws_szRowS.step7 n k0 back) N
def laws_szRowS : Nat → (List TRow) → Int → Option Int
  | 0, _, _ => none
  | n + 1, a, left =>
    (cond (decide ((W (left - (a.length : Int))) < 0)) (some (-1)) (laws_szRowS.loop7 n (fun xy2 => (some xy2)) n a (W (left - (a.length : Int))) 0))
def laws_szRowSS.step7 (n : Nat) (k0 : Int → Option Int) (back : (List (List TRow)) → Int → Int → Option Int) (a : List (List TRow)) (left : Int) (i : Int) : Option Int :=
  (cond (decide (i < (a.length : Int))) (inB i a.length ((laws_szRowS n (a.getD i.toNat []) left).bind fun xr1 => (cond (decide (xr1 < 0)) (some (-1)) (back a xr1 (W (i + 1)))))) (k0 left))
def laws_szRowSS.loop7 (n : Nat) (k0 : Int → Option Int) (N : Nat) : (List (List TRow)) → Int → Int → Option Int :=
  iterN (fun _ _ _ => none) (fun back => laws_szRowSS.step7 n k0 back) N
def laws_szRowSS : Nat → (List (List TRow)) → Int → Option Int
  | 0, _, _ => none
  | n + 1, a, left =>
    (cond (decide ((W (left - (a.length : Int))) < 0)) (some (-1)) (laws_szRowSS.loop7 n (fun xy2 => (some xy2)) n a (W (left - (a.length : Int))) 0))
def laws_szStore : Nat → TStore → Int → Option Int
  | 0, _, _ => none
  | n + 1, a, left =>
    ((laws_szSchema n a.schema left).bind fun xr1 => (cond (decide (xr1 < 0)) (some (-1)) ((laws_szRowSS n a.tables xr1).bind fun xr2 => (cond (decide (xr2 < 0)) (some (-1)) (some xr2)))))
def laws_szChange : Nat → TChange → Int → Option Int
  | 0, _, _ => none
  | n + 1, a, left =>
    ((laws_szRow n a.old left).bind fun xr1 => (cond (decide (xr1 < 0)) (some (-1)) ((laws_szRow n a.new xr1).bind fun xr2 => (cond (decide (xr2 < 0)) (some (-1)) (some xr2)))))
def laws_szChangeS.step7 (n : Nat) (k0 : Int → Option Int) (back : (List TChange) → Int → Int → Option Int) (a : List TChange) (left : Int) (i : Int) : Option Int :=
  (cond (decide (i < (a.length : Int))) (inB i a.length ((laws_szChange n { (a.getD i.toNat TChange.dflt) with old := ((a.getD i.toNat TChange.dflt).old), new := ((a.getD i.toNat TChange.dflt).new) } left).bind fun xr1 => (cond (decide (xr1 < 0)) (some (-1)) (back a xr1 (W (i + 1)))))) (k0 left))
def laws_szChangeS.loop7 (n : Nat) (k0 : Int → Option Int) (N : Nat) : (List TChange) → Int → Int → Option Int :=
  iterN (fun _ _ _ => none) (fun back => laws_szChangeS.step7 n k0 back) N
def laws_szChangeS : Nat → (List TChange) → Int → Option Int
  | 0, _, _ => none
  | n + 1, a, left =>
    (cond (decide ((W (left - (a.length : Int))) < 0)) (some (-1)) (laws_szChangeS.loop7 n (fun xy2 => (some xy2)) n a (W (left - (a.length : Int))) 0))
def laws_szChangeSS.step7 (n : Nat) (k0 : Int → Option Int) (back : (List (List TChange)) → Int → Int → Option Int) (a : List (List TChange)) (left : Int) (i : Int) : Option Int :=
  (cond (decide (i < (a.length : Int))) (inB i a.length ((laws_szChangeS n (a.getD i.toNat []) left).bind fun xr1 => (cond (decide (xr1 < 0)) (some (-1)) (back a xr1 (W (i + 1)))))) (k0 left))
def laws_szChangeSS.loop7 (n : Nat) (k0 : Int → Option Int) (N : Nat) : (List (List TChange)) → Int → Int → Option Int :=
  iterN (fun _ _ _ => none) (fun back => laws_szChangeSS.step7 n k0 back) N
def laws_szChangeSS : Nat → (List (List TChange)) → Int → Option Int
  | 0, _, _ => none
  | n + 1, a, left =>
    (cond (decide ((W (left - (a.length : Int))) < 0)) (some (-1)) (laws_szChangeSS.loop7 n (fun xy2 => (some xy2)) n a (W (left - (a.length : Int))) 0))
def laws_szRecord : Nat → TRecord → Int → Option Int
  | 0, _, _ => none
  | n + 1, a, left =>
    ((laws_szStore n a.first left).bind fun xr1 => (cond (decide (xr1 < 0)) (some (-1)) ((laws_szChangeSS n a.steps xr1).bind fun xr2 => (cond (decide (xr2 < 0)) (some (-1)) (some xr2)))))
def laws_szCondS : Nat → (List TCond) → Int → Option Int
  | 0, _, _ => none
  | n + 1, a, left =>
    (cond (decide ((W (left - (a.length : Int))) < 0)) (some (-1)) (some (W (left - (a.length : Int)))))
def laws_szQuery : Nat → TQuery → Int → Option Int
  | 0, _, _ => none
  | n + 1, a, left =>
    ((laws_szCondS n a.where_ left).bind fun xr1 => (cond (decide (xr1 < 0)) (some (-1)) ((laws_szIntS n a.show_ xr1).bind fun xr2 => (cond (decide (xr2 < 0)) (some (-1)) (some xr2)))))
def laws_szKidS : Nat → (List TKid) → Int → Option Int
  | 0, _, _ => none
  | n + 1, a, left =>
    (cond (decide ((W (left - (a.length : Int))) < 0)) (some (-1)) (some (W (left - (a.length : Int)))))
def laws_szView : Nat → TView → Int → Option Int
  | 0, _, _ => none
  | n + 1, a, left =>
    ((laws_szQuery n a.q left).bind fun xr1 => (cond (decide (xr1 < 0)) (some (-1)) ((laws_szRowS n a.rows xr1).bind fun xr2 => (cond (decide (xr2 < 0)) (some (-1)) ((laws_szKidS n a.kids xr2).bind fun xr3 => (cond (decide (xr3 < 0)) (some (-1)) (some xr3)))))))
def laws_szSess : Nat → TSess → Int → Option Int
  | 0, _, _ => none
  | n + 1, a, left =>
    ((laws_szView n a.view left).bind fun xr1 => (cond (decide (xr1 < 0)) (some (-1)) ((laws_szView n a.last xr1).bind fun xr2 => (cond (decide (xr2 < 0)) (some (-1)) (some xr2)))))
def laws_szLine : Nat → TLine → Int → Option Int
  | 0, _, _ => none
  | n + 1, a, left =>
    (cond (decide ((W (left - (a.wait.length : Int))) < 0)) (some (-1)) (some (W (left - (a.wait.length : Int)))))
def laws_szSeat : Nat → TSeat → Int → Option Int
  | 0, _, _ => none
  | n + 1, a, left =>
    ((laws_szSess n a.sess left).bind fun xr1 => (cond (decide (xr1 < 0)) (some (-1)) ((laws_szLine n a.line xr1).bind fun xr2 => (cond (decide (xr2 < 0)) (some (-1)) (cond (decide ((W (xr2 - (a.sent.length : Int))) < 0)) (some (-1)) (let xv3 : Bool := (decide ((W ((W (xr2 - (a.sent.length : Int))) - (a.came.length : Int))) < 0)); (cond xv3 (some (-1)) (some (W ((W (xr2 - (a.sent.length : Int))) - (a.came.length : Int)))))))))))
def laws_szSeatS.step7 (n : Nat) (k0 : Int → Option Int) (back : (List TSeat) → Int → Int → Option Int) (a : List TSeat) (left : Int) (i : Int) : Option Int :=
  (cond (decide (i < (a.length : Int))) (inB i a.length ((laws_szSeat n { (a.getD i.toNat TSeat.dflt) with sess := { ((a.getD i.toNat TSeat.dflt).sess) with view := { (((a.getD i.toNat TSeat.dflt).sess).view) with q := ((((a.getD i.toNat TSeat.dflt).sess).view).q) }, last := { (((a.getD i.toNat TSeat.dflt).sess).last) with q := ((((a.getD i.toNat TSeat.dflt).sess).last).q) } }, line := ((a.getD i.toNat TSeat.dflt).line) } left).bind fun xr1 => (cond (decide (xr1 < 0)) (some (-1)) (back a xr1 (W (i + 1)))))) (k0 left))
def laws_szSeatS.loop7 (n : Nat) (k0 : Int → Option Int) (N : Nat) : (List TSeat) → Int → Int → Option Int :=
  iterN (fun _ _ _ => none) (fun back => laws_szSeatS.step7 n k0 back) N
def laws_szSeatS : Nat → (List TSeat) → Int → Option Int
  | 0, _, _ => none
  | n + 1, a, left =>
    (cond (decide ((W (left - (a.length : Int))) < 0)) (some (-1)) (laws_szSeatS.loop7 n (fun xy2 => (some xy2)) n a (W (left - (a.length : Int))) 0))
def laws_szServer : Nat → TServer → Int → Option Int
  | 0, _, _ => none
  | n + 1, a, left =>
    ((laws_szRecord n a.record left).bind fun xr1 => (cond (decide (xr1 < 0)) (some (-1)) ((laws_szSeatS n a.seats xr1).bind fun xr2 => (cond (decide (xr2 < 0)) (some (-1)) (some xr2)))))
def laws_toIntS.step4 (n : Nat) (k0 : (List Int) → Option (List Int)) (back : (List Int) → Int → (List Int) → Option (List Int)) (a : List Int) (i : Int) (out_1 : List Int) : Option (List Int) :=
  (cond (decide (i < (a.length : Int))) (inB i a.length (inB i out_1.length (let xa1 : List Int := out_1.set i.toNat (a.getD i.toNat 0); (back a (W (i + 1)) xa1)))) (k0 out_1))
def laws_toIntS.loop4 (n : Nat) (k0 : (List Int) → Option (List Int)) (N : Nat) : (List Int) → Int → (List Int) → Option (List Int) :=
  iterN (fun _ _ _ => none) (fun back => laws_toIntS.step4 n k0 back) N
def laws_toIntS : Nat → (List Int) → Option (List Int)
  | 0, _ => none
  | n + 1, a =>
    (cond (decide ((a.length : Int) = (a.length : Int))) (cond (decide (0 ≤ (a.length : Int))) (cond (decide ((a.length : Int) * 8 ≤ 140737488355328)) (laws_toIntS.loop4 n (fun xy2 => (some xy2)) n a 0 (List.replicate (a.length : Int).toNat 0)) none) none) none)
def laws_toSchema : Nat → TSchema → Option TSchema
  | 0, _ => none
  | n + 1, a =>
    ((laws_toIntS n a.cols).bind fun xr1 => (some (TSchema.mk xr1)))
def laws_toRow : Nat → TRow → Option TRow
  | 0, _ => none
  | n + 1, a =>
    ((laws_toIntS n a.cells).bind fun xr1 => (some (TRow.mk a.id_ xr1)))
def laws_toRowS.step4 (n : Nat) (k0 : (List TRow) → Option (List TRow)) (back : (List TRow) → Int → (List TRow) → Option (List TRow)) (a : List TRow) (i : Int) (out_1 : List TRow) : Option (List TRow) :=
  (cond (decide (i < (a.length : Int))) (inB i a.length ((laws_toRow n (a.getD i.toNat TRow.dflt)).bind fun xr1 => (inB i out_1.length (let xa2 : List TRow := out_1.set i.toNat xr1; (back a (W (i + 1)) xa2))))) (k0 out_1))
def laws_toRowS.loop4 (n : Nat) (k0 : (List TRow) → Option (List TRow)) (N : Nat) : (List TRow) → Int → (List TRow) → Option (List TRow) :=
  iterN (fun _ _ _ => none) (fun back => laws_toRowS.step4 n k0 back) N
def laws_toRowS : Nat → (List TRow) → Option (List TRow)
  | 0, _ => none
  | n + 1, a =>
    (cond (decide ((a.length : Int) = (a.length : Int))) (cond (decide (0 ≤ (a.length : Int))) (cond (decide ((a.length : Int) * 32 ≤ 140737488355328)) (laws_toRowS.loop4 n (fun xy3 => (some xy3)) n a 0 (List.replicate (a.length : Int).toNat TRow.dflt)) none) none) none)
def laws_toRowSS.step4 (n : Nat) (k0 : (List (List TRow)) → Option (List (List TRow))) (back : (List (List TRow)) → Int → (List (List TRow)) → Option (List (List TRow))) (a : List (List TRow)) (i : Int) (out_1 : List (List TRow)) : Option (List (List TRow)) :=
  (cond (decide (i < (a.length : Int))) (inB i a.length ((laws_toRowS n (a.getD i.toNat [])).bind fun xr1 => (inB i out_1.length (let xa2 : List (List TRow) := out_1.set i.toNat xr1; (back a (W (i + 1)) xa2))))) (k0 out_1))
def laws_toRowSS.loop4 (n : Nat) (k0 : (List (List TRow)) → Option (List (List TRow))) (N : Nat) : (List (List TRow)) → Int → (List (List TRow)) → Option (List (List TRow)) :=
  iterN (fun _ _ _ => none) (fun back => laws_toRowSS.step4 n k0 back) N
def laws_toRowSS : Nat → (List (List TRow)) → Option (List (List TRow))
  | 0, _ => none
  | n + 1, a =>
    (cond (decide ((a.length : Int) = (a.length : Int))) (cond (decide (0 ≤ (a.length : Int))) (cond (decide ((a.length : Int) * 24 ≤ 140737488355328)) (laws_toRowSS.loop4 n (fun xy3 => (some xy3)) n a 0 (List.replicate (a.length : Int).toNat [])) none) none) none)
def laws_toStore : Nat → TStore → Option TStore
  | 0, _ => none
  | n + 1, a =>
    ((laws_toSchema n a.schema).bind fun xr1 => ((laws_toRowSS n a.tables).bind fun xr2 => (some (TStore.mk xr1 a.version xr2))))
def laws_toChange : Nat → TChange → Option TChange
  | 0, _ => none
  | n + 1, a =>
    ((laws_toRow n a.old).bind fun xr1 => ((laws_toRow n a.new).bind fun xr2 => (some { a with old := xr1, new := xr2 })))
def laws_toChangeS.step4 (n : Nat) (k0 : (List TChange) → Option (List TChange)) (back : (List TChange) → Int → (List TChange) → Option (List TChange)) (a : List TChange) (i : Int) (out_1 : List TChange) : Option (List TChange) :=
  (cond (decide (i < (a.length : Int))) (inB i a.length ((laws_toChange n { (a.getD i.toNat TChange.dflt) with old := ((a.getD i.toNat TChange.dflt).old), new := ((a.getD i.toNat TChange.dflt).new) }).bind fun xr1 => (inB i out_1.length (let xa2 : List TChange := out_1.set i.toNat xr1; (back a (W (i + 1)) xa2))))) (k0 out_1))
def laws_toChangeS.loop4 (n : Nat) (k0 : (List TChange) → Option (List TChange)) (N : Nat) : (List TChange) → Int → (List TChange) → Option (List TChange) :=
  iterN (fun _ _ _ => none) (fun back => laws_toChangeS.step4 n k0 back) N
def laws_toChangeS : Nat → (List TChange) → Option (List TChange)
  | 0, _ => none
  | n + 1, a =>
    (cond (decide ((a.length : Int) = (a.length : Int))) (cond (decide (0 ≤ (a.length : Int))) (cond (decide ((a.length : Int) * 80 ≤ 140737488355328)) (laws_toChangeS.loop4 n (fun xy3 => (some xy3)) n a 0 (List.replicate (a.length : Int).toNat TChange.dflt)) none) none) none)
def laws_toChangeSS.step4 (n : Nat) (k0 : (List (List TChange)) → Option (List (List TChange))) (back : (List (List TChange)) → Int → (List (List TChange)) → Option (List (List TChange))) (a : List (List TChange)) (i : Int) (out_1 : List (List TChange)) : Option (List (List TChange)) :=
  (cond (decide (i < (a.length : Int))) (inB i a.length ((laws_toChangeS n (a.getD i.toNat [])).bind fun xr1 => (inB i out_1.length (let xa2 : List (List TChange) := out_1.set i.toNat xr1; (back a (W (i + 1)) xa2))))) (k0 out_1))
def laws_toChangeSS.loop4 (n : Nat) (k0 : (List (List TChange)) → Option (List (List TChange))) (N : Nat) : (List (List TChange)) → Int → (List (List TChange)) → Option (List (List TChange)) :=
  iterN (fun _ _ _ => none) (fun back => laws_toChangeSS.step4 n k0 back) N
def laws_toChangeSS : Nat → (List (List TChange)) → Option (List (List TChange))
  | 0, _ => none
  | n + 1, a =>
    (cond (decide ((a.length : Int) = (a.length : Int))) (cond (decide (0 ≤ (a.length : Int))) (cond (decide ((a.length : Int) * 24 ≤ 140737488355328)) (laws_toChangeSS.loop4 n (fun xy3 => (some xy3)) n a 0 (List.replicate (a.length : Int).toNat [])) none) none) none)
def laws_toRecord : Nat → TRecord → Option TRecord
  | 0, _ => none
  | n + 1, a =>
    ((laws_toStore n a.first).bind fun xr1 => ((laws_toChangeSS n a.steps).bind fun xr2 => (some (TRecord.mk xr1 xr2))))
def laws_toCond : Nat → TCond → Option TCond
  | 0, _ => none
  | n + 1, a =>
    (some a)
def laws_toCondS.step4 (n : Nat) (k0 : (List TCond) → Option (List TCond)) (back : (List TCond) → Int → (List TCond) → Option (List TCond)) (a : List TCond) (i : Int) (out_1 : List TCond) : Option (List TCond) :=
  (cond (decide (i < (a.length : Int))) (inB i a.length ((laws_toCond n (a.getD i.toNat TCond.dflt)).bind fun xr1 => (inB i out_1.length (let xa2 : List TCond := out_1.set i.toNat xr1; (back a (W (i + 1)) xa2))))) (k0 out_1))
def laws_toCondS.loop4 (n : Nat) (k0 : (List TCond) → Option (List TCond)) (N : Nat) : (List TCond) → Int → (List TCond) → Option (List TCond) :=
  iterN (fun _ _ _ => none) (fun back => laws_toCondS.step4 n k0 back) N
def laws_toCondS : Nat → (List TCond) → Option (List TCond)
  | 0, _ => none
  | n + 1, a =>
    (cond (decide ((a.length : Int) = (a.length : Int))) (cond (decide (0 ≤ (a.length : Int))) (cond (decide ((a.length : Int) * 24 ≤ 140737488355328)) (laws_toCondS.loop4 n (fun xy3 => (some xy3)) n a 0 (List.replicate (a.length : Int).toNat TCond.dflt)) none) none) none)
def laws_toQuery : Nat → TQuery → Option TQuery
  | 0, _ => none
  | n + 1, a =>
    ((laws_toCondS n a.where_).bind fun xr1 => ((laws_toIntS n a.show_).bind fun xr2 => (some { a with where_ := xr1, show_ := xr2 })))
def laws_toKid : Nat → TKid → Option TKid
  | 0, _ => none
  | n + 1, a =>
    (some a)
def laws_toKidS.step4 (n : Nat) (k0 : (List TKid) → Option (List TKid)) (back : (List TKid) → Int → (List TKid) → Option (List TKid)) (a : List TKid) (i : Int) (out_1 : List TKid) : Option (List TKid) :=
  (cond (decide (i < (a.length : Int))) (inB i a.length ((laws_toKid n (a.getD i.toNat TKid.dflt)).bind fun xr1 => (inB i out_1.length (let xa2 : List TKid := out_1.set i.toNat xr1; (back a (W (i + 1)) xa2))))) (k0 out_1))
def laws_toKidS.loop4 (n : Nat) (k0 : (List TKid) → Option (List TKid)) (N : Nat) : (List TKid) → Int → (List TKid) → Option (List TKid) :=
  iterN (fun _ _ _ => none) (fun back => laws_toKidS.step4 n k0 back) N
def laws_toKidS : Nat → (List TKid) → Option (List TKid)
  | 0, _ => none
  | n + 1, a =>
    (cond (decide ((a.length : Int) = (a.length : Int))) (cond (decide (0 ≤ (a.length : Int))) (cond (decide ((a.length : Int) * 16 ≤ 140737488355328)) (laws_toKidS.loop4 n (fun xy3 => (some xy3)) n a 0 (List.replicate (a.length : Int).toNat TKid.dflt)) none) none) none)
def laws_toView : Nat → TView → Option TView
  | 0, _ => none
  | n + 1, a =>
    ((laws_toQuery n a.q).bind fun xr1 => ((laws_toRowS n a.rows).bind fun xr2 => ((laws_toKidS n a.kids).bind fun xr3 => (some (TView.mk xr1 xr2 xr3)))))
def laws_toSess : Nat → TSess → Option TSess
  | 0, _ => none
  | n + 1, a =>
    ((laws_toView n a.view).bind fun xr1 => ((laws_toView n a.last).bind fun xr2 => (some { a with view := xr1, last := xr2 })))
def laws_toLine : Nat → TLine → Option TLine
  | 0, _ => none
  | n + 1, a =>
    (some a)
def laws_toSeat : Nat → TSeat → Option TSeat
  | 0, _ => none
  | n + 1, a =>
    ((laws_toSess n a.sess).bind fun xr1 => ((laws_toLine n a.line).bind fun xr2 => (some { a with sess := xr1, line := xr2 })))
def laws_toSeatS.step4 (n : Nat) (k0 : (List TSeat) → Option (List TSeat)) (back : (List TSeat) → Int → (List TSeat) → Option (List TSeat)) (a : List TSeat) (i : Int) (out_1 : List TSeat) : Option (List TSeat) :=
  (cond (decide (i < (a.length : Int))) (inB i a.length ((laws_toSeat n { (a.getD i.toNat TSeat.dflt) with sess := { ((a.getD i.toNat TSeat.dflt).sess) with view := { (((a.getD i.toNat TSeat.dflt).sess).view) with q := ((((a.getD i.toNat TSeat.dflt).sess).view).q) }, last := { (((a.getD i.toNat TSeat.dflt).sess).last) with q := ((((a.getD i.toNat TSeat.dflt).sess).last).q) } }, line := ((a.getD i.toNat TSeat.dflt).line) }).bind fun xr1 => (inB i out_1.length (let xa2 : List TSeat := out_1.set i.toNat xr1; (back a (W (i + 1)) xa2))))) (k0 out_1))
def laws_toSeatS.loop4 (n : Nat) (k0 : (List TSeat) → Option (List TSeat)) (N : Nat) : (List TSeat) → Int → (List TSeat) → Option (List TSeat) :=
  iterN (fun _ _ _ => none) (fun back => laws_toSeatS.step4 n k0 back) N
def laws_toSeatS : Nat → (List TSeat) → Option (List TSeat)
  | 0, _ => none
  | n + 1, a =>
    (cond (decide ((a.length : Int) = (a.length : Int))) (cond (decide (0 ≤ (a.length : Int))) (cond (decide ((a.length : Int) * 392 ≤ 140737488355328)) (laws_toSeatS.loop4 n (fun xy3 => (some xy3)) n a 0 (List.replicate (a.length : Int).toNat TSeat.dflt)) none) none) none)
def laws_toServer : Nat → TServer → Option TServer
  | 0, _ => none
  | n + 1, a =>
    ((laws_toRecord n a.record).bind fun xr1 => ((laws_toSeatS n a.seats).bind fun xr2 => (some (TServer.mk xr1 xr2))))
def spec_l1In : Nat → Int → Int → Int → Option Bool
  | 0, _, _, _ => none
  | n + 1, x, lo, hi =>
    (cond (decide (x ≥ lo)) (some (decide (x ≤ hi))) (some false))
def spec_SchemaOk.step3 (n : Nat) (k0 : (List Int) → Option Bool) (back : Int → (List Int) → Option Bool) (i : Int) (s0 : List Int) : Option Bool :=
  (cond (decide (i < (s0.length : Int))) (inB i s0.length ((spec_l1In n (s0.getD i.toNat 0) 1 4).bind fun xr1 => (cond (!xr1) (some false) (back (W (i + 1)) s0)))) (k0 s0))
def spec_SchemaOk.loop3 (n : Nat) (k0 : (List Int) → Option Bool) (N : Nat) : Int → (List Int) → Option Bool :=
  iterN (fun _ _ => none) (fun back => spec_SchemaOk.step3 n k0 back) N
def spec_SchemaOk : Nat → TSchema → Option Bool
  | 0, _ => none
  | n + 1, s =>
    (spec_SchemaOk.loop3 n (fun xy2 => ((spec_l1In n (xy2.length : Int) 1 3).bind fun xr3 => (some xr3))) n 0 s.cols)
def spec_RowOk.step6 (n : Nat) (k0 : Option Bool) (back : Int → Int → (List Int) → Option Bool) (i : Int) (r0 : Int) (r1 : List Int) : Option Bool :=
  (cond (decide (i < (r1.length : Int))) (inB i r1.length ((spec_l1In n (r1.getD i.toNat 0) (-1000000000) 1000000000).bind fun xr4 => (cond (!xr4) (some false) (back (W (i + 1)) r0 r1)))) k0)
def spec_RowOk.loop6 (n : Nat) (k0 : Option Bool) (N : Nat) : Int → Int → (List Int) → Option Bool :=
  iterN (fun _ _ _ => none) (fun back => spec_RowOk.step6 n k0 back) N
def spec_RowOk : Nat → TSchema → Int → TRow → Option Bool
  | 0, _, _, _ => none
  | n + 1, s, table, r =>
    ((spec_SchemaOk n s).bind fun xr1 => (cond (!xr1) (some false) ((spec_l1In n table 0 (W ((s.cols.length : Int) - 1))).bind fun xr2 => (cond (!xr2) (some false) ((spec_l1In n r.id_ 1 999).bind fun xr3 => (cond (!xr3) (some false) (inB table s.cols.length (cond ((r.cells.length : Int) != (s.cols.getD table.toNat 0)) (some false) (spec_RowOk.loop6 n (some true) n 0 r.id_ r.cells)))))))))
def spec_RowsOk.step3 (n : Nat) (k0 : Int → (List TRow) → (List Int) → Option Bool) (back : Int → (List TRow) → Int → (List Int) → Option Bool) (table : Int) (rows : List TRow) (i : Int) (s0 : List Int) : Option Bool :=
  (cond (decide (i < (rows.length : Int))) (inB i rows.length ((spec_RowOk n (TSchema.mk s0) table (rows.getD i.toNat TRow.dflt)).bind fun xr1 => (cond (!xr1) (some false) (cond (decide (i > 0)) (inB (W (i - 1)) rows.length (inB i rows.length (let xv2 : Bool := (decide (((rows.getD (W (i - 1)).toNat TRow.dflt).id_) ≥ ((rows.getD i.toNat TRow.dflt).id_))); (cond xv2 (some false) (back table rows (W (i + 1)) s0))))) (back table rows (W (i + 1)) s0))))) (k0 table rows s0))
def spec_RowsOk.loop3 (n : Nat) (k0 : Int → (List TRow) → (List Int) → Option Bool) (N : Nat) : Int → (List TRow) → Int → (List Int) → Option Bool :=
  iterN (fun _ _ _ _ => none) (fun back => spec_RowsOk.step3 n k0 back) N
def spec_RowsOk : Nat → TSchema → Int → (List TRow) → Option Bool
  | 0, _, _, _ => none
  | n + 1, s, table, rows =>
    (spec_RowsOk.loop3 n (fun xy3 xy4 xy5 => ((spec_SchemaOk n (TSchema.mk xy5)).bind fun xr6 => (cond xr6 ((spec_l1In n xy3 0 (W ((xy5.length : Int) - 1))).bind fun xr7 => (cond xr7 (some (decide ((xy4.length : Int) ≤ 24))) (some false))) (some false)))) n table rows 0 s.cols)
def spec_StoreOk.step6 (n : Nat) (k0 : Option Bool) (back : Int → (List Int) → Int → (List (List TRow)) → Option Bool) (t : Int) (s0 : List Int) (s1 : Int) (s2 : List (List TRow)) : Option Bool :=
  (cond (decide (t < (s2.length : Int))) (inB t s2.length ((spec_RowsOk n (TSchema.mk s0) t (s2.getD t.toNat [])).bind fun xr3 => (cond (!xr3) (some false) (back (W (t + 1)) s0 s1 s2)))) k0)
def spec_StoreOk.loop6 (n : Nat) (k0 : Option Bool) (N : Nat) : Int → (List Int) → Int → (List (List TRow)) → Option Bool :=
  iterN (fun _ _ _ _ => none) (fun back => spec_StoreOk.step6 n k0 back) N
def spec_StoreOk : Nat → TStore → Option Bool
  | 0, _ => none
  | n + 1, s =>
    ((spec_SchemaOk n s.schema).bind fun xr1 => (cond (!xr1) (some false) ((spec_l1In n s.version 0 100000).bind fun xr2 => (cond (!xr2) (some false) (cond ((s.tables.length : Int) != (s.schema.cols.length : Int)) (some false) (spec_StoreOk.loop6 n (some true) n 0 s.schema.cols s.version s.tables))))))
def spec_l7Schema : Nat → TSchema → Option TSchema
  | 0, _ => none
  | n + 1, s =>
    (roomB (([] : List Int).length + s.cols.length) 8 (some (TSchema.mk (([] : List Int) ++ s.cols))))
def spec_l6Copy : Nat → TRow → Option TRow
  | 0, _ => none
  | n + 1, r =>
    (roomB (([] : List Int).length + r.cells.length) 8 (some (TRow.mk r.id_ (([] : List Int) ++ r.cells))))
def spec_l6Rows.step4 (n : Nat) (k0 : (List TRow) → Option (List TRow)) (back : (List TRow) → Int → (List TRow) → Option (List TRow)) (rows : List TRow) (i : Int) (out_1 : List TRow) : Option (List TRow) :=
  (cond (decide (i < (rows.length : Int))) (inB i rows.length ((spec_l6Copy n (rows.getD i.toNat TRow.dflt)).bind fun xr1 => (roomB (out_1.length + ([xr1] : List TRow).length) 32 (back rows (W (i + 1)) (out_1 ++ ([xr1] : List TRow)))))) (k0 out_1))
def spec_l6Rows.loop4 (n : Nat) (k0 : (List TRow) → Option (List TRow)) (N : Nat) : (List TRow) → Int → (List TRow) → Option (List TRow) :=
  iterN (fun _ _ _ => none) (fun back => spec_l6Rows.step4 n k0 back) N
def spec_l6Rows : Nat → (List TRow) → Option (List TRow)
  | 0, _ => none
  | n + 1, rows =>
    (spec_l6Rows.loop4 n (fun xy2 => (some xy2)) n rows 0 ([] : List TRow))
def spec_l7Copy.step4 (n : Nat) (k0 : Int → Int → (List Int) → (List (List TRow)) → Option TStore) (back : Int → (List Int) → Int → (List (List TRow)) → Int → Int → (List Int) → (List (List TRow)) → Option TStore) (t : Int) (s0 : List Int) (s1 : Int) (s2 : List (List TRow)) (t21 : Int) (out1 : Int) (out0 : List Int) (out2 : List (List TRow)) : Option TStore :=
  (cond (decide (t < (s2.length : Int))) (inB t s2.length ((spec_l6Rows n (s2.getD t.toNat [])).bind fun xr2 => (roomB (out2.length + ([xr2] : List (List TRow)).length) 24 (back (W (t + 1)) s0 s1 s2 t21 out1 out0 (out2 ++ ([xr2] : List (List TRow))))))) (k0 t21 out1 out0 out2))
def spec_l7Copy.loop4 (n : Nat) (k0 : Int → Int → (List Int) → (List (List TRow)) → Option TStore) (N : Nat) : Int → (List Int) → Int → (List (List TRow)) → Int → Int → (List Int) → (List (List TRow)) → Option TStore :=
  iterN (fun _ _ _ _ _ _ _ _ => none) (fun back => spec_l7Copy.step4 n k0 back) N
def spec_l7Copy : Nat → TStore → Option TStore
  | 0, _ => none
  | n + 1, s =>
    ((spec_l7Schema n s.schema).bind fun xr1 => (spec_l7Copy.loop4 n (fun xy3 xy4 xy5 xy6 => (some (TStore.mk (TSchema.mk xy5) xy4 xy6))) n 0 s.schema.cols s.version s.tables 0 s.version xr1.cols ([] : List (List TRow))))
def spec_l8Zero : Nat → TRow → Option Bool
  | 0, _ => none
  | n + 1, r =>
    (cond (r.id_ == 0) (some ((r.cells.length : Int) == 0)) (some false))
def spec_RowAt.step3 (n : Nat) (k0 : Option Int) (back : (List TRow) → Int → Int → Option Int) (rows : List TRow) (id_1 : Int) (i : Int) : Option Int :=
  (cond (decide (i < (rows.length : Int))) (inB i rows.length (cond (((rows.getD i.toNat TRow.dflt).id_) == id_1) (some i) (back rows id_1 (W (i + 1))))) k0)
def spec_RowAt.loop3 (n : Nat) (k0 : Option Int) (N : Nat) : (List TRow) → Int → Int → Option Int :=
  iterN (fun _ _ _ => none) (fun back => spec_RowAt.step3 n k0 back) N
def spec_RowAt : Nat → (List TRow) → Int → Option Int
  | 0, _, _ => none
  | n + 1, rows, id1 =>
    (spec_RowAt.loop3 n (some (-1)) n rows id1 0)
def spec_RowSame.step6 (n : Nat) (k0 : Option Bool) (back : Int → Int → (List Int) → Int → (List Int) → Option Bool) (i : Int) (a0 : Int) (a1 : List Int) (b0 : Int) (b1 : List Int) : Option Bool :=
  (cond (decide (i < (a1.length : Int))) (inB i a1.length (inB i b1.length (cond ((a1.getD i.toNat 0) != (b1.getD i.toNat 0)) (some false) (back (W (i + 1)) a0 a1 b0 b1)))) k0)
def spec_RowSame.loop6 (n : Nat) (k0 : Option Bool) (N : Nat) : Int → Int → (List Int) → Int → (List Int) → Option Bool :=
  iterN (fun _ _ _ _ _ => none) (fun back => spec_RowSame.step6 n k0 back) N
def spec_RowSame : Nat → TRow → TRow → Option Bool
  | 0, _, _ => none
  | n + 1, a, b =>
    (cond (a.id_ != b.id_) (some false) (cond ((a.cells.length : Int) != (b.cells.length : Int)) (some false) (spec_RowSame.loop6 n (some true) n 0 a.id_ a.cells b.id_ b.cells)))
def spec_l7There : Nat → TStore → Int → TRow → Option Bool
  | 0, _, _, _ => none
  | n + 1, s, table, r =>
    ((spec_l1In n table 0 (W ((s.tables.length : Int) - 1))).bind fun xr1 => (cond (!xr1) (some false) (inB table s.tables.length ((spec_RowAt n (s.tables.getD table.toNat []) r.id_).bind fun xr2 => (cond (decide (xr2 ≥ 0)) (inB table s.tables.length (inB xr2 (s.tables.getD table.toNat []).length ((spec_RowSame n ((s.tables.getD table.toNat []).getD xr2.toNat TRow.dflt) r).bind fun xr3 => (some xr3)))) (some false))))))
def spec_RowDrop.step5 (n : Nat) (k0 : (List TRow) → Option (List TRow)) (back : (List TRow) → Int → Int → (List TRow) → Option (List TRow)) (rows : List TRow) (at_1 : Int) (i : Int) (out_1 : List TRow) : Option (List TRow) :=
  (cond (decide (i < (rows.length : Int))) (cond (i != at_1) (inB i rows.length ((spec_l6Copy n (rows.getD i.toNat TRow.dflt)).bind fun xr2 => (roomB (out_1.length + ([xr2] : List TRow).length) 32 (back rows at_1 (W (i + 1)) (out_1 ++ ([xr2] : List TRow)))))) (back rows at_1 (W (i + 1)) out_1)) (k0 out_1))
def spec_RowDrop.loop5 (n : Nat) (k0 : (List TRow) → Option (List TRow)) (N : Nat) : (List TRow) → Int → Int → (List TRow) → Option (List TRow) :=
  iterN (fun _ _ _ _ => none) (fun back => spec_RowDrop.step5 n k0 back) N
def spec_RowDrop : Nat → (List TRow) → Int → Option (List TRow)
  | 0, _, _ => none
  | n + 1, rows, id1 =>
    ((spec_RowAt n rows id1).bind fun xr1 => (spec_RowDrop.loop5 n (fun xy3 => (some xy3)) n rows xr1 0 ([] : List TRow)))
def spec_RowPut.step6 (n : Nat) (k0 : Int → Int → (List Int) → (List TRow) → Option (List TRow)) (back : Int → Int → Int → (List Int) → (List TRow) → Option (List TRow)) (at_1 : Int) (i : Int) (r0 : Int) (r1 : List Int) (out_1 : List TRow) : Option (List TRow) :=
  (cond (decide (i ≥ 0)) (inB i out_1.length (cond (decide (((out_1.getD i.toNat TRow.dflt).id_) > r0)) (back i (W (i - 1)) r0 r1 out_1) (back at_1 (W (i - 1)) r0 r1 out_1))) (k0 at_1 r0 r1 out_1))
def spec_RowPut.loop6 (n : Nat) (k0 : Int → Int → (List Int) → (List TRow) → Option (List TRow)) (N : Nat) : Int → Int → Int → (List Int) → (List TRow) → Option (List TRow) :=
  iterN (fun _ _ _ _ _ => none) (fun back => spec_RowPut.step6 n k0 back) N
def spec_RowPut : Nat → (List TRow) → TRow → Option (List TRow)
  | 0, _, _ => none
  | n + 1, rows, r =>
    ((spec_RowDrop n rows r.id_).bind fun xr1 => ((spec_RowAt n rows r.id_).bind fun xr2 => (cond (decide (xr2 ≥ 0)) ((spec_RowAt n rows r.id_).bind fun xr3 => (cutB 0 xr3 xr1.length (roomB (([] : List TRow).length + ((xr1.take xr3.toNat).drop 0).length) 32 ((spec_l6Copy n r).bind fun xr4 => (roomB ((([] : List TRow) ++ ((xr1.take xr3.toNat).drop 0)).length + ([xr4] : List TRow).length) 32 (cutB xr3 (xr1.length : Int) xr1.length (roomB (((([] : List TRow) ++ ((xr1.take xr3.toNat).drop 0)) ++ ([xr4] : List TRow)).length + ((xr1.take ((xr1.length : Int).toNat)).drop xr3.toNat).length) 32 (some (((([] : List TRow) ++ ((xr1.take xr3.toNat).drop 0)) ++ ([xr4] : List TRow)) ++ ((xr1.take ((xr1.length : Int).toNat)).drop xr3.toNat)))))))))) (spec_RowPut.loop6 n (fun xy5 xy6 xy7 xy8 => (cutB 0 xy5 xy8.length (roomB (([] : List TRow).length + ((xy8.take xy5.toNat).drop 0).length) 32 ((spec_l6Copy n (TRow.mk xy6 xy7)).bind fun xr9 => (roomB ((([] : List TRow) ++ ((xy8.take xy5.toNat).drop 0)).length + ([xr9] : List TRow).length) 32 (cutB xy5 (xy8.length : Int) xy8.length (roomB (((([] : List TRow) ++ ((xy8.take xy5.toNat).drop 0)) ++ ([xr9] : List TRow)).length + ((xy8.take ((xy8.length : Int).toNat)).drop xy5.toNat).length) 32 (some (((([] : List TRow) ++ ((xy8.take xy5.toNat).drop 0)) ++ ([xr9] : List TRow)) ++ ((xy8.take ((xy8.length : Int).toNat)).drop xy5.toNat)))))))))) n (xr1.length : Int) (W ((xr1.length : Int) - 1)) r.id_ r.cells xr1))))
def spec_l7Turn : Nat → TStore → TChange → Option (TStore × Bool)
  | 0, _, _ => none
  | n + 1, s, c =>
    ((spec_l1In n c.table 0 (W ((s.tables.length : Int) - 1))).bind fun xr1 => (cond (!xr1) (some (s, false)) (cond c.had ((spec_l7There n s c.table c.old).bind fun xr2 => (cond (!xr2) (some (s, false)) (inB c.table s.tables.length (cond c.had ((spec_RowDrop n (s.tables.getD c.table.toNat []) c.old.id_).bind fun xr3 => (cond c.has ((spec_RowAt n xr3 c.new.id_).bind fun xr4 => (cond (decide (xr4 ≥ 0)) (some (s, false)) ((spec_RowPut n xr3 c.new).bind fun xr5 => (inB c.table s.tables.length (let xa6 : List (List TRow) := s.tables.set c.table.toNat xr5; (some ((TStore.mk s.schema s.version xa6), true))))))) (inB c.table s.tables.length (let xa7 : List (List TRow) := s.tables.set c.table.toNat xr3; (some ((TStore.mk s.schema s.version xa7), true)))))) (cond c.has ((spec_RowAt n (s.tables.getD c.table.toNat []) c.new.id_).bind fun xr8 => (cond (decide (xr8 ≥ 0)) (some (s, false)) ((spec_RowPut n (s.tables.getD c.table.toNat []) c.new).bind fun xr9 => (inB c.table s.tables.length (let xa10 : List (List TRow) := s.tables.set c.table.toNat xr9; (some ((TStore.mk s.schema s.version xa10), true))))))) (inB c.table s.tables.length (let xa11 : List (List TRow) := s.tables.set c.table.toNat (s.tables.getD c.table.toNat []); (some ((TStore.mk s.schema s.version xa11), true))))))))) (inB c.table s.tables.length (cond c.had ((spec_RowDrop n (s.tables.getD c.table.toNat []) c.old.id_).bind fun xr12 => (cond c.has ((spec_RowAt n xr12 c.new.id_).bind fun xr13 => (cond (decide (xr13 ≥ 0)) (some (s, false)) ((spec_RowPut n xr12 c.new).bind fun xr14 => (inB c.table s.tables.length (let xa15 : List (List TRow) := s.tables.set c.table.toNat xr14; (some ((TStore.mk s.schema s.version xa15), true))))))) (inB c.table s.tables.length (let xa16 : List (List TRow) := s.tables.set c.table.toNat xr12; (some ((TStore.mk s.schema s.version xa16), true)))))) (cond c.has ((spec_RowAt n (s.tables.getD c.table.toNat []) c.new.id_).bind fun xr17 => (cond (decide (xr17 ≥ 0)) (some (s, false)) ((spec_RowPut n (s.tables.getD c.table.toNat []) c.new).bind fun xr18 => (inB c.table s.tables.length (let xa19 : List (List TRow) := s.tables.set c.table.toNat xr18; (some ((TStore.mk s.schema s.version xa19), true))))))) (inB c.table s.tables.length (let xa20 : List (List TRow) := s.tables.set c.table.toNat (s.tables.getD c.table.toNat []); (some ((TStore.mk s.schema s.version xa20), true))))))))))
def spec_Forward.step7 (n : Nat) (k0 : (List Int) → Int → (List (List TRow)) → Int → Int → (List Int) → (List (List TRow)) → Option (TStore × Bool)) (back : (List TChange) → Int → (List Int) → Int → (List (List TRow)) → Int → Int → (List Int) → (List (List TRow)) → Option (TStore × Bool)) (append : List TChange) (t7 : Int) (t20 : List Int) (t21 : Int) (t22 : List (List TRow)) (t41 : Int) (t61 : Int) (t60 : List Int) (t62 : List (List TRow)) : Option (TStore × Bool) :=
  (cond (decide (t7 < (append.length : Int))) (inB t7 append.length (cond (!((append.getD t7.toNat TChange.dflt).had)) (inB t7 append.length (cond (!((append.getD t7.toNat TChange.dflt).has)) (some ((TStore.mk (TSchema.mk ([] : List Int)) 0 ([] : List (List TRow))), false)) (inB t7 append.length ((spec_l8Zero n ((append.getD t7.toNat TChange.dflt).old)).bind fun xr4 => (cond (!xr4) (some ((TStore.mk (TSchema.mk ([] : List Int)) 0 ([] : List (List TRow))), false)) (inB t7 append.length (cond (!((append.getD t7.toNat TChange.dflt).has)) (inB t7 append.length ((spec_l8Zero n ((append.getD t7.toNat TChange.dflt).new)).bind fun xr5 => (cond (!xr5) (some ((TStore.mk (TSchema.mk ([] : List Int)) 0 ([] : List (List TRow))), false)) (inB t7 append.length ((spec_l7Turn n (TStore.mk (TSchema.mk t60) t61 t62) { (append.getD t7.toNat TChange.dflt) with old := ((append.getD t7.toNat TChange.dflt).old), new := ((append.getD t7.toNat TChange.dflt).new) }).bind fun xr6 => (cond (!xr6.2) (some ((TStore.mk (TSchema.mk ([] : List Int)) 0 ([] : List (List TRow))), false)) ((spec_StoreOk n xr6.1).bind fun xr7 => (cond (!xr7) (some ((TStore.mk (TSchema.mk ([] : List Int)) 0 ([] : List (List TRow))), false)) (back append (W (t7 + 1)) t20 t21 t22 t41 xr6.1.version xr6.1.schema.cols xr6.1.tables))))))))) (inB t7 append.length ((spec_l7Turn n (TStore.mk (TSchema.mk t60) t61 t62) { (append.getD t7.toNat TChange.dflt) with old := ((append.getD t7.toNat TChange.dflt).old), new := ((append.getD t7.toNat TChange.dflt).new) }).bind fun xr8 => (cond (!xr8.2) (some ((TStore.mk (TSchema.mk ([] : List Int)) 0 ([] : List (List TRow))), false)) ((spec_StoreOk n xr8.1).bind fun xr9 => (cond (!xr9) (some ((TStore.mk (TSchema.mk ([] : List Int)) 0 ([] : List (List TRow))), false)) (back append (W (t7 + 1)) t20 t21 t22 t41 xr8.1.version xr8.1.schema.cols xr8.1.tables))))))))))))) (inB t7 append.length (cond (!((append.getD t7.toNat TChange.dflt).has)) (inB t7 append.length ((spec_l8Zero n ((append.getD t7.toNat TChange.dflt).new)).bind fun xr10 => (cond (!xr10) (some ((TStore.mk (TSchema.mk ([] : List Int)) 0 ([] : List (List TRow))), false)) (inB t7 append.length ((spec_l7Turn n (TStore.mk (TSchema.mk t60) t61 t62) { (append.getD t7.toNat TChange.dflt) with old := ((append.getD t7.toNat TChange.dflt).old), new := ((append.getD t7.toNat TChange.dflt).new) }).bind fun xr11 => (cond (!xr11.2) (some ((TStore.mk (TSchema.mk ([] : List Int)) 0 ([] : List (List TRow))), false)) ((spec_StoreOk n xr11.1).bind fun xr12 => (cond (!xr12) (some ((TStore.mk (TSchema.mk ([] : List Int)) 0 ([] : List (List TRow))), false)) (back append (W (t7 + 1)) t20 t21 t22 t41 xr11.1.version xr11.1.schema.cols xr11.1.tables))))))))) (inB t7 append.length ((spec_l7Turn n (TStore.mk (TSchema.mk t60) t61 t62) { (append.getD t7.toNat TChange.dflt) with old := ((append.getD t7.toNat TChange.dflt).old), new := ((append.getD t7.toNat TChange.dflt).new) }).bind fun xr13 => (cond (!xr13.2) (some ((TStore.mk (TSchema.mk ([] : List Int)) 0 ([] : List (List TRow))), false)) ((spec_StoreOk n xr13.1).bind fun xr14 => (cond (!xr14) (some ((TStore.mk (TSchema.mk ([] : List Int)) 0 ([] : List (List TRow))), false)) (back append (W (t7 + 1)) t20 t21 t22 t41 xr13.1.version xr13.1.schema.cols xr13.1.tables)))))))))) (k0 t20 t21 t22 t41 t61 t60 t62))
def spec_Forward.loop7 (n : Nat) (k0 : (List Int) → Int → (List (List TRow)) → Int → Int → (List Int) → (List (List TRow)) → Option (TStore × Bool)) (N : Nat) : (List TChange) → Int → (List Int) → Int → (List (List TRow)) → Int → Int → (List Int) → (List (List TRow)) → Option (TStore × Bool) :=
  iterN (fun _ _ _ _ _ _ _ _ _ => none) (fun back => spec_Forward.step7 n k0 back) N
def spec_Forward : Nat → TStore → (List TChange) → Option (TStore × Bool)
  | 0, _, _ => none
  | n + 1, o, append =>
    ((spec_StoreOk n o).bind fun xr1 => (cond (!xr1) (some ((TStore.mk (TSchema.mk ([] : List Int)) 0 ([] : List (List TRow))), false)) ((spec_l1In n (append.length : Int) 1 5).bind fun xr2 => (cond (!xr2) (some ((TStore.mk (TSchema.mk ([] : List Int)) 0 ([] : List (List TRow))), false)) ((spec_l7Copy n o).bind fun xr3 => (spec_Forward.loop7 n (fun xy15 xy16 xy17 xy18 xy19 xy20 xy21 => ((spec_StoreOk n (TStore.mk (TSchema.mk xy20) (W (xy16 + 1)) xy21)).bind fun xr22 => (cond (!xr22) (some ((TStore.mk (TSchema.mk ([] : List Int)) 0 ([] : List (List TRow))), false)) (some ((TStore.mk (TSchema.mk xy20) (W (xy16 + 1)) xy21), true))))) n append 0 o.schema.cols o.version o.tables 0 xr3.version xr3.schema.cols xr3.tables))))))
def spec_RecordOk.step4 (n : Nat) (k0 : (List Int) → Int → (List (List TRow)) → (List (List TChange)) → (List Int) → Int → (List (List TRow)) → Option Bool) (back : Int → (List Int) → Int → (List (List TRow)) → (List (List TChange)) → (List Int) → Int → (List (List TRow)) → Option Bool) (i : Int) (r0 : List Int) (r1 : Int) (r2 : List (List TRow)) (r3 : List (List TChange)) (s0 : List Int) (s1 : Int) (s2 : List (List TRow)) : Option Bool :=
  (cond (decide (i < (r3.length : Int))) (inB i r3.length ((spec_Forward n (TStore.mk (TSchema.mk s0) s1 s2) (r3.getD i.toNat [])).bind fun xr1 => (cond (!xr1.2) (some false) (back (W (i + 1)) r0 r1 r2 r3 xr1.1.schema.cols xr1.1.version xr1.1.tables)))) (k0 r0 r1 r2 r3 s0 s1 s2))
def spec_RecordOk.loop4 (n : Nat) (k0 : (List Int) → Int → (List (List TRow)) → (List (List TChange)) → (List Int) → Int → (List (List TRow)) → Option Bool) (N : Nat) : Int → (List Int) → Int → (List (List TRow)) → (List (List TChange)) → (List Int) → Int → (List (List TRow)) → Option Bool :=
  iterN (fun _ _ _ _ _ _ _ _ => none) (fun back => spec_RecordOk.step4 n k0 back) N
def spec_RecordOk : Nat → TRecord → Option Bool
  | 0, _ => none
  | n + 1, r =>
    (spec_RecordOk.loop4 n (fun xy2 xy3 xy4 xy5 xy6 xy7 xy8 => ((spec_StoreOk n (TStore.mk (TSchema.mk xy6) xy7 xy8)).bind fun xr9 => (cond xr9 (some (decide ((xy5.length : Int) ≤ 40))) (some false)))) n 0 r.first.schema.cols r.first.version r.first.tables r.steps r.first.schema.cols r.first.version r.first.tables)
def spec_QueryOk.step7 (n : Nat) (k0 : Int → (List Int) → Int → (List TCond) → Int → Bool → Int → (List Int) → Bool → Int → Int → Option Bool) (back : Int → Int → (List Int) → Int → (List TCond) → Int → Bool → Int → (List Int) → Bool → Int → Int → Option Bool) (t5 : Int) (t6 : Int) (t20 : List Int) (t30 : Int) (t31 : List TCond) (t32 : Int) (t33 : Bool) (t34 : Int) (t35 : List Int) (t36 : Bool) (t37 : Int) (t38 : Int) : Option Bool :=
  (cond (decide (t6 < (t31.length : Int))) (inB t6 t31.length ((spec_l1In n ((t31.getD t6.toNat TCond.dflt).col) 0 (W (t5 - 1))).bind fun xr3 => (cond (!xr3) (some false) ((spec_l1In n ((t31.getD t6.toNat TCond.dflt).op) 1 4).bind fun xr4 => (cond (!xr4) (some false) ((spec_l1In n ((t31.getD t6.toNat TCond.dflt).v) (-1000000000) 1000000000).bind fun xr5 => (cond (!xr5) (some false) (back t5 (W (t6 + 1)) t20 t30 t31 t32 t33 t34 t35 t36 t37 t38)))))))) (k0 t5 t20 t30 t31 t32 t33 t34 t35 t36 t37 t38))
def spec_QueryOk.loop7 (n : Nat) (k0 : Int → (List Int) → Int → (List TCond) → Int → Bool → Int → (List Int) → Bool → Int → Int → Option Bool) (N : Nat) : Int → Int → (List Int) → Int → (List TCond) → Int → Bool → Int → (List Int) → Bool → Int → Int → Option Bool :=
  iterN (fun _ _ _ _ _ _ _ _ _ _ _ _ => none) (fun back => spec_QueryOk.step7 n k0 back) N
def spec_QueryOk.step16 (n : Nat) (k2 : Int → (List Int) → Int → (List TCond) → Int → Bool → Int → (List Int) → Bool → Int → Int → Option Bool) (back : Int → Int → (List Int) → Int → (List TCond) → Int → Bool → Int → (List Int) → Bool → Int → Int → Option Bool) (t5 : Int) (t8 : Int) (t20 : List Int) (t30 : Int) (t31 : List TCond) (t32 : Int) (t33 : Bool) (t34 : Int) (t35 : List Int) (t36 : Bool) (t37 : Int) (t38 : Int) : Option Bool :=
  (cond (decide (t8 < (t35.length : Int))) (inB t8 t35.length ((spec_l1In n (t35.getD t8.toNat 0) 0 (W (t5 - 1))).bind fun xr17 => (cond (!xr17) (some false) (cond (decide (t8 > 0)) (inB (W (t8 - 1)) t35.length (inB t8 t35.length (cond (decide ((t35.getD (W (t8 - 1)).toNat 0) ≥ (t35.getD t8.toNat 0))) (some false) (back t5 (W (t8 + 1)) t20 t30 t31 t32 t33 t34 t35 t36 t37 t38)))) (back t5 (W (t8 + 1)) t20 t30 t31 t32 t33 t34 t35 t36 t37 t38))))) (k2 t5 t20 t30 t31 t32 t33 t34 t35 t36 t37 t38))
def spec_QueryOk.loop16 (n : Nat) (k2 : Int → (List Int) → Int → (List TCond) → Int → Bool → Int → (List Int) → Bool → Int → Int → Option Bool) (N : Nat) : Int → Int → (List Int) → Int → (List TCond) → Int → Bool → Int → (List Int) → Bool → Int → Int → Option Bool :=
  iterN (fun _ _ _ _ _ _ _ _ _ _ _ _ => none) (fun back => spec_QueryOk.step16 n k2 back) N
def spec_QueryOk : Nat → TSchema → TQuery → Option Bool
  | 0, _, _ => none
  | n + 1, o, append =>
    ((spec_SchemaOk n o).bind fun xr1 => (cond (!xr1) (some false) ((spec_l1In n append.table 0 (W ((o.cols.length : Int) - 1))).bind fun xr2 => (cond (!xr2) (some false) (cond (decide ((append.where_.length : Int) > 3)) (some false) (inB append.table o.cols.length (spec_QueryOk.loop7 n (fun xy6 xy7 xy8 xy9 xy10 xy11 xy12 xy13 xy14 xy15 xy16 => (spec_QueryOk.loop16 n (fun xy18 xy19 xy20 xy21 xy22 xy23 xy24 xy25 xy26 xy27 xy28 => ((spec_l1In n xy22 0 xy18).bind fun xr29 => (cond (!xr29) (some false) ((spec_l1In n xy24 0 24).bind fun xr30 => (cond (!xr30) (some false) (cond (xy22 == 0) (cond xy23 (some false) (cond (!xy26) (cond (xy27 == 0) (some (xy28 == 0)) (some false)) ((spec_l1In n xy27 0 (W ((xy19.length : Int) - 1))).bind fun xr31 => (cond xr31 (inB xy27 xy19.length ((spec_l1In n xy28 0 (W ((xy19.getD xy27.toNat 0) - 1))).bind fun xr32 => (some xr32))) (some false))))) (cond (!xy26) (cond (xy27 == 0) (some (xy28 == 0)) (some false)) ((spec_l1In n xy27 0 (W ((xy19.length : Int) - 1))).bind fun xr33 => (cond xr33 (inB xy27 xy19.length ((spec_l1In n xy28 0 (W ((xy19.getD xy27.toNat 0) - 1))).bind fun xr34 => (some xr34))) (some false)))))))))) n xy6 0 xy7 xy8 xy9 xy10 xy11 xy12 xy13 xy14 xy15 xy16)) n (o.cols.getD append.table.toNat 0) 0 o.cols append.table append.where_ append.order append.down append.first append.show_ append.kids append.kidTable append.kidCol)))))))
def spec_l9Holds : Nat → TCond → TRow → Option Bool
  | 0, _, _ => none
  | n + 1, x, r =>
    ((spec_l1In n x.col 0 (W ((r.cells.length : Int) - 1))).bind fun xr1 => (cond (!xr1) (some false) (inB x.col r.cells.length (cond (x.op == 1) (some ((r.cells.getD x.col.toNat 0) == x.v)) (cond (x.op == 2) (some (decide ((r.cells.getD x.col.toNat 0) < x.v))) (cond (x.op == 3) (some (decide ((r.cells.getD x.col.toNat 0) > x.v))) (cond (x.op == 4) (some ((r.cells.getD x.col.toNat 0) != x.v)) (some false))))))))
def spec_Matches.step3 (n : Nat) (k0 : Option Bool) (back : Int → Int → (List TCond) → Int → Bool → Int → (List Int) → Bool → Int → Int → Int → (List Int) → Option Bool) (i : Int) (q0 : Int) (q1 : List TCond) (q2 : Int) (q3 : Bool) (q4 : Int) (q5 : List Int) (q6 : Bool) (q7 : Int) (q8 : Int) (r0 : Int) (r1 : List Int) : Option Bool :=
  (cond (decide (i < (q1.length : Int))) (inB i q1.length ((spec_l9Holds n (q1.getD i.toNat TCond.dflt) (TRow.mk r0 r1)).bind fun xr1 => (cond (!xr1) (some false) (back (W (i + 1)) q0 q1 q2 q3 q4 q5 q6 q7 q8 r0 r1)))) k0)
def spec_Matches.loop3 (n : Nat) (k0 : Option Bool) (N : Nat) : Int → Int → (List TCond) → Int → Bool → Int → (List Int) → Bool → Int → Int → Int → (List Int) → Option Bool :=
  iterN (fun _ _ _ _ _ _ _ _ _ _ _ _ => none) (fun back => spec_Matches.step3 n k0 back) N
def spec_Matches : Nat → TQuery → TRow → Option Bool
  | 0, _, _ => none
  | n + 1, q, r =>
    (spec_Matches.loop3 n (some true) n 0 q.table q.where_ q.order q.down q.first q.show_ q.kids q.kidTable q.kidCol r.id_ r.cells)
def spec_l9Cell : Nat → TRow → Int → Option Int
  | 0, _, _ => none
  | n + 1, r, col =>
    ((spec_l1In n col 0 (W ((r.cells.length : Int) - 1))).bind fun xr1 => (cond (!xr1) (some 0) (inB col r.cells.length (some (r.cells.getD col.toNat 0)))))
def spec_Ahead : Nat → TQuery → TRow → TRow → Option Bool
  | 0, _, _, _ => none
  | n + 1, q, a, b =>
    (cond (q.order != 0) ((spec_l9Cell n a (W (q.order - 1))).bind fun xr1 => ((spec_l9Cell n b (W (q.order - 1))).bind fun xr2 => (cond (xr1 != xr2) (some (!((decide (xr1 < xr2)) == q.down))) (some (decide (a.id_ < b.id_)))))) (some (decide (a.id_ < b.id_))))
def spec_ViewOk.step6 (n : Nat) (k0 : Int → (List TCond) → Int → Bool → Int → (List Int) → Bool → Int → Int → (List TRow) → (List TKid) → Option Bool) (back : Int → (List Int) → Int → (List TCond) → Int → Bool → Int → (List Int) → Bool → Int → Int → (List TRow) → (List TKid) → Option Bool) (t5 : Int) (t20 : List Int) (t30 : Int) (t31 : List TCond) (t32 : Int) (t33 : Bool) (t34 : Int) (t35 : List Int) (t36 : Bool) (t37 : Int) (t38 : Int) (t39 : List TRow) (t310 : List TKid) : Option Bool :=
  (cond (decide (t5 < (t39.length : Int))) (inB t5 t39.length ((spec_RowOk n (TSchema.mk t20) t30 (t39.getD t5.toNat TRow.dflt)).bind fun xr2 => (cond (!xr2) (some false) ((spec_Matches n (TQuery.mk t30 t31 t32 t33 t34 t35 t36 t37 t38) (t39.getD t5.toNat TRow.dflt)).bind fun xr3 => (cond (!xr3) (some false) ((spec_RowAt n t39 ((t39.getD t5.toNat TRow.dflt).id_)).bind fun xr4 => (cond (xr4 != t5) (some false) (cond (decide (t5 > 0)) (inB (W (t5 - 1)) t39.length ((spec_Ahead n (TQuery.mk t30 t31 t32 t33 t34 t35 t36 t37 t38) (t39.getD (W (t5 - 1)).toNat TRow.dflt) (t39.getD t5.toNat TRow.dflt)).bind fun xr5 => (cond (!xr5) (some false) (back (W (t5 + 1)) t20 t30 t31 t32 t33 t34 t35 t36 t37 t38 t39 t310)))) (back (W (t5 + 1)) t20 t30 t31 t32 t33 t34 t35 t36 t37 t38 t39 t310))))))))) (k0 t30 t31 t32 t33 t34 t35 t36 t37 t38 t39 t310))
def spec_ViewOk.loop6 (n : Nat) (k0 : Int → (List TCond) → Int → Bool → Int → (List Int) → Bool → Int → Int → (List TRow) → (List TKid) → Option Bool) (N : Nat) : Int → (List Int) → Int → (List TCond) → Int → Bool → Int → (List Int) → Bool → Int → Int → (List TRow) → (List TKid) → Option Bool :=
  iterN (fun _ _ _ _ _ _ _ _ _ _ _ _ _ => none) (fun back => spec_ViewOk.step6 n k0 back) N
def spec_ViewOk.step15 (n : Nat) (k2 : Int → (List TCond) → Int → Bool → Int → (List Int) → Bool → Int → Int → (List TRow) → (List TKid) → Option Bool) (back : Int → Int → (List TCond) → Int → Bool → Int → (List Int) → Bool → Int → Int → (List TRow) → (List TKid) → Option Bool) (t7 : Int) (t30 : Int) (t31 : List TCond) (t32 : Int) (t33 : Bool) (t34 : Int) (t35 : List Int) (t36 : Bool) (t37 : Int) (t38 : Int) (t39 : List TRow) (t310 : List TKid) : Option Bool :=
  (cond (decide (t7 < (t310.length : Int))) (inB t7 t310.length ((spec_l1In n ((t310.getD t7.toNat TKid.dflt).n_) 1 24).bind fun xr17 => (cond (!xr17) (some false) (cond (decide (t7 > 0)) (inB (W (t7 - 1)) t310.length (inB t7 t310.length (let xv18 : Bool := (decide (((t310.getD (W (t7 - 1)).toNat TKid.dflt).id_) ≥ ((t310.getD t7.toNat TKid.dflt).id_))); (cond xv18 (some false) (back (W (t7 + 1)) t30 t31 t32 t33 t34 t35 t36 t37 t38 t39 t310))))) (back (W (t7 + 1)) t30 t31 t32 t33 t34 t35 t36 t37 t38 t39 t310))))) (k2 t30 t31 t32 t33 t34 t35 t36 t37 t38 t39 t310))
def spec_ViewOk.loop15 (n : Nat) (k2 : Int → (List TCond) → Int → Bool → Int → (List Int) → Bool → Int → Int → (List TRow) → (List TKid) → Option Bool) (N : Nat) : Int → Int → (List TCond) → Int → Bool → Int → (List Int) → Bool → Int → Int → (List TRow) → (List TKid) → Option Bool :=
  iterN (fun _ _ _ _ _ _ _ _ _ _ _ _ => none) (fun back => spec_ViewOk.step15 n k2 back) N
def spec_ViewOk : Nat → TSchema → TView → Option Bool
  | 0, _, _ => none
  | n + 1, o, append =>
    ((spec_QueryOk n o append.q).bind fun xr1 => (cond (!xr1) (some false) (cond (decide ((append.rows.length : Int) > 24)) (some false) (spec_ViewOk.loop6 n (fun xy6 xy7 xy8 xy9 xy10 xy11 xy12 xy13 xy14 xy15 xy16 => (spec_ViewOk.loop15 n (fun xy19 xy20 xy21 xy22 xy23 xy24 xy25 xy26 xy27 xy28 xy29 => (cond xy25 (some true) (some ((xy29.length : Int) == 0)))) n 0 xy6 xy7 xy8 xy9 xy10 xy11 xy12 xy13 xy14 xy15 xy16)) n 0 o.cols append.q.table append.q.where_ append.q.order append.q.down append.q.first append.q.show_ append.q.kids append.q.kidTable append.q.kidCol append.rows append.kids))))
def spec_l9Conds.step3 (n : Nat) (k0 : (List TCond) → (List TCond) → Option Bool) (back : (List TCond) → (List TCond) → Int → Option Bool) (a : List TCond) (b : List TCond) (i : Int) : Option Bool :=
  (cond (decide (i < (a.length : Int))) (cond (decide (i < (b.length : Int))) (inB i a.length (inB i b.length (let xv1 : Bool := (!(cond (((a.getD i.toNat TCond.dflt).col) == ((b.getD i.toNat TCond.dflt).col)) (cond (((a.getD i.toNat TCond.dflt).op) == ((b.getD i.toNat TCond.dflt).op)) (cond (((a.getD i.toNat TCond.dflt).v) == ((b.getD i.toNat TCond.dflt).v)) true false) false) false)); (cond xv1 (some false) (back a b (W (i + 1))))))) (k0 a b)) (k0 a b))
def spec_l9Conds.loop3 (n : Nat) (k0 : (List TCond) → (List TCond) → Option Bool) (N : Nat) : (List TCond) → (List TCond) → Int → Option Bool :=
  iterN (fun _ _ _ => none) (fun back => spec_l9Conds.step3 n k0 back) N
def spec_l9Conds : Nat → (List TCond) → (List TCond) → Option Bool
  | 0, _, _ => none
  | n + 1, a, b =>
    (spec_l9Conds.loop3 n (fun xy2 xy3 => (some ((xy2.length : Int) == (xy3.length : Int)))) n a b 0)
def spec_l9Ints.step3 (n : Nat) (k0 : (List Int) → (List Int) → Option Bool) (back : (List Int) → (List Int) → Int → Option Bool) (a : List Int) (b : List Int) (i : Int) : Option Bool :=
  (cond (decide (i < (a.length : Int))) (cond (decide (i < (b.length : Int))) (inB i a.length (inB i b.length (cond ((a.getD i.toNat 0) != (b.getD i.toNat 0)) (some false) (back a b (W (i + 1)))))) (k0 a b)) (k0 a b))
def spec_l9Ints.loop3 (n : Nat) (k0 : (List Int) → (List Int) → Option Bool) (N : Nat) : (List Int) → (List Int) → Int → Option Bool :=
  iterN (fun _ _ _ => none) (fun back => spec_l9Ints.step3 n k0 back) N
def spec_l9Ints : Nat → (List Int) → (List Int) → Option Bool
  | 0, _, _ => none
  | n + 1, a, b =>
    (spec_l9Ints.loop3 n (fun xy1 xy2 => (some ((xy1.length : Int) == (xy2.length : Int)))) n a b 0)
def spec_QuerySame : Nat → TQuery → TQuery → Option Bool
  | 0, _, _ => none
  | n + 1, o, append =>
    (cond (o.table == append.table) ((spec_l9Conds n o.where_ append.where_).bind fun xr1 => (cond xr1 (cond (o.order == append.order) (cond (o.down == append.down) (cond (o.first == append.first) ((spec_l9Ints n o.show_ append.show_).bind fun xr2 => (cond xr2 (cond (o.kids == append.kids) (cond (o.kidTable == append.kidTable) (some (o.kidCol == append.kidCol)) (some false)) (some false)) (some false))) (some false)) (some false)) (some false)) (some false))) (some false))
def spec_ViewSame.step6 (n : Nat) (k0 : Int → (List TCond) → Int → Bool → Int → (List Int) → Bool → Int → Int → (List TRow) → (List TKid) → Int → (List TCond) → Int → Bool → Int → (List Int) → Bool → Int → Int → (List TRow) → (List TKid) → Option Bool) (back : Int → Int → (List TCond) → Int → Bool → Int → (List Int) → Bool → Int → Int → (List TRow) → (List TKid) → Int → (List TCond) → Int → Bool → Int → (List Int) → Bool → Int → Int → (List TRow) → (List TKid) → Option Bool) (t5 : Int) (t20 : Int) (t21 : List TCond) (t22 : Int) (t23 : Bool) (t24 : Int) (t25 : List Int) (t26 : Bool) (t27 : Int) (t28 : Int) (t29 : List TRow) (t210 : List TKid) (t30 : Int) (t31 : List TCond) (t32 : Int) (t33 : Bool) (t34 : Int) (t35 : List Int) (t36 : Bool) (t37 : Int) (t38 : Int) (t39 : List TRow) (t310 : List TKid) : Option Bool :=
  (cond (decide (t5 < (t29.length : Int))) (inB t5 t29.length (inB t5 t39.length ((spec_RowSame n (t29.getD t5.toNat TRow.dflt) (t39.getD t5.toNat TRow.dflt)).bind fun xr2 => (cond (!xr2) (some false) (back (W (t5 + 1)) t20 t21 t22 t23 t24 t25 t26 t27 t28 t29 t210 t30 t31 t32 t33 t34 t35 t36 t37 t38 t39 t310))))) (k0 t20 t21 t22 t23 t24 t25 t26 t27 t28 t29 t210 t30 t31 t32 t33 t34 t35 t36 t37 t38 t39 t310))
def spec_ViewSame.loop6 (n : Nat) (k0 : Int → (List TCond) → Int → Bool → Int → (List Int) → Bool → Int → Int → (List TRow) → (List TKid) → Int → (List TCond) → Int → Bool → Int → (List Int) → Bool → Int → Int → (List TRow) → (List TKid) → Option Bool) (N : Nat) : Int → Int → (List TCond) → Int → Bool → Int → (List Int) → Bool → Int → Int → (List TRow) → (List TKid) → Int → (List TCond) → Int → Bool → Int → (List Int) → Bool → Int → Int → (List TRow) → (List TKid) → Option Bool :=
  iterN (fun _ _ _ _ _ _ _ _ _ _ _ _ _ _ _ _ _ _ _ _ _ _ _ => none) (fun back => spec_ViewSame.step6 n k0 back) N
def spec_ViewSame.step14 (n : Nat) (k2 : Option Bool) (back : Int → Int → (List TCond) → Int → Bool → Int → (List Int) → Bool → Int → Int → (List TRow) → (List TKid) → Int → (List TCond) → Int → Bool → Int → (List Int) → Bool → Int → Int → (List TRow) → (List TKid) → Option Bool) (t6 : Int) (t20 : Int) (t21 : List TCond) (t22 : Int) (t23 : Bool) (t24 : Int) (t25 : List Int) (t26 : Bool) (t27 : Int) (t28 : Int) (t29 : List TRow) (t210 : List TKid) (t30 : Int) (t31 : List TCond) (t32 : Int) (t33 : Bool) (t34 : Int) (t35 : List Int) (t36 : Bool) (t37 : Int) (t38 : Int) (t39 : List TRow) (t310 : List TKid) : Option Bool :=
  (cond (decide (t6 < (t210.length : Int))) (inB t6 t210.length (inB t6 t310.length (let xv25 : Bool := (!(cond (((t210.getD t6.toNat TKid.dflt).id_) == ((t310.getD t6.toNat TKid.dflt).id_)) (cond (((t210.getD t6.toNat TKid.dflt).n_) == ((t310.getD t6.toNat TKid.dflt).n_)) true false) false)); (cond xv25 (some false) (back (W (t6 + 1)) t20 t21 t22 t23 t24 t25 t26 t27 t28 t29 t210 t30 t31 t32 t33 t34 t35 t36 t37 t38 t39 t310))))) k2)
def spec_ViewSame.loop14 (n : Nat) (k2 : Option Bool) (N : Nat) : Int → Int → (List TCond) → Int → Bool → Int → (List Int) → Bool → Int → Int → (List TRow) → (List TKid) → Int → (List TCond) → Int → Bool → Int → (List Int) → Bool → Int → Int → (List TRow) → (List TKid) → Option Bool :=
  iterN (fun _ _ _ _ _ _ _ _ _ _ _ _ _ _ _ _ _ _ _ _ _ _ _ => none) (fun back => spec_ViewSame.step14 n k2 back) N
def spec_ViewSame : Nat → TView → TView → Option Bool
  | 0, _, _ => none
  | n + 1, o, append =>
    ((spec_QuerySame n o.q append.q).bind fun xr1 => (cond (!xr1) (some false) (cond ((o.rows.length : Int) != (append.rows.length : Int)) (some false) (cond ((o.kids.length : Int) != (append.kids.length : Int)) (some false) (spec_ViewSame.loop6 n (fun xy3 xy4 xy5 xy6 xy7 xy8 xy9 xy10 xy11 xy12 xy13 xy14 xy15 xy16 xy17 xy18 xy19 xy20 xy21 xy22 xy23 xy24 => (spec_ViewSame.loop14 n (some true) n 0 xy3 xy4 xy5 xy6 xy7 xy8 xy9 xy10 xy11 xy12 xy13 xy14 xy15 xy16 xy17 xy18 xy19 xy20 xy21 xy22 xy23 xy24)) n 0 o.q.table o.q.where_ o.q.order o.q.down o.q.first o.q.show_ o.q.kids o.q.kidTable o.q.kidCol o.rows o.kids append.q.table append.q.where_ append.q.order append.q.down append.q.first append.q.show_ append.q.kids append.q.kidTable append.q.kidCol append.rows append.kids)))))
def spec_SessOk : Nat → TSchema → TSess → Option Bool
  | 0, _, _ => none
  | n + 1, s, x =>
    ((spec_ViewOk n s x.view).bind fun xr1 => (cond (!xr1) (some false) ((spec_l1In n x.version 0 100000).bind fun xr2 => (cond (!xr2) (some false) (cond (!x.began) (cond (x.lastVersion == 0) ((spec_ViewSame n x.last (TView.mk (TQuery.mk 0 [] 0 false 0 [] false 0 0) [] [])).bind fun xr3 => (some xr3)) (some false)) ((spec_ViewOk n s x.last).bind fun xr4 => (cond xr4 ((spec_QuerySame n x.last.q x.view.q).bind fun xr5 => (cond xr5 ((spec_l1In n x.lastVersion 0 x.version).bind fun xr6 => (some xr6)) (some false))) (some false))))))))
def spec_Last : Nat → TRecord → Option Int
  | 0, _ => none
  | n + 1, r =>
    ((spec_RecordOk n r).bind fun xr1 => (cond (!xr1) (some (-1)) (some (W (r.first.version + (r.steps.length : Int))))))
def spec_ServerOk.step6 (n : Nat) (k0 : Option Bool) (back : Int → (List Int) → Int → (List (List TRow)) → (List (List TChange)) → (List TSeat) → Option Bool) (t3 : Int) (append0 : List Int) (append1 : Int) (append2 : List (List TRow)) (append3 : List (List TChange)) (append4 : List TSeat) : Option Bool :=
  (cond (decide (t3 < (append4.length : Int))) (inB t3 append4.length ((spec_SessOk n (TSchema.mk append0) { ((append4.getD t3.toNat TSeat.dflt).sess) with view := { (((append4.getD t3.toNat TSeat.dflt).sess).view) with q := ((((append4.getD t3.toNat TSeat.dflt).sess).view).q) }, last := { (((append4.getD t3.toNat TSeat.dflt).sess).last) with q := ((((append4.getD t3.toNat TSeat.dflt).sess).last).q) } }).bind fun xr2 => (cond (!xr2) (some false) ((spec_Last n (TRecord.mk (TStore.mk (TSchema.mk append0) append1 append2) append3)).bind fun xr3 => ((spec_l1In n (((append4.getD t3.toNat TSeat.dflt).sess).version) append1 xr3).bind fun xr4 => (cond (!xr4) (some false) (cond (decide (((append4.getD t3.toNat TSeat.dflt).came).length + (((append4.getD t3.toNat TSeat.dflt).line).wait).length ≤ 9223372036854775807)) (let xv5 : Bs := (((append4.getD t3.toNat TSeat.dflt).came) ++ (((append4.getD t3.toNat TSeat.dflt).line).wait)); (cond (!(((append4.getD t3.toNat TSeat.dflt).sent) == xv5)) (some false) (let xv6 : Bool := (decide (((((append4.getD t3.toNat TSeat.dflt).line).wait).length : Int) > 13000)); (cond xv6 (some false) (let xv7 : Bool := ((((append4.getD t3.toNat TSeat.dflt).line).gone) != (((append4.getD t3.toNat TSeat.dflt).came).length : Int)); (cond xv7 (some false) (back (W (t3 + 1)) append0 append1 append2 append3 append4))))))) none))))))) k0)
def spec_ServerOk.loop6 (n : Nat) (k0 : Option Bool) (N : Nat) : Int → (List Int) → Int → (List (List TRow)) → (List (List TChange)) → (List TSeat) → Option Bool :=
  iterN (fun _ _ _ _ _ _ => none) (fun back => spec_ServerOk.step6 n k0 back) N
def spec_ServerOk : Nat → TServer → Option Bool
  | 0, _ => none
  | n + 1, o =>
    ((spec_RecordOk n o.record).bind fun xr1 => (cond (!xr1) (some false) (cond (decide ((o.seats.length : Int) > 4)) (some false) (spec_ServerOk.loop6 n (some true) n 0 o.record.first.schema.cols o.record.first.version o.record.first.tables o.record.steps o.seats))))
def spec_Behind : Nat → TServer → Int → Option Int
  | 0, _, _ => none
  | n + 1, v, k =>
    ((spec_ServerOk n v).bind fun xr1 => (cond (!xr1) (some (-1)) ((spec_l1In n k 0 (W ((v.seats.length : Int) - 1))).bind fun xr2 => (cond (!xr2) (some (-1)) ((spec_Last n v.record).bind fun xr3 => (inB k v.seats.length (some (W (xr3 - (((v.seats.getD k.toNat TSeat.dflt).sess).version))))))))))
def impl_copyInts : Nat → (List Int) → Option (List Int)
  | 0, _ => none
  | n + 1, l =>
    (roomB (([] : List Int).length + l.length) 8 (some (([] : List Int) ++ l)))
def impl_copyRow : Nat → TRow → Option TRow
  | 0, _ => none
  | n + 1, r =>
    ((impl_copyInts n r.cells).bind fun xr1 => (some (TRow.mk r.id_ xr1)))
def impl_copyRows.step4 (n : Nat) (k0 : (List TRow) → Option (List TRow)) (back : (List TRow) → Int → Int → (List TRow) → Option (List TRow)) (t7 : List TRow) (t8 : Int) (t9 : Int) (out_1 : List TRow) : Option (List TRow) :=
  (cond (decide (t9 < t8)) (inB t9 t7.length ((impl_copyRow n (t7.getD t9.toNat TRow.dflt)).bind fun xr1 => (roomB (out_1.length + ([xr1] : List TRow).length) 32 (back t7 t8 (W (t9 + 1)) (out_1 ++ ([xr1] : List TRow)))))) (k0 out_1))
def impl_copyRows.loop4 (n : Nat) (k0 : (List TRow) → Option (List TRow)) (N : Nat) : (List TRow) → Int → Int → (List TRow) → Option (List TRow) :=
  iterN (fun _ _ _ _ => none) (fun back => impl_copyRows.step4 n k0 back) N
def impl_copyRows : Nat → (List TRow) → Option (List TRow)
  | 0, _ => none
  | n + 1, rows =>
    (impl_copyRows.loop4 n (fun xy2 => (some xy2)) n rows (rows.length : Int) 0 ([] : List TRow))
def impl_copyStore.step4 (n : Nat) (k0 : Int → Int → (List Int) → (List (List TRow)) → Option TStore) (back : (List (List TRow)) → Int → Int → Int → Int → (List Int) → (List (List TRow)) → Option TStore) (t15 : List (List TRow)) (t16 : Int) (t17 : Int) (t21 : Int) (out1 : Int) (out0 : List Int) (out2 : List (List TRow)) : Option TStore :=
  (cond (decide (t17 < t16)) (inB t17 t15.length ((impl_copyRows n (t15.getD t17.toNat [])).bind fun xr2 => (roomB (out2.length + ([xr2] : List (List TRow)).length) 24 (back t15 t16 (W (t17 + 1)) t21 out1 out0 (out2 ++ ([xr2] : List (List TRow))))))) (k0 t21 out1 out0 out2))
def impl_copyStore.loop4 (n : Nat) (k0 : Int → Int → (List Int) → (List (List TRow)) → Option TStore) (N : Nat) : (List (List TRow)) → Int → Int → Int → Int → (List Int) → (List (List TRow)) → Option TStore :=
  iterN (fun _ _ _ _ _ _ _ => none) (fun back => impl_copyStore.step4 n k0 back) N
def impl_copyStore : Nat → TStore → Option TStore
  | 0, _ => none
  | n + 1, s =>
    ((impl_copyInts n s.schema.cols).bind fun xr1 => (impl_copyStore.loop4 n (fun xy3 xy4 xy5 xy6 => (some (TStore.mk (TSchema.mk xy5) xy4 xy6))) n s.tables (s.tables.length : Int) 0 0 s.version xr1 ([] : List (List TRow))))
def impl_within : Nat → Int → Int → Int → Option Bool
  | 0, _, _, _ => none
  | n + 1, n1, low, high =>
    (cond (decide (n1 ≥ low)) (some (decide (n1 ≤ high))) (some false))
def impl_SchemaOk.step3 (n : Nat) (k0 : (List Int) → Option Bool) (back : (List Int) → Int → Int → (List Int) → Option Bool) (t6 : List Int) (t7 : Int) (t8 : Int) (s0 : List Int) : Option Bool :=
  (cond (decide (t8 < t7)) (inB t8 t6.length ((impl_within n (t6.getD t8.toNat 0) 1 4).bind fun xr1 => (cond (!xr1) (some false) (back t6 t7 (W (t8 + 1)) s0)))) (k0 s0))
def impl_SchemaOk.loop3 (n : Nat) (k0 : (List Int) → Option Bool) (N : Nat) : (List Int) → Int → Int → (List Int) → Option Bool :=
  iterN (fun _ _ _ _ => none) (fun back => impl_SchemaOk.step3 n k0 back) N
def impl_SchemaOk : Nat → TSchema → Option Bool
  | 0, _ => none
  | n + 1, s =>
    (impl_SchemaOk.loop3 n (fun xy2 => ((impl_within n (xy2.length : Int) 1 3).bind fun xr3 => (some xr3))) n s.cols (s.cols.length : Int) 0 s.cols)
def impl_isVersion : Nat → Int → Option Bool
  | 0, _ => none
  | n + 1, n1 =>
    ((impl_within n n1 0 100000).bind fun xr1 => (some xr1))
def impl_isNum : Nat → Int → Option Bool
  | 0, _ => none
  | n + 1, n1 =>
    ((impl_within n n1 (-1000000000) 1000000000).bind fun xr1 => (some xr1))
def impl_hasTable : Nat → TSchema → Int → Option Bool
  | 0, _, _ => none
  | n + 1, s, table =>
    ((impl_within n table 0 (W ((s.cols.length : Int) - 1))).bind fun xr1 => (some xr1))
def impl_RowOk.step3 (n : Nat) (k0 : Int → (List Int) → Int → (List Int) → Option Bool) (back : Int → (List Int) → Int → Int → (List Int) → Int → (List Int) → Option Bool) (table : Int) (t10 : List Int) (t11 : Int) (t12 : Int) (s0 : List Int) (r0 : Int) (r1 : List Int) : Option Bool :=
  (cond (decide (t12 < t11)) (inB t12 t10.length ((impl_isNum n (t10.getD t12.toNat 0)).bind fun xr1 => (cond (!xr1) (some false) (back table t10 t11 (W (t12 + 1)) s0 r0 r1)))) (k0 table s0 r0 r1))
def impl_RowOk.loop3 (n : Nat) (k0 : Int → (List Int) → Int → (List Int) → Option Bool) (N : Nat) : Int → (List Int) → Int → Int → (List Int) → Int → (List Int) → Option Bool :=
  iterN (fun _ _ _ _ _ _ _ => none) (fun back => impl_RowOk.step3 n k0 back) N
def impl_RowOk : Nat → TSchema → Int → TRow → Option Bool
  | 0, _, _, _ => none
  | n + 1, s, table, r =>
    (impl_RowOk.loop3 n (fun xy2 xy3 xy4 xy5 => ((impl_SchemaOk n (TSchema.mk xy3)).bind fun xr6 => (cond xr6 ((impl_hasTable n (TSchema.mk xy3) xy2).bind fun xr7 => (cond xr7 (inB xy2 xy3.length (cond ((xy5.length : Int) == (xy3.getD xy2.toNat 0)) ((impl_within n xy4 1 999).bind fun xr8 => (some xr8)) (some false))) (some false))) (some false)))) n table r.cells (r.cells.length : Int) 0 s.cols r.id_ r.cells)
def impl_RowsOk.step3 (n : Nat) (k0 : Int → (List TRow) → (List Int) → Option Bool) (back : Int → (List TRow) → (List TRow) → Int → Int → (List Int) → Option Bool) (table : Int) (rows : List TRow) (t9 : List TRow) (t10 : Int) (t11 : Int) (s0 : List Int) : Option Bool :=
  (cond (decide (t11 < t10)) (inB t11 t9.length ((impl_RowOk n (TSchema.mk s0) table (t9.getD t11.toNat TRow.dflt)).bind fun xr1 => (cond (!xr1) (some false) (cond (decide (t11 > 0)) (inB (W (t11 - 1)) rows.length (let xv2 : Bool := (decide (((rows.getD (W (t11 - 1)).toNat TRow.dflt).id_) ≥ ((t9.getD t11.toNat TRow.dflt).id_))); (cond xv2 (some false) (back table rows t9 t10 (W (t11 + 1)) s0)))) (back table rows t9 t10 (W (t11 + 1)) s0))))) (k0 table rows s0))
def impl_RowsOk.loop3 (n : Nat) (k0 : Int → (List TRow) → (List Int) → Option Bool) (N : Nat) : Int → (List TRow) → (List TRow) → Int → Int → (List Int) → Option Bool :=
  iterN (fun _ _ _ _ _ _ => none) (fun back => impl_RowsOk.step3 n k0 back) N
def impl_RowsOk : Nat → TSchema → Int → (List TRow) → Option Bool
  | 0, _, _, _ => none
  | n + 1, s, table, rows =>
    (impl_RowsOk.loop3 n (fun xy3 xy4 xy5 => ((impl_SchemaOk n (TSchema.mk xy5)).bind fun xr6 => (cond xr6 ((impl_hasTable n (TSchema.mk xy5) xy3).bind fun xr7 => (cond xr7 (some (decide ((xy4.length : Int) ≤ 24))) (some false))) (some false)))) n table rows rows (rows.length : Int) 0 s.cols)
def impl_StoreOk.step6 (n : Nat) (k0 : Option Bool) (back : (List (List TRow)) → Int → Int → (List Int) → Int → (List (List TRow)) → Option Bool) (t26 : List (List TRow)) (t27 : Int) (t28 : Int) (s0 : List Int) (s1 : Int) (s2 : List (List TRow)) : Option Bool :=
  (cond (decide (t28 < t27)) (inB t28 t26.length ((impl_RowsOk n (TSchema.mk s0) t28 (t26.getD t28.toNat [])).bind fun xr3 => (cond (!xr3) (some false) (back t26 t27 (W (t28 + 1)) s0 s1 s2)))) k0)
def impl_StoreOk.loop6 (n : Nat) (k0 : Option Bool) (N : Nat) : (List (List TRow)) → Int → Int → (List Int) → Int → (List (List TRow)) → Option Bool :=
  iterN (fun _ _ _ _ _ _ => none) (fun back => impl_StoreOk.step6 n k0 back) N
def impl_StoreOk : Nat → TStore → Option Bool
  | 0, _ => none
  | n + 1, s =>
    ((impl_SchemaOk n s.schema).bind fun xr1 => (cond (!xr1) (some false) ((impl_isVersion n s.version).bind fun xr2 => (cond (!xr2) (some false) (cond ((s.tables.length : Int) != (s.schema.cols.length : Int)) (some false) (impl_StoreOk.loop6 n (some true) n s.tables (s.tables.length : Int) 0 s.schema.cols s.version s.tables))))))
def impl_noRow : Nat → TRow → Option Bool
  | 0, _ => none
  | n + 1, r =>
    (cond (r.id_ == 0) (some ((r.cells.length : Int) == 0)) (some false))
def impl_changeFits : Nat → TSchema → TChange → Option Bool
  | 0, _, _ => none
  | n + 1, o, append =>
    (cond append.had ((impl_RowOk n o append.table append.old).bind fun xr1 => (cond xr1 (cond append.has ((impl_RowOk n o append.table append.new).bind fun xr2 => (cond xr2 (cond append.had ((impl_hasTable n o append.table).bind fun xr3 => (cond xr3 (some true) (some false))) (cond append.has ((impl_hasTable n o append.table).bind fun xr4 => (cond xr4 (some true) (some false))) (some false))) (cond (!append.has) ((impl_noRow n append.new).bind fun xr5 => (cond append.had ((impl_hasTable n o append.table).bind fun xr6 => (cond xr6 (some xr5) (some false))) (cond append.has ((impl_hasTable n o append.table).bind fun xr7 => (cond xr7 (some xr5) (some false))) (some false)))) (cond append.had ((impl_hasTable n o append.table).bind fun xr8 => (cond xr8 (some false) (some false))) (cond append.has ((impl_hasTable n o append.table).bind fun xr9 => (cond xr9 (some false) (some false))) (some false)))))) (cond (!append.has) ((impl_noRow n append.new).bind fun xr10 => (cond append.had ((impl_hasTable n o append.table).bind fun xr11 => (cond xr11 (some xr10) (some false))) (cond append.has ((impl_hasTable n o append.table).bind fun xr12 => (cond xr12 (some xr10) (some false))) (some false)))) (cond append.had ((impl_hasTable n o append.table).bind fun xr13 => (cond xr13 (some false) (some false))) (cond append.has ((impl_hasTable n o append.table).bind fun xr14 => (cond xr14 (some false) (some false))) (some false))))) (cond (!append.had) ((impl_noRow n append.old).bind fun xr15 => (cond append.has ((impl_RowOk n o append.table append.new).bind fun xr16 => (cond xr16 (cond append.had ((impl_hasTable n o append.table).bind fun xr17 => (cond xr17 (cond xr15 (some true) (some false)) (some false))) (cond append.has ((impl_hasTable n o append.table).bind fun xr18 => (cond xr18 (cond xr15 (some true) (some false)) (some false))) (some false))) (cond (!append.has) ((impl_noRow n append.new).bind fun xr19 => (cond append.had ((impl_hasTable n o append.table).bind fun xr20 => (cond xr20 (cond xr15 (some xr19) (some false)) (some false))) (cond append.has ((impl_hasTable n o append.table).bind fun xr21 => (cond xr21 (cond xr15 (some xr19) (some false)) (some false))) (some false)))) (cond append.had ((impl_hasTable n o append.table).bind fun xr22 => (cond xr22 (cond xr15 (some false) (some false)) (some false))) (cond append.has ((impl_hasTable n o append.table).bind fun xr23 => (cond xr23 (cond xr15 (some false) (some false)) (some false))) (some false)))))) (cond (!append.has) ((impl_noRow n append.new).bind fun xr24 => (cond append.had ((impl_hasTable n o append.table).bind fun xr25 => (cond xr25 (cond xr15 (some xr24) (some false)) (some false))) (cond append.has ((impl_hasTable n o append.table).bind fun xr26 => (cond xr26 (cond xr15 (some xr24) (some false)) (some false))) (some false)))) (cond append.had ((impl_hasTable n o append.table).bind fun xr27 => (cond xr27 (cond xr15 (some false) (some false)) (some false))) (cond append.has ((impl_hasTable n o append.table).bind fun xr28 => (cond xr28 (cond xr15 (some false) (some false)) (some false))) (some false)))))) (cond append.has ((impl_RowOk n o append.table append.new).bind fun xr29 => (cond xr29 (cond append.had ((impl_hasTable n o append.table).bind fun xr30 => (cond xr30 (some false) (some false))) (cond append.has ((impl_hasTable n o append.table).bind fun xr31 => (cond xr31 (some false) (some false))) (some false))) (cond (!append.has) ((impl_noRow n append.new).bind fun xr32 => (cond append.had ((impl_hasTable n o append.table).bind fun xr33 => (cond xr33 (some false) (some false))) (cond append.has ((impl_hasTable n o append.table).bind fun xr34 => (cond xr34 (some false) (some false))) (some false)))) (cond append.had ((impl_hasTable n o append.table).bind fun xr35 => (cond xr35 (some false) (some false))) (cond append.has ((impl_hasTable n o append.table).bind fun xr36 => (cond xr36 (some false) (some false))) (some false)))))) (cond (!append.has) ((impl_noRow n append.new).bind fun xr37 => (cond append.had ((impl_hasTable n o append.table).bind fun xr38 => (cond xr38 (some false) (some false))) (cond append.has ((impl_hasTable n o append.table).bind fun xr39 => (cond xr39 (some false) (some false))) (some false)))) (cond append.had ((impl_hasTable n o append.table).bind fun xr40 => (cond xr40 (some false) (some false))) (cond append.has ((impl_hasTable n o append.table).bind fun xr41 => (cond xr41 (some false) (some false))) (some false)))))))) (cond (!append.had) ((impl_noRow n append.old).bind fun xr42 => (cond append.has ((impl_RowOk n o append.table append.new).bind fun xr43 => (cond xr43 (cond append.had ((impl_hasTable n o append.table).bind fun xr44 => (cond xr44 (cond xr42 (some true) (some false)) (some false))) (cond append.has ((impl_hasTable n o append.table).bind fun xr45 => (cond xr45 (cond xr42 (some true) (some false)) (some false))) (some false))) (cond (!append.has) ((impl_noRow n append.new).bind fun xr46 => (cond append.had ((impl_hasTable n o append.table).bind fun xr47 => (cond xr47 (cond xr42 (some xr46) (some false)) (some false))) (cond append.has ((impl_hasTable n o append.table).bind fun xr48 => (cond xr48 (cond xr42 (some xr46) (some false)) (some false))) (some false)))) (cond append.had ((impl_hasTable n o append.table).bind fun xr49 => (cond xr49 (cond xr42 (some false) (some false)) (some false))) (cond append.has ((impl_hasTable n o append.table).bind fun xr50 => (cond xr50 (cond xr42 (some false) (some false)) (some false))) (some false)))))) (cond (!append.has) ((impl_noRow n append.new).bind fun xr51 => (cond append.had ((impl_hasTable n o append.table).bind fun xr52 => (cond xr52 (cond xr42 (some xr51) (some false)) (some false))) (cond append.has ((impl_hasTable n o append.table).bind fun xr53 => (cond xr53 (cond xr42 (some xr51) (some false)) (some false))) (some false)))) (cond append.had ((impl_hasTable n o append.table).bind fun xr54 => (cond xr54 (cond xr42 (some false) (some false)) (some false))) (cond append.has ((impl_hasTable n o append.table).bind fun xr55 => (cond xr55 (cond xr42 (some false) (some false)) (some false))) (some false)))))) (cond append.has ((impl_RowOk n o append.table append.new).bind fun xr56 => (cond xr56 (cond append.had ((impl_hasTable n o append.table).bind fun xr57 => (cond xr57 (some false) (some false))) (cond append.has ((impl_hasTable n o append.table).bind fun xr58 => (cond xr58 (some false) (some false))) (some false))) (cond (!append.has) ((impl_noRow n append.new).bind fun xr59 => (cond append.had ((impl_hasTable n o append.table).bind fun xr60 => (cond xr60 (some false) (some false))) (cond append.has ((impl_hasTable n o append.table).bind fun xr61 => (cond xr61 (some false) (some false))) (some false)))) (cond append.had ((impl_hasTable n o append.table).bind fun xr62 => (cond xr62 (some false) (some false))) (cond append.has ((impl_hasTable n o append.table).bind fun xr63 => (cond xr63 (some false) (some false))) (some false)))))) (cond (!append.has) ((impl_noRow n append.new).bind fun xr64 => (cond append.had ((impl_hasTable n o append.table).bind fun xr65 => (cond xr65 (some false) (some false))) (cond append.has ((impl_hasTable n o append.table).bind fun xr66 => (cond xr66 (some false) (some false))) (some false)))) (cond append.had ((impl_hasTable n o append.table).bind fun xr67 => (cond xr67 (some false) (some false))) (cond append.has ((impl_hasTable n o append.table).bind fun xr68 => (cond xr68 (some false) (some false))) (some false)))))))
def impl_RowAt_f1 : Nat → TRow → Int → Option Bool
  | 0, _, _ => none
  | n + 1, r, c =>
    (some (r.id_ == c))
def slices_IndexFunc_Row_impl_RowAt_f1.step3 (n : Nat) (k0 : Option Int) (back : (List TRow) → Int → Int → Int → Option Int) (s : List TRow) (f00 : Int) (t7 : Int) (t8 : Int) : Option Int :=
  (cond (decide (t8 < t7)) (inB t8 s.length ((impl_RowAt_f1 n (s.getD t8.toNat TRow.dflt) f00).bind fun xr1 => (cond xr1 (some t8) (back s f00 t7 (W (t8 + 1)))))) k0)
def slices_IndexFunc_Row_impl_RowAt_f1.loop3 (n : Nat) (k0 : Option Int) (N : Nat) : (List TRow) → Int → Int → Int → Option Int :=
  iterN (fun _ _ _ _ => none) (fun back => slices_IndexFunc_Row_impl_RowAt_f1.step3 n k0 back) N
def slices_IndexFunc_Row_impl_RowAt_f1 : Nat → (List TRow) → Int → Option Int
  | 0, _, _ => none
  | n + 1, s, c =>
    (slices_IndexFunc_Row_impl_RowAt_f1.loop3 n (some (-1)) n s c (s.length : Int) 0)
def impl_RowAt : Nat → (List TRow) → Int → Option Int
  | 0, _, _ => none
  | n + 1, rows, id1 =>
    ((slices_IndexFunc_Row_impl_RowAt_f1 n rows id1).bind fun xr1 => (some xr1))
def slices_Equal_int.step6 (n : Nat) (k0 : Option Bool) (back : (List Int) → (List Int) → Int → Int → Option Bool) (s1 : List Int) (s2 : List Int) (t12 : Int) (t13 : Int) : Option Bool :=
  (cond (decide (t13 < t12)) (inB t13 s1.length (inB t13 s2.length (cond ((s1.getD t13.toNat 0) != (s2.getD t13.toNat 0)) (some false) (back s1 s2 t12 (W (t13 + 1)))))) k0)
def slices_Equal_int.loop6 (n : Nat) (k0 : Option Bool) (N : Nat) : (List Int) → (List Int) → Int → Int → Option Bool :=
  iterN (fun _ _ _ _ => none) (fun back => slices_Equal_int.step6 n k0 back) N
def slices_Equal_int : Nat → (List Int) → (List Int) → Option Bool
  | 0, _, _ => none
  | n + 1, s1, s2 =>
    (cond ((s1.length : Int) != (s2.length : Int)) (some false) (slices_Equal_int.loop6 n (some true) n s1 s2 (s1.length : Int) 0))
def impl_RowSame : Nat → TRow → TRow → Option Bool
  | 0, _, _ => none
  | n + 1, a, b =>
    (cond (a.id_ == b.id_) ((slices_Equal_int n a.cells b.cells).bind fun xr1 => (some xr1)) (some false))
def slices_Delete_Row : Nat → List TRow → Int → Int → Option (List TRow)
  | 0, _, _, _ => none
  | _ + 1, s, i, j => nDelete s i j
def impl_RowDrop : Nat → (List TRow) → Int → Option (List TRow)
  | 0, _, _ => none
  | n + 1, rows, id1 =>
    ((impl_copyRows n rows).bind fun xr1 => ((impl_RowAt n rows id1).bind fun xr2 => (cond (decide (xr2 ≥ 0)) ((slices_Delete_Row n xr1 xr2 (W (xr2 + 1))).bind fun xr3 => (some xr3)) (some xr1))))
def impl_RowPut_f1 : Nat → TRow → Int → (List Int) → Option Bool
  | 0, _, _, _ => none
  | n + 1, x, c, c1 =>
    (some (decide (x.id_ > c)))
def slices_IndexFunc_Row_impl_RowPut_f1.step3 (n : Nat) (k0 : Option Int) (back : (List TRow) → Int → (List Int) → Int → Int → Option Int) (s : List TRow) (f00 : Int) (f01 : List Int) (t7 : Int) (t8 : Int) : Option Int :=
  (cond (decide (t8 < t7)) (inB t8 s.length ((impl_RowPut_f1 n (s.getD t8.toNat TRow.dflt) f00 f01).bind fun xr1 => (cond xr1 (some t8) (back s f00 f01 t7 (W (t8 + 1)))))) k0)
def slices_IndexFunc_Row_impl_RowPut_f1.loop3 (n : Nat) (k0 : Option Int) (N : Nat) : (List TRow) → Int → (List Int) → Int → Int → Option Int :=
  iterN (fun _ _ _ _ _ => none) (fun back => slices_IndexFunc_Row_impl_RowPut_f1.step3 n k0 back) N
def slices_IndexFunc_Row_impl_RowPut_f1 : Nat → (List TRow) → Int → (List Int) → Option Int
  | 0, _, _, _ => none
  | n + 1, s, c, c1 =>
    (slices_IndexFunc_Row_impl_RowPut_f1.loop3 n (some (-1)) n s c c1 (s.length : Int) 0)
def slices_Insert_Row : Nat → List TRow → Int → List TRow → Option (List TRow)
  | 0, _, _, _ => none
  | _ + 1, s, i, v => nInsert 32 s i v
def impl_RowPut : Nat → (List TRow) → TRow → Option (List TRow)
  | 0, _, _ => none
  | n + 1, rows, r =>
    ((impl_copyRows n rows).bind fun xr1 => ((impl_RowAt n rows r.id_).bind fun xr2 => (cond (decide (xr2 ≥ 0)) ((impl_copyRow n r).bind fun xr3 => (inB xr2 xr1.length (let xa4 : List TRow := xr1.set xr2.toNat xr3; (some xa4)))) ((slices_IndexFunc_Row_impl_RowPut_f1 n rows r.id_ r.cells).bind fun xr5 => (cond (decide (xr5 < 0)) ((impl_copyRow n r).bind fun xr6 => ((slices_Insert_Row n xr1 (rows.length : Int) ([xr6] : List TRow)).bind fun xr7 => (some xr7))) ((impl_copyRow n r).bind fun xr8 => ((slices_Insert_Row n xr1 xr5 ([xr8] : List TRow)).bind fun xr9 => (some xr9))))))))
def impl_swapped : Nat → TStore → Int → Bool → TRow → Bool → TRow → Option (TStore × Bool)
  | 0, _, _, _, _, _, _ => none
  | n + 1, o, append, a2, a3, a4, a5 =>
    ((impl_copyStore n o).bind fun xr1 => ((impl_hasTable n o.schema append).bind fun xr2 => (cond (!xr2) (some ((TStore.mk (TSchema.mk ([] : List Int)) 0 ([] : List (List TRow))), false)) (inB append xr1.tables.length (cond a2 ((impl_RowAt n (xr1.tables.getD append.toNat []) a3.id_).bind fun xr3 => (cond (decide (xr3 < 0)) (some ((TStore.mk (TSchema.mk ([] : List Int)) 0 ([] : List (List TRow))), false)) (inB xr3 (xr1.tables.getD append.toNat []).length ((impl_RowSame n ((xr1.tables.getD append.toNat []).getD xr3.toNat TRow.dflt) a3).bind fun xr4 => (cond (!xr4) (some ((TStore.mk (TSchema.mk ([] : List Int)) 0 ([] : List (List TRow))), false)) ((impl_RowDrop n (xr1.tables.getD append.toNat []) a3.id_).bind fun xr5 => (cond a4 ((impl_RowAt n xr5 a5.id_).bind fun xr6 => (cond (decide (xr6 ≥ 0)) (some ((TStore.mk (TSchema.mk ([] : List Int)) 0 ([] : List (List TRow))), false)) ((impl_RowPut n xr5 a5).bind fun xr7 => (inB append xr1.tables.length (let xa8 : List (List TRow) := xr1.tables.set append.toNat xr7; ((impl_StoreOk n { xr1 with tables := xa8 }).bind fun xr9 => (some ({ xr1 with tables := xa8 }, xr9)))))))) (inB append xr1.tables.length (let xa10 : List (List TRow) := xr1.tables.set append.toNat xr5; ((impl_StoreOk n { xr1 with tables := xa10 }).bind fun xr11 => (some ({ xr1 with tables := xa10 }, xr11)))))))))))) (cond a4 ((impl_RowAt n (xr1.tables.getD append.toNat []) a5.id_).bind fun xr12 => (cond (decide (xr12 ≥ 0)) (some ((TStore.mk (TSchema.mk ([] : List Int)) 0 ([] : List (List TRow))), false)) ((impl_RowPut n (xr1.tables.getD append.toNat []) a5).bind fun xr13 => (inB append xr1.tables.length (let xa14 : List (List TRow) := xr1.tables.set append.toNat xr13; ((impl_StoreOk n { xr1 with tables := xa14 }).bind fun xr15 => (some ({ xr1 with tables := xa14 }, xr15)))))))) (inB append xr1.tables.length (cond (Nat.beq append.toNat append.toNat) ((impl_StoreOk n xr1).bind fun xr16 => (some (xr1, xr16))) none))))))))
def impl_Forward.step7 (n : Nat) (k0 : Int → Int → (List Int) → (List (List TRow)) → Option (TStore × Bool)) (back : (List TChange) → Int → Int → (List Int) → Int → (List (List TRow)) → Int → Int → (List Int) → (List (List TRow)) → Option (TStore × Bool)) (t28 : List TChange) (t29 : Int) (t30 : Int) (t20 : List Int) (t21 : Int) (t22 : List (List TRow)) (t41 : Int) (t61 : Int) (t60 : List Int) (t62 : List (List TRow)) : Option (TStore × Bool) :=
  (cond (decide (t30 < t29)) (inB t30 t28.length ((impl_changeFits n (TSchema.mk t20) { (t28.getD t30.toNat TChange.dflt) with old := ((t28.getD t30.toNat TChange.dflt).old), new := ((t28.getD t30.toNat TChange.dflt).new) }).bind fun xr4 => (cond (!xr4) (some ((TStore.mk (TSchema.mk ([] : List Int)) 0 ([] : List (List TRow))), false)) ((impl_swapped n (TStore.mk (TSchema.mk t60) t61 t62) ((t28.getD t30.toNat TChange.dflt).table) ((t28.getD t30.toNat TChange.dflt).had) ((t28.getD t30.toNat TChange.dflt).old) ((t28.getD t30.toNat TChange.dflt).has) ((t28.getD t30.toNat TChange.dflt).new)).bind fun xr5 => (cond (!xr5.2) (some ((TStore.mk (TSchema.mk ([] : List Int)) 0 ([] : List (List TRow))), false)) (back t28 t29 (W (t30 + 1)) t20 t21 t22 t41 xr5.1.version xr5.1.schema.cols xr5.1.tables)))))) (k0 t41 t61 t60 t62))
def impl_Forward.loop7 (n : Nat) (k0 : Int → Int → (List Int) → (List (List TRow)) → Option (TStore × Bool)) (N : Nat) : (List TChange) → Int → Int → (List Int) → Int → (List (List TRow)) → Int → Int → (List Int) → (List (List TRow)) → Option (TStore × Bool) :=
  iterN (fun _ _ _ _ _ _ _ _ _ _ => none) (fun back => impl_Forward.step7 n k0 back) N
def impl_Forward : Nat → TStore → (List TChange) → Option (TStore × Bool)
  | 0, _, _ => none
  | n + 1, o, append =>
    ((impl_StoreOk n o).bind fun xr1 => (cond (!xr1) (some ((TStore.mk (TSchema.mk ([] : List Int)) 0 ([] : List (List TRow))), false)) ((impl_within n (append.length : Int) 1 5).bind fun xr2 => (cond (!xr2) (some ((TStore.mk (TSchema.mk ([] : List Int)) 0 ([] : List (List TRow))), false)) (cond (o.version == 100000) (some ((TStore.mk (TSchema.mk ([] : List Int)) 0 ([] : List (List TRow))), false)) ((impl_copyStore n o).bind fun xr3 => (impl_Forward.loop7 n (fun xy6 xy7 xy8 xy9 => (some ((TStore.mk (TSchema.mk xy8) (W (xy7 + 1)) xy9), true))) n append (append.length : Int) 0 o.schema.cols o.version o.tables 0 xr3.version xr3.schema.cols xr3.tables)))))))
def impl_after.step7 (n : Nat) (k0 : Int → Int → (List Int) → (List (List TRow)) → Option (TStore × Bool)) (back : (List (List TChange)) → Int → Int → Int → Int → (List Int) → (List (List TRow)) → Option (TStore × Bool)) (t21 : List (List TChange)) (t22 : Int) (t23 : Int) (t41 : Int) (s1 : Int) (s0 : List Int) (s2 : List (List TRow)) : Option (TStore × Bool) :=
  (cond (decide (t23 < t22)) (inB t23 t21.length ((impl_Forward n (TStore.mk (TSchema.mk s0) s1 s2) (t21.getD t23.toNat [])).bind fun xr3 => (cond (!xr3.2) (some ((TStore.mk (TSchema.mk ([] : List Int)) 0 ([] : List (List TRow))), false)) (back t21 t22 (W (t23 + 1)) t41 xr3.1.version xr3.1.schema.cols xr3.1.tables)))) (k0 t41 s1 s0 s2))
def impl_after.loop7 (n : Nat) (k0 : Int → Int → (List Int) → (List (List TRow)) → Option (TStore × Bool)) (N : Nat) : (List (List TChange)) → Int → Int → Int → Int → (List Int) → (List (List TRow)) → Option (TStore × Bool) :=
  iterN (fun _ _ _ _ _ _ _ => none) (fun back => impl_after.step7 n k0 back) N
def impl_after : Nat → TRecord → Int → Option (TStore × Bool)
  | 0, _, _ => none
  | n + 1, r, steps =>
    ((impl_copyStore n r.first).bind fun xr1 => ((impl_StoreOk n xr1).bind fun xr2 => (cond (!xr2) (some ((TStore.mk (TSchema.mk ([] : List Int)) 0 ([] : List (List TRow))), false)) (cutB 0 steps r.steps.length (impl_after.loop7 n (fun xy4 xy5 xy6 xy7 => (some ((TStore.mk (TSchema.mk xy6) xy5 xy7), true))) n ((r.steps.take steps.toNat).drop 0) (((r.steps.take steps.toNat).drop 0).length : Int) 0 0 xr1.version xr1.schema.cols xr1.tables)))))
def impl_RecordOk : Nat → TRecord → Option Bool
  | 0, _ => none
  | n + 1, r =>
    (cond (decide ((r.steps.length : Int) > 40)) (some false) ((impl_after n r (r.steps.length : Int)).bind fun xr1 => (some xr1.2)))
def impl_kidsFit : Nat → TSchema → TQuery → Option Bool
  | 0, _, _ => none
  | n + 1, s, q =>
    (cond (!q.kids) (cond (q.kidTable == 0) (some (q.kidCol == 0)) (some false)) ((impl_hasTable n s q.kidTable).bind fun xr1 => (cond xr1 (inB q.kidTable s.cols.length ((impl_within n q.kidCol 0 (W ((s.cols.getD q.kidTable.toNat 0) - 1))).bind fun xr2 => (some xr2))) (some false))))
def impl_QueryOk.step7 (n : Nat) (k0 : Int → (List Int) → Int → (List TCond) → Int → Bool → Int → (List Int) → Bool → Int → Int → Option Bool) (back : Int → (List TCond) → Int → Int → (List Int) → Int → (List TCond) → Int → Bool → Int → (List Int) → Bool → Int → Int → Option Bool) (t5 : Int) (t28 : List TCond) (t29 : Int) (t30 : Int) (t20 : List Int) (t30_1 : Int) (t31 : List TCond) (t32 : Int) (t33 : Bool) (t34 : Int) (t35 : List Int) (t36 : Bool) (t37 : Int) (t38 : Int) : Option Bool :=
  (cond (decide (t30 < t29)) (inB t30 t28.length ((impl_within n ((t28.getD t30.toNat TCond.dflt).col) 0 (W (t5 - 1))).bind fun xr3 => (cond (!xr3) (some false) ((impl_within n ((t28.getD t30.toNat TCond.dflt).op) 1 4).bind fun xr4 => (cond (!xr4) (some false) ((impl_isNum n ((t28.getD t30.toNat TCond.dflt).v)).bind fun xr5 => (cond (!xr5) (some false) (back t5 t28 t29 (W (t30 + 1)) t20 t30_1 t31 t32 t33 t34 t35 t36 t37 t38)))))))) (k0 t5 t20 t30_1 t31 t32 t33 t34 t35 t36 t37 t38))
def impl_QueryOk.loop7 (n : Nat) (k0 : Int → (List Int) → Int → (List TCond) → Int → Bool → Int → (List Int) → Bool → Int → Int → Option Bool) (N : Nat) : Int → (List TCond) → Int → Int → (List Int) → Int → (List TCond) → Int → Bool → Int → (List Int) → Bool → Int → Int → Option Bool :=
  iterN (fun _ _ _ _ _ _ _ _ _ _ _ _ _ _ => none) (fun back => impl_QueryOk.step7 n k0 back) N
def impl_QueryOk.step16 (n : Nat) (k2 : Int → (List Int) → Int → (List TCond) → Int → Bool → Int → (List Int) → Bool → Int → Int → Option Bool) (back : Int → (List Int) → Int → Int → (List Int) → Int → (List TCond) → Int → Bool → Int → (List Int) → Bool → Int → Int → Option Bool) (t5 : Int) (t54 : List Int) (t55 : Int) (t56 : Int) (t20 : List Int) (t30 : Int) (t31 : List TCond) (t32 : Int) (t33 : Bool) (t34 : Int) (t35 : List Int) (t36 : Bool) (t37 : Int) (t38 : Int) : Option Bool :=
  (cond (decide (t56 < t55)) (inB t56 t54.length ((impl_within n (t54.getD t56.toNat 0) 0 (W (t5 - 1))).bind fun xr17 => (cond (!xr17) (some false) (cond (decide (t56 > 0)) (inB (W (t56 - 1)) t35.length (cond (decide ((t35.getD (W (t56 - 1)).toNat 0) ≥ (t54.getD t56.toNat 0))) (some false) (back t5 t54 t55 (W (t56 + 1)) t20 t30 t31 t32 t33 t34 t35 t36 t37 t38))) (back t5 t54 t55 (W (t56 + 1)) t20 t30 t31 t32 t33 t34 t35 t36 t37 t38))))) (k2 t5 t20 t30 t31 t32 t33 t34 t35 t36 t37 t38))
def impl_QueryOk.loop16 (n : Nat) (k2 : Int → (List Int) → Int → (List TCond) → Int → Bool → Int → (List Int) → Bool → Int → Int → Option Bool) (N : Nat) : Int → (List Int) → Int → Int → (List Int) → Int → (List TCond) → Int → Bool → Int → (List Int) → Bool → Int → Int → Option Bool :=
  iterN (fun _ _ _ _ _ _ _ _ _ _ _ _ _ _ => none) (fun back => impl_QueryOk.step16 n k2 back) N
def impl_QueryOk : Nat → TSchema → TQuery → Option Bool
  | 0, _, _ => none
  | n + 1, o, append =>
    ((impl_SchemaOk n o).bind fun xr1 => (cond (!xr1) (some false) ((impl_hasTable n o append.table).bind fun xr2 => (cond (!xr2) (some false) (inB append.table o.cols.length (impl_QueryOk.loop7 n (fun xy6 xy7 xy8 xy9 xy10 xy11 xy12 xy13 xy14 xy15 xy16 => (impl_QueryOk.loop16 n (fun xy18 xy19 xy20 xy21 xy22 xy23 xy24 xy25 xy26 xy27 xy28 => ((impl_within n xy22 0 xy18).bind fun xr29 => (cond xr29 (cond (!xy23) (cond (decide ((xy21.length : Int) ≤ 3)) ((impl_within n xy24 0 24).bind fun xr30 => (cond xr30 ((impl_kidsFit n (TSchema.mk xy19) (TQuery.mk xy20 xy21 xy22 xy23 xy24 xy25 xy26 xy27 xy28)).bind fun xr31 => (some xr31)) (some false))) (some false)) (cond (decide ((xy21.length : Int) ≤ 3)) (cond (decide (xy22 > 0)) ((impl_within n xy24 0 24).bind fun xr32 => (cond xr32 ((impl_kidsFit n (TSchema.mk xy19) (TQuery.mk xy20 xy21 xy22 xy23 xy24 xy25 xy26 xy27 xy28)).bind fun xr33 => (some xr33)) (some false))) (some false)) (some false))) (cond (decide ((xy21.length : Int) ≤ 3)) (some false) (some false))))) n xy6 xy13 (xy13.length : Int) 0 xy7 xy8 xy9 xy10 xy11 xy12 xy13 xy14 xy15 xy16)) n (o.cols.getD append.table.toNat 0) append.where_ (append.where_.length : Int) 0 o.cols append.table append.where_ append.order append.down append.first append.show_ append.kids append.kidTable append.kidCol))))))
def impl_holds : Nat → TCond → TRow → Option Bool
  | 0, _, _ => none
  | n + 1, c, r =>
    ((impl_within n c.col 0 (W ((r.cells.length : Int) - 1))).bind fun xr1 => (cond (!xr1) (some false) (inB c.col r.cells.length (cond (c.op == 1) (some ((r.cells.getD c.col.toNat 0) == c.v)) (cond (c.op == 2) (some (decide ((r.cells.getD c.col.toNat 0) < c.v))) (cond (c.op == 3) (some (decide ((r.cells.getD c.col.toNat 0) > c.v))) (cond (c.op == 4) (some ((r.cells.getD c.col.toNat 0) != c.v)) (some false))))))))
def impl_Matches.step3 (n : Nat) (k0 : Option Bool) (back : (List TCond) → Int → Int → Int → (List Int) → Option Bool) (t8 : List TCond) (t9 : Int) (t10 : Int) (r0 : Int) (r1 : List Int) : Option Bool :=
  (cond (decide (t10 < t9)) (inB t10 t8.length ((impl_holds n (t8.getD t10.toNat TCond.dflt) (TRow.mk r0 r1)).bind fun xr1 => (cond (!xr1) (some false) (back t8 t9 (W (t10 + 1)) r0 r1)))) k0)
def impl_Matches.loop3 (n : Nat) (k0 : Option Bool) (N : Nat) : (List TCond) → Int → Int → Int → (List Int) → Option Bool :=
  iterN (fun _ _ _ _ _ => none) (fun back => impl_Matches.step3 n k0 back) N
def impl_Matches : Nat → TQuery → TRow → Option Bool
  | 0, _, _ => none
  | n + 1, q, r =>
    (impl_Matches.loop3 n (some true) n q.where_ (q.where_.length : Int) 0 r.id_ r.cells)
def impl_cellOf : Nat → TRow → Int → Option Int
  | 0, _, _ => none
  | n + 1, r, col =>
    ((impl_within n col 0 (W ((r.cells.length : Int) - 1))).bind fun xr1 => (cond (!xr1) (some 0) (inB col r.cells.length (some (r.cells.getD col.toNat 0)))))
def impl_Ahead : Nat → TQuery → TRow → TRow → Option Bool
  | 0, _, _, _ => none
  | n + 1, q, a, b =>
    (cond (q.order == 0) (some (decide (a.id_ < b.id_))) ((impl_cellOf n a (W (q.order - 1))).bind fun xr1 => ((impl_cellOf n b (W (q.order - 1))).bind fun xr2 => (cond (xr1 == xr2) (some (decide (a.id_ < b.id_))) (cond q.down (some (decide (xr1 > xr2))) (some (decide (xr1 < xr2))))))))
def impl_ViewOk.step6 (n : Nat) (k0 : Int → (List TCond) → Int → Bool → Int → (List Int) → Bool → Int → Int → (List TRow) → (List TKid) → Option Bool) (back : (List TRow) → Int → Int → (List Int) → Int → (List TCond) → Int → Bool → Int → (List Int) → Bool → Int → Int → (List TRow) → (List TKid) → Option Bool) (t33 : List TRow) (t34 : Int) (t35 : Int) (t20 : List Int) (t30 : Int) (t31 : List TCond) (t32 : Int) (t33_1 : Bool) (t34_1 : Int) (t35_1 : List Int) (t36 : Bool) (t37 : Int) (t38 : Int) (t39 : List TRow) (t310 : List TKid) : Option Bool :=
  (cond (decide (t35 < t34)) (inB t35 t33.length ((impl_RowOk n (TSchema.mk t20) t30 (t33.getD t35.toNat TRow.dflt)).bind fun xr2 => (cond (!xr2) (some false) ((impl_Matches n (TQuery.mk t30 t31 t32 t33_1 t34_1 t35_1 t36 t37 t38) (t33.getD t35.toNat TRow.dflt)).bind fun xr3 => (cond (!xr3) (some false) (cond (decide (t35 > 0)) (inB (W (t35 - 1)) t39.length ((impl_Ahead n (TQuery.mk t30 t31 t32 t33_1 t34_1 t35_1 t36 t37 t38) (t39.getD (W (t35 - 1)).toNat TRow.dflt) (t33.getD t35.toNat TRow.dflt)).bind fun xr4 => (cond (!xr4) (some false) ((impl_RowAt n t39 ((t33.getD t35.toNat TRow.dflt).id_)).bind fun xr5 => (cond (xr5 != t35) (some false) (back t33 t34 (W (t35 + 1)) t20 t30 t31 t32 t33_1 t34_1 t35_1 t36 t37 t38 t39 t310)))))) ((impl_RowAt n t39 ((t33.getD t35.toNat TRow.dflt).id_)).bind fun xr6 => (cond (xr6 != t35) (some false) (back t33 t34 (W (t35 + 1)) t20 t30 t31 t32 t33_1 t34_1 t35_1 t36 t37 t38 t39 t310))))))))) (k0 t30 t31 t32 t33_1 t34_1 t35_1 t36 t37 t38 t39 t310))
def impl_ViewOk.loop6 (n : Nat) (k0 : Int → (List TCond) → Int → Bool → Int → (List Int) → Bool → Int → Int → (List TRow) → (List TKid) → Option Bool) (N : Nat) : (List TRow) → Int → Int → (List Int) → Int → (List TCond) → Int → Bool → Int → (List Int) → Bool → Int → Int → (List TRow) → (List TKid) → Option Bool :=
  iterN (fun _ _ _ _ _ _ _ _ _ _ _ _ _ _ _ => none) (fun back => impl_ViewOk.step6 n k0 back) N
def impl_ViewOk.step15 (n : Nat) (k2 : Option Bool) (back : (List TKid) → Int → Int → Int → (List TCond) → Int → Bool → Int → (List Int) → Bool → Int → Int → (List TRow) → (List TKid) → Option Bool) (t82 : List TKid) (t83 : Int) (t84 : Int) (t30 : Int) (t31 : List TCond) (t32 : Int) (t33 : Bool) (t34 : Int) (t35 : List Int) (t36 : Bool) (t37 : Int) (t38 : Int) (t39 : List TRow) (t310 : List TKid) : Option Bool :=
  (cond (decide (t84 < t83)) (inB t84 t82.length ((impl_within n ((t82.getD t84.toNat TKid.dflt).n_) 1 24).bind fun xr18 => (cond (!xr18) (some false) (cond (decide (t84 > 0)) (inB (W (t84 - 1)) t310.length (let xv19 : Bool := (decide (((t310.getD (W (t84 - 1)).toNat TKid.dflt).id_) ≥ ((t82.getD t84.toNat TKid.dflt).id_))); (cond xv19 (some false) (back t82 t83 (W (t84 + 1)) t30 t31 t32 t33 t34 t35 t36 t37 t38 t39 t310)))) (back t82 t83 (W (t84 + 1)) t30 t31 t32 t33 t34 t35 t36 t37 t38 t39 t310))))) k2)
def impl_ViewOk.loop15 (n : Nat) (k2 : Option Bool) (N : Nat) : (List TKid) → Int → Int → Int → (List TCond) → Int → Bool → Int → (List Int) → Bool → Int → Int → (List TRow) → (List TKid) → Option Bool :=
  iterN (fun _ _ _ _ _ _ _ _ _ _ _ _ _ _ => none) (fun back => impl_ViewOk.step15 n k2 back) N
def impl_ViewOk : Nat → TSchema → TView → Option Bool
  | 0, _, _ => none
  | n + 1, o, append =>
    ((impl_QueryOk n o append.q).bind fun xr1 => (cond (!xr1) (some false) (cond (decide ((append.rows.length : Int) > 24)) (some false) (cond (decide ((append.kids.length : Int) > 0)) (cond (!append.q.kids) (some false) (impl_ViewOk.loop6 n (fun xy7 xy8 xy9 xy10 xy11 xy12 xy13 xy14 xy15 xy16 xy17 => (impl_ViewOk.loop15 n (some true) n xy17 (xy17.length : Int) 0 xy7 xy8 xy9 xy10 xy11 xy12 xy13 xy14 xy15 xy16 xy17)) n append.rows (append.rows.length : Int) 0 o.cols append.q.table append.q.where_ append.q.order append.q.down append.q.first append.q.show_ append.q.kids append.q.kidTable append.q.kidCol append.rows append.kids)) (impl_ViewOk.loop6 n (fun xy20 xy21 xy22 xy23 xy24 xy25 xy26 xy27 xy28 xy29 xy30 => (impl_ViewOk.loop15 n (some true) n xy30 (xy30.length : Int) 0 xy20 xy21 xy22 xy23 xy24 xy25 xy26 xy27 xy28 xy29 xy30)) n append.rows (append.rows.length : Int) 0 o.cols append.q.table append.q.where_ append.q.order append.q.down append.q.first append.q.show_ append.q.kids append.q.kidTable append.q.kidCol append.rows append.kids)))))
def slices_Equal_Cond.step6 (n : Nat) (k0 : Option Bool) (back : (List TCond) → (List TCond) → Int → Int → Option Bool) (s1 : List TCond) (s2 : List TCond) (t12 : Int) (t13 : Int) : Option Bool :=
  (cond (decide (t13 < t12)) (inB t13 s1.length (inB t13 s2.length (let xv1 : Bool := (!(cond (((s1.getD t13.toNat TCond.dflt).col) == ((s2.getD t13.toNat TCond.dflt).col)) (cond (((s1.getD t13.toNat TCond.dflt).op) == ((s2.getD t13.toNat TCond.dflt).op)) (cond (((s1.getD t13.toNat TCond.dflt).v) == ((s2.getD t13.toNat TCond.dflt).v)) true false) false) false)); (cond xv1 (some false) (back s1 s2 t12 (W (t13 + 1))))))) k0)
def slices_Equal_Cond.loop6 (n : Nat) (k0 : Option Bool) (N : Nat) : (List TCond) → (List TCond) → Int → Int → Option Bool :=
  iterN (fun _ _ _ _ => none) (fun back => slices_Equal_Cond.step6 n k0 back) N
def slices_Equal_Cond : Nat → (List TCond) → (List TCond) → Option Bool
  | 0, _, _ => none
  | n + 1, s1, s2 =>
    (cond ((s1.length : Int) != (s2.length : Int)) (some false) (slices_Equal_Cond.loop6 n (some true) n s1 s2 (s1.length : Int) 0))
def impl_QuerySame : Nat → TQuery → TQuery → Option Bool
  | 0, _, _ => none
  | n + 1, o, append =>
    (cond (o.table == append.table) (cond (o.order == append.order) (cond (o.down == append.down) (cond (o.kids == append.kids) (cond (o.kidTable == append.kidTable) (cond (o.first == append.first) (cond (o.kidCol == append.kidCol) ((slices_Equal_Cond n o.where_ append.where_).bind fun xr1 => (cond xr1 ((slices_Equal_int n o.show_ append.show_).bind fun xr2 => (some xr2)) (some false))) (some false)) (some false)) (cond (o.first == append.first) (some false) (some false))) (cond (o.first == append.first) (some false) (some false))) (cond (o.kids == append.kids) (cond (o.kidTable == append.kidTable) (some false) (some false)) (some false))) (cond (o.kids == append.kids) (cond (o.kidTable == append.kidTable) (some false) (some false)) (some false))) (cond (o.kids == append.kids) (cond (o.kidTable == append.kidTable) (some false) (some false)) (some false)))
def slices_EqualFunc_Row_impl_RowSame.step6 (n : Nat) (k0 : Option Bool) (back : (List TRow) → (List TRow) → Int → Int → Option Bool) (s2 : List TRow) (t15 : List TRow) (t16 : Int) (t17 : Int) : Option Bool :=
  (cond (decide (t17 < t16)) (inB t17 t15.length (inB t17 s2.length ((impl_RowSame n (t15.getD t17.toNat TRow.dflt) (s2.getD t17.toNat TRow.dflt)).bind fun xr1 => (cond (!xr1) (some false) (back s2 t15 t16 (W (t17 + 1))))))) k0)
def slices_EqualFunc_Row_impl_RowSame.loop6 (n : Nat) (k0 : Option Bool) (N : Nat) : (List TRow) → (List TRow) → Int → Int → Option Bool :=
  iterN (fun _ _ _ _ => none) (fun back => slices_EqualFunc_Row_impl_RowSame.step6 n k0 back) N
def slices_EqualFunc_Row_impl_RowSame : Nat → (List TRow) → (List TRow) → Option Bool
  | 0, _, _ => none
  | n + 1, s1, s2 =>
    (cond ((s1.length : Int) != (s2.length : Int)) (some false) (slices_EqualFunc_Row_impl_RowSame.loop6 n (some true) n s2 s1 (s1.length : Int) 0))
def slices_Equal_Kid.step6 (n : Nat) (k0 : Option Bool) (back : (List TKid) → (List TKid) → Int → Int → Option Bool) (s1 : List TKid) (s2 : List TKid) (t12 : Int) (t13 : Int) : Option Bool :=
  (cond (decide (t13 < t12)) (inB t13 s1.length (inB t13 s2.length (let xv1 : Bool := (!(cond (((s1.getD t13.toNat TKid.dflt).id_) == ((s2.getD t13.toNat TKid.dflt).id_)) (cond (((s1.getD t13.toNat TKid.dflt).n_) == ((s2.getD t13.toNat TKid.dflt).n_)) true false) false)); (cond xv1 (some false) (back s1 s2 t12 (W (t13 + 1))))))) k0)
def slices_Equal_Kid.loop6 (n : Nat) (k0 : Option Bool) (N : Nat) : (List TKid) → (List TKid) → Int → Int → Option Bool :=
  iterN (fun _ _ _ _ => none) (fun back => slices_Equal_Kid.step6 n k0 back) N
def slices_Equal_Kid : Nat → (List TKid) → (List TKid) → Option Bool
  | 0, _, _ => none
  | n + 1, s1, s2 =>
    (cond ((s1.length : Int) != (s2.length : Int)) (some false) (slices_Equal_Kid.loop6 n (some true) n s1 s2 (s1.length : Int) 0))
def impl_ViewSame : Nat → TView → TView → Option Bool
  | 0, _, _ => none
  | n + 1, a, b =>
    ((impl_QuerySame n a.q b.q).bind fun xr1 => (cond xr1 ((slices_EqualFunc_Row_impl_RowSame n a.rows b.rows).bind fun xr2 => (cond xr2 ((slices_Equal_Kid n a.kids b.kids).bind fun xr3 => (some xr3)) (some false))) (some false)))
def impl_SessOk : Nat → TSchema → TSess → Option Bool
  | 0, _, _ => none
  | n + 1, s, x =>
    ((impl_ViewOk n s x.view).bind fun xr1 => (cond (!xr1) (some false) ((impl_isVersion n x.version).bind fun xr2 => (cond (!xr2) (some false) (cond (!x.began) ((impl_ViewSame n x.last (TView.mk (TQuery.mk 0 [] 0 false 0 [] false 0 0) [] [])).bind fun xr3 => (cond xr3 (some (x.lastVersion == 0)) (some false))) ((impl_ViewOk n s x.last).bind fun xr4 => (cond xr4 ((impl_QuerySame n x.view.q x.last.q).bind fun xr5 => (cond xr5 ((impl_within n x.lastVersion 0 x.version).bind fun xr6 => (some xr6)) (some false))) (some false))))))))
def impl_seatOk : Nat → TRecord → TSeat → Option Bool
  | 0, _, _ => none
  | n + 1, r, x =>
    ((impl_within n x.sess.version r.first.version (W (r.first.version + (r.steps.length : Int)))).bind fun xr1 => (cond (decide (x.came.length + x.line.wait.length ≤ 9223372036854775807)) (cond (x.sent == (x.came ++ x.line.wait)) (cond (decide ((x.line.wait.length : Int) ≤ 13000)) ((impl_SessOk n r.first.schema x.sess).bind fun xr2 => (cond xr2 (cond xr1 (some (x.line.gone == (x.came.length : Int))) (some false)) (some false))) ((impl_SessOk n r.first.schema x.sess).bind fun xr3 => (cond xr3 (cond xr1 (some false) (some false)) (some false)))) ((impl_SessOk n r.first.schema x.sess).bind fun xr4 => (cond xr4 (cond xr1 (some false) (some false)) (some false)))) none))
def impl_ServerOk.step6 (n : Nat) (k0 : Option Bool) (back : (List TSeat) → Int → Int → (List Int) → Int → (List (List TRow)) → (List (List TChange)) → (List TSeat) → Option Bool) (t16 : List TSeat) (t17 : Int) (t18 : Int) (v0 : List Int) (v1 : Int) (v2 : List (List TRow)) (v3 : List (List TChange)) (v4 : List TSeat) : Option Bool :=
  (cond (decide (t18 < t17)) (inB t18 t16.length ((impl_seatOk n (TRecord.mk (TStore.mk (TSchema.mk v0) v1 v2) v3) { (t16.getD t18.toNat TSeat.dflt) with sess := { ((t16.getD t18.toNat TSeat.dflt).sess) with view := { (((t16.getD t18.toNat TSeat.dflt).sess).view) with q := ((((t16.getD t18.toNat TSeat.dflt).sess).view).q) }, last := { (((t16.getD t18.toNat TSeat.dflt).sess).last) with q := ((((t16.getD t18.toNat TSeat.dflt).sess).last).q) } }, line := ((t16.getD t18.toNat TSeat.dflt).line) }).bind fun xr2 => (cond (!xr2) (some false) (back t16 t17 (W (t18 + 1)) v0 v1 v2 v3 v4)))) k0)
def impl_ServerOk.loop6 (n : Nat) (k0 : Option Bool) (N : Nat) : (List TSeat) → Int → Int → (List Int) → Int → (List (List TRow)) → (List (List TChange)) → (List TSeat) → Option Bool :=
  iterN (fun _ _ _ _ _ _ _ _ => none) (fun back => impl_ServerOk.step6 n k0 back) N
def impl_ServerOk : Nat → TServer → Option Bool
  | 0, _ => none
  | n + 1, v =>
    ((impl_RecordOk n v.record).bind fun xr1 => (cond (!xr1) (some false) (cond (decide ((v.seats.length : Int) > 4)) (some false) (impl_ServerOk.loop6 n (some true) n v.seats (v.seats.length : Int) 0 v.record.first.schema.cols v.record.first.version v.record.first.tables v.record.steps v.seats))))
def impl_Last : Nat → TRecord → Option Int
  | 0, _ => none
  | n + 1, r =>
    ((impl_RecordOk n r).bind fun xr1 => (cond (!xr1) (some (-1)) (some (W (r.first.version + (r.steps.length : Int))))))
def impl_Behind : Nat → TServer → Int → Option Int
  | 0, _, _ => none
  | n + 1, v, k =>
    ((impl_ServerOk n v).bind fun xr1 => (cond (!xr1) (some (-1)) ((impl_within n k 0 (W ((v.seats.length : Int) - 1))).bind fun xr2 => (cond (!xr2) (some (-1)) ((impl_Last n v.record).bind fun xr3 => (inB k v.seats.length (some (W (xr3 - (((v.seats.getD k.toNat TSeat.dflt).sess).version))))))))))
def laws_eqIntS.step6 (n : Nat) (k0 : Option Bool) (back : (List Int) → (List Int) → Int → Option Bool) (a : List Int) (b : List Int) (i : Int) : Option Bool :=
  (cond (decide (i < (a.length : Int))) (inB i a.length (inB i b.length (cond ((a.getD i.toNat 0) != (b.getD i.toNat 0)) (some false) (back a b (W (i + 1)))))) k0)
def laws_eqIntS.loop6 (n : Nat) (k0 : Option Bool) (N : Nat) : (List Int) → (List Int) → Int → Option Bool :=
  iterN (fun _ _ _ => none) (fun back => laws_eqIntS.step6 n k0 back) N
def laws_eqIntS : Nat → (List Int) → (List Int) → Option Bool
  | 0, _, _ => none
  | n + 1, a, b =>
    (cond ((a.length : Int) != (b.length : Int)) (some false) (laws_eqIntS.loop6 n (some true) n a b 0))
def laws_eqSchema : Nat → TSchema → TSchema → Option Bool
  | 0, _, _ => none
  | n + 1, a, b =>
    ((laws_eqIntS n a.cols b.cols).bind fun xr1 => (cond (!xr1) (some false) (some true)))
def laws_eqRow : Nat → TRow → TRow → Option Bool
  | 0, _, _ => none
  | n + 1, a, b =>
    (cond (a.id_ != b.id_) (some false) ((laws_eqIntS n a.cells b.cells).bind fun xr1 => (cond (!xr1) (some false) (some true))))
def laws_eqRowS.step6 (n : Nat) (k0 : Option Bool) (back : (List TRow) → (List TRow) → Int → Option Bool) (a : List TRow) (b : List TRow) (i : Int) : Option Bool :=
  (cond (decide (i < (a.length : Int))) (inB i a.length (inB i b.length ((laws_eqRow n (a.getD i.toNat TRow.dflt) (b.getD i.toNat TRow.dflt)).bind fun xr1 => (cond (!xr1) (some false) (back a b (W (i + 1))))))) k0)
def laws_eqRowS.loop6 (n : Nat) (k0 : Option Bool) (N : Nat) : (List TRow) → (List TRow) → Int → Option Bool :=
  iterN (fun _ _ _ => none) (fun back => laws_eqRowS.step6 n k0 back) N
def laws_eqRowS : Nat → (List TRow) → (List TRow) → Option Bool
  | 0, _, _ => none
  | n + 1, a, b =>
    (cond ((a.length : Int) != (b.length : Int)) (some false) (laws_eqRowS.loop6 n (some true) n a b 0))
def laws_eqRowSS.step6 (n : Nat) (k0 : Option Bool) (back : (List (List TRow)) → (List (List TRow)) → Int → Option Bool) (a : List (List TRow)) (b : List (List TRow)) (i : Int) : Option Bool :=
  (cond (decide (i < (a.length : Int))) (inB i a.length (inB i b.length ((laws_eqRowS n (a.getD i.toNat []) (b.getD i.toNat [])).bind fun xr1 => (cond (!xr1) (some false) (back a b (W (i + 1))))))) k0)
def laws_eqRowSS.loop6 (n : Nat) (k0 : Option Bool) (N : Nat) : (List (List TRow)) → (List (List TRow)) → Int → Option Bool :=
  iterN (fun _ _ _ => none) (fun back => laws_eqRowSS.step6 n k0 back) N
def laws_eqRowSS : Nat → (List (List TRow)) → (List (List TRow)) → Option Bool
  | 0, _, _ => none
  | n + 1, a, b =>
    (cond ((a.length : Int) != (b.length : Int)) (some false) (laws_eqRowSS.loop6 n (some true) n a b 0))
def laws_eqStore : Nat → TStore → TStore → Option Bool
  | 0, _, _ => none
  | n + 1, a, b =>
    ((laws_eqSchema n a.schema b.schema).bind fun xr1 => (cond (!xr1) (some false) (cond (a.version != b.version) (some false) ((laws_eqRowSS n a.tables b.tables).bind fun xr2 => (cond (!xr2) (some false) (some true))))))
def laws_eqChange : Nat → TChange → TChange → Option Bool
  | 0, _, _ => none
  | n + 1, a, b =>
    (cond (a.table != b.table) (some false) (cond (!(a.had == b.had)) (some false) (cond (!(a.has == b.has)) (some false) ((laws_eqRow n a.old b.old).bind fun xr1 => (cond (!xr1) (some false) ((laws_eqRow n a.new b.new).bind fun xr2 => (cond (!xr2) (some false) (some true))))))))
def laws_eqChangeS.step6 (n : Nat) (k0 : Option Bool) (back : (List TChange) → (List TChange) → Int → Option Bool) (a : List TChange) (b : List TChange) (i : Int) : Option Bool :=
  (cond (decide (i < (a.length : Int))) (inB i a.length (inB i b.length ((laws_eqChange n { (a.getD i.toNat TChange.dflt) with old := ((a.getD i.toNat TChange.dflt).old), new := ((a.getD i.toNat TChange.dflt).new) } { (b.getD i.toNat TChange.dflt) with old := ((b.getD i.toNat TChange.dflt).old), new := ((b.getD i.toNat TChange.dflt).new) }).bind fun xr1 => (cond (!xr1) (some false) (back a b (W (i + 1))))))) k0)
def laws_eqChangeS.loop6 (n : Nat) (k0 : Option Bool) (N : Nat) : (List TChange) → (List TChange) → Int → Option Bool :=
  iterN (fun _ _ _ => none) (fun back => laws_eqChangeS.step6 n k0 back) N
def laws_eqChangeS : Nat → (List TChange) → (List TChange) → Option Bool
  | 0, _, _ => none
  | n + 1, a, b =>
    (cond ((a.length : Int) != (b.length : Int)) (some false) (laws_eqChangeS.loop6 n (some true) n a b 0))
def laws_eqChangeSS.step6 (n : Nat) (k0 : Option Bool) (back : (List (List TChange)) → (List (List TChange)) → Int → Option Bool) (a : List (List TChange)) (b : List (List TChange)) (i : Int) : Option Bool :=
  (cond (decide (i < (a.length : Int))) (inB i a.length (inB i b.length ((laws_eqChangeS n (a.getD i.toNat []) (b.getD i.toNat [])).bind fun xr1 => (cond (!xr1) (some false) (back a b (W (i + 1))))))) k0)
def laws_eqChangeSS.loop6 (n : Nat) (k0 : Option Bool) (N : Nat) : (List (List TChange)) → (List (List TChange)) → Int → Option Bool :=
  iterN (fun _ _ _ => none) (fun back => laws_eqChangeSS.step6 n k0 back) N
def laws_eqChangeSS : Nat → (List (List TChange)) → (List (List TChange)) → Option Bool
  | 0, _, _ => none
  | n + 1, a, b =>
    (cond ((a.length : Int) != (b.length : Int)) (some false) (laws_eqChangeSS.loop6 n (some true) n a b 0))
def laws_eqRecord : Nat → TRecord → TRecord → Option Bool
  | 0, _, _ => none
  | n + 1, a, b =>
    ((laws_eqStore n a.first b.first).bind fun xr1 => (cond (!xr1) (some false) ((laws_eqChangeSS n a.steps b.steps).bind fun xr2 => (cond (!xr2) (some false) (some true)))))
def laws_eqCond : Nat → TCond → TCond → Option Bool
  | 0, _, _ => none
  | n + 1, a, b =>
    (cond (a.col != b.col) (some false) (cond (a.op != b.op) (some false) (cond (a.v != b.v) (some false) (some true))))
def laws_eqCondS.step6 (n : Nat) (k0 : Option Bool) (back : (List TCond) → (List TCond) → Int → Option Bool) (a : List TCond) (b : List TCond) (i : Int) : Option Bool :=
  (cond (decide (i < (a.length : Int))) (inB i a.length (inB i b.length ((laws_eqCond n (a.getD i.toNat TCond.dflt) (b.getD i.toNat TCond.dflt)).bind fun xr1 => (cond (!xr1) (some false) (back a b (W (i + 1))))))) k0)
def laws_eqCondS.loop6 (n : Nat) (k0 : Option Bool) (N : Nat) : (List TCond) → (List TCond) → Int → Option Bool :=
  iterN (fun _ _ _ => none) (fun back => laws_eqCondS.step6 n k0 back) N
def laws_eqCondS : Nat → (List TCond) → (List TCond) → Option Bool
  | 0, _, _ => none
  | n + 1, a, b =>
    (cond ((a.length : Int) != (b.length : Int)) (some false) (laws_eqCondS.loop6 n (some true) n a b 0))
def laws_eqQuery : Nat → TQuery → TQuery → Option Bool
  | 0, _, _ => none
  | n + 1, a, b =>
    (cond (a.table != b.table) (some false) ((laws_eqCondS n a.where_ b.where_).bind fun xr1 => (cond (!xr1) (some false) (cond (a.order != b.order) (some false) (cond (!(a.down == b.down)) (some false) (cond (a.first != b.first) (some false) ((laws_eqIntS n a.show_ b.show_).bind fun xr2 => (cond (!xr2) (some false) (cond (!(a.kids == b.kids)) (some false) (cond (a.kidTable != b.kidTable) (some false) (cond (a.kidCol != b.kidCol) (some false) (some true))))))))))))
def laws_eqKid : Nat → TKid → TKid → Option Bool
  | 0, _, _ => none
  | n + 1, a, b =>
    (cond (a.id_ != b.id_) (some false) (cond (a.n_ != b.n_) (some false) (some true)))
def laws_eqKidS.step6 (n : Nat) (k0 : Option Bool) (back : (List TKid) → (List TKid) → Int → Option Bool) (a : List TKid) (b : List TKid) (i : Int) : Option Bool :=
  (cond (decide (i < (a.length : Int))) (inB i a.length (inB i b.length ((laws_eqKid n (a.getD i.toNat TKid.dflt) (b.getD i.toNat TKid.dflt)).bind fun xr1 => (cond (!xr1) (some false) (back a b (W (i + 1))))))) k0)
def laws_eqKidS.loop6 (n : Nat) (k0 : Option Bool) (N : Nat) : (List TKid) → (List TKid) → Int → Option Bool :=
  iterN (fun _ _ _ => none) (fun back => laws_eqKidS.step6 n k0 back) N
def laws_eqKidS : Nat → (List TKid) → (List TKid) → Option Bool
  | 0, _, _ => none
  | n + 1, a, b =>
    (cond ((a.length : Int) != (b.length : Int)) (some false) (laws_eqKidS.loop6 n (some true) n a b 0))
def laws_eqView : Nat → TView → TView → Option Bool
  | 0, _, _ => none
  | n + 1, a, b =>
    ((laws_eqQuery n a.q b.q).bind fun xr1 => (cond (!xr1) (some false) ((laws_eqRowS n a.rows b.rows).bind fun xr2 => (cond (!xr2) (some false) ((laws_eqKidS n a.kids b.kids).bind fun xr3 => (cond (!xr3) (some false) (some true)))))))
def laws_eqSess : Nat → TSess → TSess → Option Bool
  | 0, _, _ => none
  | n + 1, a, b =>
    ((laws_eqView n a.view b.view).bind fun xr1 => (cond (!xr1) (some false) (cond (a.version != b.version) (some false) ((laws_eqView n a.last b.last).bind fun xr2 => (cond (!xr2) (some false) (cond (a.lastVersion != b.lastVersion) (some false) (cond (!(a.began == b.began)) (some false) (some true))))))))
def laws_eqLine : Nat → TLine → TLine → Option Bool
  | 0, _, _ => none
  | n + 1, a, b =>
    (cond (!(a.wait == b.wait)) (some false) (cond (a.gone != b.gone) (some false) (some true)))
def laws_eqSeat : Nat → TSeat → TSeat → Option Bool
  | 0, _, _ => none
  | n + 1, a, b =>
    ((laws_eqSess n a.sess b.sess).bind fun xr1 => (cond (!xr1) (some false) ((laws_eqLine n a.line b.line).bind fun xr2 => (cond (!xr2) (some false) (cond (!(a.sent == b.sent)) (some false) (cond (!(a.came == b.came)) (some false) (cond (!(a.gone == b.gone)) (some false) (some true))))))))
def laws_eqSeatS.step6 (n : Nat) (k0 : Option Bool) (back : (List TSeat) → (List TSeat) → Int → Option Bool) (a : List TSeat) (b : List TSeat) (i : Int) : Option Bool :=
  (cond (decide (i < (a.length : Int))) (inB i a.length (inB i b.length ((laws_eqSeat n { (a.getD i.toNat TSeat.dflt) with sess := { ((a.getD i.toNat TSeat.dflt).sess) with view := { (((a.getD i.toNat TSeat.dflt).sess).view) with q := ((((a.getD i.toNat TSeat.dflt).sess).view).q) }, last := { (((a.getD i.toNat TSeat.dflt).sess).last) with q := ((((a.getD i.toNat TSeat.dflt).sess).last).q) } }, line := ((a.getD i.toNat TSeat.dflt).line) } { (b.getD i.toNat TSeat.dflt) with sess := { ((b.getD i.toNat TSeat.dflt).sess) with view := { (((b.getD i.toNat TSeat.dflt).sess).view) with q := ((((b.getD i.toNat TSeat.dflt).sess).view).q) }, last := { (((b.getD i.toNat TSeat.dflt).sess).last) with q := ((((b.getD i.toNat TSeat.dflt).sess).last).q) } }, line := ((b.getD i.toNat TSeat.dflt).line) }).bind fun xr1 => (cond (!xr1) (some false) (back a b (W (i + 1))))))) k0)
def laws_eqSeatS.loop6 (n : Nat) (k0 : Option Bool) (N : Nat) : (List TSeat) → (List TSeat) → Int → Option Bool :=
  iterN (fun _ _ _ => none) (fun back => laws_eqSeatS.step6 n k0 back) N
def laws_eqSeatS : Nat → (List TSeat) → (List TSeat) → Option Bool
  | 0, _, _ => none
  | n + 1, a, b =>
    (cond ((a.length : Int) != (b.length : Int)) (some false) (laws_eqSeatS.loop6 n (some true) n a b 0))
def laws_eqServer : Nat → TServer → TServer → Option Bool
  | 0, _, _ => none
  | n + 1, a, b =>
    ((laws_eqRecord n a.record b.record).bind fun xr1 => (cond (!xr1) (some false) ((laws_eqSeatS n a.seats b.seats).bind fun xr2 => (cond (!xr2) (some false) (some true)))))
def laws_FnExactBehind : Nat → TServer → Int → Option Bool
  | 0, _, _ => none
  | n + 1, aV, aK =>
    ((laws_szServer n aV 1048576).bind fun xr1 => (cond (decide (xr1 < 0)) (some true) ((laws_toServer n aV).bind fun xr2 => ((spec_Behind n xr2 aK).bind fun xr3 => ((laws_toServer n aV).bind fun xr4 => ((impl_Behind n xr4 aK).bind fun xr5 => (cond (xr5 != xr3) (some false) ((laws_toServer n aV).bind fun xr6 => ((laws_eqServer n xr4 xr6).bind fun xr7 => (cond (!xr7) (some false) (some true)))))))))))
end Go.Pi
end
