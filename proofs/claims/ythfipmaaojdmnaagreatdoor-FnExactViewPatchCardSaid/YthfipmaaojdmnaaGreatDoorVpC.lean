/- The card of FnExactViewPatch: the law returns true at every input, and leaves its arguments unchanged; no condition. Text 3 of 6. -/
import Derived.Test.YthfipmaaojdmnaaGreatDoorVpB
import Derived.Deep.LoopGhost
import Derived.Scope
import Derived.Lib.ItoaNum
import Derived.Lib.Join
import Derived.Lib.Replace
import Derived.Shelf.LaysM
import Derived.Shelf.Strconv.Itoa3
import Derived.Lib.LaidTab
import Derived.Test.YthfipmaaojdmnaaGreatDoorChecked
section
set_option linter.unusedVariables false
namespace Go.Pi
variable {ω : Type}
def ds_ (e : Nat) (x : X) (vs : List AV) : List Nat := hP_ x.h 2 (dH_ (List.range e) (vs.flatMap AV.refsD))
theorem iJ_ (e : Nat) (x : X) (vs : List AV) : (ds_ e x vs).Nodup := (f6_ 2 _).1 (e6_ _ _ List.nodup_range)
theorem jE_ (e : Nat) (x : X) (vs : List AV) (k : Nat) (h : k < e) : (ds_ e x vs)[k]? = some k :=
  (f6_ 2 _).2 k k (eD_ _ _ k k (by simp [h]))
def look : List (Nat × Sh) → List AV → Nat → AV
  | p :: l, v :: vs, t => cond (Nat.beq p.1 t) v (look l vs t)
  | _, _, _ => .u
def St.ofC (live : List (Nat × Sh)) (vals : List AV) (blks : List (Option Blk)) : St := ⟨look live vals, X.ofL blks⟩
section
variable [ai_]
def kS_ (e : Nat) (live : List (Nat × Sh)) (s : St) (κ : List AV → List (Option Blk) → Option ω) : Option ω :=
  fB_ s.x 1000000 (live.map fun p => p.2) (live.map fun p => s.tmps p.1) fun x vs =>
    κ (vs.map (AV.renD (ds_ e x vs))) (g5_ 2 x (ds_ e x vs))
end
def nc : Code → Nat
  | .seq a b => nc a + nc b + 1
  | .cond _ a b => nc a + nc b
  | .block _ a => nc a
  | .scope a => nc a
  | .loop a => nc a + 1
  | _ => 0
abbrev Live := List (Nat × Sh)
structure Ann where
  cut : Nat → Option Live
  nxt : Nat → Live
  out : Nat → Live
abbrev D (ω : Type) := List AV → List (Option Blk) → Option ω
abbrev LF (ω : Type) := Nat → D ω → (Nat → D ω) → D ω
inductive hQ_ where
  | loop (a : Code) (k : Nat)
  | tail (a : Code) (k : Nat)
def cB_ (ann : Ann) : Code → Nat → Nat → Option hQ_
  | .seq a b, k, key => cond (Nat.beq key k) (some (.tail b (k + 1 + nc a))) (cond (Nat.blt key (k + 1 + nc a)) (cB_ ann a (k + 1) key) (cB_ ann b (k + 1 + nc a) key))
  | .cond _ a b, k, key => cond (Nat.blt key (k + nc a)) (cB_ ann a k key) (cB_ ann b (k + nc a) key)
  | .block _ a, k, key => cB_ ann a k key
  | .scope a, k, key => cB_ ann a k key
  | .loop a, k, key => cond (Nat.beq key k) (some (.loop a (k + 1))) (cB_ ann a (k + 1) key)
  | _, _, _ => none
theorem cW_ {ann : Ann} : ∀ (C : Code) (k key : Nat) (p : hQ_), cB_ ann C k key = some p → k ≤ key ∧ key < k + nc C
  | .seq a b, k, key, p, h => by
    simp only [cB_] at h
    cases h1 : Nat.beq key k with
    | true => have := cI_.1 h1; simp only [nc]; omega
    | false =>
      rw [h1] at h
      simp only [cond_false] at h
      cases h2 : Nat.blt key (k + 1 + nc a) with
      | true => rw [h2] at h; have := cW_ a _ _ _ h; simp only [nc]; omega
      | false => rw [h2] at h; have := cW_ b _ _ _ h; simp only [nc]; omega
  | .cond o a b, k, key, p, h => by
    simp only [cB_] at h
    cases h2 : Nat.blt key (k + nc a) with
    | true => rw [h2] at h; have := cW_ a _ _ _ h; simp only [nc]; omega
    | false => rw [h2] at h; have := cW_ b _ _ _ h; simp only [nc]; omega
  | .block id a, k, key, p, h => by
    simp only [cB_] at h
    have := cW_ a _ _ _ h
    simp only [nc]; omega
  | .scope a, k, key, p, h => by
    simp only [cB_] at h
    have := cW_ a _ _ _ h
    simp only [nc]; omega
  | .loop a, k, key, p, h => by
    simp only [cB_] at h
    cases h1 : Nat.beq key k with
    | true => have := cI_.1 h1; simp only [nc]; omega
    | false =>
      rw [h1] at h
      have := cW_ a _ _ _ h
      simp only [nc]; omega
  | .skip, _, _, _, h => by simp [cB_] at h
  | .region .., _, _, _, h => by simp [cB_] at h
  | .rangeFunc .., _, _, _, h => by simp [cB_] at h
  | .exit .., _, _, _, h => by simp [cB_] at h
  | .label .., _, _, _, h => by simp [cB_] at h
  | .goto .., _, _, _, h => by simp [cB_] at h
  | .ret, _, _, _, h => by simp [cB_] at h
  | .refuse .., _, _, _, h => by simp [cB_] at h
section
variable [ai_]
def run (c : Cx) (e : Nat) (ann : Ann) (lf : LF ω) (κr : St → Option ω) : Code → Nat → (St → Option ω) → (Nat → St → Option ω) → St → Option ω
  | .seq a b, k, κn, κx, s => match ann.cut k with
    | some live => run c e ann lf κr a (k + 1) (fun s => kS_ e live s (lf k (fun v b => κn (St.ofC (ann.nxt k) v b)) (fun j v b => κx j (St.ofC (ann.out j) v b)))) κx s
    | none => run c e ann lf κr a (k + 1) (fun s => run c e ann lf κr b (k + 1 + nc a) κn κx s) κx s
  | .cond o a b, k, κn, κx, s => match s.eval o with
    | .b t => cond t (run c e ann lf κr a k κn κx s) (run c e ann lf κr b (k + nc a) κn κx s)
    | _ => none
  | .block id a, k, κn, κx, s => run c e ann lf κr a k κn (fun j s => cond (Nat.beq j id) (κn s) (κx j s)) s
  | .scope a, k, κn, κx, s => run c e ann lf κr a k κn κx s
  | .loop _, k, _, κx, s => match ann.cut k with
    | some live => kS_ e live s (lf k (fun _ _ => none) (fun j v b => κx j (St.ofC (ann.out j) v b)))
    | none => none
  | .region _ ops d, _, κn, _, s => regK c ops d s κn
  | .skip, _, κn, _, s => κn s
  | .exit id, _, _, κx, s => κx id s
  | .ret, _, _, _, s => κr s
  | _, _, _, _, _ => none
def js_ (c : Cx) (e : Nat) (ann : Ann) (lf : LF ω) (κr : St → Option ω) (a : Code) (k : Nat) (live : Live) (κe : Nat → D ω) : Nat → D ω
  | 0, _, _ => none
  | n + 1, v, b => run c e ann lf κr a k (fun s => kS_ e live s (js_ c e ann lf κr a k live κe n)) (fun j s => kS_ e (ann.out j) s (κe j)) (St.ofC live v b)
def pieceIs (c : Cx) (e : Nat) (ann : Ann) (lf : LF ω) (κr : St → Option ω) (key : Nat) (live : Live) (κd : D ω) (κe : Nat → D ω) (v : List AV) (b : List (Option Blk)) (r : ω) : hQ_ → Prop
  | .loop a k => ∃ n, js_ c e ann lf κr a k live κe n v b = some r
  | .tail a k => run c e ann lf κr a k (fun s => kS_ e (ann.nxt key) s κd) (fun j s => kS_ e (ann.out j) s (κe j)) (St.ofC live v b) = some r
end
variable [ai_]
open ai_
variable {E : Env} {w : World} {G : aK_} {r : ω}
omit [ai_] in
theorem kC_ {P : AV → Value → Prop} {Q : AV → Prop} {a : Nat → Value} (hu : ∀ v, P .u v) (qu : Q .u) : ∀ {live : List (Nat × Sh)} {vals : List AV}, AllF P vals (live.map fun p => a p.1) → (∀ v ∈ vals, Q v) → ∀ t, P (look live vals t) (a t) ∧ Q (look live vals t)
  | [], [], _, _, t => ⟨hu _, qu⟩
  | [], _ :: _, h, _, _ => h.elim
  | _ :: _, [], h, _, _ => h.elim
  | p :: l, v :: vs, h, hq, t => by
    simp only [look]
    cases hb : Nat.beq p.1 t with
    | true => have := cI_.1 hb; subst this; exact ⟨h.1, hq v (List.mem_cons_self ..)⟩
    | false => exact kC_ hu qu h.2 (fun v hv => hq v (List.mem_cons_of_mem _ hv)) t
theorem kd_ [ak_] {c : Cx} {s : St} {a : Act} {e : Nat} {x0 : X} {w0 : World} {G0 : aK_} (h : Sim E c s a w G) (he : Ent e x0) (ev : Evo x0 w0 G0 s.x w G) {live : List (Nat × Sh)} {κ : List AV → List (Option Blk) → Option ω} (hk : kS_ e live s κ = some r) :
    ∃ vals blks G', κ vals blks = some r ∧ Sim E c (St.ofC live vals blks) a w G' ∧ Evo x0 w0 G0 (X.ofL blks) w G' := by
  unfold kS_ at hk
  have h1 : AllF (RT E w s.x G) (live.map fun p => s.tmps p.1) (live.map fun p => a.tmps.getD p.1 undef) := by
    clear hk
    induction live with
    | nil => trivial
    | cons p l ih => exact ⟨h.slot p.1, ih⟩
  obtain ⟨x1, G1, vs, k1, s1, v1, u1⟩ := eA_ _ _ _ _ _ _ _ h.mem h1 (fun v hv => by
    obtain ⟨p, _, rfl⟩ := List.mem_map.1 hv
    exact h.used p.1) hk
  refine ⟨_, _, G1.ren (ds_ e x1 vs), k1, ?_, (ev.trans s1.1).ren (by decide) he (jE_ e x1 vs)⟩
  have h2 : AllF (fun a v => RT E w (X.ofL (g5_ 2 x1 (ds_ e x1 vs))) (G1.ren (ds_ e x1 vs)) a v) (vs.map (AV.renD (ds_ e x1 vs))) (live.map fun p => a.tmps.getD p.1 undef) := by
    clear k1
    generalize (live.map fun p => a.tmps.getD p.1 undef) = us at v1
    generalize ds_ e x1 vs = L
    induction vs generalizing us with
    | nil => cases us with
      | nil => trivial
      | cons => exact v1.elim
    | cons v vs ih => cases us with
      | nil => exact v1.elim
      | cons u us => exact ⟨(RT.ren v1.1).1, ih (fun a ha => u1 a (List.mem_cons_of_mem _ ha)) us v1.2⟩
  have h3 : ∀ v ∈ vs.map (AV.renD (ds_ e x1 vs)), Used (X.ofL (g5_ 2 x1 (ds_ e x1 vs))) v.refsT := by
    intro v hv
    obtain ⟨v0, hv0, rfl⟩ := List.mem_map.1 hv
    have : ∃ u, RT E w x1 G1 v0 u := by
      clear h2 hv h1
      generalize (live.map fun p => a.tmps.getD p.1 undef) = us at v1
      clear k1 u1
      induction vs generalizing us with
      | nil => cases hv0
      | cons v vs ih => cases us with
        | nil => exact v1.elim
        | cons u us =>
          rcases List.mem_cons.1 hv0 with rfl | hv0
          · exact ⟨u, v1.1⟩
          · exact ih hv0 us v1.2
    obtain ⟨u, hu⟩ := this
    exact (RT.ren hu).2
  have h4 := kC_ (P := RT E w (X.ofL (g5_ 2 x1 (ds_ e x1 vs))) (G1.ren (ds_ e x1 vs))) (Q := fun v => Used (X.ofL (g5_ 2 x1 (ds_ e x1 vs))) v.refsT) (a := fun t => a.tmps.getD t undef) (fun v => RT.scl trivial) cc_ h2 h3
  exact ⟨s1.2.ren (iJ_ _ _ _), h.defers, h.size, fun t => (h4 t).1, fun t => (h4 t).2⟩
end Go.Pi
end
section
set_option linter.unusedVariables false
namespace Go.Pi
variable {ω : Type}
variable [ai_]
open ai_
variable {E : Env} {w : World} {G : aK_} {r : ω}
structure Fix (ω : Type) where
  c : Cx
  e : Nat
  ann : Ann
  lf : LF ω
  κr : St → Option ω
  x0 : X
  w0 : World
  G0 : aK_
def Here (E : Env) (f : Fix ω) (r : ω) (κ : St → Option ω) (a : Act) (w : World) : Prop :=
  ∃ s G, κ s = some r ∧ Sim E f.c s a w G ∧ Evo f.x0 f.w0 f.G0 s.x w G
def Post (E : Env) (f : Fix ω) (r : ω) (κn : St → Option ω) (κx : Nat → St → Option ω) : Exit → Act → World → Prop
  | .normal, a, w => Here E f r κn a w
  | .exit id, a, w => Here E f r (κx id) a w
  | .ret, a, w => Here E f r f.κr a w
  | _, _, _ => False
structure FixOk (E : Env) (f : Fix ω) : Prop where
  cx : CxOk E f.c
  ent : Ent f.e f.x0
  par : KPar f.c
  mixed : E.P.follows .mixedOrders = true
theorem Here.cut [ak_] {f : Fix ω} (hf : FixOk E f) {live : Live} {κ : D ω} {a : Act} (h : Here E f r (fun s => kS_ f.e live s κ) a w) :
    ∃ v b G, κ v b = some r ∧ Sim E f.c (St.ofC live v b) a w G ∧ Evo f.x0 f.w0 f.G0 (X.ofL b) w G := by
  obtain ⟨s, G, h1, h2, h3⟩ := h
  exact kd_ h2 hf.ent h3 h1
def Cuts (c : Cx) (e : Nat) (ann : Ann) (lf : LF ω) (κr : St → Option ω) (B : Code) : Prop :=
  ∀ key κd κe v b (r : ω), lf key κd κe v b = some r → ∃ live p, ann.cut key = some live ∧ cB_ ann B 0 key = some p ∧ pieceIs c e ann lf κr key live κd κe v b r p
theorem run_wp [ak_] {f : Fix ω} (hf : FixOk E f) {B : Code} (hcut : Cuts f.c f.e f.ann f.lf f.κr B) :
    ∀ (C : Code) (k : Nat) (κn : St → Option ω) (κx : Nat → St → Option ω),
      (∀ key p, cB_ f.ann C k key = some p → cB_ f.ann B 0 key = some p) →
      ∀ (s : St) (a : Act) (w : World) (G : aK_), Sim E f.c s a w G → Evo f.x0 f.w0 f.G0 s.x w G → run f.c f.e f.ann f.lf f.κr C k κn κx s = some r → C.wp E.P (Post E f r κn κx) a w := by
  intro C
  induction C with
  | skip => intro k κn κx hl s a w G h ev hr; exact wp_skip ⟨s, G, hr, h, ev⟩
  | ret => intro k κn κx hl s a w G h ev hr; exact wp_ret ⟨s, G, hr, h, ev⟩
  | exit id => intro k κn κx hl s a w G h ev hr; exact wp_exit ⟨s, G, hr, h, ev⟩
  | rangeFunc => intro k κn κx hl s a w G h ev hr; cases hr
  | label => intro k κn κx hl s a w G h ev hr; cases hr
  | goto => intro k κn κx hl s a w G h ev hr; cases hr
  | refuse => intro k κn κx hl s a w G h ev hr; cases hr
  | region id ops d =>
    intro k κn κx hl s a w G h ev hr
    simp only [run] at hr
    exact reg_wp hf.cx hf.par hf.mixed h hr fun a' w' ⟨s', G', h1, h2, h3⟩ => ⟨s', G', h1, h2, ev.trans h3⟩
  | cond o A B' ihA ihB =>
    intro k κn κx hl s a w G h ev hr
    simp only [run] at hr
    have ho := (h.eval o).1
    revert hr ho
    cases ht : s.eval o <;> intro hr ho <;> (try (cases hr; done))
    rename_i t
    refine wp_cond ho.b ?_
    cases t with
    | true =>
      refine ihA k κn κx (fun key p hg => hl key p ?_) s a w G h ev hr
      have := cW_ _ _ _ _ hg
      simp only [cB_, e4_.2 this.2, cond_true]; exact hg
    | false =>
      refine ihB (k + nc A) κn κx (fun key p hg => hl key p ?_) s a w G h ev hr
      have := cW_ _ _ _ _ hg
      simp only [cB_, blt_no this.1, cond_false]; exact hg
  | block id A ih =>
    intro k κn κx hl s a w G h ev hr
    simp only [run] at hr
    refine wp_block (wp_mono (ih k κn (fun j s => cond (Nat.beq j id) (κn s) (κx j s)) (fun key p hg => hl key p hg) s a w G h ev hr) fun e a' w' hq => ?_)
    cases e <;> simp only [Post, Exit.inBlock] at hq ⊢ <;> (try exact hq)
    rename_i j
    by_cases e : j = id
    · subst e
      simp only [Nat.beq_refl, cond_true] at hq
      rw [if_pos rfl]; exact hq
    · simp only [dZ_ e, cond_false] at hq
      rw [if_neg e]; exact hq
  | scope A ih =>
    intro k κn κx hl s a w G h ev hr
    simp only [run] at hr
    refine wp_scope_straight (wp_mono (ih k κn κx (fun key p hg => hl key p hg) s a w G h ev hr) fun e a' w' hq => ?_)
    cases e <;> first | exact hq | exact hq.elim
  | seq A B' ihA ihB =>
    intro k κn κx hl s a w G h ev hr
    simp only [run] at hr
    have hA : ∀ key p, cB_ f.ann A (k + 1) key = some p → cB_ f.ann B 0 key = some p := fun key p hg => hl key p (by
      have := cW_ _ _ _ _ hg
      simp only [cB_, dZ_ (show key ≠ k by omega), e4_.2 this.2, cond_true, cond_false]; exact hg)
    have hB : ∀ key p, cB_ f.ann B' (k + 1 + nc A) key = some p → cB_ f.ann B 0 key = some p := fun key p hg => hl key p (by
      have := cW_ _ _ _ _ hg
      simp only [cB_, dZ_ (show key ≠ k by omega), blt_no this.1, cond_false]; exact hg)
    cases ha : f.ann.cut k with
    | none =>
      rw [ha] at hr
      refine wp_seq (wp_mono (ihA (k + 1) _ κx hA s a w G h ev hr) fun e a' w' hq => ?_)
      cases e <;> simp only [Exit.then] <;> (try exact hq)
      obtain ⟨s1, G1, k1, k2, k3⟩ := hq
      exact ihB (k + 1 + nc A) κn κx hB s1 a' w' G1 k2 k3 k1
    | some live =>
      rw [ha] at hr
      refine wp_seq (wp_mono (ihA (k + 1) _ κx hA s a w G h ev hr) fun e a' w' hq => ?_)
      cases e <;> simp only [Exit.then] <;> (try exact hq)
      obtain ⟨v, b, G2, j1, j2, j3⟩ := Here.cut hf hq
      obtain ⟨live', p, e1, e2, e3⟩ := hcut _ _ _ _ _ _ j1
      rw [ha] at e1
      cases e1
      have := hl k (.tail B' (k + 1 + nc A)) (by simp only [cB_, Nat.beq_refl, cond_true])
      rw [this] at e2
      cases e2
      refine wp_mono (ihB (k + 1 + nc A) _ _ hB _ a' w' G2 j2 j3 e3) fun e a2 w2 hq2 => ?_
      cases e <;> simp only [Post] at hq2 ⊢ <;> (try exact hq2)
      · obtain ⟨v, b, G3, i1, i2, i3⟩ := Here.cut hf hq2
        exact ⟨_, G3, i1, i2, i3⟩
      · obtain ⟨v, b, G3, i1, i2, i3⟩ := Here.cut hf hq2
        exact ⟨_, G3, i1, i2, i3⟩
  | loop A ih =>
    intro k κn κx hl s a w G h ev hr
    simp only [run] at hr
    cases ha : f.ann.cut k with
    | none => rw [ha] at hr; cases hr
    | some live =>
      rw [ha] at hr
      obtain ⟨v, b, G2, j1, j2, j3⟩ := kd_ h hf.ent ev hr
      obtain ⟨live', p, e1, e2, e3⟩ := hcut _ _ _ _ _ _ j1
      rw [ha] at e1
      cases e1
      have := hl k (.loop A (k + 1)) (by simp only [cB_, Nat.beq_refl, cond_true])
      rw [this] at e2
      cases e2
      obtain ⟨N, hN⟩ := e3
      have hA : ∀ key p, cB_ f.ann A (k + 1) key = some p → cB_ f.ann B 0 key = some p := fun key p hg => hl key p (by
        have := cW_ _ _ _ _ hg
        simp only [cB_, dZ_ (show key ≠ k by omega), cond_false]; exact hg)
      refine wp_loop_ghost (fun n a w => ∃ v b G, js_ f.c f.e f.ann f.lf f.κr A (k + 1) live (fun j v b => κx j (St.ofC (f.ann.out j) v b)) n v b = some r ∧ Sim E f.c (St.ofC live v b) a w G ∧ Evo f.x0 f.w0 f.G0 (X.ofL b) w G) N ⟨v, b, G2, hN, j2, j3⟩ fun n a w ⟨v, b, G, j1, j2, j3⟩ => ?_
      cases n with
      | zero => cases j1
      | succ n =>
        refine wp_mono (ih (k + 1) _ _ hA _ a w G j2 j3 j1) fun e a' w' hq => ?_
        cases e <;> simp only [Exit.then, Post] at hq ⊢ <;> (try exact hq)
        · obtain ⟨v, b, G3, i1, i2, i3⟩ := Here.cut hf hq
          exact ⟨n, Nat.lt_succ_self n, v, b, G3, i1, i2, i3⟩
        · obtain ⟨v, b, G3, i1, i2, i3⟩ := Here.cut hf hq
          exact ⟨_, G3, i1, i2, i3⟩
end Go.Pi
end
section
set_option linter.unusedVariables false
namespace Go.Pi
variable {ω : Type}
def gr_ : X := ⟨fun r => cond (Nat.beq r 0) (some .ext) none, fun r => cond (Nat.beq r 0) true (Nat.beq r 1000003)⟩
mutual
def jx_ : PS → AV → Option (List AV)
  | .mu, .rt r => some [.rt r]
  | .ptr _, .pb r off => some [.pb r off]
  | .ag ps, .ag cs => dm_ ps cs
  | .v, _ => some []
  | .o, _ => some []
  | _, _ => none
def dm_ : List PS → List AV → Option (List AV)
  | p :: ps, a :: az => match jx_ p a with
    | some l => match dm_ ps az with
      | some l' => some (l ++ l')
      | none => none
    | none => none
  | [], [] => some []
  | _, _ => none
end
def lJ_ (e : Nat) (avs : List AV) (κ : D ω) : Option ω :=
  c7_ 0 gr_ 1 avs fun x k az => cond (Nat.beq k e) (match x.h 0 with
    | some .ext => κ (az.map (AV.renD (List.range e))) (g5_ 1 x (List.range e))
    | _ => none) none
def rvOf (nres : Nat) (out : List AV) : AV := cond (Nat.beq nres 1) (out.headD .u) (.tu (out.take nres))
def me_ (n : Nat) : Live := (List.range n).map fun i => (i, .k)
section
variable [ai_]
def g4_ (c : Cx) (s : St) : List ResultVar → Option (List AV)
  | [] => some []
  | .tmp t :: l => match g4_ c s l with
    | some vs => some (s.tmps t :: vs)
    | none => none
  | .cell t T :: l => match c.tt T with
    | some td => match s.tmps t with
      | .pb q off => match s.x.h q with
        | some (.box bs) => cond (Nat.beq ((bs.drop off).take td.size).length td.size && ((bs.drop off).take td.size).all AV.cel) (match g4_ c s l with
          | some vs => some (td.val ((bs.drop off).take td.size) :: vs)
          | none => none) none
        | _ => none
      | _ => none
    | none => none
def retK (c : Cx) (rsh : List Sh) (rps : List PS) (rs : List ResultVar) (outs : List AV) (fin : List AV → Option ω) (s : St) : Option ω :=
  match g4_ c s rs with
  | none => none
  | some vs0 => fB_ s.x 2000000 rsh (vs0 ++ outs) fun x vs => match cb_ x rps vs with
    | some (x3, avs, _, []) => match x3.h 0 with
      | some .ext => fin avs
      | _ => none
    | _ => none
end
variable [ai_]
open ai_
variable {E : Env} {w : World} {G : aK_} {r : ω}
theorem out_aux [ak_] {x : X} : ∀ n : Nat,
    (∀ (p : PS) (a : AV) (v : Value) (os : List AV), SizeOf.sizeOf p < n → RT E w x G a v → Used x a.refsT → jx_ p a = some os → AllF (RT E w x G) os (PS.outs p v) ∧ ∀ o ∈ os, Used x o.refsT) ∧
    (∀ (ps : List PS) (az : List AV) (vs : List Value) (os : List AV), SizeOf.sizeOf ps < n → AllF (RT E w x G) az vs → (∀ a ∈ az, Used x a.refsT) → dm_ ps az = some os → AllF (RT E w x G) os (PS.outsAll ps vs) ∧ ∀ o ∈ os, Used x o.refsT) := by
  intro n
  induction n with
  | zero => exact ⟨fun _ _ _ _ h => absurd h (Nat.not_lt_zero _), fun _ _ _ _ h => absurd h (Nat.not_lt_zero _)⟩
  | succ n ih =>
    refine ⟨fun p a v os hn hv hu h => ?_, fun ps az vs os hn hv hu h => ?_⟩
    · cases p with
      | v => simp only [jx_, Option.some.injEq] at h; subst h; exact ⟨by simp only [PS.outs]; trivial, fun o ho => by cases ho⟩
      | o => simp only [jx_, Option.some.injEq] at h; subst h; exact ⟨by simp only [PS.outs]; trivial, fun o ho => by cases ho⟩
      | mu =>
        cases a <;> simp only [jx_] at h <;> (try (cases h; done))
        cases h
        exact ⟨by simp only [PS.outs]; exact ⟨hv, trivial⟩, fun o ho => by rw [List.mem_singleton] at ho; subst ho; exact hu⟩
      | ptr ps =>
        cases a <;> simp only [jx_] at h <;> (try (cases h; done))
        cases h
        exact ⟨by simp only [PS.outs]; exact ⟨hv, trivial⟩, fun o ho => by rw [List.mem_singleton] at ho; subst ho; exact hu⟩
      | ag ps =>
        cases a <;> simp only [jx_] at h <;> (try (cases h; done))
        rename_i cs
        obtain ⟨us, rfl, hall⟩ := hv.ag
        simp only [PS.outs]
        refine ih.2 ps cs us os (by simp at hn; omega) (hall.mono fun a v _ h => h.flat) (fun a ha => ?_) h
        have : ∃ v, RF E w x G a v := by
          clear hv hu h
          induction cs generalizing us with
          | nil => cases ha
          | cons c cs ih2 => cases us with
            | nil => exact hall.elim
            | cons u us =>
              rcases List.mem_cons.1 ha with rfl | ha
              · exact ⟨u, hall.1⟩
              · exact ih2 us hall.2 ha
        obtain ⟨v, hv'⟩ := this
        have hu' : Used x (cs.flatMap AV.refs) := hu
        exact hv'.refsT (hu'.mem ha)
    · cases ps with
      | nil =>
        cases az with
        | cons => simp [dm_] at h
        | nil =>
          cases vs with
          | cons => exact hv.elim
          | nil =>
            simp only [dm_, Option.some.injEq] at h
            subst h
            exact ⟨by simp only [PS.outsAll]; trivial, fun o ho => by cases ho⟩
      | cons p ps =>
        cases az with
        | nil => simp [dm_] at h
        | cons a az =>
          cases vs with
          | nil => exact hv.elim
          | cons v vs =>
            simp only [dm_] at h
            cases h1 : jx_ p a with
            | none => rw [h1] at h; cases h
            | some l =>
              rw [h1] at h
              simp only at h
              cases h2 : dm_ ps az with
              | none => rw [h2] at h; cases h
              | some l' =>
                rw [h2] at h
                simp only [Option.some.injEq] at h
                subst h
                obtain ⟨k1, k2⟩ := ih.1 p a v l (by simp at hn; omega) hv.1 (hu a (List.mem_cons_self ..)) h1
                obtain ⟨j1, j2⟩ := ih.2 ps az vs l' (by simp at hn; omega) hv.2 (fun a ha => hu a (List.mem_cons_of_mem _ ha)) h2
                simp only [PS.outsAll]
                exact ⟨k1.append j1, fun o ho => (List.mem_append.1 ho).elim (k2 o) (j2 o)⟩
theorem out_ok [ak_] {x : X} {ps : List PS} {az : List AV} {vs : List Value} {os : List AV} (hv : AllF (RT E w x G) az vs) (hu : ∀ a ∈ az, Used x a.refsT) (h : dm_ ps az = some os) :
    AllF (RT E w x G) os (PS.outsAll ps vs) ∧ ∀ o ∈ os, Used x o.refsT := (out_aux (SizeOf.sizeOf ps + 1)).2 ps az vs os (Nat.lt_succ_self _) hv hu h
structure Began (E : Env) (w : World) (F : Nat → Prop) (φ : Nat → Nat) (e : Nat) (Vs : List Value) (v : List AV) (b : List (Option Blk)) (G : aK_) : Prop where
  mem : Mem E (X.ofL b) w G
  ent : Ent e (X.ofL b)
  slots : AllF (RT E w (X.ofL b) G) v Vs
  used : ∀ a ∈ v, Used (X.ofL b) a.refsT
  ext : ∀ c, G.φ 0 c ≠ 0 ↔ (F c ∧ φ c = 0)
  ext0 : (X.ofL b).h 0 = some .ext
  inF : ∀ c, Fof (X.ofL b) G c → F c
  u0 : (X.ofL b).u 0 = true
theorem entry_ok [ak_] {e : Nat} (he : 0 < e) {F : Nat → Prop} {avs : List AV} {Vs : List Value} {φ : Nat → Nat} (hrl : RL E w F avs Vs φ) (h1 : ∀ b, φ b ≤ 1) (hlow : ∀ b, F b → b < w.heap.size) (hgl : Glob E w F) {κ : D ω} (h : lJ_ e avs κ = some r) :
    ∃ v b G, κ v b = some r ∧ Began E w F φ e Vs v b G := by
  classical
  let G : aK_ := ⟨fun _ => undef, fun _ => [], fun r b => if r = 0 then (if F b ∧ φ b = 0 then 1 else 0) else if r = 1000003 then (if F b then 1 else 0) else 0, fun _ => 0⟩
  let x0 : X := ⟨fun r => cond (Nat.beq r 1000003) (some .ext) none, fun r => Nat.beq r 1000003⟩
  have hx : ∀ r blk, gr_.h r = some blk → r = 0 ∧ blk = .ext := by
    intro r blk hr
    simp only [gr_] at hr
    cases hb : Nat.beq r 0 with
    | false => rw [hb] at hr; cases hr
    | true => rw [hb] at hr; exact ⟨cI_.1 hb, (Option.some.inj hr).symm⟩
  have hfof : ∀ b, Fof gr_ G b ↔ F b ∧ φ b = 0 := by
    intro b
    constructor
    · rintro ⟨r, blk, k1, k2⟩
      obtain ⟨rfl, rfl⟩ := hx r blk k1
      simp only [G, if_true] at k2
      by_cases hc : F b ∧ φ b = 0
      · exact hc
      · rw [if_neg hc] at k2; exact absurd rfl k2
    · intro hc
      exact ⟨0, .ext, rfl, by simp only [G, if_true]; rw [if_pos hc]; decide⟩
  have hfof0 : ∀ b, F b → Fof x0 G b := fun b hb => ⟨1000003, .ext, by simp [x0], by simp [G, hb]⟩
  have hφF : ∀ b, φ b ≠ 0 → F b := fun b hb => (hrl.low b hb).1
  have hA : dE_ E x0 w G gr_ gr_ w G F (fun b => φ b + 0) := by
    refine ⟨⟨rfl, rfl, rfl, Nat.le_refl _, fun _ _ _ => rfl, fun b hb hF => hfof0 b ((hfof b).1 hF).1, fun r hr => ?_, fun r blk' hu hr => ?_, fun r b hu hr => ?_⟩, fun b hb => ((hfof b).1 hb).1, fun b hb => hφF b (by omega), fun b hb hF => ?_, fun b => by have := h1 b; omega, fun b hb _ => hfof0 b (hφF b (by omega)), fun b hb => (hrl.low b (by omega)).2, fun b hb => ?_, fun r blk hr => ?_, fun r blk hr => ?_, fun r r' blk blk' b k1 k2 _ _ => ?_⟩
    · have := cI_.1 (show Nat.beq r 1000003 = true from hr)
      subst this
      simp [gr_]
    · have := cI_.1 (show Nat.beq r 1000003 = true from hu)
      subst this
      have := (hx _ _ hr).1
      omega
    · have := cI_.1 (show Nat.beq r 1000003 = true from hu)
      subst this
      have := (hx _ _ hr).1
      omega
    · have := ((hfof b).1 hF).2; omega
    · by_cases hc : φ b = 0
      · exact .inl ((hfof b).2 ⟨hb, hc⟩)
      · exact .inr (by omega)
    · exact .inl ⟨hr, rfl, rfl, rfl, fun _ => rfl⟩
    · obtain ⟨rfl, rfl⟩ := hx r blk hr
      rfl
    · rw [(hx _ _ k1).1, (hx _ _ k2).1]
  unfold lJ_ at h
  obtain ⟨x', G', k', as', hk, hA', hv, _⟩ := (fI_ 0 (SizeOf.sizeOf avs + 1)).2 avs 1 gr_ G (fun _ => 0) φ Vs ω _ r (Nat.lt_succ_self _) hrl (hA.congr fun b => rfl) h
  cases hke : Nat.beq k' e with
  | false => rw [hke] at hk; cases hk
  | true =>
    rw [hke] at hk
    simp only [cond_true] at hk
    cases hx0 : x'.h 0 with
    | none => rw [hx0] at hk; cases hk
    | some blk =>
      rw [hx0] at hk
      cases blk with
      | box => cases hk
      | arr => cases hk
      | ext =>
        simp only at hk
        have hroot0 : ∀ b, G'.φ 0 b = G.φ 0 b := by
          rcases hA'.roots 0 _ hx0 with ⟨_, _, _, _, k⟩ | ⟨k, _⟩
          · exact k
          · exact k.elim
        have hM : Mem E x' w G' := by
          refine ⟨fun r blk hr => ?_, hA'.used, fun r blk b hr => ?_, fun r blk b hr hb => ?_, hA'.sep, hgl.sub fun b hb => hA'.inF b hb⟩
          · rcases hA'.roots r blk hr with ⟨k1, _⟩ | ⟨k1, _⟩
            · obtain ⟨rfl, rfl⟩ := hx r blk k1
              trivial
            · exact k1.ok hA'.inF hr
          · rcases hA'.roots r blk hr with ⟨k1, _, _, _, k5⟩ | ⟨_, k2⟩
            · obtain ⟨rfl, rfl⟩ := hx r blk k1
              rw [k5]
              simp only [G, if_true]
              split <;> omega
            · exact (k2 b).1
          · exact hlow b (hA'.inF b ⟨r, blk, hr, hb⟩)
        have hL : ∀ k, k < e → (List.range e)[k]? = some k := fun k hk => by simp [hk]
        have hget0 : (List.range e).getD 0 0 = 0 := by
          have := hL 0 he
          simp [List.getD, this]
        refine ⟨_, _, G'.ren (List.range e), hk, hM.ren List.nodup_range, ⟨fun r hr => ?_, fun r m t st xs hr => ?_⟩, ?_, ?_, fun c => ?_, ?_, fun c hc => hA'.inF c (g7_ hc), ?_⟩
        · have := jz_.1 hr
          simpa using this
        · obtain ⟨r', b0, e1, e2, e3, e4⟩ := fT_ hr
          cases b0 <;> simp only [Blk.ren] at e4 <;> (try (cases e4; done))
          simp only [Blk.arr.injEq] at e4
          exact e4.2.2.1
        · have h5 : AllF (RT E w x' G') as' Vs := hv.mono fun a v _ h => h.rt hA'.inF
          clear hk hv h
          induction as' generalizing Vs with
          | nil => cases Vs with
            | nil => trivial
            | cons => exact h5.elim
          | cons a az ih => cases Vs with
            | nil => exact h5.elim
            | cons u us => exact ⟨(RT.ren h5.1).1, by
                clear ih
                have h6 := h5.2
                clear h5 hrl
                induction az generalizing us with
                | nil => cases us with
                  | nil => trivial
                  | cons => exact h6.elim
                | cons a az ih => cases us with
                  | nil => exact h6.elim
                  | cons u us => exact ⟨(RT.ren h6.1).1, ih us h6.2⟩⟩
        · intro a ha
          obtain ⟨a0, ha0, rfl⟩ := List.mem_map.1 ha
          have h5 : AllF (RT E w x' G') as' Vs := hv.mono fun a v _ h => h.rt hA'.inF
          have : ∀ {az : List AV} {us : List Value}, AllF (RT E w x' G') az us → a0 ∈ az → ∃ u, RT E w x' G' a0 u := by
            intro az
            induction az with
            | nil => intro us _ h; cases h
            | cons a az ih =>
              intro us h hm
              cases us with
              | nil => exact h.elim
              | cons u us =>
                rcases List.mem_cons.1 hm with rfl | hm
                · exact ⟨u, h.1⟩
                · exact ih h.2 hm
          obtain ⟨u, hu⟩ := this h5 ha0
          exact (RT.ren hu).2
        · simp only [aK_.ren, hget0]
          rw [hroot0]
          simp only [G, if_true]
          constructor
          · intro h
            by_cases hc : F c ∧ φ c = 0
            · exact hc
            · rw [if_neg hc] at h; exact absurd rfl h
          · intro hc; rw [if_pos hc]; decide
        · have := hL 0 he
          simp only [X.ofL, g5_, List.getElem?_map, this, Option.map_some, hx0, Blk.ren]
        · exact jz_.2 (by simpa using he)
end Go.Pi
end
section
set_option linter.unusedVariables false
namespace Go.Pi
variable {ω : Type}
def AV.sameRoot : AV → AV → Bool
  | .rt p, .rt q => Nat.beq p q
  | .pb p j, .pb q j' => Nat.beq p q && Nat.beq j j'
  | _, _ => false
def AV.allRoots : List AV → List AV → Bool
  | [], [] => true
  | p :: l, q :: r => AV.sameRoot p q && AV.allRoots l r
  | _, _ => false
theorem kw_ {a b : AV} (h : AV.sameRoot a b = true) : a = b := by
  cases a <;> cases b <;> simp only [AV.sameRoot] at h <;> (try (cases h; done))
  · have := cI_.1 h; subst this; rfl
  · simp only [Bool.and_eq_true] at h
    have := cI_.1 h.1; have := cI_.1 h.2; subst_vars; rfl
theorem hu_ : ∀ {l r : List AV}, AV.allRoots l r = true → l = r
  | [], [], _ => rfl
  | a :: l, b :: r, h => by
    simp only [AV.allRoots, Bool.and_eq_true] at h
    rw [kw_ h.1, hu_ h.2]
  | [], _ :: _, h => by simp [AV.allRoots] at h
  | _ :: _, [], h => by simp [AV.allRoots] at h
variable [ai_]
open ai_
variable {E : Env} {w : World} {G : aK_} {r : ω}
theorem res_ok [ak_] {c : Cx} (hc : CxOk E c) {s : St} {a : Act} (h : Sim E c s a w G) {g : ResultVar → Sem Value} (hg : ∀ t, g (.tmp t) = pure (a.tmps.getD t undef))
    (hg' : ∀ t T, g (.cell t T) = (asAddr (a.tmps.getD t undef) >>= fun l => loadVar T l)) : ∀ (rs : List ResultVar) (vs : List AV), g4_ c s rs = some vs →
    ∃ Vs, Vs.length = rs.length ∧ AllF (RT E w s.x G) vs Vs ∧ (∀ v ∈ vs, Used s.x v.refsT) ∧ (List.mapM g rs).run E.P w = .ok Vs w
  | [], vs, hr => by
    simp only [g4_, Option.some.injEq] at hr
    subst hr
    exact ⟨[], rfl, trivial, fun v hv => (by cases hv), rfl⟩
  | .tmp t :: rs, vs, hr => by
    simp only [g4_] at hr
    cases h1 : g4_ c s rs with
    | none => rw [h1] at hr; cases hr
    | some vs1 =>
      rw [h1] at hr
      simp only [Option.some.injEq] at hr
      subst hr
      obtain ⟨Vs, k1, k2, k3, k4⟩ := res_ok hc h hg hg' rs vs1 h1
      refine ⟨_ :: Vs, by simp [k1], ⟨h.slot t, k2⟩, fun v hv => ?_, ?_⟩
      · rcases List.mem_cons.1 hv with rfl | hv
        · exact h.used t
        · exact k3 v hv
      · simp only [List.mapM_cons, Sem.run_bind, Sem.run_pure, Result.andThen_ok, k4, hg]
  | .cell t T :: rs, vs, hr => by
    simp only [g4_] at hr
    cases ht : c.tt T with
    | none => rw [ht] at hr; cases hr
    | some td =>
      rw [ht] at hr
      simp only at hr
      have hs := h.slot t
      have hu := h.used t
      cases hp : s.tmps t <;> rw [hp] at hr hs hu <;> (try (cases hr; done))
      rename_i q off
      simp only at hr
      cases hq : s.x.h q with
      | none => rw [hq] at hr; cases hr
      | some blk =>
        rw [hq] at hr
        cases blk with
        | arr => cases hr
        | ext => cases hr
        | box bs =>
          simp only at hr
          obtain ⟨h1, h2⟩ := b4_ hr
          simp only [Bool.and_eq_true] at h1
          cases h3 : g4_ c s rs with
          | none => rw [h3] at h2; cases h2
          | some vs1 =>
            rw [h3] at h2
            simp only [Option.some.injEq] at h2
            subst h2
            obtain ⟨Vs, k1, k2, k3, k4⟩ := res_ok hc h hg hg' rs vs1 h3
            have hf := hs.rf (by intro cs e; cases e) (by intro cs e; cases e) (by intro f cs e; cases e)
            have hV := hf.2 bs hq
            obtain ⟨⟨cur, T', hcur, hall⟩, hφ, hus⟩ := h.mem.root q _ hq
            have htd := (hc.tt T).ok td ht
            have hl := cI_.1 h1.1
            have hall' := (hall.drop off).take td.size
            have hr' := cY_ (er_ hcur) off td.size
            rw [Nat.zero_add] at hr'
            have hus' : Used s.x (((bs.drop off).take td.size).flatMap AV.refs) := by
              intro z hz
              obtain ⟨c, hc1, hc2⟩ := List.mem_flatMap.1 hz
              exact hus z (List.mem_flatMap.2 ⟨c, List.mem_of_mem_drop (List.mem_of_mem_take hc1), hc2⟩)
            refine ⟨_ :: Vs, by simp [k1], ⟨RT.val htd hall' hl, k2⟩, fun v hv => ?_, ?_⟩
            · rcases List.mem_cons.1 hv with rfl | hv
              · exact ld_ hus' h1.2
              · exact k3 v hv
            · have := g3_ htd hr' (hall'.len.trans hl)
              simp only [List.mapM_cons, Sem.run_bind, Sem.run_pure, Result.andThen_ok, k4, hg', hV, asAddr, this]
def jv_ (vs : List Value) : Value := if vs.length = 1 then vs.headD undef else .tuple (List.toArray vs)
theorem kx_ [ak_] {c : Cx} (hc : CxOk E c) {s : St} {a : Act} (h : Sim E c s a w G) {fn : Func} {rs : List ResultVar} {vs : List AV} (hr : fn.results = List.toArray rs) (hv : g4_ c s rs = some vs) :
    ∃ Vs, Vs.length = rs.length ∧ AllF (RT E w s.x G) vs Vs ∧ (∀ v ∈ vs, Used s.x v.refsT) ∧ (results fn a.tmps).run E.P w = .ok (jv_ Vs) w := by
  unfold results
  rw [hr]
  simp only [List.mapM_toArray, Sem.run_bind, Sem.run_map, Sem.run_pure]
  suffices ∀ g : ResultVar → Sem Value, (∀ t, g (.tmp t) = pure (a.tmps.getD t undef)) → (∀ t T, g (.cell t T) = (asAddr (a.tmps.getD t undef) >>= fun l => loadVar T l)) →
      ∃ Vs : List Value, Vs.length = rs.length ∧ AllF (RT E w s.x G) vs Vs ∧ (∀ v ∈ vs, Used s.x v.refsT) ∧ ((((List.mapM g rs).run E.P w).andThen fun a w' => Result.ok a.toArray w').andThen fun a w' => Result.ok (if h : a.size = 1 then a[0] else Value.tuple a) w') = .ok (jv_ Vs) w from
    this _ (fun t => rfl) (fun t T => rfl)
  intro g hg hg'
  obtain ⟨Vs, k1, k2, k3, k4⟩ := res_ok hc h hg hg' rs vs hv
  refine ⟨Vs, k1, k2, k3, ?_⟩
  rw [k4]
  simp only [Result.andThen_ok, jv_, List.size_toArray]
  congr 1
  split
  · rename_i h1
    obtain ⟨v, hv⟩ := List.length_eq_one_iff.1 h1
    subst hv
    rfl
  · rfl
theorem l4_ {F : Nat → Prop} {out : List AV} {vs os : List Value} {φ : Nat → Nat} (h : RL E w F out (vs ++ os) φ) : RL E w F (rvOf vs.length out :: out.drop vs.length) (jv_ vs :: os) φ := by
  have hl := h.length
  have e : out = out.take vs.length ++ out.drop vs.length := (List.take_append_drop _ _).symm
  rw [e] at h
  obtain ⟨us, us', φ₁, φ₂, e1, h1, h2, h3⟩ := RL.split h
  have l1 : us.length = vs.length := by rw [← h1.length, List.length_take]; simp at hl; omega
  obtain ⟨rfl, rfl⟩ := List.append_inj e1.symm l1
  unfold rvOf jv_
  by_cases hc : us.length = 1
  · rw [hc] at h1 ⊢
    simp only [if_true]
    cases us with
    | nil => cases hc
    | cons u us =>
      cases us with
      | cons => simp at hc
      | nil =>
        have : ∃ a, out.take 1 = [a] ∧ out.headD .u = a := by
          cases out with
          | nil => simp at hl
          | cons a l => exact ⟨a, rfl, rfl⟩
        obtain ⟨a, e2, e3⟩ := this
        rw [e2] at h1
        show RL E w F (cond (Nat.beq 1 1) (out.headD .u) _ :: _) (u :: _) φ
        rw [e3]
        exact h1.cons h2 h3
  · rw [if_neg hc, dZ_ hc, cond_false]
    exact .tu _ us φ₁ _ _ φ₂ _ h1 h2 h3
theorem fn_sound [ak_] {c : Cx} (hc : CxOk E c) (hK : KPar c) (hm : E.P.follows .mixedOrders = true) {f : FuncId} {fn : Func} {B : Code} (hfn : E.P.funcs[f]? = some fn) (hbody : fn.body = some B) {rs : List ResultVar} (hres : fn.results = List.toArray rs) (hnt : fn.ntmps = c.nt)
    {e : Nat} (he : 0 < e) {ann : Ann} {lf : LF ω} {rsh : List Sh} {rps ps : List PS} {outs : List AV} {fin : List AV → Option ω} {inj : ω → List AV} (hfin : ∀ o r, fin o = some r → o = inj r)
    {avs : List AV} (hn : Nat.ble avs.length c.nt = true)
    (hrun : lJ_ e avs (fun v b => match dm_ ps v with
      | some o => cond (AV.allRoots o outs) (run c e ann lf (retK c rsh rps rs outs fin) B 0 (retK c rsh rps rs outs fin) (fun _ _ => none) (St.ofC (me_ avs.length) v b)) none
      | none => none) = some r)
    (hcut : Cuts c e ann lf (retK c rsh rps rs outs fin) B) :
    dy_ E f avs (rvOf rs.length (inj r)) ((inj r).drop rs.length) ps := by
  intro w F Vs φ hrl h1 hlow hgl
  obtain ⟨v, b, G, hk, hB⟩ := entry_ok he hrl h1 hlow hgl hrun
  cases ho : dm_ ps v with
  | none => rw [ho] at hk; cases hk
  | some o =>
    rw [ho] at hk
    simp only at hk
    cases har : AV.allRoots o outs with
    | false => rw [har] at hk; cases hk
    | true =>
      rw [har] at hk
      simp only [cond_true] at hk
      have := hu_ har
      subst this
      obtain ⟨hO1, hO2⟩ := out_ok hB.slots hB.used ho
      have hlen : Vs.length = avs.length := hrl.length.symm
      have hnle : avs.length ≤ c.nt := Nat.le_of_ble_eq_true hn
      let a0 : Act := { tmps := List.toArray Vs ++ Array.replicate (fn.ntmps - (List.toArray Vs).size) undef, defers := [] }
      have hget : (me_ avs.length).map (fun p => a0.tmps.getD p.1 undef) = Vs := by
        apply List.ext_getElem?
        intro i
        simp only [me_, List.map_map, List.getElem?_map]
        by_cases hi : i < avs.length
        · have hi' : i < Vs.length := by omega
          simp [a0, hi, hi']
          rw [Array.getElem?_append_left (by simpa using hi')]
          simp [hi']
        · simp [hi, show Vs.length ≤ i by omega]
      have hsl := kC_ (P := RT E w (X.ofL b) G) (Q := fun v => Used (X.ofL b) v.refsT) (a := fun t => a0.tmps.getD t undef) (fun v => RT.scl trivial) cc_ (live := me_ avs.length) (vals := v) (by rw [hget]; exact hB.slots) hB.used
      have hsim : Sim E c (St.ofC (me_ avs.length) v b) a0 w G := ⟨hB.mem, rfl, by simp [a0, hnt]; omega, fun t => (hsl t).1, fun t => (hsl t).2⟩
      have hwp := run_wp (f := ⟨c, e, ann, lf, retK c rsh rps rs o fin, X.ofL b, w, G⟩) ⟨hc, hB.ent, hK, hm⟩ hcut B 0 (retK c rsh rps rs o fin) (fun _ _ => none) (fun key p h => h) _ a0 w G hsim (Evo.refl _ _ _) hk
      refine calls_of_wp hfn hbody (wp_mono hwp fun ex a1 w1 hq => ?_)
      have fin_ : Here E ⟨c, e, ann, lf, retK c rsh rps rs o fin, X.ofL b, w, G⟩ r (retK c rsh rps rs o fin) a1 w1 → a1.defers = [] ∧ ∃ v, (results fn a1.tmps).run E.P w1 = .ok v w1 ∧ ∃ V φ', Ending.returned v = .returned V ∧
          RL E w1 (fun b => (F b ∧ φ b = 0) ∨ φ' b ≠ 0) (rvOf rs.length (inj r) :: (inj r).drop rs.length) (V :: PS.outsAll ps Vs) φ' ∧ (∀ b, φ' b ≤ 1) ∧ (∀ b, φ' b ≠ 0 → φ b ≠ 0 ∨ w.heap.size ≤ b) ∧
          w1.os = w.os ∧ w1.tape = w.tape ∧ w1.output = w.output ∧ w.heap.size ≤ w1.heap.size ∧ ∀ b, b < w.heap.size → φ b = 0 → w1.heap[b]? = w.heap[b]? := by
        rintro ⟨s, G1, k1, k2, k3⟩
        have k3 : Evo (X.ofL b) w G s.x w1 G1 := k3
        unfold retK at k1
        cases hrs : g4_ c s rs with
        | none => rw [hrs] at k1; cases k1
        | some vs0 =>
        rw [hrs] at k1
        simp only at k1
        obtain ⟨Rs, i1, i2, i3, i4⟩ := kx_ hc k2 hres hrs
        refine ⟨k2.defers, _, i4, ?_⟩
        have hvals : AllF (RT E w1 s.x G1) (vs0 ++ o) (Rs ++ PS.outsAll ps Vs) := AllF.append i2 (hO1.mono fun a v ha h => h.evolve k3 (hO2 a ha))
        obtain ⟨x2, G2, vs, j1, j2, j3, j4⟩ := eA_ _ _ _ _ _ _ _ k2.mem hvals (fun a ha => (List.mem_append.1 ha).elim (i3 a) fun ha => Used.evolve k3 (hO2 a ha)) k1
        cases hh : cb_ x2 rps vs with
        | none => rw [hh] at j1; cases j1
        | some z =>
          obtain ⟨x3, avs', ws, q⟩ := z
          rw [hh] at j1
          cases q with
          | cons => cases j1
          | nil =>
            simp only at j1
            cases h30 : x3.h 0 with
            | none => rw [h30] at j1; cases j1
            | some blk =>
              rw [h30] at j1
              cases blk with
              | box => cases j1
              | arr => cases j1
              | ext =>
                simp only at j1
                have := hfin _ _ j1
                subst this
                obtain ⟨φ', k⟩ := eY_ j2.2 rps vs _ x2 x3 _ ws [] (Sub.refl x2) j3 hh
                have ev2 : Evo (X.ofL b) w G x2 w1 G2 := k3.trans j2.1
                have hx20 : x2.h 0 = some .ext := k.sub.1 0 _ h30
                have hext := fun c => ev2.ext 0 c hB.u0 hx20
                have hφ'ext : ∀ c, φ' c ≠ 0 → G.φ 0 c = 0 := fun c hc => by
                  refine Classical.byContradiction fun h0 => k.out c hc ⟨0, .ext, h30, ?_⟩
                  rw [(hext c).1]; exact h0
                refine ⟨_, φ', rfl, ?_, k.one, fun c hc => ?_, ev2.os, ev2.tape, ev2.output, ev2.size, fun c hc h0 => ?_⟩
                · have h5 := k.rl (fun b => (F b ∧ φ b = 0) ∨ φ' b ≠ 0) (fun c hc => ?_) (fun s hs => by cases hs) (fun c hc => .inr hc)
                  · have := l4_ h5
                    rwa [i1] at this
                  · rcases hc with hc | hc
                    · exact ⟨0, .ext, hx20, by rw [(hext c).1]; exact (hB.ext c).2 hc⟩
                    · exact k.from_ c hc
                · by_cases hlt : c < w.heap.size
                  · left
                    intro h0
                    have h6 := ev2.fresh c hlt (k.from_ c hc)
                    have h7 := hB.inF c h6
                    exact (hB.ext c).2 ⟨h7, h0⟩ (hφ'ext c hc)
                  · exact .inr (by omega)
                · by_cases hF : F c
                  · exact (hext c).2 ((hB.ext c).2 ⟨hF, h0⟩) hc
                  · exact ev2.heap c hc fun hc' => hF (hB.inF c hc')
      cases ex with
      | normal => exact fin_ hq
      | ret => exact fin_ hq
      | exit id => obtain ⟨s, G1, k1, _⟩ := hq; cases k1
      | goto => exact hq.elim
      | panic => exact hq.elim
      | outgrown => exact hq.elim
end Go.Pi
end
section
set_option linter.unusedVariables false
namespace Go.Pi
def cK_ {α : Type} (z : α) (step : α → α) : Nat → α
  | 0 => z
  | n + 1 => step (cK_ z step n)
def iK_ {α : Type} (xs : List α) (i j : Int) : Option (List α) :=
  cond (decide (0 ≤ i) && (decide (i ≤ j) && decide (j ≤ (xs.length : Int)))) (some (xs.take i.toNat ++ xs.drop j.toNat)) none
def eW_ {α : Type} (bytes : Nat) (xs : List α) (i : Int) (ys : List α) : Option (List α) :=
  cond (decide (0 ≤ i) && decide (i ≤ (xs.length : Int))) (cond (decide ((xs.length + ys.length) * bytes ≤ 140737488355328)) (some (xs.take i.toNat ++ ys ++ xs.drop i.toNat)) none) none
def nItoa (n : Int) : Option Bs := cond (decide (-9223372036854775808 ≤ n) && decide (n ≤ 9223372036854775807)) (some (Lib.itoa n)) none
def nJoin (xs : List Bs) (sep : Bs) : Option Bs := cond (decide (xs.length ≤ 140737488355328) && decide ((Lib.join xs sep).length ≤ 140737488355328)) (some (Lib.join xs sep)) none
def nReplaceAll (s old new : Bs) : Option Bs := cond (decide (s.length < 4294967281) && (decide (1 ≤ old.length) && decide (s.length + Lib.count s old * new.length ≤ 140737488355328))) (some (Lib.replaceAll s old new)) none
end Go.Pi
end
section
set_option linter.unusedVariables false
namespace Go.Pi
variable {ω : Type} {r : ω}
def uc {α : Type} : List α → (α → List α → Option ω) → Option ω
  | a :: l, κ => κ a l
  | [], _ => none
def un {α : Type} : List α → Option ω → Option ω
  | [], κ => κ
  | _ :: _, _ => none
theorem db_ {α : Type} {v : List α} {κ : α → List α → Option ω} (h : uc v κ = some r) : ∃ a l, v = a :: l ∧ κ a l = some r := by
  cases v with
  | nil => cases h
  | cons a l => exact ⟨a, l, rfl, h⟩
theorem fH_ {α : Type} {v : List α} {κ : Option ω} (h : un v κ = some r) : v = [] ∧ κ = some r := by
  cases v with
  | nil => exact ⟨rfl, h⟩
  | cons => cases h
def d2_ (k : IntKind) (a : AV) (κ : Int → Option ω) : Option ω := match a with
  | .i k' n => cond (decide (k' = k)) (κ n) none
  | _ => none
theorem c2_ {k : IntKind} {a : AV} {κ : Int → Option ω} (h : d2_ k a κ = some r) : ∃ n, a = .i k n ∧ κ n = some r := by
  cases a <;> (try (cases h; done))
  obtain ⟨h1, h2⟩ := b4_ h
  have := of_decide_eq_true h1
  subst this
  exact ⟨_, rfl, h2⟩
def getB (a : AV) (κ : Bool → Option ω) : Option ω := match a with
  | .b q => κ q
  | _ => none
theorem getB_ok {a : AV} {κ : Bool → Option ω} (h : getB a κ = some r) : ∃ n, a = .b n ∧ κ n = some r := by
  cases a <;> (try (cases h; done))
  exact ⟨_, rfl, h⟩
def getS (a : AV) (κ : Bs → Option ω) : Option ω := match a with
  | .s q => κ q
  | _ => none
theorem hm_ {a : AV} {κ : Bs → Option ω} (h : getS a κ = some r) : ∃ n, a = .s n ∧ κ n = some r := by
  cases a <;> (try (cases h; done))
  exact ⟨_, rfl, h⟩
def M.same : M → M → Bool
  | .v, .v | .s, .s | .d, .d => true
  | _, _ => false
theorem M.same_eq {m m' : M} (h : M.same m m' = true) : m = m' := by cases m <;> cases m' <;> first | rfl | cases h
def getSl (m : M) (t : TC) (a : AV) (κ : List (El t) → Option ω) : Option ω := match a with
  | .sl m' t' xs => cond (M.same m' m) (if h : t' = t then κ (h ▸ xs) else none) none
  | _ => none
theorem getSl_ok {m : M} {t : TC} {a : AV} {κ : List (El t) → Option ω} (h : getSl m t a κ = some r) : ∃ xs, a = .sl m t xs ∧ κ xs = some r := by
  cases a <;> (try (cases h; done))
  rename_i m' t' xs
  obtain ⟨h1, h2⟩ := b4_ h
  have := M.same_eq h1
  subst this
  by_cases e : t' = t
  · subst e
    simp only [dite_true] at h2
    exact ⟨xs, rfl, h2⟩
  · simp [e] at h2
def isRt (q : Nat) (a : AV) (κ : Option ω) : Option ω := match a with
  | .rt p => cond (Nat.beq p q) κ none
  | _ => none
theorem isRt_ok {q : Nat} {a : AV} {κ : Option ω} (h : isRt q a κ = some r) : a = .rt q ∧ κ = some r := by
  cases a <;> (try (cases h; done))
  obtain ⟨h1, h2⟩ := b4_ h
  have := cI_.1 h1
  subst this
  exact ⟨rfl, h2⟩
def isPb (q off : Nat) (a : AV) (κ : Option ω) : Option ω := match a with
  | .pb p o => cond (Nat.beq p q && Nat.beq o off) κ none
  | _ => none
theorem isPb_ok {q off : Nat} {a : AV} {κ : Option ω} (h : isPb q off a κ = some r) : a = .pb q off ∧ κ = some r := by
  cases a <;> (try (cases h; done))
  obtain ⟨h1, h2⟩ := b4_ h
  simp only [Bool.and_eq_true] at h1
  have e1 := cI_.1 h1.1
  have e2 := cI_.1 h1.2
  subst e1 e2
  exact ⟨rfl, h2⟩
def getAg (a : AV) (κ : List AV → Option ω) : Option ω := match a with
  | .ag cs => κ cs
  | _ => none
theorem getAg_ok {a : AV} {κ : List AV → Option ω} (h : getAg a κ = some r) : ∃ cs, a = .ag cs ∧ κ cs = some r := by
  cases a <;> (try (cases h; done))
  exact ⟨_, rfl, h⟩
def getTu (a : AV) (κ : List AV → Option ω) : Option ω := match a with
  | .tu cs => κ cs
  | _ => none
theorem getTu_ok {a : AV} {κ : List AV → Option ω} (h : getTu a κ = some r) : ∃ cs, a = .tu cs ∧ κ cs = some r := by
  cases a <;> (try (cases h; done))
  exact ⟨_, rfl, h⟩
def getBx (a : AV) (κ : List AV → Option ω) : Option ω := match a with
  | .bx cs => κ cs
  | _ => none
theorem getBx_ok {a : AV} {κ : List AV → Option ω} (h : getBx a κ = some r) : ∃ cs, a = .bx cs ∧ κ cs = some r := by
  cases a <;> (try (cases h; done))
  exact ⟨_, rfl, h⟩
def getPc (off : Nat) (a : AV) (κ : List AV → Option ω) : Option ω := match a with
  | .pc cs o => cond (Nat.beq o off) (κ cs) none
  | _ => none
theorem getPc_ok {off : Nat} {a : AV} {κ : List AV → Option ω} (h : getPc off a κ = some r) : ∃ cs, a = .pc cs off ∧ κ cs = some r := by
  cases a <;> (try (cases h; done))
  obtain ⟨h1, h2⟩ := b4_ h
  have := cI_.1 h1
  subst this
  exact ⟨_, rfl, h2⟩
def getClo (f : Nat) (a : AV) (κ : List AV → Option ω) : Option ω := match a with
  | .clo g cs => cond (Nat.beq g f) (κ cs) none
  | _ => none
theorem getClo_ok {f : Nat} {a : AV} {κ : List AV → Option ω} (h : getClo f a κ = some r) : ∃ cs, a = .clo f cs ∧ κ cs = some r := by
  cases a <;> (try (cases h; done))
  obtain ⟨h1, h2⟩ := b4_ h
  have := cI_.1 h1
  subst this
  exact ⟨_, rfl, h2⟩
def isNils (a : AV) (κ : Option ω) : Option ω := match a with
  | .nils => κ
  | _ => none
theorem isNils_ok {a : AV} {κ : Option ω} (h : isNils a κ = some r) : a = .nils ∧ κ = some r := by
  cases a <;> (try (cases h; done))
  exact ⟨rfl, h⟩
def isNili (a : AV) (κ : Option ω) : Option ω := match a with
  | .nili => κ
  | _ => none
theorem isNili_ok {a : AV} {κ : Option ω} (h : isNili a κ = some r) : a = .nili ∧ κ = some r := by
  cases a <;> (try (cases h; done))
  exact ⟨rfl, h⟩
def isU (a : AV) (κ : Option ω) : Option ω := match a with
  | .u => κ
  | _ => none
theorem isU_ok {a : AV} {κ : Option ω} (h : isU a κ = some r) : a = .u ∧ κ = some r := by
  cases a <;> (try (cases h; done))
  exact ⟨rfl, h⟩
def noBlk (a : Option Blk) (κ : Option ω) : Option ω := match a with
  | none => κ
  | some _ => none
theorem noBlk_ok {a : Option Blk} {κ : Option ω} (h : noBlk a κ = some r) : a = none ∧ κ = some r := by
  cases a with
  | none => exact ⟨rfl, h⟩
  | some => cases h
def isExt (a : Option Blk) (κ : Option ω) : Option ω := match a with
  | some .ext => κ
  | _ => none
theorem isExt_ok {a : Option Blk} {κ : Option ω} (h : isExt a κ = some r) : a = some .ext ∧ κ = some r := by
  cases a with
  | none => cases h
  | some b => cases b <;> first | exact ⟨rfl, h⟩ | cases h
def getBox (a : Option Blk) (κ : List AV → Option ω) : Option ω := match a with
  | some (.box cs) => κ cs
  | _ => none
theorem getBox_ok {a : Option Blk} {κ : List AV → Option ω} (h : getBox a κ = some r) : ∃ cs, a = some (.box cs) ∧ κ cs = some r := by
  cases a with
  | none => cases h
  | some b => cases b <;> first | exact ⟨_, rfl, h⟩ | cases h
def getArr (m : M) (t : TC) (st : Nat) (a : Option Blk) (κ : List (El t) → Option ω) : Option ω := match a with
  | some (.arr m' t' st' xs) => cond (M.same m' m && Nat.beq st' st) (if h : t' = t then κ (h ▸ xs) else none) none
  | _ => none
theorem getArr_ok {m : M} {t : TC} {st : Nat} {a : Option Blk} {κ : List (El t) → Option ω} (h : getArr m t st a κ = some r) : ∃ xs, a = some (.arr m t st xs) ∧ κ xs = some r := by
  cases a with
  | none => cases h
  | some b =>
    cases b <;> (try (cases h; done))
    rename_i m' t' st' xs
    obtain ⟨h1, h2⟩ := b4_ h
    simp only [Bool.and_eq_true] at h1
    have e1 := M.same_eq h1.1
    have e2 := cI_.1 h1.2
    subst e1 e2
    by_cases e : t' = t
    · subst e
      simp only [dite_true] at h2
      exact ⟨xs, rfl, h2⟩
    · simp [e] at h2
inductive Sk where
  | k
  | sl (m : M) (t : TC)
  | ag (l : List Sk)
def fix1 : Sk → AV → AV
  | .sl m t, .nils => .sl m t []
  | .sl .s _, .sl .d t' xs => .sl .s t' xs
  | _, a => a
def fixL : List Sk → List AV → List AV
  | s :: ss, a :: az => fix1 s a :: fixL ss az
  | _, az => az
def fix : Sk → AV → AV
  | .ag l, .ag cs => .ag (fixL l cs)
  | s, a => fix1 s a
def ms_ : List Sk → List AV → List AV
  | s :: ss, a :: az => fix s a :: ms_ ss az
  | _, az => az
variable [ai_]
variable {E : Env} {w : World} {F : Nat → Prop}
theorem RL.shrink {F' : Nat → Prop} {l vs φ} (h : RL E w F l vs φ) (hφ : ∀ b, φ b ≠ 0 → F' b) (hF : ∀ b, F' b → F b) : RL E w F' l vs φ :=
  h.frame (Nat.le_refl _) (fun b hb => ⟨rfl, hφ b hb⟩) (fun b _ hn => ⟨rfl, fun h => hn (hF b h)⟩)
theorem dD_ [ak_] (m : M) (t : TC) (xs : List (El t)) : (bp_ m t xs).map AV.asView = bp_ .v t xs := by
  simp only [bp_, List.map_flatMap]
  congr 1
  funext x
  exact ak_.view m t x
def eN_ (E : Env) (w : World) (F : Nat → Prop) (l : List AV) (vs : List Value) (φ : Nat → Nat) : Prop :=
  ∃ δ : Nat → Nat, (∀ b, δ b ≤ φ b) ∧ RL E w (fun b => F b ∧ δ b = 0) l vs (fun b => φ b - δ b)
theorem eN_.none {l vs φ} (h : RL E w F l vs φ) : eN_ E w F l vs φ :=
  ⟨fun _ => 0, fun b => Nat.zero_le _, h.shrink (fun b hb => ⟨(h.low b hb).1, rfl⟩) fun b hb => hb.1⟩
theorem fix1_ok [ak_] {s : Sk} {a : AV} {v : Value} {φ : Nat → Nat} (h : RL E w F [a] [v] φ) (h1 : ∀ b, φ b ≤ 1) : eN_ E w F [fix1 s a] [v] φ := by
  cases s <;> (try exact eN_.none h)
  rename_i m t
  cases a <;> (try (cases m <;> exact eN_.none h))
  case nils =>
    refine eN_.none ?_
    cases h with
    | scal _ _ _ _ _ hs hn =>
      simp only [scl] at hs
      subst hs
      have h0 := (RL.nil_inv hn).2
      cases m with
      | v => exact .view t [] none 0 0 [] (fun _ => 0) _ _ _ ⟨rfl, Nat.le_refl _⟩ (.nil _ fun _ => rfl) (fun _ => rfl) (fun hp => by omega) (.nil _ h0)
      | s => exact .own .s t [] _ [] (fun _ => 0) _ _ (fun _ => 0) _ (by decide) (World.ownsRow_nil _ _ _ _) (.nil _ fun _ => rfl) (fun b hb => by simp [cr_] at hb) (.nil _ fun _ => rfl) (fun b => by rw [h0 b]; simp [cr_])
      | d => exact .own .d t [] _ [] (fun _ => 0) _ _ (fun _ => 0) _ (by decide) (World.ownsRow_nil _ _ _ _) (.nil _ fun _ => rfl) (fun b hb => by simp [cr_] at hb) (.nil _ fun _ => rfl) (fun b => by rw [h0 b]; simp [cr_])
  case sl m' t' xs =>
    cases m <;> cases m' <;> (try exact eN_.none h)
    cases h with
    | scal _ _ _ _ _ hs _ => exact hs.elim
    | own _ _ _ _ vals φ₁ _ _ φ₂ _ hm how hrl hF hn he =>
      have h0 := (RL.nil_inv hn).2
      refine ⟨φ₁, fun b => by rw [he]; omega, ?_⟩
      have hs := hrl.seen (F' := fun b => F b ∧ φ₁ b = 0) (fun b hb hc => hb hc.2) (fun b _ hn hc => hn hc.1)
      have hs2 : RL E w (fun b => F b ∧ φ₁ b = 0) (bp_ .v t' xs) vals (fun _ => 0) := by rw [dD_] at hs; exact hs
      exact .own .s t' xs v vals (fun _ => 0) _ _ (fun _ => 0) _ (by decide) how hs2 (fun b hb => ⟨hF b hb, by have := h1 b; rw [he] at this; omega⟩) (.nil _ fun _ => rfl) (fun b => by rw [he, h0 b]; omega)
theorem eN_.cons {a : AV} {v : Value} {l : List AV} {vs : List Value} {φ₁ φ₂ φ : Nat → Nat} (k1 : eN_ E w F [a] [v] φ₁) (k2 : eN_ E w F l vs φ₂) (e : ∀ b, φ b = φ₁ b + φ₂ b) (h1 : ∀ b, φ b ≤ 1) (hF : ∀ b, φ b ≠ 0 → F b) : eN_ E w F (a :: l) (v :: vs) φ := by
  obtain ⟨δ₁, a1, a2⟩ := k1
  obtain ⟨δ₂, b1, b2⟩ := k2
  refine ⟨fun b => δ₁ b + δ₂ b, fun b => by have := a1 b; have := b1 b; have := e b; show δ₁ b + δ₂ b ≤ φ b; omega, ?_⟩
  have s1 : RL E w (fun b => F b ∧ δ₁ b + δ₂ b = 0) [a] [v] (fun b => φ₁ b - δ₁ b) := a2.shrink (fun b hb => by
    have hb : φ₁ b - δ₁ b ≠ 0 := hb
    have := a1 b; have := b1 b; have := h1 b; have := e b
    exact ⟨hF b (by omega), by omega⟩) fun b hb => ⟨hb.1, by have := hb.2; omega⟩
  have s2 : RL E w (fun b => F b ∧ δ₁ b + δ₂ b = 0) l vs (fun b => φ₂ b - δ₂ b) := b2.shrink (fun b hb => by
    have hb : φ₂ b - δ₂ b ≠ 0 := hb
    have := a1 b; have := b1 b; have := h1 b; have := e b
    exact ⟨hF b (by omega), by omega⟩) fun b hb => ⟨hb.1, by have := hb.2; omega⟩
  exact s1.cons s2 (fun b => by have := a1 b; have := b1 b; have := e b; show φ b - (δ₁ b + δ₂ b) = (φ₁ b - δ₁ b) + (φ₂ b - δ₂ b); omega)
theorem fixL_ok [ak_] : ∀ {ss : List Sk} {az : List AV} {vs : List Value} {φ : Nat → Nat}, RL E w F az vs φ → (∀ b, φ b ≤ 1) → eN_ E w F (fixL ss az) vs φ
  | [], az, vs, φ, h, _ => by cases az <;> exact eN_.none h
  | s :: ss, [], vs, φ, h, _ => eN_.none h
  | s :: ss, a :: az, vs, φ, h, h1 => by
    have hF := fun b hb => (h.low b hb).1
    obtain ⟨v, vs', φ₁, φ₂, rfl, k1, k2, e⟩ := RL.uncons h
    exact (fix1_ok k1 fun b => by have := h1 b; rw [e] at this; omega).cons (fixL_ok k2 fun b => by have := h1 b; rw [e] at this; omega) e h1 hF
theorem fix_ok [ak_] {s : Sk} {a : AV} {v : Value} {φ : Nat → Nat} (h : RL E w F [a] [v] φ) (h1 : ∀ b, φ b ≤ 1) : eN_ E w F [fix s a] [v] φ := by
  by_cases hc : ∃ l cs, s = .ag l ∧ a = .ag cs
  · obtain ⟨l, cs, rfl, rfl⟩ := hc
    cases h with
    | scal _ _ _ _ _ hs _ => exact hs.elim
    | ag _ us φ₁ _ _ φ₂ _ k1 k2 he =>
      have h0 := (RL.nil_inv k2).2
      obtain ⟨δ, d1, d2⟩ := fixL_ok (ss := l) k1 fun b => by have := h1 b; rw [he] at this; omega
      exact ⟨δ, fun b => by rw [he]; have := d1 b; omega, .ag _ us _ _ _ (fun _ => 0) _ d2 (.nil _ fun _ => rfl) (fun b => by rw [he, h0 b]; omega)⟩
  · have : fix s a = fix1 s a := by
      cases s <;> (try rfl)
      cases a <;> (try rfl)
      exact absurd ⟨_, _, rfl, rfl⟩ hc
    rw [this]; exact fix1_ok h h1
theorem lH_ [ak_] : ∀ {ss : List Sk} {az : List AV} {vs : List Value} {φ : Nat → Nat}, RL E w F az vs φ → (∀ b, φ b ≤ 1) → eN_ E w F (ms_ ss az) vs φ
  | [], az, vs, φ, h, _ => by cases az <;> exact eN_.none h
  | s :: ss, [], vs, φ, h, _ => eN_.none h
  | s :: ss, a :: az, vs, φ, h, h1 => by
    have hF := fun b hb => (h.low b hb).1
    obtain ⟨v, vs', φ₁, φ₂, rfl, k1, k2, e⟩ := RL.uncons h
    exact (fix_ok k1 fun b => by have := h1 b; rw [e] at this; omega).cons (lH_ k2 fun b => by have := h1 b; rw [e] at this; omega) e h1 hF
theorem dy_.fix [ak_] {f : FuncId} {avs : List AV} {rv : AV} {outs : List AV} {ps : List PS} {ss : List Sk} (h : dy_ E f (ms_ ss avs) rv outs ps) : dy_ E f avs rv outs ps := by
  intro w F Vs φ hrl h1 hlow hgl
  obtain ⟨δ, d1, d2⟩ := lH_ (ss := ss) hrl h1
  refine (h w _ Vs _ d2 (fun b => by have := h1 b; omega) (fun b hb => hlow b hb.1) (hgl.sub fun b hb => hb.1)).mono ?_
  rintro e w' ⟨V, φ', rfl, k1, k2, k3, k4, k5, k6, k7, k8⟩
  refine ⟨V, φ', rfl, ?_, k2, fun b hb => ?_, k4, k5, k6, k7, fun b hb h0 => k8 b hb (by omega)⟩
  · have e : (fun b => ((F b ∧ δ b = 0) ∧ φ b - δ b = 0) ∨ φ' b ≠ 0) = fun b => (F b ∧ φ b = 0) ∨ φ' b ≠ 0 := by
      funext b
      have := d1 b
      refine propext (or_congr_left ⟨fun h => ⟨h.1.1, ?_⟩, fun h => ⟨⟨h.1, ?_⟩, ?_⟩⟩)
      · have h1 := h.1.2; have h2 := h.2; omega
      · have := h.2; omega
      · have := h.2; omega
    rw [← e]; exact k1
  · rcases k3 b hb with h | h
    · exact .inl (by omega)
    · exact .inr h
end Go.Pi
end
section
set_option linter.unusedVariables false
namespace Go.Pi
def sclB : AV → Value → Bool
  | .i k n, .int k' n' => decide (k = k') && decide (n = n')
  | .b p, .bool q => p == q
  | .s [], .string s => Nat.beq s.size 0
  | .nils, .slice none 0 0 => true
  | .nilp, .pointer none => true
  | .nili, .nilIface => true
  | _, _ => false
def kv_ : List AV → List Value → Bool
  | [], [] => true
  | a :: l, v :: r => sclB a v && kv_ l r
  | _, _ => false
theorem sclB_ok {a : AV} {v : Value} (h : sclB a v = true) : scl a v := by
  unfold sclB at h
  split at h <;> simp only [scl] <;> (try rfl)
  · simp only [Bool.and_eq_true, decide_eq_true_eq] at h
    rw [h.1, h.2]
  · have := eq_of_beq h
    rw [this]
  · rename_i s
    have h0 := Nat.eq_of_beq_eq_true h
    obtain ⟨⟨l⟩⟩ := s
    have : l = [] := by
      cases l with
      | nil => rfl
      | cons a l => simp [ByteArray.size] at h0
    subst this; rfl
  · cases h
theorem iB_ : ∀ {l : List AV} {r : List Value}, kv_ l r = true → AllF scl l r
  | [], [], _ => trivial
  | a :: l, v :: r, h => by
    simp only [kv_, Bool.and_eq_true] at h
    exact ⟨sclB_ok h.1, iB_ h.2⟩
  | [], _ :: _, h => by simp [kv_] at h
  | _ :: _, [], h => by simp [kv_] at h
def descB (d : TypeDesc) (td : TD) (eid : TC → TypeId) : Bool :=
  (match td.elem with
    | none => true
    | some t => match d with | .slice e => Nat.beq e (eid t) | _ => false) &&
  (match td.kind with
    | none => true
    | some k => match d with | .int k' => decide (k' = k) | _ => false) &&
  (cond td.isStr (match d with | .string => true | _ => false) true) &&
  (cond td.isBool (match d with | .bool => true | _ => false) true)
def gm_ (P : Program) : List Field → List (Nat × Nat) → Bool
  | [], [] => true
  | f :: fs, p :: ps => Nat.beq f.offset p.1 && (match P.info? f.type with | some i => Nat.beq i.size p.2 | none => false) && Nat.blt 0 p.2 && gm_ P fs ps
  | _, _ => false
def cmpB (P : Program) : Nat → List Field → List CK → Bool
  | _, [], [] => true
  | k, f :: fs, q :: qs => !(f.name == "_") && Nat.beq f.offset k && P.plainKey f.type && (match P.underlying f.type, q with
      | some (.int _), .i => true
      | some .bool, .b => true
      | some .string, .s => true
      | _, _ => false) && cmpB P (k + 1) fs qs
  | _, _, _ => false
def tdB (P : Program) (eid : TC → TypeId) (T : TypeId) (td : TD) : Bool :=
  match P.info? T, P.underlying T with
  | some i, some d =>
    Nat.beq i.size td.size && Nat.blt 0 td.size && (cond td.agg d.isRow (Nat.beq td.size 1 && !d.isRow)) &&
    (match i.zero with
      | some z => Nat.beq td.zero.length td.size && td.zero.all AV.one && kv_ td.zero z.cells.toList
      | none => false) &&
    (match td.fields with
      | [] => !td.agg
      | fs => match d with
        | .struct gs => gm_ P gs.toList fs
        | _ => false) &&
    descB d td eid &&
    (match td.cmp with
      | [] => true
      | qs => match d with
        | .struct gs => cmpB P 0 gs.toList qs && !(P.stoodInHeld T) && !(P.eqGuardType P.depth T)
        | _ => false)
  | _, _ => false
theorem ih_ {P : Program} : ∀ {fs : List Field} {ps : List (Nat × Nat)}, gm_ P fs ps = true → fs.length = ps.length ∧ ∀ (f off n : Nat), ps[f]? = some (off, n) → ∃ fd : Field, fs[f]? = some fd ∧ fd.offset = off ∧ (P.info? fd.type).map (·.size) = some n ∧ 0 < n
  | [], [], _ => ⟨rfl, fun f off n h => by simp at h⟩
  | g :: fs, p :: ps, h => by
    simp only [gm_, Bool.and_eq_true] at h
    obtain ⟨⟨⟨h1, h2⟩, h3⟩, h4⟩ := h
    obtain ⟨k1, k2⟩ := ih_ h4
    refine ⟨by simp [k1], fun f off n hf => ?_⟩
    cases f with
    | zero =>
      simp only [List.getElem?_cons_zero, Option.some.injEq] at hf
      subst hf
      refine ⟨g, rfl, Nat.eq_of_beq_eq_true h1, ?_, e4_.1 h3⟩
      cases hi : P.info? g.type with
      | none => rw [hi] at h2; cases h2
      | some i => rw [hi] at h2; simp [Nat.eq_of_beq_eq_true h2]
    | succ f => exact k2 f off n (by simpa using hf)
  | [], _ :: _, h => by simp [gm_] at h
  | _ :: _, [], h => by simp [gm_] at h
theorem cmpB_ok {P : Program} : ∀ {k0 : Nat} {fs : List Field} {qs : List CK}, cmpB P k0 fs qs = true → fs.length = qs.length ∧ ∀ (k : Nat) (f : Field) (q : CK), fs[k]? = some f → qs[k]? = some q → (f.name == "_") = false ∧ f.offset = k0 + k ∧ P.plainKey f.type = true ∧
      match q with
      | .i => ∃ kk, P.underlying f.type = some (.int kk)
      | .b => P.underlying f.type = some .bool
      | .s => P.underlying f.type = some .string
  | k0, [], [], _ => ⟨rfl, fun k f q h => by simp at h⟩
  | k0, g :: fs, p :: qs, h => by
    simp only [cmpB, Bool.and_eq_true, Bool.not_eq_true'] at h
    obtain ⟨⟨⟨⟨h1, h2⟩, h3⟩, h4⟩, h5⟩ := h
    obtain ⟨k1, k2⟩ := cmpB_ok h5
    refine ⟨by simp [k1], fun k f q hf hq => ?_⟩
    cases k with
    | zero =>
      simp only [List.getElem?_cons_zero, Option.some.injEq] at hf hq
      subst hf hq
      refine ⟨h1, Nat.eq_of_beq_eq_true h2, h3, ?_⟩
      split at h4 <;> (try (cases h4; done))
      · rename_i kk e1; exact ⟨kk, e1⟩
      · rename_i e1; exact e1
      · rename_i e1; exact e1
    | succ k =>
      obtain ⟨j1, j2, j3⟩ := k2 k f q (by simpa using hf) (by simpa using hq)
      exact ⟨j1, by omega, j3⟩
  | _, [], _ :: _, h => by simp [cmpB] at h
  | _, _ :: _, [], h => by simp [cmpB] at h
variable [ai_]
omit [ai_] in
theorem tdB_ok {E : Env} {T : TypeId} {td : TD} (h : tdB E.P E.eid T td = true) : TDok E T td := by
  unfold tdB at h
  cases hi : E.P.info? T with
  | none => rw [hi] at h; cases h
  | some i =>
    cases hu : E.P.underlying T with
    | none => rw [hi, hu] at h; cases h
    | some d =>
      rw [hi, hu] at h
      simp only [Bool.and_eq_true] at h
      obtain ⟨⟨⟨⟨⟨⟨h1, h2⟩, h3⟩, h4⟩, h5⟩, h6⟩, h7⟩ := h
      simp only [descB, Bool.and_eq_true] at h6
      obtain ⟨⟨⟨g1, g2⟩, g3⟩, g4⟩ := h6
      refine ⟨by rw [hi]; simp [Nat.eq_of_beq_eq_true h1], e4_.1 h2, fun e => ⟨d, hu, by rw [e] at h3; exact h3⟩, fun e => ?_, ?_, fun e => ?_, fun e => ?_, fun t e => ?_, fun k e => ?_, fun e => ?_, fun e => ?_, fun e => ?_⟩
      · rw [e] at h3
        simp only [cond_false, Bool.and_eq_true, Bool.not_eq_true'] at h3
        exact ⟨Nat.eq_of_beq_eq_true h3.1, d, hu, h3.2⟩
      · cases hz : i.zero with
        | none => rw [hz] at h4; cases h4
        | some z =>
          rw [hz] at h4
          simp only [Bool.and_eq_true] at h4
          exact ⟨Nat.eq_of_beq_eq_true h4.1.1, h4.1.2, i, z, z.cells.toList, hi, hz, by simp, iB_ h4.2⟩
      · cases hf : td.fields with
        | nil => exact absurd hf e
        | cons p ps =>
          rw [hf] at h5
          cases d <;> simp only at h5 <;> (try (cases h5; done))
          rename_i gs
          obtain ⟨k1, k2⟩ := ih_ h5
          exact ⟨gs, hu, by simpa using k1, fun f off n hq => by
            obtain ⟨fd, j1, j2⟩ := k2 f off n hq
            exact ⟨fd, by simpa using j1, j2⟩⟩
      · intro e'
        rw [e'] at h5
        simp only [e] at h5
        cases h5
      · rw [e] at g1
        cases d <;> simp only at g1 <;> (try (cases g1; done))
        rw [hu, Nat.eq_of_beq_eq_true g1]
      · rw [e] at g2
        cases d <;> simp only at g2 <;> (try (cases g2; done))
        rw [hu, of_decide_eq_true g2]
      · rw [e] at g3
        cases d <;> simp only [cond_true] at g3 <;> first | exact hu | cases g3
      · rw [e] at g4
        cases d <;> simp only [cond_true] at g4 <;> first | exact hu | cases g4
      · cases hq : td.cmp with
        | nil => exact absurd hq e
        | cons p ps =>
          rw [hq] at h7
          cases d <;> simp only at h7 <;> (try (cases h7; done))
          rename_i gs
          simp only [Bool.and_eq_true, Bool.not_eq_true'] at h7
          obtain ⟨k1, k2⟩ := cmpB_ok h7.1.1
          refine ⟨gs, hu, h7.1.2, h7.2, by simpa using k1, fun k f q hf hq' => ?_⟩
          obtain ⟨j1, j2, j3⟩ := k2 k f q (by simpa using hf) hq'
          exact ⟨j1, by omega, j3⟩
def fl_ {α : Type _} : List (Nat × α) → Nat → Option α
  | [], _ => none
  | (k, a) :: l, n => cond (Nat.beq n k) (some a) (fl_ l n)
def allB {α : Type _} (p : Nat → α → Bool) : List (Nat × α) → Bool
  | [] => true
  | (k, a) :: l => p k a && allB p l
omit [ai_] in
theorem ls_ {α : Type _} {p : Nat → α → Bool} : ∀ {l : List (Nat × α)} {n : Nat} {a : α}, allB p l = true → fl_ l n = some a → p n a = true
  | [], n, a, _, h => by cases h
  | (k, b) :: l, n, a, h, h' => by
    simp only [allB, Bool.and_eq_true] at h
    simp only [fl_] at h'
    cases hb : Nat.beq n k with
    | true =>
      rw [hb] at h'
      simp only [cond_true, Option.some.injEq] at h'
      have := Nat.eq_of_beq_eq_true hb
      subst this h'
      exact h.1
    | false => rw [hb] at h'; exact ls_ h.2 h'
omit [ai_] in
theorem tt_ok {E : Env} {l : List (Nat × TD)} (h : allB (tdB E.P E.eid) l = true) (T : TypeId) : TTok E T (fl_ l T) :=
  ⟨fun td ht => tdB_ok (ls_ h ht)⟩
open ai_
def tcB (P : Program) (eid : TC → TypeId) (t : TC) (zc : List AV) : Bool :=
  match P.info? (eid t) with
  | some i => Nat.beq i.size t.width && Nat.beq i.bytes t.bytes && Nat.blt 0 t.bytes && zc.all AV.one && match i.zero with
    | some z => kv_ zc z.cells.toList
    | none => false
  | none => false
theorem eG_ {E : Env} {t : TC} {zc : List AV} (h : tcB E.P E.eid t zc = true) (hz : ∀ m, sims m zc (enc m t (El.dflt t))) : TCok E t := by
  unfold tcB at h
  cases hi : E.P.info? (E.eid t) with
  | none => rw [hi] at h; cases h
  | some i =>
    rw [hi] at h
    simp only [Bool.and_eq_true] at h
    obtain ⟨⟨⟨⟨h1, h2⟩, h3⟩, h4⟩, h5⟩ := h
    cases hq : i.zero with
    | none => rw [hq] at h5; cases h5
    | some z =>
      rw [hq] at h5
      exact ⟨⟨i, z, z.cells.toList, zc, hi, hq, Nat.eq_of_beq_eq_true h1, Nat.eq_of_beq_eq_true h2, by simp, iB_ h5, h4, hz⟩, e4_.1 h3⟩
omit [ai_] in
theorem lM_ {α : Type _} {c : Bool} {a b x : α} (hc : c = true) (h : cond c a b = x) : a = x := by subst hc; exact h
omit [ai_] in
theorem lN_ {α : Type _} {c : Bool} {a b x : α} (hc : c = false) (h : cond c a b = x) : b = x := by subst hc; exact h
omit [ai_] in
theorem cond_is {α : Type _} {c : Bool} (hc : c = true) (a b : α) : cond c a b = a := by subst hc; rfl
omit [ai_] in
theorem cond_no {α : Type _} {c : Bool} (hc : c = false) (a b : α) : cond c a b = b := by subst hc; rfl
def selNil : List AV → Bool
  | .ag cs :: _ => cs.all fun | .nils => true | .i .. => true | .b _ => true | .s _ => true | _ => false
  | _ => false
def selM : List M → List AV → Bool
  | m :: ms, .sl m' _ _ :: az => (match m, m' with | .d, .d => true | .s, .s => true | .v, .v => true | _, _ => false) && selM ms az
  | _ :: ms, _ :: az => selM ms az
  | _, _ => true
def selClo (k : Nat) (avs : List AV) : Nat := match avs[k]? with
  | some (.clo g _) => g
  | _ => 0
structure Hd : Type 1 where
  K : (ω : Type) → List AV → (AV → List AV → Option ω) → Option ω
def AllP {α : Type _} (p : Nat → α → Prop) : List (Nat × α) → Prop
  | [] => True
  | (k, a) :: l => p k a ∧ AllP p l
omit [ai_] in
theorem hb_ {α : Type _} {p : Nat → α → Prop} : ∀ {l : List (Nat × α)} {n : Nat} {a : α}, AllP p l → fl_ l n = some a → p n a
  | [], n, a, _, h => by cases h
  | (k, b) :: l, n, a, h, h' => by
    simp only [fl_] at h'
    cases hb : Nat.beq n k with
    | true =>
      rw [hb] at h'
      simp only [cond_true, Option.some.injEq] at h'
      have := Nat.eq_of_beq_eq_true hb
      subst this h'
      exact h.1
    | false => rw [hb] at h'; exact hb_ h.2 h'
def KH (l : List (Nat × Hd)) (ω : Type) (f : Nat) (avs : List AV) (κ : AV → List AV → Option ω) : Option ω := match fl_ l f with
  | some h => h.K ω avs κ
  | none => none
omit [ai_] in
theorem KH_par {l : List (Nat × Hd)} {nt : Nat} {tt : Nat → Option TD} {sig : Nat → Option (List PS)} {fz : Nat → Bool} (h : AllP (fun _ (h : Hd) => ∀ (ω : Type) (avs : List AV) (κ : AV → List AV → Option ω) (q : ω), h.K ω avs κ = some q → ∃ rv outs, κ rv outs = some q ∧ ∀ (ω' : Type) (κ' : AV → List AV → Option ω'), h.K ω' avs κ' = κ' rv outs) l) :
    KPar ⟨nt, tt, sig, KH l, fz⟩ := by
  intro ω f avs κ q hK
  have hK : KH l ω f avs κ = some q := hK
  show ∃ rv outs, κ rv outs = some q ∧ ∀ (ω' : Type) (κ' : AV → List AV → Option ω'), KH l ω' f avs κ' = κ' rv outs
  unfold KH at hK ⊢
  cases hl : fl_ l f with
  | none => rw [hl] at hK; cases hK
  | some g => rw [hl] at hK; exact hb_ h hl ω avs κ q hK
theorem KH_ok {E : Env} {l : List (Nat × Hd)} {nt : Nat} {tt : Nat → Option TD} {sig : Nat → Option (List PS)} {fz : Nat → Bool} (h : AllP (fun f (h : Hd) => ∀ (ω : Type) (avs : List AV) (κ : AV → List AV → Option ω) (q : ω), h.K ω avs κ = some q → FnOk E f ∧ ∃ ps rv outs, sig f = some ps ∧ κ rv outs = some q ∧ dy_ E f avs rv outs ps) l) :
    KOk E ⟨nt, tt, sig, KH l, fz⟩ := by
  intro ω f avs κ q hK
  have hK : KH l ω f avs κ = some q := hK
  unfold KH at hK
  cases hl : fl_ l f with
  | none => rw [hl] at hK; cases hK
  | some g => rw [hl] at hK; exact hb_ h hl ω avs κ q hK
def dp_ (t : TC) (a : AV) {ω : Type} (κ : List (El t) → Option ω) : Option ω := match decSl t a with
  | some xs => κ xs
  | none => none
omit [ai_] in
theorem dt_ {t : TC} {a : AV} {ω : Type} {r : ω} {κ : List (El t) → Option ω} (h : dp_ t a κ = some r) : ∃ xs, κ xs = some r ∧ ∀ m, AV.sim m a (.sl m t xs) := by
  unfold dp_ at h
  cases hd : decSl t a with
  | none => rw [hd] at h; cases h
  | some xs =>
    rw [hd] at h
    refine ⟨xs, h, fun m => ?_⟩
    cases a <;> simp only [decSl] at hd <;> (try (cases hd; done))
    case nils => simp only [Option.some.injEq] at hd; subst hd; exact ⟨t, rfl⟩
    case sl m' t' ys =>
      by_cases e : t' = t
      · subst e
        simp only [dite_true, Option.some.injEq] at hd
        subst hd; rfl
      · simp [e] at hd
def codedB (m : M) : AV → Bool
  | .i _ _ | .b _ | .s _ => true
  | .sl m' _ _ => M.same m' m
  | _ => false
omit [ai_] in
theorem coded_of {m : M} {l : List AV} (h : l.all (codedB m) = true) (a : AV) (ha : a ∈ l) : (∃ k n, a = .i k n) ∨ (∃ q, a = .b q) ∨ (∃ l, a = .s l) ∨ ∃ t' xs, a = .sl m t' xs := by
  have := List.all_eq_true.1 h a ha
  cases a <;> simp only [codedB] at this <;> (try (cases this; done))
  · exact .inl ⟨_, _, rfl⟩
  · exact .inr (.inl ⟨_, rfl⟩)
  · exact .inr (.inr (.inl ⟨_, rfl⟩))
  · rw [M.same_eq this]; exact .inr (.inr (.inr ⟨_, _, rfl⟩))
end Go.Pi
end
section
set_option linter.unusedVariables false
namespace Go.Pi
def both {α β : Type} (a : Option α) (b : Option β) : Option (α × β) := match a with
  | some x => match b with
    | some y => some (x, y)
    | none => none
  | none => none
theorem both_ok {α β : Type} {a : Option α} {b : Option β} {z : α × β} (h : both a b = some z) : a = some z.1 ∧ b = some z.2 := by
  cases a with
  | none => cases h
  | some x => cases b with
    | none => cases h
    | some y => cases h; exact ⟨rfl, rfl⟩
inductive Pat : Type where
  | i (k : IntKind) | b | s
  | sl (m : M) (t : TC)
  | ag (ps : List Pat) | tu (ps : List Pat) | bx (ps : List Pat)
  | pc (ps : List Pat) (off : Nat)
  | clo (f : FuncId) (ps : List Pat)
  | rt (r : Nat) | pb (r off : Nat)
  | nils | nili | u
mutual
def Pat.T : Pat → Type
  | .i _ => Int
  | .b => Bool
  | .s => Bs
  | .sl _ t => List (El t)
  | .ag ps => Pat.Ts ps
  | .tu ps => Pat.Ts ps
  | .bx ps => Pat.Ts ps
  | .pc ps _ => Pat.Ts ps
  | .clo _ ps => Pat.Ts ps
  | .rt _ => Unit
  | .pb _ _ => Unit
  | .nils => Unit
  | .nili => Unit
  | .u => Unit
def Pat.Ts : List Pat → Type
  | [] => Unit
  | p :: ps => Pat.T p × Pat.Ts ps
end
mutual
def Pat.enc : (p : Pat) → Pat.T p → AV
  | .i k, n => .i k n
  | .b, q => .b q
  | .s, l => .s l
  | .sl m t, xs => .sl m t xs
  | .ag ps, x => .ag (Pat.encs ps x)
  | .tu ps, x => .tu (Pat.encs ps x)
  | .bx ps, x => .bx (Pat.encs ps x)
  | .pc ps off, x => .pc (Pat.encs ps x) off
  | .clo f ps, x => .clo f (Pat.encs ps x)
  | .rt r, _ => .rt r
  | .pb r off, _ => .pb r off
  | .nils, _ => .nils
  | .nili, _ => .nili
  | .u, _ => .u
def Pat.encs : (ps : List Pat) → Pat.Ts ps → List AV
  | [], _ => []
  | p :: ps, x => Pat.enc p x.1 :: Pat.encs ps x.2
end
mutual
def Pat.dec : (p : Pat) → AV → Option (Pat.T p)
  | .i k, a => d2_ k a fun n => some n
  | .b, a => getB a fun q => some q
  | .s, a => getS a fun l => some l
  | .sl m t, a => getSl m t a fun xs => some xs
  | .ag ps, a => getAg a fun l => Pat.decs ps l
  | .tu ps, a => getTu a fun l => Pat.decs ps l
  | .bx ps, a => getBx a fun l => Pat.decs ps l
  | .pc ps off, a => getPc off a fun l => Pat.decs ps l
  | .clo f ps, a => getClo f a fun l => Pat.decs ps l
  | .rt r, a => isRt r a (some ())
  | .pb r off, a => isPb r off a (some ())
  | .nils, a => isNils a (some ())
  | .nili, a => isNili a (some ())
  | .u, a => isU a (some ())
def Pat.decs : (ps : List Pat) → List AV → Option (Pat.Ts ps)
  | [], l => un l (some ())
  | p :: ps, l => uc l fun a l => both (Pat.dec p a) (Pat.decs ps l)
end
mutual
theorem Pat.dec_ok : ∀ (p : Pat) (a : AV) (x : Pat.T p), Pat.dec p a = some x → a = Pat.enc p x
  | .i k, a, x, h => by simp only [Pat.dec] at h; replace h := c2_ h; obtain ⟨n, rfl, h⟩ := h; cases h; simp only [Pat.enc]
  | .b, a, x, h => by simp only [Pat.dec] at h; replace h := getB_ok h; obtain ⟨n, rfl, h⟩ := h; cases h; simp only [Pat.enc]
  | .s, a, x, h => by simp only [Pat.dec] at h; replace h := hm_ h; obtain ⟨n, rfl, h⟩ := h; cases h; simp only [Pat.enc]
  | .sl m t, a, x, h => by simp only [Pat.dec] at h; replace h := getSl_ok h; obtain ⟨n, rfl, h⟩ := h; cases h; simp only [Pat.enc]
  | .ag ps, a, x, h => by simp only [Pat.dec] at h; replace h := getAg_ok h; obtain ⟨l, rfl, h⟩ := h; rw [Pat.decs_ok ps l x h]; simp only [Pat.enc]
  | .tu ps, a, x, h => by simp only [Pat.dec] at h; replace h := getTu_ok h; obtain ⟨l, rfl, h⟩ := h; rw [Pat.decs_ok ps l x h]; simp only [Pat.enc]
  | .bx ps, a, x, h => by simp only [Pat.dec] at h; replace h := getBx_ok h; obtain ⟨l, rfl, h⟩ := h; rw [Pat.decs_ok ps l x h]; simp only [Pat.enc]
  | .pc ps off, a, x, h => by simp only [Pat.dec] at h; replace h := getPc_ok h; obtain ⟨l, rfl, h⟩ := h; rw [Pat.decs_ok ps l x h]; simp only [Pat.enc]
  | .clo f ps, a, x, h => by simp only [Pat.dec] at h; replace h := getClo_ok h; obtain ⟨l, rfl, h⟩ := h; rw [Pat.decs_ok ps l x h]; simp only [Pat.enc]
  | .rt r, a, x, h => by simp only [Pat.dec] at h; replace h := isRt_ok h; obtain ⟨rfl, h⟩ := h; simp only [Pat.enc]
  | .pb r off, a, x, h => by simp only [Pat.dec] at h; replace h := isPb_ok h; obtain ⟨rfl, h⟩ := h; simp only [Pat.enc]
  | .nils, a, x, h => by simp only [Pat.dec] at h; replace h := isNils_ok h; obtain ⟨rfl, h⟩ := h; simp only [Pat.enc]
  | .nili, a, x, h => by simp only [Pat.dec] at h; replace h := isNili_ok h; obtain ⟨rfl, h⟩ := h; simp only [Pat.enc]
  | .u, a, x, h => by simp only [Pat.dec] at h; replace h := isU_ok h; obtain ⟨rfl, h⟩ := h; simp only [Pat.enc]
theorem Pat.decs_ok : ∀ (ps : List Pat) (l : List AV) (x : Pat.Ts ps), Pat.decs ps l = some x → l = Pat.encs ps x
  | [], l, x, h => by simp only [Pat.decs] at h; replace h := fH_ h; obtain ⟨rfl, h⟩ := h; simp only [Pat.encs]
  | p :: ps, l, x, h => by
    simp only [Pat.decs] at h
    replace h := db_ h; obtain ⟨a, l, rfl, h⟩ := h
    obtain ⟨h1, h2⟩ := both_ok h
    rw [Pat.dec_ok p a x.1 h1, Pat.decs_ok ps l x.2 h2]
    simp only [Pat.encs]
end
inductive BPat : Type where
  | ext | non
  | box (ps : List Pat)
  | arr (m : M) (t : TC) (st : Nat)
def BPat.T : BPat → Type
  | .ext => Unit
  | .non => Unit
  | .box ps => Pat.Ts ps
  | .arr _ t _ => List (El t)
def BPat.Ts : List BPat → Type
  | [] => Unit
  | p :: ps => BPat.T p × BPat.Ts ps
def BPat.enc : (p : BPat) → BPat.T p → Option Blk
  | .ext, _ => some .ext
  | .non, _ => none
  | .box ps, x => some (.box (Pat.encs ps x))
  | .arr m t st, xs => some (.arr m t st xs)
def BPat.encs : (ps : List BPat) → BPat.Ts ps → List (Option Blk)
  | [], _ => []
  | p :: ps, x => BPat.enc p x.1 :: BPat.encs ps x.2
def BPat.dec : (p : BPat) → Option Blk → Option (BPat.T p)
  | .ext, a => isExt a (some ())
  | .non, a => noBlk a (some ())
  | .box ps, a => getBox a fun l => Pat.decs ps l
  | .arr m t st, a => getArr m t st a fun xs => some xs
def BPat.decs : (ps : List BPat) → List (Option Blk) → Option (BPat.Ts ps)
  | [], l => un l (some ())
  | p :: ps, l => uc l fun a l => both (BPat.dec p a) (BPat.decs ps l)
theorem BPat.dec_ok (p : BPat) (a : Option Blk) (x : BPat.T p) (h : BPat.dec p a = some x) : a = BPat.enc p x := by
  cases p with
  | ext => obtain ⟨rfl, _⟩ := isExt_ok h; rfl
  | non => obtain ⟨rfl, _⟩ := noBlk_ok h; rfl
  | box ps => replace h := getBox_ok h; obtain ⟨l, rfl, h⟩ := h; rw [Pat.decs_ok ps l x h]; rfl
  | arr m t st => replace h := getArr_ok h; obtain ⟨l, rfl, h⟩ := h; cases h; rfl
theorem BPat.decs_ok : ∀ (ps : List BPat) (l : List (Option Blk)) (x : BPat.Ts ps), BPat.decs ps l = some x → l = BPat.encs ps x
  | [], l, x, h => by simp only [BPat.decs] at h; replace h := fH_ h; obtain ⟨rfl, h⟩ := h; rfl
  | p :: ps, l, x, h => by
    simp only [BPat.decs] at h
    replace h := db_ h; obtain ⟨a, l, rfl, h⟩ := h
    obtain ⟨h1, h2⟩ := both_ok h
    rw [BPat.dec_ok p a x.1 h1, BPat.decs_ok ps l x.2 h2]
    rfl
def piece {R : Type} (vp : List Pat) (bp : List BPat) (v : List AV) (b : List (Option Blk)) (g : Pat.Ts vp → BPat.Ts bp → Option R) : Option R :=
  match Pat.decs vp v with
  | some x => (match BPat.decs bp b with
    | some y => g x y
    | none => none)
  | none => none
theorem piece_ok {R : Type} {vp : List Pat} {bp : List BPat} {v : List AV} {b : List (Option Blk)} {g : Pat.Ts vp → BPat.Ts bp → Option R} {r : R} (h : piece vp bp v b g = some r) :
    ∃ x y, v = Pat.encs vp x ∧ b = BPat.encs bp y ∧ g x y = some r := by
  unfold piece at h
  cases h1 : Pat.decs vp v with
  | none => rw [h1] at h; cases h
  | some x =>
    rw [h1] at h
    cases h2 : BPat.decs bp b with
    | none => rw [h2] at h; cases h
    | some y => rw [h2] at h; exact ⟨x, y, Pat.decs_ok _ _ _ h1, BPat.decs_ok _ _ _ h2, h⟩
def finP {R : Type} (ps : List Pat) (k : Pat.Ts ps → R) (o : List AV) : Option R := match Pat.decs ps o with
  | some x => some (k x)
  | none => none
theorem finP_ok {R : Type} {ps : List Pat} {k : Pat.Ts ps → R} {inj : R → List AV} (hk : ∀ x, Pat.encs ps x = inj (k x)) {o : List AV} {r : R} (h : finP ps k o = some r) : o = inj r := by
  unfold finP at h
  cases h1 : Pat.decs ps o with
  | none => rw [h1] at h; cases h
  | some x =>
    rw [h1] at h
    cases h
    rw [Pat.decs_ok _ _ _ h1, hk]
end Go.Pi
end
section
set_option linter.unusedVariables false
namespace Go.Pi
def mkK {R : Type} (ss : List Sk) (ps : List Pat) (f : Pat.Ts ps → Option R) (rv : R → AV) (outs : R → List AV) {ω : Type} (avs : List AV) (κ : AV → List AV → Option ω) : Option ω :=
  match Pat.decs ps (ms_ ss avs) with
  | some x => (f x).bind fun r => κ (rv r) (outs r)
  | none => none
theorem mkK_par {R : Type} {ss : List Sk} {ps : List Pat} {f : Pat.Ts ps → Option R} {rv : R → AV} {outs : R → List AV} {ω : Type} {avs : List AV} {κ : AV → List AV → Option ω} {q : ω} (h : mkK ss ps f rv outs avs κ = some q) :
    ∃ r o, κ r o = some q ∧ ∀ (ω' : Type) (κ' : AV → List AV → Option ω'), mkK ss ps f rv outs avs κ' = κ' r o := by
  unfold mkK at h
  cases hd : Pat.decs ps (ms_ ss avs) with
  | none => rw [hd] at h; cases h
  | some x =>
    rw [hd] at h
    simp only at h
    cases hf : f x with
    | none => rw [hf] at h; cases h
    | some r =>
      rw [hf] at h
      exact ⟨_, _, h, fun ω' κ' => by unfold mkK; rw [hd]; simp only [hf]; rfl⟩
variable [ai_]
theorem mkK_ok [ak_] {E : Env} {fid : FuncId} {sg : Option (List PS)} {R : Type} {ss : List Sk} {ps : List Pat} {f : Pat.Ts ps → Option R} {rv : R → AV} {outs : R → List AV} {pss : List PS} (hfn : FnOk E fid) (hsig : sg = some pss)
    (ho : ∀ x r, f x = some r → dy_ E fid (Pat.encs ps x) (rv r) (outs r) pss) {ω : Type} {avs : List AV} {κ : AV → List AV → Option ω} {q : ω} (h : mkK ss ps f rv outs avs κ = some q) :
    FnOk E fid ∧ ∃ ps' r o, sg = some ps' ∧ κ r o = some q ∧ dy_ E fid avs r o ps' := by
  unfold mkK at h
  cases hd : Pat.decs ps (ms_ ss avs) with
  | none => rw [hd] at h; cases h
  | some x =>
    rw [hd] at h
    simp only at h
    cases hf : f x with
    | none => rw [hf] at h; cases h
    | some r =>
      rw [hf] at h
      exact ⟨hfn, pss, _, _, hsig, h, dy_.fix (ss := ss) (by rw [Pat.decs_ok _ _ _ hd]; exact ho x r hf)⟩
end Go.Pi
end
section
set_option linter.unusedVariables false
set_option linter.unusedSectionVars false
namespace Go.Pi
mutual
def Pat.C : Pat → Type → Type
  | .i _, α => Int → α
  | .b, α => Bool → α
  | .s, α => Bs → α
  | .sl _ t, α => List (El t) → α
  | .ag ps, α => Pat.Cs ps α
  | .tu ps, α => Pat.Cs ps α
  | .bx ps, α => Pat.Cs ps α
  | .pc ps _, α => Pat.Cs ps α
  | .clo _ ps, α => Pat.Cs ps α
  | .rt _, α => α
  | .pb _ _, α => α
  | .nils, α => α
  | .nili, α => α
  | .u, α => α
def Pat.Cs : List Pat → Type → Type
  | [], α => α
  | p :: ps, α => Pat.C p (Pat.Cs ps α)
end
mutual
def Pat.ap : (p : Pat) → (α : Type) → Pat.C p α → Pat.T p → α
  | .i _, _, f, x => f x
  | .b, _, f, x => f x
  | .s, _, f, x => f x
  | .sl _ _, _, f, x => f x
  | .ag ps, α, f, x => Pat.aps ps α f x
  | .tu ps, α, f, x => Pat.aps ps α f x
  | .bx ps, α, f, x => Pat.aps ps α f x
  | .pc ps _, α, f, x => Pat.aps ps α f x
  | .clo _ ps, α, f, x => Pat.aps ps α f x
  | .rt _, _, f, _ => f
  | .pb _ _, _, f, _ => f
  | .nils, _, f, _ => f
  | .nili, _, f, _ => f
  | .u, _, f, _ => f
def Pat.aps : (ps : List Pat) → (α : Type) → Pat.Cs ps α → Pat.Ts ps → α
  | [], _, f, _ => f
  | p :: ps, α, f, x => Pat.aps ps α (Pat.ap p (Pat.Cs ps α) f x.1) x.2
end
mutual
def Pat.lm : (p : Pat) → (α : Type) → (Pat.T p → α) → Pat.C p α
  | .i _, _, f => f
  | .b, _, f => f
  | .s, _, f => f
  | .sl _ _, _, f => f
  | .ag ps, α, f => Pat.lms ps α f
  | .tu ps, α, f => Pat.lms ps α f
  | .bx ps, α, f => Pat.lms ps α f
  | .pc ps _, α, f => Pat.lms ps α f
  | .clo _ ps, α, f => Pat.lms ps α f
  | .rt _, _, f => f ()
  | .pb _ _, _, f => f ()
  | .nils, _, f => f ()
  | .nili, _, f => f ()
  | .u, _, f => f ()
def Pat.lms : (ps : List Pat) → (α : Type) → (Pat.Ts ps → α) → Pat.Cs ps α
  | [], _, f => f ()
  | p :: ps, α, f => Pat.lm p (Pat.Cs ps α) fun a => Pat.lms ps α fun r => f (a, r)
end
mutual
theorem Pat.ap_lm : ∀ (p : Pat) (α : Type) (f : Pat.T p → α) (x : Pat.T p), Pat.ap p α (Pat.lm p α f) x = f x
  | .i _, _, f, x => rfl
  | .b, _, f, x => rfl
  | .s, _, f, x => rfl
  | .sl _ _, _, f, x => rfl
  | .ag ps, α, f, x => Pat.aps_lms ps α f x
  | .tu ps, α, f, x => Pat.aps_lms ps α f x
  | .bx ps, α, f, x => Pat.aps_lms ps α f x
  | .pc ps _, α, f, x => Pat.aps_lms ps α f x
  | .clo _ ps, α, f, x => Pat.aps_lms ps α f x
  | .rt _, _, f, x => rfl
  | .pb _ _, _, f, x => rfl
  | .nils, _, f, x => rfl
  | .nili, _, f, x => rfl
  | .u, _, f, x => rfl
theorem Pat.aps_lms : ∀ (ps : List Pat) (α : Type) (f : Pat.Ts ps → α) (x : Pat.Ts ps), Pat.aps ps α (Pat.lms ps α f) x = f x
  | [], _, f, x => rfl
  | p :: ps, α, f, x => by
    show Pat.aps ps α (Pat.ap p (Pat.Cs ps α) (Pat.lm p (Pat.Cs ps α) fun a => Pat.lms ps α fun r => f (a, r)) x.1) x.2 = f x
    rw [Pat.ap_lm p _ _ x.1, Pat.aps_lms ps α _ x.2]
    rfl
end
mutual
theorem Pat.lm_ap : ∀ (p : Pat) (α : Type) (f : Pat.C p α), Pat.lm p α (Pat.ap p α f) = f
  | .i _, _, f => rfl
  | .b, _, f => rfl
  | .s, _, f => rfl
  | .sl _ _, _, f => rfl
  | .ag ps, α, f => Pat.lms_aps ps α f
  | .tu ps, α, f => Pat.lms_aps ps α f
  | .bx ps, α, f => Pat.lms_aps ps α f
  | .pc ps _, α, f => Pat.lms_aps ps α f
  | .clo _ ps, α, f => Pat.lms_aps ps α f
  | .rt _, _, f => rfl
  | .pb _ _, _, f => rfl
  | .nils, _, f => rfl
  | .nili, _, f => rfl
  | .u, _, f => rfl
theorem Pat.lms_aps : ∀ (ps : List Pat) (α : Type) (f : Pat.Cs ps α), Pat.lms ps α (Pat.aps ps α f) = f
  | [], _, f => rfl
  | p :: ps, α, f => by
    show Pat.lm p (Pat.Cs ps α) (fun a => Pat.lms ps α (Pat.aps ps α (Pat.ap p (Pat.Cs ps α) f a))) = f
    rw [show (fun a => Pat.lms ps α (Pat.aps ps α (Pat.ap p (Pat.Cs ps α) f a))) = Pat.ap p (Pat.Cs ps α) f from funext fun a => Pat.lms_aps ps α _]
    exact Pat.lm_ap p _ f
end
def BPat.C : BPat → Type → Type
  | .ext, α => α
  | .non, α => α
  | .box ps, α => Pat.Cs ps α
  | .arr _ t _, α => List (El t) → α
def BPat.Cs : List BPat → Type → Type
  | [], α => α
  | p :: ps, α => BPat.C p (BPat.Cs ps α)
def BPat.ap : (p : BPat) → (α : Type) → BPat.C p α → BPat.T p → α
  | .ext, _, f, _ => f
  | .non, _, f, _ => f
  | .box ps, α, f, x => Pat.aps ps α f x
  | .arr _ _ _, _, f, x => f x
def BPat.aps : (ps : List BPat) → (α : Type) → BPat.Cs ps α → BPat.Ts ps → α
  | [], _, f, _ => f
  | p :: ps, α, f, x => BPat.aps ps α (BPat.ap p (BPat.Cs ps α) f x.1) x.2
def BPat.lm : (p : BPat) → (α : Type) → (BPat.T p → α) → BPat.C p α
  | .ext, _, f => f ()
  | .non, _, f => f ()
  | .box ps, α, f => Pat.lms ps α f
  | .arr _ _ _, _, f => f
def BPat.lms : (ps : List BPat) → (α : Type) → (BPat.Ts ps → α) → BPat.Cs ps α
  | [], _, f => f ()
  | p :: ps, α, f => BPat.lm p (BPat.Cs ps α) fun a => BPat.lms ps α fun r => f (a, r)
theorem BPat.ap_lm (p : BPat) (α : Type) (f : BPat.T p → α) (x : BPat.T p) : BPat.ap p α (BPat.lm p α f) x = f x := by
  cases p with
  | ext => rfl
  | non => rfl
  | box ps => exact Pat.aps_lms ps α f x
  | arr m t st => rfl
theorem BPat.lm_ap (p : BPat) (α : Type) (f : BPat.C p α) : BPat.lm p α (BPat.ap p α f) = f := by
  cases p with
  | ext => rfl
  | non => rfl
  | box ps => exact Pat.lms_aps ps α f
  | arr m t st => rfl
theorem BPat.aps_lms : ∀ (ps : List BPat) (α : Type) (f : BPat.Ts ps → α) (x : BPat.Ts ps), BPat.aps ps α (BPat.lms ps α f) x = f x
  | [], _, f, x => rfl
  | p :: ps, α, f, x => by
    show BPat.aps ps α (BPat.ap p (BPat.Cs ps α) (BPat.lm p (BPat.Cs ps α) fun a => BPat.lms ps α fun r => f (a, r)) x.1) x.2 = f x
    rw [BPat.ap_lm p _ _ x.1, BPat.aps_lms ps α _ x.2]
    rfl
theorem BPat.lms_aps : ∀ (ps : List BPat) (α : Type) (f : BPat.Cs ps α), BPat.lms ps α (BPat.aps ps α f) = f
  | [], _, f => rfl
  | p :: ps, α, f => by
    show BPat.lm p (BPat.Cs ps α) (fun a => BPat.lms ps α (BPat.aps ps α (BPat.ap p (BPat.Cs ps α) f a))) = f
    rw [show (fun a => BPat.lms ps α (BPat.aps ps α (BPat.ap p (BPat.Cs ps α) f a))) = BPat.ap p (BPat.Cs ps α) f from funext fun a => BPat.lms_aps ps α _]
    exact BPat.lm_ap p _ f
structure OD where
  live : Live
  vp : List Pat
  bp : List BPat
abbrev OD.Cu (o : OD) (α : Type) : Type := Pat.Cs o.vp (BPat.Cs o.bp α)
def OD.ap (o : OD) {α : Type} (f : o.Cu α) (x : Pat.Ts o.vp) (y : BPat.Ts o.bp) : α := BPat.aps o.bp α (Pat.aps o.vp _ f x) y
def OD.lm (o : OD) {α : Type} (g : Pat.Ts o.vp → BPat.Ts o.bp → α) : o.Cu α := Pat.lms o.vp _ fun x => BPat.lms o.bp α fun y => g x y
theorem OD.ap_lm (o : OD) {α : Type} (g : Pat.Ts o.vp → BPat.Ts o.bp → α) (x : Pat.Ts o.vp) (y : BPat.Ts o.bp) : o.ap (o.lm g) x y = g x y := by
  unfold OD.ap OD.lm; rw [Pat.aps_lms, BPat.aps_lms]
theorem OD.lm_ap (o : OD) {α : Type} (f : o.Cu α) : o.lm (fun x y => o.ap f x y) = f := by
  unfold OD.ap OD.lm
  rw [show (fun x => BPat.lms o.bp α fun y => BPat.aps o.bp α (Pat.aps o.vp _ f x) y) = Pat.aps o.vp _ f from funext fun x => BPat.lms_aps _ _ _]
  exact Pat.lms_aps _ _ _
def OD.k {R : Type} (o : OD) (κ : D R) : o.Cu (Option R) := o.lm fun x y => κ (Pat.encs o.vp x) (BPat.encs o.bp y)
def PFs (R : Type) : List (Nat × OD) → Type
  | [] => Unit
  | (_, o) :: l => (D R → (Nat → D R) → o.Cu (Option R)) × PFs R l
structure FD (R : Type) where
  fid : Nat
  nt : Nat
  e : Nat
  ps : List Pat
  rp : List Pat
  toR : Pat.Ts rp → R
  ofR : R → Pat.Ts rp
  sig : List PS
  rps : List PS
  rsh : List Sh
  rs : List ResultVar
  outs : List AV
  cut : List (Nat × OD)
  nxt : List (Nat × OD)
  out : List (Nat × OD)
variable {R : Type}
abbrev FD.nres (d : FD R) : Nat := d.rs.length
abbrev FD.Fs (d : FD R) : Type := PFs R d.cut
def liveOf (l : List (Nat × OD)) (k : Nat) : Live := match fl_ l k with
  | some o => o.live
  | none => []
def FD.ann (d : FD R) : Ann := ⟨fun k => match fl_ d.cut k with
  | some o => some o.live
  | none => none, liveOf d.nxt, liveOf d.out⟩
def FD.inj (d : FD R) (r : R) : List AV := Pat.encs d.rp (d.ofR r)
def FD.fin (d : FD R) (o : List AV) : Option R := match Pat.decs d.rp o with
  | some x => some (d.toR x)
  | none => none
def lfL : (l : List (Nat × OD)) → PFs R l → LF R
  | [], _, _, _, _, _, _ => none
  | (k, o) :: l, fs, key, κd, κe, v, b => cond (Nat.beq key k) (piece o.vp o.bp v b fun x y => o.ap (fs.1 κd κe) x y) (lfL l fs.2 key κd κe v b)
def AllQ (q : Nat → (o : OD) → (D R → (Nat → D R) → o.Cu (Option R)) → Prop) : (l : List (Nat × OD)) → PFs R l → Prop
  | [], _ => True
  | (k, o) :: l, fs => q k o fs.1 ∧ AllQ q l fs.2
theorem AllQ.nil {q : Nat → (o : OD) → (D R → (Nat → D R) → o.Cu (Option R)) → Prop} {u : PFs R []} : AllQ q [] u := trivial
theorem AllQ.cons {q : Nat → (o : OD) → (D R → (Nat → D R) → o.Cu (Option R)) → Prop} {k : Nat} {o : OD} {l : List (Nat × OD)} {fs : PFs R ((k, o) :: l)} (h : q k o fs.1) (hl : AllQ q l fs.2) : AllQ q ((k, o) :: l) fs := ⟨h, hl⟩
def hr_ : Option hQ_ → Code
  | some (.loop a _) => a
  | some (.tail a _) => a
  | none => .skip
def kE_ : Option hQ_ → Nat
  | some (.loop _ k) => k
  | some (.tail _ k) => k
  | none => 0
def isLoopB : Option hQ_ → Bool
  | some (.loop _ _) => true
  | _ => false
def isTailB : Option hQ_ → Bool
  | some (.tail _ _) => true
  | _ => false
theorem isLoop_eq {p : Option hQ_} (h : isLoopB p = true) : p = some (.loop (hr_ p) (kE_ p)) := by
  match p, h with
  | some (.loop a k), _ => rfl
theorem isTail_eq {p : Option hQ_} (h : isTailB p = true) : p = some (.tail (hr_ p) (kE_ p)) := by
  match p, h with
  | some (.tail a k), _ => rfl
def bY_ (fn : Func) : Code := match fn.body with
  | some c => c
  | none => .skip
mutual
def Pat.sk : Pat → Sk
  | .sl m t => .sl m t
  | .ag ps => .ag (Pat.sks ps)
  | _ => .k
def Pat.sks : List Pat → List Sk
  | [] => []
  | p :: ps => Pat.sk p :: Pat.sks ps
end
theorem Pat.encs_length : ∀ (ps : List Pat) (x : Pat.Ts ps), (Pat.encs ps x).length = ps.length
  | [], _ => rfl
  | p :: ps, x => by simp only [Pat.encs, List.length_cons, Pat.encs_length ps x.2]
section
variable [ai_]
def FD.kr (d : FD R) (c : Cx) : St → Option R := retK c d.rsh d.rps d.rs d.outs d.fin
def FD.at (d : FD R) (B : Code) (key : Nat) : Option hQ_ := cB_ d.ann B 0 key
def FD.Round (d : FD R) (fs : d.Fs) (c : Cx) (B : Code) (key : Nat) (o : OD) (step : (Nat → D R) → o.Cu (Option R) → o.Cu (Option R)) : Prop :=
  ∀ (κ : D R) (κe : Nat → D R) (x : Pat.Ts o.vp) (y : BPat.Ts o.bp), run c d.e d.ann (lfL d.cut fs) (d.kr c) (hr_ (d.at B key)) (kE_ (d.at B key)) (fun s => kS_ d.e o.live s κ) (fun j s => kS_ d.e (d.ann.out j) s (κe j)) (St.ofC o.live (Pat.encs o.vp x) (BPat.encs o.bp y)) =
    o.ap (step κe (o.k κ)) x y
def FD.Tail (d : FD R) (fs : d.Fs) (c : Cx) (B : Code) (key : Nat) (o : OD) (f : D R → (Nat → D R) → o.Cu (Option R)) : Prop :=
  ∀ (κd : D R) (κe : Nat → D R) (x : Pat.Ts o.vp) (y : BPat.Ts o.bp), run c d.e d.ann (lfL d.cut fs) (d.kr c) (hr_ (d.at B key)) (kE_ (d.at B key)) (fun s => kS_ d.e (d.ann.nxt key) s κd) (fun j s => kS_ d.e (d.ann.out j) s (κe j)) (St.ofC o.live (Pat.encs o.vp x) (BPat.encs o.bp y)) =
    o.ap (f κd κe) x y
def FD.PieceOk (d : FD R) (fs : d.Fs) (c : Cx) (B : Code) (key : Nat) (o : OD) (f : D R → (Nat → D R) → o.Cu (Option R)) : Prop :=
  ∀ (κd : D R) (κe : Nat → D R) (x : Pat.Ts o.vp) (y : BPat.Ts o.bp) (r : R), o.ap (f κd κe) x y = some r →
    ∃ q, cB_ d.ann B 0 key = some q ∧ pieceIs c d.e d.ann (lfL d.cut fs) (d.kr c) key o.live κd κe (Pat.encs o.vp x) (BPat.encs o.bp y) r q
theorem FD.rounds_eq {d : FD R} {fs : d.Fs} {c : Cx} {B : Code} {key : Nat} {o : OD} {step : (Nat → D R) → o.Cu (Option R) → o.Cu (Option R)} (h : d.Round fs c B key o step) (κe : Nat → D R) :
    ∀ (N : Nat) (x : Pat.Ts o.vp) (y : BPat.Ts o.bp), js_ c d.e d.ann (lfL d.cut fs) (d.kr c) (hr_ (d.at B key)) (kE_ (d.at B key)) o.live κe N (Pat.encs o.vp x) (BPat.encs o.bp y) = o.ap (cK_ (o.lm fun _ _ => none) (step κe) N) x y
  | 0, x, y => (o.ap_lm (fun _ _ => (none : Option R)) x y).symm
  | N + 1, x, y => by
    show run c d.e d.ann (lfL d.cut fs) (d.kr c) (hr_ (d.at B key)) (kE_ (d.at B key)) (fun s => kS_ d.e o.live s (js_ c d.e d.ann (lfL d.cut fs) (d.kr c) (hr_ (d.at B key)) (kE_ (d.at B key)) o.live κe N)) (fun j s => kS_ d.e (d.ann.out j) s (κe j)) (St.ofC o.live (Pat.encs o.vp x) (BPat.encs o.bp y)) = o.ap (step κe (cK_ (o.lm fun _ _ => none) (step κe) N)) x y
    rw [h]
    congr 2
    unfold OD.k
    rw [← o.lm_ap (cK_ (o.lm fun _ _ => none) (step κe) N)]
    congr 1
    funext x y
    exact FD.rounds_eq h κe N x y
theorem FD.lp {d : FD R} {fs : d.Fs} {c : Cx} {B : Code} {key : Nat} {o : OD} {f : D R → (Nat → D R) → o.Cu (Option R)} {step : (Nat → D R) → o.Cu (Option R) → o.Cu (Option R)} (N : Nat) (hr : d.Round fs c B key o step) (h1 : isLoopB (d.at B key) = true)
    (hf : ∀ κd κe, f κd κe = cK_ (o.lm fun _ _ => none) (step κe) N) : d.PieceOk fs c B key o f := by
  intro κd κe x y r h
  refine ⟨_, isLoop_eq h1, N, (FD.rounds_eq hr κe N x y).trans ?_⟩
  rw [← hf κd κe]
  exact h
theorem FD.tl {d : FD R} {fs : d.Fs} {c : Cx} {B : Code} {key : Nat} {o : OD} {f : D R → (Nat → D R) → o.Cu (Option R)} (hr : d.Tail fs c B key o f) (h1 : isTailB (d.at B key) = true) : d.PieceOk fs c B key o f := by
  intro κd κe x y r h
  exact ⟨_, isTail_eq h1, (hr κd κe x y).trans h⟩
theorem lt_ : ∀ {l : List (Nat × OD)} {fs : PFs R l} {q : Nat → (o : OD) → (D R → (Nat → D R) → o.Cu (Option R)) → Prop} {key : Nat} {κd : D R} {κe : Nat → D R} {v : List AV} {b : List (Option Blk)} {r : R}, AllQ q l fs → lfL l fs key κd κe v b = some r →
    ∃ o f x y, fl_ l key = some o ∧ q key o f ∧ v = Pat.encs o.vp x ∧ b = BPat.encs o.bp y ∧ o.ap (f κd κe) x y = some r
  | [], _, _, _, _, _, _, _, _, _, h => by cases h
  | (k, o) :: l, fs, q, key, κd, κe, v, b, r, ha, h => by
    simp only [lfL] at h
    cases hk : Nat.beq key k with
    | true =>
      rw [hk] at h
      simp only [cond_true] at h
      obtain ⟨x, y, h1, h2, h3⟩ := piece_ok h
      have := cI_.1 hk
      subst this
      exact ⟨o, _, x, y, by simp only [fl_, hk, cond_true], ha.1, h1, h2, h3⟩
    | false =>
      rw [hk] at h
      simp only [cond_false] at h
      obtain ⟨o', f, x, y, h0, h1⟩ := lt_ ha.2 h
      exact ⟨o', f, x, y, by simp only [fl_, hk, cond_false]; exact h0, h1⟩
theorem FD.cuts {d : FD R} {fs : d.Fs} {c : Cx} {B : Code} (h : AllQ (fun key o f => d.PieceOk fs c B key o f) d.cut fs) : Cuts c d.e d.ann (lfL d.cut fs) (d.kr c) B := by
  intro key κd κe v b r hl
  obtain ⟨o, f, x, y, h0, hp, rfl, rfl, h3⟩ := lt_ h hl
  obtain ⟨q, h4, h5⟩ := hp κd κe x y r h3
  exact ⟨o.live, q, by simp only [FD.ann, h0], h4, h5⟩
theorem FD.fin_ok {d : FD R} (hi : ∀ x, d.ofR (d.toR x) = x) (o : List AV) (r : R) (h : d.fin o = some r) : o = d.inj r := by
  unfold FD.fin at h
  cases h1 : Pat.decs d.rp o with
  | none => rw [h1] at h; cases h
  | some x =>
    rw [h1] at h
    simp only [Option.some.injEq] at h
    subst h
    rw [Pat.decs_ok _ _ _ h1, FD.inj, hi]
def FD.whole (d : FD R) (fs : d.Fs) (c : Cx) (B : Code) (x : Pat.Ts d.ps) : Option R :=
  lJ_ d.e (Pat.encs d.ps x) fun v b => match dm_ d.sig v with
    | some o => cond (AV.allRoots o d.outs) (run c d.e d.ann (lfL d.cut fs) (d.kr c) B 0 (d.kr c) (fun _ _ => none) (St.ofC (me_ d.ps.length) v b)) none
    | none => none
def FD.Ok (d : FD R) (E : Env) (F : Pat.Ts d.ps → Option R) : Prop :=
  ∀ x r, F x = some r → dy_ E d.fid (Pat.encs d.ps x) (rvOf d.nres (d.inj r)) ((d.inj r).drop d.nres) d.sig
def FD.K (d : FD R) (F : Pat.Ts d.ps → Option R) {ω : Type} (avs : List AV) (κ : AV → List AV → Option ω) : Option ω :=
  mkK (Pat.sks d.ps) d.ps F (fun r => rvOf d.nres (d.inj r)) (fun r => (d.inj r).drop d.nres) avs κ
theorem FD.kpar {d : FD R} {F : Pat.Ts d.ps → Option R} {ω : Type} {avs : List AV} {κ : AV → List AV → Option ω} {q : ω} (h : d.K F avs κ = some q) :
    ∃ r o, κ r o = some q ∧ ∀ (ω' : Type) (κ' : AV → List AV → Option ω'), d.K F avs κ' = κ' r o := mkK_par h
theorem FD.kok [ak_] {E : Env} {d : FD R} {F : Pat.Ts d.ps → Option R} {sg : Option (List PS)} (hfn : FnOk E d.fid) (hsig : sg = some d.sig) (ho : d.Ok E F) {ω : Type} {avs : List AV} {κ : AV → List AV → Option ω} {q : ω} (h : d.K F avs κ = some q) :
    FnOk E d.fid ∧ ∃ ps' r o, sg = some ps' ∧ κ r o = some q ∧ dy_ E d.fid avs r o ps' := mkK_ok hfn hsig ho h
def notNG (fn : Func) : Bool := !(decide (fn.name = "runtime.NumGoroutine"))
theorem FD.kf [ak_] {E : Env} {d : FD R} {F : Pat.Ts d.ps → Option R} {sg : Option (List PS)} {fn : Func} (hfn : E.P.funcs[d.fid]? = some fn) (h1 : notNG fn = true) (h2 : fn.body = some (bY_ fn)) (hsig : sg = some d.sig) (ho : d.Ok E F) (ω : Type) (avs : List AV) (κ : AV → List AV → Option ω) (q : ω) (h : d.K F avs κ = some q) :
    FnOk E d.fid ∧ ∃ ps' r o, sg = some ps' ∧ κ r o = some q ∧ dy_ E d.fid avs r o ps' :=
  FD.kok ⟨fn, _, hfn, fun e => by simp [notNG, e] at h1, h2⟩ hsig ho h
theorem FD.kp {d : FD R} {F : Pat.Ts d.ps → Option R} (ω : Type) (avs : List AV) (κ : AV → List AV → Option ω) (q : ω) (h : d.K F avs κ = some q) :
    ∃ r o, κ r o = some q ∧ ∀ (ω' : Type) (κ' : AV → List AV → Option ω'), d.K F avs κ' = κ' r o := FD.kpar h
theorem FD.ok [ak_] {E : Env} {d : FD R} {fs : d.Fs} {c : Cx} {fn : Func} {F : Pat.Ts d.ps → Option R} (hm : E.P.follows .mixedOrders = true) (hfn : E.P.funcs[d.fid]? = some fn) (hbody : fn.body = some (bY_ fn)) (hres : fn.results = List.toArray d.rs)
    (hnt : fn.ntmps = c.nt) (he : Nat.blt 0 d.e = true) (hi : ∀ x, d.ofR (d.toR x) = x) (hn : Nat.ble d.ps.length c.nt = true) (top : ∀ x, d.whole fs c (bY_ fn) x = F x)
    (cuts : AllQ (fun key o f => d.PieceOk fs c (bY_ fn) key o f) d.cut fs) (hc : CxOk E c) (hK : KPar c) : d.Ok E F := by
  intro x r h
  refine fn_sound (avs := Pat.encs d.ps x) hc hK hm hfn hbody hres hnt (e4_.1 he) (FD.fin_ok hi) (by rw [Pat.encs_length]; exact hn) ?_ (FD.cuts cuts)
  rw [Pat.encs_length]
  exact (top x).trans h
end
end Go.Pi
end
section
set_option linter.unusedVariables false
namespace Go.Pi
def ItoaM (P : Program) (f : FuncId) : Prop := ∀ (n : Int), -9223372036854775808 ≤ n → n ≤ 9223372036854775807 → ∀ w : World, Lib.TabIs P w "internal/strconv.uint64pow10" .u64 Lib.pow10Tab →
  Calls P f #[.int .i64 n] w fun e w' => e = .returned (.string ⟨(Lib.itoa n).toArray⟩) ∧ ∃ k os, w' = Go.Sort.grow (w.drewN k) os
variable [ai_]
open ai_
variable {E : Env}
omit [ai_] in
theorem glob_tab {w : World} {F : Nat → Prop} (h : Glob E w F) {g : Nat} {name : String} {k : IntKind} {zs : List Int} (hm : (g, fun cs => cs = (zs.map fun z => Value.int k z).toArray) ∈ E.globs) (hg : E.P.globalNamed name = some g) : Lib.TabIs E.P w name k zs := by
  obtain ⟨⟨cs, T, fr, h1, hc⟩, _⟩ := h _ hm
  have hc : cs = (zs.map fun z => Value.int k z).toArray := hc
  subst hc
  unfold Lib.TabIs World.var?
  rw [hg]
  simp only [Option.bind_some, h1]
omit [ai_] in
theorem tab_glob {P : Program} {w : World} {g : Nat} {name : String} {k : IntKind} {zs : List Int} (h : Lib.TabIs P w name k zs) (hg : P.globalNamed name = some g) : ∃ T fr, w.heap[g]? = some (.cells (zs.map fun z => Value.int k z).toArray T fr) := by
  unfold Lib.TabIs World.var? at h
  rw [hg] at h
  simp only [Option.bind_some] at h
  split at h
  · rename_i cs T fr hh
    cases h
    exact ⟨T, fr, hh⟩
  · cases h
theorem nItoa_ok [ak_] {f : FuncId} (h : ItoaM E.P f) {g : Nat} (hm : (g, fun cs => cs = (Lib.pow10Tab.map fun z => Value.int .u64 z).toArray) ∈ E.globs) (hg : E.P.globalNamed "internal/strconv.uint64pow10" = some g)
    {n : Int} {r : Bs} (hr : nItoa n = some r) : dy_ E f [.i .i64 n] (.s r) [] [.v] := by
  unfold nItoa at hr
  have hc : -9223372036854775808 ≤ n ∧ n ≤ 9223372036854775807 := Classical.byContradiction fun hc => by
    have : (decide (-9223372036854775808 ≤ n) && decide (n ≤ 9223372036854775807)) = false := by
      rw [Bool.eq_false_iff]; intro h; simp only [Bool.and_eq_true, decide_eq_true_eq] at h; exact hc h
    rw [this] at hr; cases hr
  rw [decide_eq_true hc.1, decide_eq_true hc.2] at hr
  simp only [Bool.and_self, cond_true, Option.some.injEq] at hr
  subst hr
  intro w F Vs φ hrl h1 hlow hgl
  obtain ⟨v, vs, φ₁, φ₂, rfl, k1, k2, e⟩ := RL.uncons hrl
  obtain ⟨rfl, e2⟩ := RL.nil_inv k2
  have e1 : v = .int .i64 n := by
    cases k1 with
    | scal _ _ _ _ _ h1 h2 => exact h1
  subst e1
  refine (h n hc.1 hc.2 w (glob_tab hgl hm hg)).mono ?_
  rintro e' w' ⟨rfl, k, os, rfl⟩
  refine ⟨_, fun _ => 0, rfl, .scal _ _ _ _ _ rfl (.nil _ fun _ => rfl), fun _ => Nat.zero_le _, fun b hb => absurd rfl hb, rfl, rfl, rfl, ?_, fun b hb _ => ?_⟩
  · simp [Go.Sort.grow, World.drewN]
  · have hb : b < (w.drewN k).heap.size := hb
    show ((w.drewN k).heap ++ os)[b]? = _
    rw [Array.getElem?_append_left hb]; rfl
end Go.Pi
end
section
set_option linter.unusedVariables false
set_option maxRecDepth 100000
namespace Go.Pi
open Go.Proofs
instance coding : ai_ where
  enc := fun m t => match t with
    | .u8 => fun (x : Int) => [AV.i .u8 x]
    | .int => fun (x : Int) => [AV.i .i64 x]
    | .str => fun (x : Bs) => [AV.s x]
    | .lCond => fun (x : aO_) => [AV.i .i64 x.col, AV.i .i64 x.op, AV.i .i64 x.v]
    | .lRow => fun (x : TRow) => [AV.i .i64 x.id_, AV.sl m .int x.cells]
    | .lKid => fun (x : TKid) => [AV.i .i64 x.id_, AV.i .i64 x.n_]
    | .iCond => fun (x : aO_) => [AV.i .i64 x.col, AV.i .i64 x.op, AV.i .i64 x.v]
    | .iRow => fun (x : TRow) => [AV.i .i64 x.id_, AV.sl m .int x.cells]
    | .iKid => fun (x : TKid) => [AV.i .i64 x.id_, AV.i .i64 x.n_]
    | .iOp => fun (x : TOp) => [AV.i .i64 x.kind, AV.sl m .str x.way, AV.i .i64 x.value.kind, AV.i .i64 x.value.n_, AV.s x.value.s, AV.sl m .iJson x.value.list, AV.sl m .str x.value.names]
    | .iJson => fun (x : aa_) => [AV.i .i64 x.kind, AV.i .i64 x.n_, AV.s x.s, AV.sl m .iJson x.list, AV.sl m .str x.names]
    | .ikeyed => fun (x : am_) => [AV.i .i64 x.key, AV.i .i64 x.value.kind, AV.i .i64 x.value.n_, AV.s x.value.s, AV.sl m .iJson x.value.list, AV.sl m .str x.value.names]
  dec := fun t => match t with
    | .u8 => fun l => uc l fun a1 l2 => d2_ .u8 a1 fun x3 => un l2 (some (x3 : Int))
    | .int => fun l => uc l fun a1 l2 => d2_ .i64 a1 fun x3 => un l2 (some (x3 : Int))
    | .str => fun l => uc l fun a1 l2 => getS a1 fun x3 => un l2 (some (x3 : Bs))
    | .lCond => fun l => uc l fun a1 l2 => d2_ .i64 a1 fun x3 => uc l2 fun a4 l5 => d2_ .i64 a4 fun x6 => uc l5 fun a7 l8 => d2_ .i64 a7 fun x9 => un l8 (some ((aO_.mk x3 x6 x9) : aO_))
    | .lRow => fun l => uc l fun a1 l2 => d2_ .i64 a1 fun x3 => uc l2 fun a4 l5 => dp_ .int a4 fun x6 => un l5 (some ((TRow.mk x3 x6) : TRow))
    | .lKid => fun l => uc l fun a1 l2 => d2_ .i64 a1 fun x3 => uc l2 fun a4 l5 => d2_ .i64 a4 fun x6 => un l5 (some ((TKid.mk x3 x6) : TKid))
    | .iCond => fun l => uc l fun a1 l2 => d2_ .i64 a1 fun x3 => uc l2 fun a4 l5 => d2_ .i64 a4 fun x6 => uc l5 fun a7 l8 => d2_ .i64 a7 fun x9 => un l8 (some ((aO_.mk x3 x6 x9) : aO_))
    | .iRow => fun l => uc l fun a1 l2 => d2_ .i64 a1 fun x3 => uc l2 fun a4 l5 => dp_ .int a4 fun x6 => un l5 (some ((TRow.mk x3 x6) : TRow))
    | .iKid => fun l => uc l fun a1 l2 => d2_ .i64 a1 fun x3 => uc l2 fun a4 l5 => d2_ .i64 a4 fun x6 => un l5 (some ((TKid.mk x3 x6) : TKid))
    | .iOp => fun l => uc l fun a1 l2 => d2_ .i64 a1 fun x3 => uc l2 fun a4 l5 => dp_ .str a4 fun x6 => uc l5 fun a8 l9 => d2_ .i64 a8 fun x10 => uc l9 fun a11 l12 => d2_ .i64 a11 fun x13 => uc l12 fun a14 l15 => getS a14 fun x16 => uc l15 fun a17 l18 => dp_ .iJson a17 fun x19 => uc l18 fun a21 l22 => dp_ .str a21 fun x23 => un l22 (some ((TOp.mk x3 x6 (aa_.mk x10 x13 x16 x19 x23)) : TOp))
    | .iJson => fun l => uc l fun a1 l2 => d2_ .i64 a1 fun x3 => uc l2 fun a4 l5 => d2_ .i64 a4 fun x6 => uc l5 fun a7 l8 => getS a7 fun x9 => uc l8 fun a10 l11 => dp_ .iJson a10 fun x12 => uc l11 fun a14 l15 => dp_ .str a14 fun x16 => un l15 (some ((aa_.mk x3 x6 x9 x12 x16) : aa_))
    | .ikeyed => fun l => uc l fun a1 l2 => d2_ .i64 a1 fun x3 => uc l2 fun a4 l5 => d2_ .i64 a4 fun x6 => uc l5 fun a7 l8 => d2_ .i64 a7 fun x9 => uc l8 fun a10 l11 => getS a10 fun x12 => uc l11 fun a13 l14 => dp_ .iJson a13 fun x15 => uc l14 fun a17 l18 => dp_ .str a17 fun x19 => un l18 (some ((am_.mk x3 (aa_.mk x6 x9 x12 x15 x19)) : am_))
instance codingOk : ak_ where
  len := by intro m t x; cases t <;> rfl
  pos := by intro t; cases t <;> decide
  view := by intro m t x; cases t <;> rfl
  flat := by intro m m' t x h; cases t <;> first | rfl | cases h
  cell := by
    intro m t x a ha
    refine coded_of ?_ a ha
    cases t <;> cases m <;> rfl
  u8 := by intro m n; rfl
  dec := by
    intro m t l y h
    cases t with
    | u8 =>
      replace h : (uc l fun a1 l2 => d2_ .u8 a1 fun x3 => un l2 (some (x3 : Int))) = some y := h
      replace h := db_ h; obtain ⟨a1, l2, rfl, h⟩ := h
      replace h := c2_ h; obtain ⟨x3, rfl, h⟩ := h
      replace h := fH_ h; obtain ⟨rfl, h⟩ := h
      cases h
      exact ⟨rfl, trivial⟩
    | int =>
      replace h : (uc l fun a1 l2 => d2_ .i64 a1 fun x3 => un l2 (some (x3 : Int))) = some y := h
      replace h := db_ h; obtain ⟨a1, l2, rfl, h⟩ := h
      replace h := c2_ h; obtain ⟨x3, rfl, h⟩ := h
      replace h := fH_ h; obtain ⟨rfl, h⟩ := h
      cases h
      exact ⟨rfl, trivial⟩
    | str =>
      replace h : (uc l fun a1 l2 => getS a1 fun x3 => un l2 (some (x3 : Bs))) = some y := h
      replace h := db_ h; obtain ⟨a1, l2, rfl, h⟩ := h
      replace h := hm_ h; obtain ⟨x3, rfl, h⟩ := h
      replace h := fH_ h; obtain ⟨rfl, h⟩ := h
      cases h
      exact ⟨rfl, trivial⟩
    | lCond =>
      replace h : (uc l fun a1 l2 => d2_ .i64 a1 fun x3 => uc l2 fun a4 l5 => d2_ .i64 a4 fun x6 => uc l5 fun a7 l8 => d2_ .i64 a7 fun x9 => un l8 (some ((aO_.mk x3 x6 x9) : aO_))) = some y := h
      replace h := db_ h; obtain ⟨a1, l2, rfl, h⟩ := h
      replace h := c2_ h; obtain ⟨x3, rfl, h⟩ := h
      replace h := db_ h; obtain ⟨a4, l5, rfl, h⟩ := h
      replace h := c2_ h; obtain ⟨x6, rfl, h⟩ := h
      replace h := db_ h; obtain ⟨a7, l8, rfl, h⟩ := h
      replace h := c2_ h; obtain ⟨x9, rfl, h⟩ := h
      replace h := fH_ h; obtain ⟨rfl, h⟩ := h
      cases h
      exact ⟨rfl, rfl, rfl, trivial⟩
    | lRow =>
      replace h : (uc l fun a1 l2 => d2_ .i64 a1 fun x3 => uc l2 fun a4 l5 => dp_ .int a4 fun x6 => un l5 (some ((TRow.mk x3 x6) : TRow))) = some y := h
      replace h := db_ h; obtain ⟨a1, l2, rfl, h⟩ := h
      replace h := c2_ h; obtain ⟨x3, rfl, h⟩ := h
      replace h := db_ h; obtain ⟨a4, l5, rfl, h⟩ := h
      replace h := dt_ h; obtain ⟨x6, h, z7⟩ := h
      replace h := fH_ h; obtain ⟨rfl, h⟩ := h
      cases h
      exact ⟨rfl, z7 m, trivial⟩
    | lKid =>
      replace h : (uc l fun a1 l2 => d2_ .i64 a1 fun x3 => uc l2 fun a4 l5 => d2_ .i64 a4 fun x6 => un l5 (some ((TKid.mk x3 x6) : TKid))) = some y := h
      replace h := db_ h; obtain ⟨a1, l2, rfl, h⟩ := h
      replace h := c2_ h; obtain ⟨x3, rfl, h⟩ := h
      replace h := db_ h; obtain ⟨a4, l5, rfl, h⟩ := h
      replace h := c2_ h; obtain ⟨x6, rfl, h⟩ := h
      replace h := fH_ h; obtain ⟨rfl, h⟩ := h
      cases h
      exact ⟨rfl, rfl, trivial⟩
    | iCond =>
      replace h : (uc l fun a1 l2 => d2_ .i64 a1 fun x3 => uc l2 fun a4 l5 => d2_ .i64 a4 fun x6 => uc l5 fun a7 l8 => d2_ .i64 a7 fun x9 => un l8 (some ((aO_.mk x3 x6 x9) : aO_))) = some y := h
      replace h := db_ h; obtain ⟨a1, l2, rfl, h⟩ := h
      replace h := c2_ h; obtain ⟨x3, rfl, h⟩ := h
      replace h := db_ h; obtain ⟨a4, l5, rfl, h⟩ := h
      replace h := c2_ h; obtain ⟨x6, rfl, h⟩ := h
      replace h := db_ h; obtain ⟨a7, l8, rfl, h⟩ := h
      replace h := c2_ h; obtain ⟨x9, rfl, h⟩ := h
      replace h := fH_ h; obtain ⟨rfl, h⟩ := h
      cases h
      exact ⟨rfl, rfl, rfl, trivial⟩
    | iRow =>
      replace h : (uc l fun a1 l2 => d2_ .i64 a1 fun x3 => uc l2 fun a4 l5 => dp_ .int a4 fun x6 => un l5 (some ((TRow.mk x3 x6) : TRow))) = some y := h
      replace h := db_ h; obtain ⟨a1, l2, rfl, h⟩ := h
      replace h := c2_ h; obtain ⟨x3, rfl, h⟩ := h
      replace h := db_ h; obtain ⟨a4, l5, rfl, h⟩ := h
      replace h := dt_ h; obtain ⟨x6, h, z7⟩ := h
      replace h := fH_ h; obtain ⟨rfl, h⟩ := h
      cases h
      exact ⟨rfl, z7 m, trivial⟩
    | iKid =>
      replace h : (uc l fun a1 l2 => d2_ .i64 a1 fun x3 => uc l2 fun a4 l5 => d2_ .i64 a4 fun x6 => un l5 (some ((TKid.mk x3 x6) : TKid))) = some y := h
      replace h := db_ h; obtain ⟨a1, l2, rfl, h⟩ := h
      replace h := c2_ h; obtain ⟨x3, rfl, h⟩ := h
      replace h := db_ h; obtain ⟨a4, l5, rfl, h⟩ := h
      replace h := c2_ h; obtain ⟨x6, rfl, h⟩ := h
      replace h := fH_ h; obtain ⟨rfl, h⟩ := h
      cases h
      exact ⟨rfl, rfl, trivial⟩
    | iOp =>
      replace h : (uc l fun a1 l2 => d2_ .i64 a1 fun x3 => uc l2 fun a4 l5 => dp_ .str a4 fun x6 => uc l5 fun a8 l9 => d2_ .i64 a8 fun x10 => uc l9 fun a11 l12 => d2_ .i64 a11 fun x13 => uc l12 fun a14 l15 => getS a14 fun x16 => uc l15 fun a17 l18 => dp_ .iJson a17 fun x19 => uc l18 fun a21 l22 => dp_ .str a21 fun x23 => un l22 (some ((TOp.mk x3 x6 (aa_.mk x10 x13 x16 x19 x23)) : TOp))) = some y := h
      replace h := db_ h; obtain ⟨a1, l2, rfl, h⟩ := h
      replace h := c2_ h; obtain ⟨x3, rfl, h⟩ := h
      replace h := db_ h; obtain ⟨a4, l5, rfl, h⟩ := h
      replace h := dt_ h; obtain ⟨x6, h, z7⟩ := h
      replace h := db_ h; obtain ⟨a8, l9, rfl, h⟩ := h
      replace h := c2_ h; obtain ⟨x10, rfl, h⟩ := h
      replace h := db_ h; obtain ⟨a11, l12, rfl, h⟩ := h
      replace h := c2_ h; obtain ⟨x13, rfl, h⟩ := h
      replace h := db_ h; obtain ⟨a14, l15, rfl, h⟩ := h
      replace h := hm_ h; obtain ⟨x16, rfl, h⟩ := h
      replace h := db_ h; obtain ⟨a17, l18, rfl, h⟩ := h
      replace h := dt_ h; obtain ⟨x19, h, z20⟩ := h
      replace h := db_ h; obtain ⟨a21, l22, rfl, h⟩ := h
      replace h := dt_ h; obtain ⟨x23, h, z24⟩ := h
      replace h := fH_ h; obtain ⟨rfl, h⟩ := h
      cases h
      exact ⟨rfl, z7 m, rfl, rfl, rfl, z20 m, z24 m, trivial⟩
    | iJson =>
      replace h : (uc l fun a1 l2 => d2_ .i64 a1 fun x3 => uc l2 fun a4 l5 => d2_ .i64 a4 fun x6 => uc l5 fun a7 l8 => getS a7 fun x9 => uc l8 fun a10 l11 => dp_ .iJson a10 fun x12 => uc l11 fun a14 l15 => dp_ .str a14 fun x16 => un l15 (some ((aa_.mk x3 x6 x9 x12 x16) : aa_))) = some y := h
      replace h := db_ h; obtain ⟨a1, l2, rfl, h⟩ := h
      replace h := c2_ h; obtain ⟨x3, rfl, h⟩ := h
      replace h := db_ h; obtain ⟨a4, l5, rfl, h⟩ := h
      replace h := c2_ h; obtain ⟨x6, rfl, h⟩ := h
      replace h := db_ h; obtain ⟨a7, l8, rfl, h⟩ := h
      replace h := hm_ h; obtain ⟨x9, rfl, h⟩ := h
      replace h := db_ h; obtain ⟨a10, l11, rfl, h⟩ := h
      replace h := dt_ h; obtain ⟨x12, h, z13⟩ := h
      replace h := db_ h; obtain ⟨a14, l15, rfl, h⟩ := h
      replace h := dt_ h; obtain ⟨x16, h, z17⟩ := h
      replace h := fH_ h; obtain ⟨rfl, h⟩ := h
      cases h
      exact ⟨rfl, rfl, rfl, z13 m, z17 m, trivial⟩
    | ikeyed =>
      replace h : (uc l fun a1 l2 => d2_ .i64 a1 fun x3 => uc l2 fun a4 l5 => d2_ .i64 a4 fun x6 => uc l5 fun a7 l8 => d2_ .i64 a7 fun x9 => uc l8 fun a10 l11 => getS a10 fun x12 => uc l11 fun a13 l14 => dp_ .iJson a13 fun x15 => uc l14 fun a17 l18 => dp_ .str a17 fun x19 => un l18 (some ((am_.mk x3 (aa_.mk x6 x9 x12 x15 x19)) : am_))) = some y := h
      replace h := db_ h; obtain ⟨a1, l2, rfl, h⟩ := h
      replace h := c2_ h; obtain ⟨x3, rfl, h⟩ := h
      replace h := db_ h; obtain ⟨a4, l5, rfl, h⟩ := h
      replace h := c2_ h; obtain ⟨x6, rfl, h⟩ := h
      replace h := db_ h; obtain ⟨a7, l8, rfl, h⟩ := h
      replace h := c2_ h; obtain ⟨x9, rfl, h⟩ := h
      replace h := db_ h; obtain ⟨a10, l11, rfl, h⟩ := h
      replace h := hm_ h; obtain ⟨x12, rfl, h⟩ := h
      replace h := db_ h; obtain ⟨a13, l14, rfl, h⟩ := h
      replace h := dt_ h; obtain ⟨x15, h, z16⟩ := h
      replace h := db_ h; obtain ⟨a17, l18, rfl, h⟩ := h
      replace h := dt_ h; obtain ⟨x19, h, z20⟩ := h
      replace h := fH_ h; obtain ⟨rfl, h⟩ := h
      cases h
      exact ⟨rfl, rfl, rfl, rfl, z16 m, z20 m, trivial⟩
def eid : TC → TypeId
  | .u8 => 5
  | .int => 3
  | .str => 9
  | .lCond => 217
  | .lRow => 158
  | .lKid => 165
  | .iCond => 139
  | .iRow => 84
  | .iKid => 89
  | .iOp => 99
  | .iJson => 49
  | .ikeyed => 172
noncomputable def E : Env := ⟨Tryz.prog, eid, [(3, fun cs => cs = (Lib.pow10Tab.map fun z => Value.int .u64 z).toArray)]⟩
def ttL : List (Nat × TD) := [
  (3, ⟨1, false, [.i .i64 0], [], none, some .i64, false, false, []⟩),
  (4, ⟨1, false, [.b false], [], none, none, false, true, []⟩),
  (5, ⟨1, false, [.i .u8 0], [], none, some .u8, false, false, []⟩),
  (9, ⟨1, false, [.s []], [], none, none, true, false, []⟩),
  (22, ⟨1, false, [.nils], [], some .u8, none, false, false, []⟩),
  (24, ⟨1, false, [.nils], [], some .int, none, false, false, []⟩),
  (30, ⟨1, false, [.nils], [], some .iCond, none, false, false, []⟩),
  (32, ⟨9, true, [.i .i64 0, .nils, .i .i64 0, .b false, .i .i64 0, .nils, .b false, .i .i64 0, .i .i64 0], [(0, 1), (1, 1), (2, 1), (3, 1), (4, 1), (5, 1), (6, 1), (7, 1), (8, 1)], none, none, false, false, []⟩),
  (35, ⟨1, false, [.nils], [], some .iRow, none, false, false, []⟩),
  (36, ⟨1, false, [.nils], [], some .iKid, none, false, false, []⟩),
  (38, ⟨11, true, [.i .i64 0, .nils, .i .i64 0, .b false, .i .i64 0, .nils, .b false, .i .i64 0, .i .i64 0, .nils, .nils], [(0, 9), (9, 1), (10, 1)], none, none, false, false, []⟩),
  (46, ⟨1, false, [.nils], [], some .iJson, none, false, false, []⟩),
  (47, ⟨1, false, [.nils], [], some .str, none, false, false, []⟩),
  (49, ⟨5, true, [.i .i64 0, .i .i64 0, .s [], .nils, .nils], [(0, 1), (1, 1), (2, 1), (3, 1), (4, 1)], none, none, false, false, []⟩),
  (52, ⟨1, false, [.nils], [], some .lCond, none, false, false, []⟩),
  (54, ⟨9, true, [.i .i64 0, .nils, .i .i64 0, .b false, .i .i64 0, .nils, .b false, .i .i64 0, .i .i64 0], [(0, 1), (1, 1), (2, 1), (3, 1), (4, 1), (5, 1), (6, 1), (7, 1), (8, 1)], none, none, false, false, []⟩),
  (55, ⟨1, false, [.nils], [], some .lRow, none, false, false, []⟩),
  (56, ⟨1, false, [.nils], [], some .lKid, none, false, false, []⟩),
  (58, ⟨11, true, [.i .i64 0, .nils, .i .i64 0, .b false, .i .i64 0, .nils, .b false, .i .i64 0, .i .i64 0, .nils, .nils], [(0, 9), (9, 1), (10, 1)], none, none, false, false, []⟩),
  (60, ⟨1, false, [.nils], [], some .iOp, none, false, false, []⟩),
  (84, ⟨2, true, [.i .i64 0, .nils], [(0, 1), (1, 1)], none, none, false, false, []⟩),
  (89, ⟨2, true, [.i .i64 0, .i .i64 0], [(0, 1), (1, 1)], none, none, false, false, [.i, .i]⟩),
  (99, ⟨7, true, [.i .i64 0, .nils, .i .i64 0, .i .i64 0, .s [], .nils, .nils], [(0, 1), (1, 1), (2, 5)], none, none, false, false, []⟩),
  (139, ⟨3, true, [.i .i64 0, .i .i64 0, .i .i64 0], [(0, 1), (1, 1), (2, 1)], none, none, false, false, [.i, .i, .i]⟩),
  (158, ⟨2, true, [.i .i64 0, .nils], [(0, 1), (1, 1)], none, none, false, false, []⟩),
  (165, ⟨2, true, [.i .i64 0, .i .i64 0], [(0, 1), (1, 1)], none, none, false, false, [.i, .i]⟩),
  (167, ⟨1, false, [.nils], [], some .ikeyed, none, false, false, []⟩),
  (172, ⟨6, true, [.i .i64 0, .i .i64 0, .i .i64 0, .s [], .nils, .nils], [(0, 1), (1, 5)], none, none, false, false, []⟩),
  (205, ⟨1, false, [.i .u64 0], [], none, some .u64, false, false, []⟩),
  (217, ⟨3, true, [.i .i64 0, .i .i64 0, .i .i64 0], [(0, 1), (1, 1), (2, 1)], none, none, false, false, [.i, .i, .i]⟩)]
def tt (T : Nat) : Option TD := fl_ ttL T
theorem ttOk (T : TypeId) : TTok E T (tt T) := tt_ok (E := E) (by kernel_rfl) T
theorem tcOk (t : TC) : TCok E t := by
  cases t with
  | u8 => exact eG_ (zc := [.i .u8 0]) (by kernel_rfl) (fun m => ⟨rfl, trivial⟩)
  | int => exact eG_ (zc := [.i .i64 0]) (by kernel_rfl) (fun m => ⟨rfl, trivial⟩)
  | str => exact eG_ (zc := [.s []]) (by kernel_rfl) (fun m => ⟨rfl, trivial⟩)
  | lCond => exact eG_ (zc := [.i .i64 0, .i .i64 0, .i .i64 0]) (by kernel_rfl) (fun m => ⟨rfl, rfl, rfl, trivial⟩)
  | lRow => exact eG_ (zc := [.i .i64 0, .nils]) (by kernel_rfl) (fun m => ⟨rfl, ⟨_, rfl⟩, trivial⟩)
  | lKid => exact eG_ (zc := [.i .i64 0, .i .i64 0]) (by kernel_rfl) (fun m => ⟨rfl, rfl, trivial⟩)
  | iCond => exact eG_ (zc := [.i .i64 0, .i .i64 0, .i .i64 0]) (by kernel_rfl) (fun m => ⟨rfl, rfl, rfl, trivial⟩)
  | iRow => exact eG_ (zc := [.i .i64 0, .nils]) (by kernel_rfl) (fun m => ⟨rfl, ⟨_, rfl⟩, trivial⟩)
  | iKid => exact eG_ (zc := [.i .i64 0, .i .i64 0]) (by kernel_rfl) (fun m => ⟨rfl, rfl, trivial⟩)
  | iOp => exact eG_ (zc := [.i .i64 0, .nils, .i .i64 0, .i .i64 0, .s [], .nils, .nils]) (by kernel_rfl) (fun m => ⟨rfl, ⟨_, rfl⟩, rfl, rfl, rfl, ⟨_, rfl⟩, ⟨_, rfl⟩, trivial⟩)
  | iJson => exact eG_ (zc := [.i .i64 0, .i .i64 0, .s [], .nils, .nils]) (by kernel_rfl) (fun m => ⟨rfl, rfl, rfl, ⟨_, rfl⟩, ⟨_, rfl⟩, trivial⟩)
  | ikeyed => exact eG_ (zc := [.i .i64 0, .i .i64 0, .i .i64 0, .s [], .nils, .nils]) (by kernel_rfl) (fun m => ⟨rfl, rfl, rfl, rfl, ⟨_, rfl⟩, ⟨_, rfl⟩, trivial⟩)
theorem u8Ok : E.P.underlying (E.eid .u8) = some (.int .u8) := by kernel_rfl
theorem aR_ : E.P.follows .mixedOrders = true := by kernel_rfl
end Go.Pi
end
section
set_option linter.unusedVariables false
set_option maxRecDepth 100000
namespace Go.Pi
def b3_ : Nat → (List aO_) → Int → Option Int
  | 0, _, _ => none
  | n + 1, a, left =>
    (cond (decide ((W (left - (a.length : Int))) < 0)) (some (-1)) (some (W (left - (a.length : Int)))))
def ch_ : Nat → (List Int) → Int → Option Int
  | 0, _, _ => none
  | n + 1, a, left =>
    (cond (decide ((W (left - (a.length : Int))) < 0)) (some (-1)) (some (W (left - (a.length : Int)))))
def b2_ : Nat → bi_ → Int → Option Int
  | 0, _, _ => none
  | n + 1, a, left =>
    ((b3_ n a.where_ left).bind fun xr1 => (cond (decide (xr1 < 0)) (some (-1)) ((ch_ n a.show_ xr1).bind fun xr2 => (cond (decide (xr2 < 0)) (some (-1)) (some xr2)))))
def cE_ : Nat → TRow → Int → Option Int
  | 0, _, _ => none
  | n + 1, a, left =>
    ((ch_ n a.cells left).bind fun xr1 => (cond (decide (xr1 < 0)) (some (-1)) (some xr1)))
def a1_.step7 (n : Nat) (k0 : Int → Option Int) (back : (List TRow) → Int → Int → Option Int) (a : List TRow) (left : Int) (i : Int) : Option Int :=
  (cond (decide (i < (a.length : Int))) (inB i a.length ((cE_ n (a.getD i.toNat TRow.dflt) left).bind fun xr1 => (cond (decide (xr1 < 0)) (some (-1)) (back a xr1 (W (i + 1)))))) (k0 left))
def a1_.loop7 (n : Nat) (k0 : Int → Option Int) (N : Nat) : (List TRow) → Int → Int → Option Int :=
  cK_ (fun _ _ _ => none) (fun back => a1_.step7 n k0 back) N
def a1_ : Nat → (List TRow) → Int → Option Int
  | 0, _, _ => none
  | n + 1, a, left =>
    (cond (decide ((W (left - (a.length : Int))) < 0)) (some (-1)) (a1_.loop7 n (fun xy2 => (some xy2)) n a (W (left - (a.length : Int))) 0))
def cm_ : Nat → (List TKid) → Int → Option Int
  | 0, _, _ => none
  | n + 1, a, left =>
    (cond (decide ((W (left - (a.length : Int))) < 0)) (some (-1)) (some (W (left - (a.length : Int)))))
def cg_ : Nat → bB_ → Int → Option Int
  | 0, _, _ => none
  | n + 1, a, left =>
    ((b2_ n a.q left).bind fun xr1 => (cond (decide (xr1 < 0)) (some (-1)) ((a1_ n a.rows xr1).bind fun xr2 => (cond (decide (xr2 < 0)) (some (-1)) ((cm_ n a.kids xr2).bind fun xr3 => (cond (decide (xr3 < 0)) (some (-1)) (some xr3)))))))
def cf_ : Nat → aO_ → Option aO_
  | 0, _ => none
  | n + 1, a =>
    (some a)
def aP_.step4 (n : Nat) (k0 : (List aO_) → Option (List aO_)) (back : (List aO_) → Int → (List aO_) → Option (List aO_)) (a : List aO_) (i : Int) (out_1 : List aO_) : Option (List aO_) :=
  (cond (decide (i < (a.length : Int))) (inB i a.length ((cf_ n (a.getD i.toNat aO_.dflt)).bind fun xr1 => (inB i out_1.length (let xa2 : List aO_ := out_1.set i.toNat xr1; (back a (W (i + 1)) xa2))))) (k0 out_1))
def aP_.loop4 (n : Nat) (k0 : (List aO_) → Option (List aO_)) (N : Nat) : (List aO_) → Int → (List aO_) → Option (List aO_) :=
  cK_ (fun _ _ _ => none) (fun back => aP_.step4 n k0 back) N
def aP_ : Nat → (List aO_) → Option (List aO_)
  | 0, _ => none
  | n + 1, a =>
    (cond (decide ((a.length : Int) = (a.length : Int))) (cond (decide (0 ≤ (a.length : Int))) (cond (decide ((a.length : Int) * 24 ≤ 140737488355328)) (aP_.loop4 n (fun xy3 => (some xy3)) n a 0 (List.replicate (a.length : Int).toNat aO_.dflt)) none) none) none)
def a0_.step4 (n : Nat) (k0 : (List Int) → Option (List Int)) (back : (List Int) → Int → (List Int) → Option (List Int)) (a : List Int) (i : Int) (out_1 : List Int) : Option (List Int) :=
  (cond (decide (i < (a.length : Int))) (inB i a.length (inB i out_1.length (let xa1 : List Int := out_1.set i.toNat (a.getD i.toNat 0); (back a (W (i + 1)) xa1)))) (k0 out_1))
def a0_.loop4 (n : Nat) (k0 : (List Int) → Option (List Int)) (N : Nat) : (List Int) → Int → (List Int) → Option (List Int) :=
  cK_ (fun _ _ _ => none) (fun back => a0_.step4 n k0 back) N
def a0_ : Nat → (List Int) → Option (List Int)
  | 0, _ => none
  | n + 1, a =>
    (cond (decide ((a.length : Int) = (a.length : Int))) (cond (decide (0 ≤ (a.length : Int))) (cond (decide ((a.length : Int) * 8 ≤ 140737488355328)) (a0_.loop4 n (fun xy2 => (some xy2)) n a 0 (List.replicate (a.length : Int).toNat 0)) none) none) none)
def bV_ : Nat → bi_ → Option bi_
  | 0, _ => none
  | n + 1, a =>
    ((aP_ n a.where_).bind fun xr1 => ((a0_ n a.show_).bind fun xr2 => (some { a with where_ := xr1, show_ := xr2 })))
def cv_ : Nat → TRow → Option TRow
  | 0, _ => none
  | n + 1, a =>
    ((a0_ n a.cells).bind fun xr1 => (some (TRow.mk a.id_ xr1)))
def a2_.step4 (n : Nat) (k0 : (List TRow) → Option (List TRow)) (back : (List TRow) → Int → (List TRow) → Option (List TRow)) (a : List TRow) (i : Int) (out_1 : List TRow) : Option (List TRow) :=
  (cond (decide (i < (a.length : Int))) (inB i a.length ((cv_ n (a.getD i.toNat TRow.dflt)).bind fun xr1 => (inB i out_1.length (let xa2 : List TRow := out_1.set i.toNat xr1; (back a (W (i + 1)) xa2))))) (k0 out_1))
def a2_.loop4 (n : Nat) (k0 : (List TRow) → Option (List TRow)) (N : Nat) : (List TRow) → Int → (List TRow) → Option (List TRow) :=
  cK_ (fun _ _ _ => none) (fun back => a2_.step4 n k0 back) N
def a2_ : Nat → (List TRow) → Option (List TRow)
  | 0, _ => none
  | n + 1, a =>
    (cond (decide ((a.length : Int) = (a.length : Int))) (cond (decide (0 ≤ (a.length : Int))) (cond (decide ((a.length : Int) * 32 ≤ 140737488355328)) (a2_.loop4 n (fun xy3 => (some xy3)) n a 0 (List.replicate (a.length : Int).toNat TRow.dflt)) none) none) none)
def cw_ : Nat → TKid → Option TKid
  | 0, _ => none
  | n + 1, a =>
    (some a)
def a3_.step4 (n : Nat) (k0 : (List TKid) → Option (List TKid)) (back : (List TKid) → Int → (List TKid) → Option (List TKid)) (a : List TKid) (i : Int) (out_1 : List TKid) : Option (List TKid) :=
  (cond (decide (i < (a.length : Int))) (inB i a.length ((cw_ n (a.getD i.toNat TKid.dflt)).bind fun xr1 => (inB i out_1.length (let xa2 : List TKid := out_1.set i.toNat xr1; (back a (W (i + 1)) xa2))))) (k0 out_1))
def a3_.loop4 (n : Nat) (k0 : (List TKid) → Option (List TKid)) (N : Nat) : (List TKid) → Int → (List TKid) → Option (List TKid) :=
  cK_ (fun _ _ _ => none) (fun back => a3_.step4 n k0 back) N
def a3_ : Nat → (List TKid) → Option (List TKid)
  | 0, _ => none
  | n + 1, a =>
    (cond (decide ((a.length : Int) = (a.length : Int))) (cond (decide (0 ≤ (a.length : Int))) (cond (decide ((a.length : Int) * 16 ≤ 140737488355328)) (a3_.loop4 n (fun xy3 => (some xy3)) n a 0 (List.replicate (a.length : Int).toNat TKid.dflt)) none) none) none)
def bN_ : Nat → bB_ → Option bB_
  | 0, _ => none
  | n + 1, a =>
    ((bV_ n a.q).bind fun xr1 => ((a2_ n a.rows).bind fun xr2 => ((a3_ n a.kids).bind fun xr3 => (some (bB_.mk xr1 xr2 xr3)))))
def aY_.step3 (n : Nat) (k0 : (List aO_) → (List aO_) → Option Bool) (back : (List aO_) → (List aO_) → Int → Option Bool) (a : List aO_) (b : List aO_) (i : Int) : Option Bool :=
  (cond (decide (i < (a.length : Int))) (cond (decide (i < (b.length : Int))) (inB i a.length (inB i b.length (let xv1 : Bool := (!(cond (((a.getD i.toNat aO_.dflt).col) == ((b.getD i.toNat aO_.dflt).col)) (cond (((a.getD i.toNat aO_.dflt).op) == ((b.getD i.toNat aO_.dflt).op)) (cond (((a.getD i.toNat aO_.dflt).v) == ((b.getD i.toNat aO_.dflt).v)) true false) false) false)); (cond xv1 (some false) (back a b (W (i + 1))))))) (k0 a b)) (k0 a b))
def aY_.loop3 (n : Nat) (k0 : (List aO_) → (List aO_) → Option Bool) (N : Nat) : (List aO_) → (List aO_) → Int → Option Bool :=
  cK_ (fun _ _ _ => none) (fun back => aY_.step3 n k0 back) N
def aY_ : Nat → (List aO_) → (List aO_) → Option Bool
  | 0, _, _ => none
  | n + 1, a, b =>
    (aY_.loop3 n (fun xy2 xy3 => (some ((xy2.length : Int) == (xy3.length : Int)))) n a b 0)
def bb_.step3 (n : Nat) (k0 : (List Int) → (List Int) → Option Bool) (back : (List Int) → (List Int) → Int → Option Bool) (a : List Int) (b : List Int) (i : Int) : Option Bool :=
  (cond (decide (i < (a.length : Int))) (cond (decide (i < (b.length : Int))) (inB i a.length (inB i b.length (cond ((a.getD i.toNat 0) != (b.getD i.toNat 0)) (some false) (back a b (W (i + 1)))))) (k0 a b)) (k0 a b))
def bb_.loop3 (n : Nat) (k0 : (List Int) → (List Int) → Option Bool) (N : Nat) : (List Int) → (List Int) → Int → Option Bool :=
  cK_ (fun _ _ _ => none) (fun back => bb_.step3 n k0 back) N
def bb_ : Nat → (List Int) → (List Int) → Option Bool
  | 0, _, _ => none
  | n + 1, a, b =>
    (bb_.loop3 n (fun xy1 xy2 => (some ((xy1.length : Int) == (xy2.length : Int)))) n a b 0)
def bH_ : Nat → bi_ → bi_ → Option Bool
  | 0, _, _ => none
  | n + 1, o, append =>
    (cond (o.table == append.table) ((aY_ n o.where_ append.where_).bind fun xr1 => (cond xr1 (cond (o.order == append.order) (cond (o.down == append.down) (cond (o.first == append.first) ((bb_ n o.show_ append.show_).bind fun xr2 => (cond xr2 (cond (o.kids == append.kids) (cond (o.kidTable == append.kidTable) (some (o.kidCol == append.kidCol)) (some false)) (some false)) (some false))) (some false)) (some false)) (some false)) (some false))) (some false))
def a7_.step3 (n : Nat) (k0 : Bs → Option Bool) (back : Bs → Int → Option Bool) (s : Bs) (i : Int) : Option Bool :=
  (cond (decide (i < (s.length : Int))) (inB i s.length (cond (decide (((s.getD i.toNat 0).toNat : Int) < 32)) (some false) (inB i s.length (cond (decide (((s.getD i.toNat 0).toNat : Int) > 126)) (some false) (back s (W (i + 1))))))) (k0 s))
def a7_.loop3 (n : Nat) (k0 : Bs → Option Bool) (N : Nat) : Bs → Int → Option Bool :=
  cK_ (fun _ _ => none) (fun back => a7_.step3 n k0 back) N
def a7_ : Nat → Bs → Option Bool
  | 0, _ => none
  | n + 1, s =>
    (a7_.loop3 n (fun xy1 => (some (decide ((xy1.length : Int) ≤ 60)))) n s 0)
def ae_.step6 (n : Nat) (k0 : Int → Int → Bs → (List aa_) → (List Bs) → Option Bool) (back : Int → Int → Int → Bs → (List aa_) → (List Bs) → Option Bool) (i : Int) (j0 : Int) (j1 : Int) (j2 : Bs) (j3 : List aa_) (j4 : List Bs) : Option Bool :=
  (cond (decide (i < (j4.length : Int))) (inB i j4.length ((a7_ n (j4.getD i.toNat [])).bind fun xr1 => (cond (!xr1) (some false) (cond (decide (i > 0)) (inB (W (i - 1)) j4.length (inB i j4.length (cond (!Op.bytesLess (j4.getD (W (i - 1)).toNat []) (j4.getD i.toNat [])) (some false) (back (W (i + 1)) j0 j1 j2 j3 j4)))) (back (W (i + 1)) j0 j1 j2 j3 j4))))) (k0 j0 j1 j2 j3 j4))
def ae_.loop6 (n : Nat) (k0 : Int → Int → Bs → (List aa_) → (List Bs) → Option Bool) (N : Nat) : Int → Int → Int → Bs → (List aa_) → (List Bs) → Option Bool :=
  cK_ (fun _ _ _ _ _ _ => none) (fun back => ae_.step6 n k0 back) N
def ae_ : Nat → aa_ → Option Bool
  | 0, _ => none
  | n + 1, j =>
    (cond (j.kind != 5) (some ((j.names.length : Int) == 0)) (ae_.loop6 n (fun xy2 xy3 xy4 xy5 xy6 => (some ((xy6.length : Int) == (xy5.length : Int)))) n 0 j.kind j.n_ j.s j.list j.names))
def cC_ : Nat → Int → Int → Int → Option Bool
  | 0, _, _, _ => none
  | n + 1, x, lo, hi =>
    (cond (decide (x ≥ lo)) (some (decide (x ≤ hi))) (some false))
def aA_.step23 (n : Nat) (spec_l1Great_ : aa_ → Int → Option Int) (k1 : Int → Int → Int → Int → Bs → (List aa_) → (List Bs) → Option Int) (back : Int → Int → Int → Int → Int → Int → Bs → (List aa_) → (List Bs) → Option Int) (append : Int) (t5 : Int) (t6 : Int) (t7 : Int) (t20 : Int) (t21 : Int) (t22 : Bs) (t23 : List aa_) (t24 : List Bs) : Option Int :=
  (cond (decide (t7 < (t23.length : Int))) (cond (decide (t6 ≤ 400)) (inB t7 t23.length ((spec_l1Great_ (aa_.re (t23.getD t7.toNat aa_.dflt)) (W (append - 1))).bind fun xr52 => (back append t5 (W (t6 + xr52)) (W (t7 + 1)) t20 t21 t22 t23 t24))) (k1 t5 t6 t20 t21 t22 t23 t24)) (k1 t5 t6 t20 t21 t22 t23 t24))
def aA_.loop23 (n : Nat) (spec_l1Great_ : aa_ → Int → Option Int) (k1 : Int → Int → Int → Int → Bs → (List aa_) → (List Bs) → Option Int) (N : Nat) : Int → Int → Int → Int → Int → Int → Bs → (List aa_) → (List Bs) → Option Int :=
  cK_ (fun _ _ _ _ _ _ _ _ _ => none) (fun back => aA_.step23 n spec_l1Great_ k1 back) N
def aA_ : Nat → aa_ → Int → Option Int
  | 0, _, _ => none
  | n + 1, o, append =>
    (cond (append == 0) (some 401) (cond (o.kind == 0) (cond (o.n_ != 0) (some 401) (cond (o.kind != 3) (cond (!(o.s == [])) (some 401) (cond (o.kind == 3) (cond (o.n_ != 0) (some 401) (cond (decide (o.kind < 4)) (cond (decide ((o.list.length : Int) > 0)) (some 401) ((ae_ n (aa_.re o)).bind fun xr1 => (cond (!xr1) (some 401) (some 1)))) ((ae_ n (aa_.re o)).bind fun xr2 => (cond (!xr2) (some 401) (some 1))))) (cond (decide (o.kind ≥ 4)) (cond (o.n_ != 0) (some 401) (cond (decide (o.kind < 4)) (cond (decide ((o.list.length : Int) > 0)) (some 401) ((ae_ n (aa_.re o)).bind fun xr3 => (cond (!xr3) (some 401) (some 1)))) ((ae_ n (aa_.re o)).bind fun xr4 => (cond (!xr4) (some 401) (some 1))))) (cond (decide (o.kind < 4)) (cond (decide ((o.list.length : Int) > 0)) (some 401) ((ae_ n (aa_.re o)).bind fun xr5 => (cond (!xr5) (some 401) (some 1)))) ((ae_ n (aa_.re o)).bind fun xr6 => (cond (!xr6) (some 401) (some 1))))))) (cond (o.kind == 3) (cond (o.n_ != 0) (some 401) (cond (decide (o.kind < 4)) (cond (decide ((o.list.length : Int) > 0)) (some 401) ((ae_ n (aa_.re o)).bind fun xr7 => (cond (!xr7) (some 401) (some 1)))) ((ae_ n (aa_.re o)).bind fun xr8 => (cond (!xr8) (some 401) (some 1))))) (cond (decide (o.kind ≥ 4)) (cond (o.n_ != 0) (some 401) (cond (decide (o.kind < 4)) (cond (decide ((o.list.length : Int) > 0)) (some 401) ((ae_ n (aa_.re o)).bind fun xr9 => (cond (!xr9) (some 401) (some 1)))) ((ae_ n (aa_.re o)).bind fun xr10 => (cond (!xr10) (some 401) (some 1))))) (cond (decide (o.kind < 4)) (cond (decide ((o.list.length : Int) > 0)) (some 401) ((ae_ n (aa_.re o)).bind fun xr11 => (cond (!xr11) (some 401) (some 1)))) ((ae_ n (aa_.re o)).bind fun xr12 => (cond (!xr12) (some 401) (some 1)))))))) (cond (o.kind == 1) ((cC_ n o.n_ 0 1).bind fun xr13 => (cond (!xr13) (some 401) (cond (o.kind != 3) (cond (!(o.s == [])) (some 401) (cond (o.kind == 3) (cond (o.n_ != 0) (some 401) (cond (decide (o.kind < 4)) (cond (decide ((o.list.length : Int) > 0)) (some 401) ((ae_ n (aa_.re o)).bind fun xr14 => (cond (!xr14) (some 401) (some 1)))) ((ae_ n (aa_.re o)).bind fun xr15 => (cond (!xr15) (some 401) (some 1))))) (cond (decide (o.kind ≥ 4)) (cond (o.n_ != 0) (some 401) (cond (decide (o.kind < 4)) (cond (decide ((o.list.length : Int) > 0)) (some 401) ((ae_ n (aa_.re o)).bind fun xr16 => (cond (!xr16) (some 401) (some 1)))) ((ae_ n (aa_.re o)).bind fun xr17 => (cond (!xr17) (some 401) (some 1))))) (cond (decide (o.kind < 4)) (cond (decide ((o.list.length : Int) > 0)) (some 401) ((ae_ n (aa_.re o)).bind fun xr18 => (cond (!xr18) (some 401) (some 1)))) ((ae_ n (aa_.re o)).bind fun xr19 => (cond (!xr19) (some 401) (some 1))))))) (cond (o.kind == 3) (cond (o.n_ != 0) (some 401) (cond (decide (o.kind < 4)) (cond (decide ((o.list.length : Int) > 0)) (some 401) ((ae_ n (aa_.re o)).bind fun xr20 => (cond (!xr20) (some 401) (some 1)))) ((ae_ n (aa_.re o)).bind fun xr21 => (cond (!xr21) (some 401) (some 1))))) (cond (decide (o.kind ≥ 4)) (cond (o.n_ != 0) (some 401) (cond (decide (o.kind < 4)) (cond (decide ((o.list.length : Int) > 0)) (some 401) ((ae_ n (aa_.re o)).bind fun xr22 => (cond (!xr22) (some 401) (some 1)))) ((ae_ n (aa_.re o)).bind fun xr23 => (cond (!xr23) (some 401) (some 1))))) (cond (decide (o.kind < 4)) (cond (decide ((o.list.length : Int) > 0)) (some 401) ((ae_ n (aa_.re o)).bind fun xr24 => (cond (!xr24) (some 401) (some 1)))) ((ae_ n (aa_.re o)).bind fun xr25 => (cond (!xr25) (some 401) (some 1))))))))) (cond (o.kind == 2) ((cC_ n o.n_ (-1000000000) 1000000000).bind fun xr26 => (cond (!xr26) (some 401) (cond (o.kind != 3) (cond (!(o.s == [])) (some 401) (cond (o.kind == 3) (cond (o.n_ != 0) (some 401) (cond (decide (o.kind < 4)) (cond (decide ((o.list.length : Int) > 0)) (some 401) ((ae_ n (aa_.re o)).bind fun xr27 => (cond (!xr27) (some 401) (some 1)))) ((ae_ n (aa_.re o)).bind fun xr28 => (cond (!xr28) (some 401) (some 1))))) (cond (decide (o.kind ≥ 4)) (cond (o.n_ != 0) (some 401) (cond (decide (o.kind < 4)) (cond (decide ((o.list.length : Int) > 0)) (some 401) ((ae_ n (aa_.re o)).bind fun xr29 => (cond (!xr29) (some 401) (some 1)))) ((ae_ n (aa_.re o)).bind fun xr30 => (cond (!xr30) (some 401) (some 1))))) (cond (decide (o.kind < 4)) (cond (decide ((o.list.length : Int) > 0)) (some 401) ((ae_ n (aa_.re o)).bind fun xr31 => (cond (!xr31) (some 401) (some 1)))) ((ae_ n (aa_.re o)).bind fun xr32 => (cond (!xr32) (some 401) (some 1))))))) (cond (o.kind == 3) (cond (o.n_ != 0) (some 401) (cond (decide (o.kind < 4)) (cond (decide ((o.list.length : Int) > 0)) (some 401) ((ae_ n (aa_.re o)).bind fun xr33 => (cond (!xr33) (some 401) (some 1)))) ((ae_ n (aa_.re o)).bind fun xr34 => (cond (!xr34) (some 401) (some 1))))) (cond (decide (o.kind ≥ 4)) (cond (o.n_ != 0) (some 401) (cond (decide (o.kind < 4)) (cond (decide ((o.list.length : Int) > 0)) (some 401) ((ae_ n (aa_.re o)).bind fun xr35 => (cond (!xr35) (some 401) (some 1)))) ((ae_ n (aa_.re o)).bind fun xr36 => (cond (!xr36) (some 401) (some 1))))) (cond (decide (o.kind < 4)) (cond (decide ((o.list.length : Int) > 0)) (some 401) ((ae_ n (aa_.re o)).bind fun xr37 => (cond (!xr37) (some 401) (some 1)))) ((ae_ n (aa_.re o)).bind fun xr38 => (cond (!xr38) (some 401) (some 1))))))))) (cond (o.kind == 3) ((a7_ n o.s).bind fun xr39 => (cond (!xr39) (some 401) (cond (o.kind != 3) (cond (!(o.s == [])) (some 401) (cond (o.kind == 3) (cond (o.n_ != 0) (some 401) (cond (decide (o.kind < 4)) (cond (decide ((o.list.length : Int) > 0)) (some 401) ((ae_ n (aa_.re o)).bind fun xr40 => (cond (!xr40) (some 401) (some 1)))) ((ae_ n (aa_.re o)).bind fun xr41 => (cond (!xr41) (some 401) (some 1))))) (cond (decide (o.kind ≥ 4)) (cond (o.n_ != 0) (some 401) (cond (decide (o.kind < 4)) (cond (decide ((o.list.length : Int) > 0)) (some 401) ((ae_ n (aa_.re o)).bind fun xr42 => (cond (!xr42) (some 401) (some 1)))) ((ae_ n (aa_.re o)).bind fun xr43 => (cond (!xr43) (some 401) (some 1))))) (cond (decide (o.kind < 4)) (cond (decide ((o.list.length : Int) > 0)) (some 401) ((ae_ n (aa_.re o)).bind fun xr44 => (cond (!xr44) (some 401) (some 1)))) ((ae_ n (aa_.re o)).bind fun xr45 => (cond (!xr45) (some 401) (some 1))))))) (cond (o.kind == 3) (cond (o.n_ != 0) (some 401) (cond (decide (o.kind < 4)) (cond (decide ((o.list.length : Int) > 0)) (some 401) ((ae_ n (aa_.re o)).bind fun xr46 => (cond (!xr46) (some 401) (some 1)))) ((ae_ n (aa_.re o)).bind fun xr47 => (cond (!xr47) (some 401) (some 1))))) (cond (decide (o.kind ≥ 4)) (cond (o.n_ != 0) (some 401) (cond (decide (o.kind < 4)) (cond (decide ((o.list.length : Int) > 0)) (some 401) ((ae_ n (aa_.re o)).bind fun xr48 => (cond (!xr48) (some 401) (some 1)))) ((ae_ n (aa_.re o)).bind fun xr49 => (cond (!xr49) (some 401) (some 1))))) (cond (decide (o.kind < 4)) (cond (decide ((o.list.length : Int) > 0)) (some 401) ((ae_ n (aa_.re o)).bind fun xr50 => (cond (!xr50) (some 401) (some 1)))) ((ae_ n (aa_.re o)).bind fun xr51 => (cond (!xr51) (some 401) (some 1))))))))) (cond (o.kind == 4) (cond (o.kind == 4) (aA_.loop23 n (aA_ n) (fun xy53 xy54 xy55 xy56 xy57 xy58 xy59 => (cond (xy55 != 3) (cond (!(xy57 == [])) (some xy53) (cond (xy55 == 3) (cond (xy56 != 0) (some xy53) (cond (decide (xy55 < 4)) (cond (decide ((xy58.length : Int) > 0)) (some xy53) ((ae_ n (aa_.mk xy55 xy56 xy57 xy58 xy59)).bind fun xr60 => (cond (!xr60) (some xy53) (some xy54)))) ((ae_ n (aa_.mk xy55 xy56 xy57 xy58 xy59)).bind fun xr61 => (cond (!xr61) (some xy53) (some xy54))))) (cond (decide (xy55 ≥ 4)) (cond (xy56 != 0) (some xy53) (cond (decide (xy55 < 4)) (cond (decide ((xy58.length : Int) > 0)) (some xy53) ((ae_ n (aa_.mk xy55 xy56 xy57 xy58 xy59)).bind fun xr62 => (cond (!xr62) (some xy53) (some xy54)))) ((ae_ n (aa_.mk xy55 xy56 xy57 xy58 xy59)).bind fun xr63 => (cond (!xr63) (some xy53) (some xy54))))) (cond (decide (xy55 < 4)) (cond (decide ((xy58.length : Int) > 0)) (some xy53) ((ae_ n (aa_.mk xy55 xy56 xy57 xy58 xy59)).bind fun xr64 => (cond (!xr64) (some xy53) (some xy54)))) ((ae_ n (aa_.mk xy55 xy56 xy57 xy58 xy59)).bind fun xr65 => (cond (!xr65) (some xy53) (some xy54))))))) (cond (xy55 == 3) (cond (xy56 != 0) (some xy53) (cond (decide (xy55 < 4)) (cond (decide ((xy58.length : Int) > 0)) (some xy53) ((ae_ n (aa_.mk xy55 xy56 xy57 xy58 xy59)).bind fun xr66 => (cond (!xr66) (some xy53) (some xy54)))) ((ae_ n (aa_.mk xy55 xy56 xy57 xy58 xy59)).bind fun xr67 => (cond (!xr67) (some xy53) (some xy54))))) (cond (decide (xy55 ≥ 4)) (cond (xy56 != 0) (some xy53) (cond (decide (xy55 < 4)) (cond (decide ((xy58.length : Int) > 0)) (some xy53) ((ae_ n (aa_.mk xy55 xy56 xy57 xy58 xy59)).bind fun xr68 => (cond (!xr68) (some xy53) (some xy54)))) ((ae_ n (aa_.mk xy55 xy56 xy57 xy58 xy59)).bind fun xr69 => (cond (!xr69) (some xy53) (some xy54))))) (cond (decide (xy55 < 4)) (cond (decide ((xy58.length : Int) > 0)) (some xy53) ((ae_ n (aa_.mk xy55 xy56 xy57 xy58 xy59)).bind fun xr70 => (cond (!xr70) (some xy53) (some xy54)))) ((ae_ n (aa_.mk xy55 xy56 xy57 xy58 xy59)).bind fun xr71 => (cond (!xr71) (some xy53) (some xy54)))))))) n append 401 1 0 o.kind o.n_ o.s o.list o.names) (some 401)) (cond (o.kind == 5) (aA_.loop23 n (aA_ n) (fun xy72 xy73 xy74 xy75 xy76 xy77 xy78 => (cond (xy74 != 3) (cond (!(xy76 == [])) (some xy72) (cond (xy74 == 3) (cond (xy75 != 0) (some xy72) (cond (decide (xy74 < 4)) (cond (decide ((xy77.length : Int) > 0)) (some xy72) ((ae_ n (aa_.mk xy74 xy75 xy76 xy77 xy78)).bind fun xr79 => (cond (!xr79) (some xy72) (some xy73)))) ((ae_ n (aa_.mk xy74 xy75 xy76 xy77 xy78)).bind fun xr80 => (cond (!xr80) (some xy72) (some xy73))))) (cond (decide (xy74 ≥ 4)) (cond (xy75 != 0) (some xy72) (cond (decide (xy74 < 4)) (cond (decide ((xy77.length : Int) > 0)) (some xy72) ((ae_ n (aa_.mk xy74 xy75 xy76 xy77 xy78)).bind fun xr81 => (cond (!xr81) (some xy72) (some xy73)))) ((ae_ n (aa_.mk xy74 xy75 xy76 xy77 xy78)).bind fun xr82 => (cond (!xr82) (some xy72) (some xy73))))) (cond (decide (xy74 < 4)) (cond (decide ((xy77.length : Int) > 0)) (some xy72) ((ae_ n (aa_.mk xy74 xy75 xy76 xy77 xy78)).bind fun xr83 => (cond (!xr83) (some xy72) (some xy73)))) ((ae_ n (aa_.mk xy74 xy75 xy76 xy77 xy78)).bind fun xr84 => (cond (!xr84) (some xy72) (some xy73))))))) (cond (xy74 == 3) (cond (xy75 != 0) (some xy72) (cond (decide (xy74 < 4)) (cond (decide ((xy77.length : Int) > 0)) (some xy72) ((ae_ n (aa_.mk xy74 xy75 xy76 xy77 xy78)).bind fun xr85 => (cond (!xr85) (some xy72) (some xy73)))) ((ae_ n (aa_.mk xy74 xy75 xy76 xy77 xy78)).bind fun xr86 => (cond (!xr86) (some xy72) (some xy73))))) (cond (decide (xy74 ≥ 4)) (cond (xy75 != 0) (some xy72) (cond (decide (xy74 < 4)) (cond (decide ((xy77.length : Int) > 0)) (some xy72) ((ae_ n (aa_.mk xy74 xy75 xy76 xy77 xy78)).bind fun xr87 => (cond (!xr87) (some xy72) (some xy73)))) ((ae_ n (aa_.mk xy74 xy75 xy76 xy77 xy78)).bind fun xr88 => (cond (!xr88) (some xy72) (some xy73))))) (cond (decide (xy74 < 4)) (cond (decide ((xy77.length : Int) > 0)) (some xy72) ((ae_ n (aa_.mk xy74 xy75 xy76 xy77 xy78)).bind fun xr89 => (cond (!xr89) (some xy72) (some xy73)))) ((ae_ n (aa_.mk xy74 xy75 xy76 xy77 xy78)).bind fun xr90 => (cond (!xr90) (some xy72) (some xy73)))))))) n append 401 1 0 o.kind o.n_ o.s o.list o.names) (some 401))))))))
def bZ_ : Nat → aa_ → Option Bool
  | 0, _ => none
  | n + 1, j =>
    ((aA_ n (aa_.re j) 6).bind fun xr1 => (some (decide (xr1 ≤ 400))))
def cu_ : Nat → Int → Option aa_
  | 0, _ => none
  | n + 1, n1 =>
    ((bZ_ n (aa_.mk 2 n1 [] [] [])).bind fun xr1 => (cond (!xr1) (some (aa_.mk 0 0 [] ([] : List aa_) ([] : List Bs))) (some (aa_.mk 2 n1 [] ([] : List aa_) ([] : List Bs)))))
def cs_ : Nat → Int → Int → Option Int
  | 0, _, _ => none
  | n + 1, a, b =>
    (cond (decide (a < b)) (some a) (some b))
def ct_ : Nat → Int → Int → Option Int
  | 0, _, _ => none
  | n + 1, a, b =>
    (cond (decide (a > b)) (some a) (some b))
def bQ_ : Nat → bi_ → Int → Option Int
  | 0, _, _ => none
  | n + 1, q, n1 =>
    (cond (q.first == 0) (some n1) ((cs_ n n1 q.first).bind fun xr1 => ((ct_ n xr1 0).bind fun xr2 => (some xr2))))
def bd_.step3 (n : Nat) (k0 : Option Int) (back : Int → Int → Int → (List aO_) → Int → Bool → Int → (List Int) → Bool → Int → Int → (List TRow) → (List TKid) → Option Int) (id_1 : Int) (i : Int) (v0 : Int) (v1 : List aO_) (v2 : Int) (v3 : Bool) (v4 : Int) (v5 : List Int) (v6 : Bool) (v7 : Int) (v8 : Int) (v9 : List TRow) (v10 : List TKid) : Option Int :=
  (cond (decide (i < (v10.length : Int))) (inB i v10.length (cond (((v10.getD i.toNat TKid.dflt).id_) == id_1) (inB i v10.length (some ((v10.getD i.toNat TKid.dflt).n_))) (back id_1 (W (i + 1)) v0 v1 v2 v3 v4 v5 v6 v7 v8 v9 v10))) k0)
def bd_.loop3 (n : Nat) (k0 : Option Int) (N : Nat) : Int → Int → Int → (List aO_) → Int → Bool → Int → (List Int) → Bool → Int → Int → (List TRow) → (List TKid) → Option Int :=
  cK_ (fun _ _ _ _ _ _ _ _ _ _ _ _ _ => none) (fun back => bd_.step3 n k0 back) N
def bd_ : Nat → bB_ → Int → Option Int
  | 0, _, _ => none
  | n + 1, v, id1 =>
    (bd_.loop3 n (some 0) n id1 0 v.q.table v.q.where_ v.q.order v.q.down v.q.first v.q.show_ v.q.kids v.q.kidTable v.q.kidCol v.rows v.kids)
def aF_.step7 (n : Nat) (k0 : Bool → Bs → Option Bs) (back : Int → Bool → Bs → Option Bs) (n_1 : Int) (below : Bool) (out_1 : Bs) : Option Bs :=
  (cond (n_1 != 0) (cond (decide ((Int.tmod n_1 10) < 0)) (let xv1 : Bs := (toBs ([(IntKind.u8.wrap ((W (48 + (W (0 - (Int.tmod n_1 10)))))))] : List Int)); (cond (decide (xv1.length + out_1.length ≤ 9223372036854775807)) (back (W (Int.tdiv n_1 10)) below (xv1 ++ out_1)) none)) (cond (decide ((toBs ([(IntKind.u8.wrap ((W (48 + (Int.tmod n_1 10)))))] : List Int)).length + out_1.length ≤ 9223372036854775807)) (let xv2 : Bs := ((toBs ([(IntKind.u8.wrap ((W (48 + (Int.tmod n_1 10)))))] : List Int)) ++ out_1); (back (W (Int.tdiv n_1 10)) below xv2)) none)) (k0 below out_1))
def aF_.loop7 (n : Nat) (k0 : Bool → Bs → Option Bs) (N : Nat) : Int → Bool → Bs → Option Bs :=
  cK_ (fun _ _ _ => none) (fun back => aF_.step7 n k0 back) N
def aF_ : Nat → Int → Option Bs
  | 0, _ => none
  | n + 1, n1 =>
    (cond (n1 == 0) (some [48]) (aF_.loop7 n (fun xy3 xy4 => (cond xy3 (cond (decide ([45].length + xy4.length ≤ 9223372036854775807)) (some (([45] : Bs) ++ xy4)) none) (some xy4))) n n1 (decide (n1 < 0)) []))
def cd_ : Nat → TRow → Int → Option Int
  | 0, _, _ => none
  | n + 1, r, col =>
    ((cC_ n col 0 (W ((r.cells.length : Int) - 1))).bind fun xr1 => (cond (!xr1) (some 0) (inB col r.cells.length (some (r.cells.getD col.toNat 0)))))
def bT_ : Nat → Int → Option aa_
  | 0, _ => none
  | n + 1, n1 =>
    (some (aa_.mk 2 n1 [] ([] : List aa_) ([] : List Bs)))
def bj_.step5 (n : Nat) (k0 : Bs → Bool → Int → Int → Bs → (List aa_) → (List Bs) → Int → Int → Bs → Int → Int → Bs → (List aa_) → (List Bs) → Option aa_) (back : Bs → Bool → Int → Int → Int → Bs → (List aa_) → (List Bs) → Int → Int → Bs → (List aa_) → (List Bs) → Int → Int → Bs → Int → Int → Bs → (List aa_) → (List Bs) → Option aa_) (append : Bs) (t8 : Bool) (t9 : Int) (t30 : Int) (t31 : Int) (t32 : Bs) (t33 : List aa_) (t34 : List Bs) (t50 : Int) (t51 : Int) (t52 : Bs) (t53 : List aa_) (t54 : List Bs) (t60 : Int) (t61 : Int) (t62 : Bs) (t70 : Int) (t71 : Int) (t72 : Bs) (t73 : List aa_) (t74 : List Bs) : Option aa_ :=
  (cond (decide (t9 < (t34.length : Int))) (cond (!t8) (inB t9 t34.length (cond (!Op.bytesLess (t34.getD t9.toNat []) append) (cL_ (t74.length + ([append] : List Bs).length) 16 (cL_ (t73.length + ([(aa_.mk t50 t51 t52 t53 t54)] : List aa_).length) 80 (inB t9 t34.length (cond (!((t34.getD t9.toNat []) == append)) (inB t9 t34.length (cL_ ((t74 ++ ([append] : List Bs)).length + ([(t34.getD t9.toNat [])] : List Bs).length) 16 (inB t9 t33.length (cL_ ((t73 ++ ([(aa_.mk t50 t51 t52 t53 t54)] : List aa_)).length + ([(aa_.re (t33.getD t9.toNat aa_.dflt))] : List aa_).length) 80 (back append true (W (t9 + 1)) t30 t31 t32 t33 t34 t50 t51 t52 t53 t54 t60 t61 t62 t70 t71 t72 ((t73 ++ ([(aa_.mk t50 t51 t52 t53 t54)] : List aa_)) ++ ([(aa_.re (t33.getD t9.toNat aa_.dflt))] : List aa_)) ((t74 ++ ([append] : List Bs)) ++ ([(t34.getD t9.toNat [])] : List Bs))))))) (back append true (W (t9 + 1)) t30 t31 t32 t33 t34 t50 t51 t52 t53 t54 t60 t61 t62 t70 t71 t72 (t73 ++ ([(aa_.mk t50 t51 t52 t53 t54)] : List aa_)) (t74 ++ ([append] : List Bs))))))) (inB t9 t34.length (cond (!((t34.getD t9.toNat []) == append)) (inB t9 t34.length (cL_ (t74.length + ([(t34.getD t9.toNat [])] : List Bs).length) 16 (inB t9 t33.length (cL_ (t73.length + ([(aa_.re (t33.getD t9.toNat aa_.dflt))] : List aa_).length) 80 (back append t8 (W (t9 + 1)) t30 t31 t32 t33 t34 t50 t51 t52 t53 t54 t60 t61 t62 t70 t71 t72 (t73 ++ ([(aa_.re (t33.getD t9.toNat aa_.dflt))] : List aa_)) (t74 ++ ([(t34.getD t9.toNat [])] : List Bs))))))) (back append t8 (W (t9 + 1)) t30 t31 t32 t33 t34 t50 t51 t52 t53 t54 t60 t61 t62 t70 t71 t72 t73 t74))))) (inB t9 t34.length (cond (!((t34.getD t9.toNat []) == append)) (inB t9 t34.length (cL_ (t74.length + ([(t34.getD t9.toNat [])] : List Bs).length) 16 (inB t9 t33.length (cL_ (t73.length + ([(aa_.re (t33.getD t9.toNat aa_.dflt))] : List aa_).length) 80 (back append t8 (W (t9 + 1)) t30 t31 t32 t33 t34 t50 t51 t52 t53 t54 t60 t61 t62 t70 t71 t72 (t73 ++ ([(aa_.re (t33.getD t9.toNat aa_.dflt))] : List aa_)) (t74 ++ ([(t34.getD t9.toNat [])] : List Bs))))))) (back append t8 (W (t9 + 1)) t30 t31 t32 t33 t34 t50 t51 t52 t53 t54 t60 t61 t62 t70 t71 t72 t73 t74)))) (k0 append t8 t50 t51 t52 t53 t54 t60 t61 t62 t70 t71 t72 t73 t74))
def bj_.loop5 (n : Nat) (k0 : Bs → Bool → Int → Int → Bs → (List aa_) → (List Bs) → Int → Int → Bs → Int → Int → Bs → (List aa_) → (List Bs) → Option aa_) (N : Nat) : Bs → Bool → Int → Int → Int → Bs → (List aa_) → (List Bs) → Int → Int → Bs → (List aa_) → (List Bs) → Int → Int → Bs → Int → Int → Bs → (List aa_) → (List Bs) → Option aa_ :=
  cK_ (fun _ _ _ _ _ _ _ _ _ _ _ _ _ _ _ _ _ _ _ _ _ => none) (fun back => bj_.step5 n k0 back) N
def bj_ : Nat → aa_ → Bs → aa_ → Option aa_
  | 0, _, _, _ => none
  | n + 1, o, append, a2 =>
    (bj_.loop5 n (fun xy1 xy2 xy3 xy4 xy5 xy6 xy7 xy8 xy9 xy10 xy11 xy12 xy13 xy14 xy15 => (cond (!xy2) (cL_ (xy15.length + ([xy1] : List Bs).length) 16 (cL_ (xy14.length + ([(aa_.mk xy3 xy4 xy5 xy6 xy7)] : List aa_).length) 80 (some (aa_.mk xy11 xy12 xy13 (xy14 ++ ([(aa_.mk xy3 xy4 xy5 xy6 xy7)] : List aa_)) (xy15 ++ ([xy1] : List Bs)))))) (some (aa_.mk xy11 xy12 xy13 xy14 xy15)))) n append false 0 o.kind o.n_ o.s o.list o.names a2.kind a2.n_ a2.s a2.list a2.names 0 0 [] 5 0 [] ([] : List aa_) ([] : List Bs))
def bc_.step4 (n : Nat) (k0 : Int → Int → (List aO_) → Int → Bool → Int → (List Int) → Bool → Int → Int → Int → (List Int) → Int → Int → Bs → Int → Int → Bs → (List aa_) → (List Bs) → Option aa_) (back : Int → Int → Int → (List aO_) → Int → Bool → Int → (List Int) → Bool → Int → Int → Int → (List Int) → Int → Int → Bs → Int → Int → Bs → (List aa_) → (List Bs) → Option aa_) (kids : Int) (i : Int) (q0 : Int) (q1 : List aO_) (q2 : Int) (q3 : Bool) (q4 : Int) (q5 : List Int) (q6 : Bool) (q7 : Int) (q8 : Int) (r0 : Int) (r1 : List Int) (t60 : Int) (t61 : Int) (t62 : Bs) (out0 : Int) (out1 : Int) (out2 : Bs) (out3 : List aa_) (out4 : List Bs) : Option aa_ :=
  (cond (decide (i < (q5.length : Int))) (inB i q5.length ((aF_ n (q5.getD i.toNat 0)).bind fun xr1 => (cond (decide ([99].length + xr1.length ≤ 9223372036854775807)) (inB i q5.length ((cd_ n (TRow.mk r0 r1) (q5.getD i.toNat 0)).bind fun xr2 => ((bT_ n xr2).bind fun xr3 => ((bj_ n (aa_.mk out0 out1 out2 out3 out4) (([99] : Bs) ++ xr1) (aa_.re xr3)).bind fun xr4 => (back kids (W (i + 1)) q0 q1 q2 q3 q4 q5 q6 q7 q8 r0 r1 t60 t61 t62 xr4.kind xr4.n_ xr4.s xr4.list xr4.names))))) none))) (k0 kids q0 q1 q2 q3 q4 q5 q6 q7 q8 r0 r1 t60 t61 t62 out0 out1 out2 out3 out4))
def bc_.loop4 (n : Nat) (k0 : Int → Int → (List aO_) → Int → Bool → Int → (List Int) → Bool → Int → Int → Int → (List Int) → Int → Int → Bs → Int → Int → Bs → (List aa_) → (List Bs) → Option aa_) (N : Nat) : Int → Int → Int → (List aO_) → Int → Bool → Int → (List Int) → Bool → Int → Int → Int → (List Int) → Int → Int → Bs → Int → Int → Bs → (List aa_) → (List Bs) → Option aa_ :=
  cK_ (fun _ _ _ _ _ _ _ _ _ _ _ _ _ _ _ _ _ _ _ _ _ => none) (fun back => bc_.step4 n k0 back) N
def bc_ : Nat → bi_ → TRow → Int → Option aa_
  | 0, _, _, _ => none
  | n + 1, q, r, kids =>
    (bc_.loop4 n (fun xy5 xy6 xy7 xy8 xy9 xy10 xy11 xy12 xy13 xy14 xy15 xy16 xy17 xy18 xy19 xy20 xy21 xy22 xy23 xy24 => ((bT_ n xy15).bind fun xr25 => ((bj_ n (aa_.mk xy20 xy21 xy22 xy23 xy24) [105, 100] (aa_.re xr25)).bind fun xr26 => (cond xy12 ((bT_ n xy5).bind fun xr27 => ((bj_ n (aa_.re xr26) [107, 105, 100, 115] (aa_.re xr27)).bind fun xr28 => (some (aa_.re xr28)))) (some (aa_.re xr26)))))) n kids 0 q.table q.where_ q.order q.down q.first q.show_ q.kids q.kidTable q.kidCol r.id_ r.cells 0 0 [] 5 0 [] ([] : List aa_) ([] : List Bs))
def bP_ : Nat → aa_ → Option aa_
  | 0, _ => none
  | n + 1, j =>
    ((bZ_ n (aa_.re j)).bind fun xr1 => (cond (!xr1) (some (aa_.mk 0 0 [] [] [])) (some (aa_.re j))))
def ce_ : Nat → bi_ → TRow → Int → Option aa_
  | 0, _, _, _ => none
  | n + 1, q, r, kids =>
    ((bc_ n q r kids).bind fun xr1 => ((bP_ n (aa_.re xr1)).bind fun xr2 => (some (aa_.re xr2))))
def aN_.step5 (n : Nat) (k0 : (List aa_) → (List Int) → Option ((List aa_) × (List Int))) (back : Int → Int → (List aO_) → Int → Bool → Int → (List Int) → Bool → Int → Int → (List TRow) → (List TKid) → (List aa_) → (List Int) → Option ((List aa_) × (List Int))) (i : Int) (v0 : Int) (v1 : List aO_) (v2 : Int) (v3 : Bool) (v4 : Int) (v5 : List Int) (v6 : Bool) (v7 : Int) (v8 : Int) (v9 : List TRow) (v10 : List TKid) (list : List aa_) (keys : List Int) : Option ((List aa_) × (List Int)) :=
  ((bQ_ n (bi_.mk v0 v1 v2 v3 v4 v5 v6 v7 v8) (v9.length : Int)).bind fun xr1 => (cond (decide (i < xr1)) (inB i v9.length (inB i v9.length ((bd_ n (bB_.mk (bi_.mk v0 v1 v2 v3 v4 v5 v6 v7 v8) v9 v10) ((v9.getD i.toNat TRow.dflt).id_)).bind fun xr2 => ((ce_ n (bi_.mk v0 v1 v2 v3 v4 v5 v6 v7 v8) (v9.getD i.toNat TRow.dflt) xr2).bind fun xr3 => (cL_ (list.length + ([(aa_.re xr3)] : List aa_).length) 80 (inB i v9.length (cL_ (keys.length + ([(v9.getD i.toNat TRow.dflt).id_] : List Int).length) 8 (back (W (i + 1)) v0 v1 v2 v3 v4 v5 v6 v7 v8 v9 v10 (list ++ ([(aa_.re xr3)] : List aa_)) (keys ++ ([(v9.getD i.toNat TRow.dflt).id_] : List Int)))))))))) (k0 list keys)))
def aN_.loop5 (n : Nat) (k0 : (List aa_) → (List Int) → Option ((List aa_) × (List Int))) (N : Nat) : Int → Int → (List aO_) → Int → Bool → Int → (List Int) → Bool → Int → Int → (List TRow) → (List TKid) → (List aa_) → (List Int) → Option ((List aa_) × (List Int)) :=
  cK_ (fun _ _ _ _ _ _ _ _ _ _ _ _ _ _ => none) (fun back => aN_.step5 n k0 back) N
def aN_ : Nat → bB_ → Option ((List aa_) × (List Int))
  | 0, _ => none
  | n + 1, v =>
    (aN_.loop5 n (fun xy4 xy5 => (some (xy4, xy5))) n 0 v.q.table v.q.where_ v.q.order v.q.down v.q.first v.q.show_ v.q.kids v.q.kidTable v.q.kidCol v.rows v.kids ([] : List aa_) ([] : List Int))
def bs_.step3 (n : Nat) (k0 : Option Int) (back : (List Int) → Int → Int → Option Int) (keys : List Int) (key : Int) (i : Int) : Option Int :=
  (cond (decide (i < (keys.length : Int))) (inB i keys.length (cond ((keys.getD i.toNat 0) == key) (some i) (back keys key (W (i + 1))))) k0)
def bs_.loop3 (n : Nat) (k0 : Option Int) (N : Nat) : (List Int) → Int → Int → Option Int :=
  cK_ (fun _ _ _ => none) (fun back => bs_.step3 n k0 back) N
def bs_ : Nat → (List Int) → Int → Option Int
  | 0, _, _ => none
  | n + 1, keys, key =>
    (bs_.loop3 n (some (-1)) n keys key 0)
def aw_.step3 (n : Nat) (k0 : (List Int) → (List aa_) → Option Bool) (back : (List Int) → (List aa_) → Int → Option Bool) (keys : List Int) (list : List aa_) (i : Int) : Option Bool :=
  (cond (decide (i < (keys.length : Int))) (hO_ 0 i keys.length (inB i keys.length ((bs_ n ((keys.take i.toNat).drop 0) (keys.getD i.toNat 0)).bind fun xr1 => (cond (decide (xr1 ≥ 0)) (some false) (back keys list (W (i + 1))))))) (k0 keys list))
def aw_.loop3 (n : Nat) (k0 : (List Int) → (List aa_) → Option Bool) (N : Nat) : (List Int) → (List aa_) → Int → Option Bool :=
  cK_ (fun _ _ _ => none) (fun back => aw_.step3 n k0 back) N
def aw_.step11 (n : Nat) (k2 : (List Int) → (List aa_) → Option Bool) (back : (List Int) → (List aa_) → Int → Option Bool) (keys : List Int) (list : List aa_) (i : Int) : Option Bool :=
  (cond (decide (i < (list.length : Int))) (inB i list.length ((bZ_ n (aa_.re (list.getD i.toNat aa_.dflt))).bind fun xr4 => (cond (!xr4) (some false) (back keys list (W (i + 1)))))) (k2 keys list))
def aw_.loop11 (n : Nat) (k2 : (List Int) → (List aa_) → Option Bool) (N : Nat) : (List Int) → (List aa_) → Int → Option Bool :=
  cK_ (fun _ _ _ => none) (fun back => aw_.step11 n k2 back) N
def aw_ : Nat → (List Int) → (List aa_) → Option Bool
  | 0, _, _ => none
  | n + 1, keys, list =>
    (aw_.loop3 n (fun xy2 xy3 => (aw_.loop11 n (fun xy5 xy6 => (some ((xy5.length : Int) == (xy6.length : Int)))) n xy2 xy3 0)) n keys list 0)
def bD_ : Nat → (List Int) → Int → Option (List Int)
  | 0, _, _ => none
  | n + 1, keys, at1 =>
    (hO_ 0 at1 keys.length (cL_ (([] : List Int).length + ((keys.take at1.toNat).drop 0).length) 8 (hO_ (W (at1 + 1)) (keys.length : Int) keys.length (cL_ ((([] : List Int) ++ ((keys.take at1.toNat).drop 0)).length + ((keys.take (keys.length : Int).toNat).drop (W (at1 + 1)).toNat).length) 8 (some ((([] : List Int) ++ ((keys.take at1.toNat).drop 0)) ++ ((keys.take (keys.length : Int).toNat).drop (W (at1 + 1)).toNat)))))))
def ah_.step6 (n : Nat) (spec_l1Same_ : aa_ → aa_ → Option Bool) (k0 : Int → Int → Bs → (List aa_) → (List Bs) → Int → Int → Bs → (List aa_) → (List Bs) → Option Bool) (back : Int → Int → Int → Bs → (List aa_) → (List Bs) → Int → Int → Bs → (List aa_) → (List Bs) → Option Bool) (t5 : Int) (t20 : Int) (t21 : Int) (t22 : Bs) (t23 : List aa_) (t24 : List Bs) (t30 : Int) (t31 : Int) (t32 : Bs) (t33 : List aa_) (t34 : List Bs) : Option Bool :=
  (cond (decide (t5 < (t23.length : Int))) (inB t5 t23.length (inB t5 t33.length ((spec_l1Same_ (aa_.re (t23.getD t5.toNat aa_.dflt)) (aa_.re (t33.getD t5.toNat aa_.dflt))).bind fun xr1 => (cond (!xr1) (some false) (back (W (t5 + 1)) t20 t21 t22 t23 t24 t30 t31 t32 t33 t34))))) (k0 t20 t21 t22 t23 t24 t30 t31 t32 t33 t34))
def ah_.loop6 (n : Nat) (spec_l1Same_ : aa_ → aa_ → Option Bool) (k0 : Int → Int → Bs → (List aa_) → (List Bs) → Int → Int → Bs → (List aa_) → (List Bs) → Option Bool) (N : Nat) : Int → Int → Int → Bs → (List aa_) → (List Bs) → Int → Int → Bs → (List aa_) → (List Bs) → Option Bool :=
  cK_ (fun _ _ _ _ _ _ _ _ _ _ _ => none) (fun back => ah_.step6 n spec_l1Same_ k0 back) N
def ah_.step14 (n : Nat) (spec_l1Same_ : aa_ → aa_ → Option Bool) (k2 : Option Bool) (back : Int → Int → Int → Bs → (List aa_) → (List Bs) → Int → Int → Bs → (List aa_) → (List Bs) → Option Bool) (t6 : Int) (t20 : Int) (t21 : Int) (t22 : Bs) (t23 : List aa_) (t24 : List Bs) (t30 : Int) (t31 : Int) (t32 : Bs) (t33 : List aa_) (t34 : List Bs) : Option Bool :=
  (cond (decide (t6 < (t24.length : Int))) (inB t6 t24.length (inB t6 t34.length (cond (!((t24.getD t6.toNat []) == (t34.getD t6.toNat []))) (some false) (back (W (t6 + 1)) t20 t21 t22 t23 t24 t30 t31 t32 t33 t34)))) k2)
def ah_.loop14 (n : Nat) (spec_l1Same_ : aa_ → aa_ → Option Bool) (k2 : Option Bool) (N : Nat) : Int → Int → Int → Bs → (List aa_) → (List Bs) → Int → Int → Bs → (List aa_) → (List Bs) → Option Bool :=
  cK_ (fun _ _ _ _ _ _ _ _ _ _ _ => none) (fun back => ah_.step14 n spec_l1Same_ k2 back) N
def ah_ : Nat → aa_ → aa_ → Option Bool
  | 0, _, _ => none
  | n + 1, o, append =>
    (cond (o.kind != append.kind) (some false) (cond (o.n_ != append.n_) (some false) (cond (!(o.s == append.s)) (some false) (cond ((o.list.length : Int) != (append.list.length : Int)) (some false) (cond ((o.names.length : Int) != (append.names.length : Int)) (some false) (ah_.loop6 n (ah_ n) (fun xy2 xy3 xy4 xy5 xy6 xy7 xy8 xy9 xy10 xy11 => (ah_.loop14 n (ah_ n) (some true) n 0 xy2 xy3 xy4 xy5 xy6 xy7 xy8 xy9 xy10 xy11)) n 0 o.kind o.n_ o.s o.list o.names append.kind append.n_ append.s append.list append.names))))))
def aX_.step4 (n : Nat) (spec_l1Copy_ : aa_ → Option aa_) (k0 : Int → Int → Bs → Int → Int → Bs → (List aa_) → (List Bs) → Option aa_) (back : Int → Int → Int → Bs → (List aa_) → (List Bs) → Int → Int → Bs → Int → Int → Bs → (List aa_) → (List Bs) → Option aa_) (i : Int) (j0 : Int) (j1 : Int) (j2 : Bs) (j3 : List aa_) (j4 : List Bs) (t20 : Int) (t21 : Int) (t22 : Bs) (out0 : Int) (out1 : Int) (out2 : Bs) (out3 : List aa_) (out4 : List Bs) : Option aa_ :=
  (cond (decide (i < (j3.length : Int))) (inB i j3.length ((spec_l1Copy_ (aa_.re (j3.getD i.toNat aa_.dflt))).bind fun xr1 => (cL_ (out3.length + ([(aa_.re xr1)] : List aa_).length) 80 (back (W (i + 1)) j0 j1 j2 j3 j4 t20 t21 t22 out0 out1 out2 (out3 ++ ([(aa_.re xr1)] : List aa_)) out4)))) (k0 t20 t21 t22 out0 out1 out2 out3 out4))
def aX_.loop4 (n : Nat) (spec_l1Copy_ : aa_ → Option aa_) (k0 : Int → Int → Bs → Int → Int → Bs → (List aa_) → (List Bs) → Option aa_) (N : Nat) : Int → Int → Int → Bs → (List aa_) → (List Bs) → Int → Int → Bs → Int → Int → Bs → (List aa_) → (List Bs) → Option aa_ :=
  cK_ (fun _ _ _ _ _ _ _ _ _ _ _ _ _ _ => none) (fun back => aX_.step4 n spec_l1Copy_ k0 back) N
def aX_ : Nat → aa_ → Option aa_
  | 0, _ => none
  | n + 1, j =>
    (cL_ (([] : List Bs).length + j.names.length) 16 (aX_.loop4 n (aX_ n) (fun xy2 xy3 xy4 xy5 xy6 xy7 xy8 xy9 => (some (aa_.mk xy5 xy6 xy7 xy8 xy9))) n 0 j.kind j.n_ j.s j.list j.names 0 0 [] j.kind j.n_ j.s ([] : List aa_) (([] : List Bs) ++ j.names)))
def bM_ : Nat → (List Int) → Int → Int → Option (List Int)
  | 0, _, _, _ => none
  | n + 1, keys, at1, key =>
    (hO_ 0 at1 keys.length (cL_ (([] : List Int).length + ((keys.take at1.toNat).drop 0).length) 8 (cL_ ((([] : List Int) ++ ((keys.take at1.toNat).drop 0)).length + ([key] : List Int).length) 8 (hO_ at1 (keys.length : Int) keys.length (cL_ (((([] : List Int) ++ ((keys.take at1.toNat).drop 0)) ++ ([key] : List Int)).length + ((keys.take (keys.length : Int).toNat).drop at1.toNat).length) 8 (some (((([] : List Int) ++ ((keys.take at1.toNat).drop 0)) ++ ([key] : List Int)) ++ ((keys.take (keys.length : Int).toNat).drop at1.toNat))))))))
def as_.step5 (n : Nat) (k0 : (List aa_) → (List Int) → (List aa_) → (List Int) → (List TOp) → (List Int) → Option (List TOp)) (back : (List aa_) → (List Int) → (List aa_) → (List Int) → Int → (List TOp) → (List Int) → Option (List TOp)) (o : List aa_) (append : List Int) (t2 : List aa_) (t3 : List Int) (t11 : Int) (t9 : List TOp) (t10 : List Int) : Option (List TOp) :=
  (cond (decide (t11 ≥ 0)) (inB t11 append.length ((bs_ n t3 (append.getD t11.toNat 0)).bind fun xr1 => (cond (decide (xr1 < 0)) ((aF_ n t11).bind fun xr2 => (cL_ (t9.length + ([(TOp.mk 2 ([xr2] : List Bs) (aa_.mk 0 0 [] [] []))] : List TOp).length) 112 ((bD_ n t10 t11).bind fun xr3 => (back o append t2 t3 (W (t11 - 1)) (t9 ++ ([(TOp.mk 2 ([xr2] : List Bs) (aa_.mk 0 0 [] [] []))] : List TOp)) xr3)))) (back o append t2 t3 (W (t11 - 1)) t9 t10)))) (k0 o append t2 t3 t9 t10))
def as_.loop5 (n : Nat) (k0 : (List aa_) → (List Int) → (List aa_) → (List Int) → (List TOp) → (List Int) → Option (List TOp)) (N : Nat) : (List aa_) → (List Int) → (List aa_) → (List Int) → Int → (List TOp) → (List Int) → Option (List TOp) :=
  cK_ (fun _ _ _ _ _ _ _ => none) (fun back => as_.step5 n k0 back) N
def as_.step13 (n : Nat) (k2 : (List TOp) → Option (List TOp)) (back : (List aa_) → (List Int) → (List aa_) → (List Int) → Int → (List TOp) → (List Int) → Option (List TOp)) (o : List aa_) (append : List Int) (t2 : List aa_) (t3 : List Int) (t12 : Int) (t9 : List TOp) (t10 : List Int) : Option (List TOp) :=
  (cond (decide (t12 < (t3.length : Int))) ((aF_ n t12).bind fun xr10 => (inB t12 t3.length ((bs_ n t10 (t3.getD t12.toNat 0)).bind fun xr11 => (cond (xr11 == t12) (inB t12 t3.length ((bs_ n append (t3.getD t12.toNat 0)).bind fun xr12 => (inB xr12 o.length (inB t12 t2.length ((ah_ n (aa_.re (o.getD xr12.toNat aa_.dflt)) (aa_.re (t2.getD t12.toNat aa_.dflt))).bind fun xr13 => (cond (!xr13) (inB t12 t2.length ((aX_ n (aa_.re (t2.getD t12.toNat aa_.dflt))).bind fun xr14 => (cL_ (t9.length + ([(TOp.mk 3 ([xr10] : List Bs) (aa_.re xr14))] : List TOp).length) 112 (back o append t2 t3 (W (t12 + 1)) (t9 ++ ([(TOp.mk 3 ([xr10] : List Bs) (aa_.re xr14))] : List TOp)) t10)))) (back o append t2 t3 (W (t12 + 1)) t9 t10))))))) (cond (decide (xr11 ≥ 0)) ((aF_ n xr11).bind fun xr15 => (cL_ (t9.length + ([(TOp.mk 2 ([xr15] : List Bs) (aa_.mk 0 0 [] [] []))] : List TOp).length) 112 ((bD_ n t10 xr11).bind fun xr16 => (inB t12 t2.length ((aX_ n (aa_.re (t2.getD t12.toNat aa_.dflt))).bind fun xr17 => (cL_ ((t9 ++ ([(TOp.mk 2 ([xr15] : List Bs) (aa_.mk 0 0 [] [] []))] : List TOp)).length + ([(TOp.mk 1 ([xr10] : List Bs) (aa_.re xr17))] : List TOp).length) 112 (inB t12 t3.length ((bM_ n xr16 t12 (t3.getD t12.toNat 0)).bind fun xr18 => (back o append t2 t3 (W (t12 + 1)) ((t9 ++ ([(TOp.mk 2 ([xr15] : List Bs) (aa_.mk 0 0 [] [] []))] : List TOp)) ++ ([(TOp.mk 1 ([xr10] : List Bs) (aa_.re xr17))] : List TOp)) xr18))))))))) (inB t12 t2.length ((aX_ n (aa_.re (t2.getD t12.toNat aa_.dflt))).bind fun xr19 => (cL_ (t9.length + ([(TOp.mk 1 ([xr10] : List Bs) (aa_.re xr19))] : List TOp).length) 112 (inB t12 t3.length ((bM_ n t10 t12 (t3.getD t12.toNat 0)).bind fun xr20 => (back o append t2 t3 (W (t12 + 1)) (t9 ++ ([(TOp.mk 1 ([xr10] : List Bs) (aa_.re xr19))] : List TOp)) xr20))))))))))) (k2 t9))
def as_.loop13 (n : Nat) (k2 : (List TOp) → Option (List TOp)) (N : Nat) : (List aa_) → (List Int) → (List aa_) → (List Int) → Int → (List TOp) → (List Int) → Option (List TOp) :=
  cK_ (fun _ _ _ _ _ _ _ => none) (fun back => as_.step13 n k2 back) N
def as_ : Nat → (List aa_) → (List Int) → (List aa_) → (List Int) → Option (List TOp)
  | 0, _, _, _, _ => none
  | n + 1, o, append, a2, a3 =>
    (cL_ (([] : List Int).length + append.length) 8 (as_.loop5 n (fun xy4 xy5 xy6 xy7 xy8 xy9 => (as_.loop13 n (fun xy21 => (some xy21)) n xy4 xy5 xy6 xy7 0 xy8 xy9)) n o append a2 a3 (W ((append.length : Int) - 1)) ([] : List TOp) (([] : List Int) ++ append)))
def cH_ : Nat → (List aa_) → (List Int) → (List aa_) → (List Int) → Option (List TOp)
  | 0, _, _, _, _ => none
  | n + 1, old, oldKeys, now, nowKeys =>
    ((aw_ n oldKeys old).bind fun xr1 => (cond (!xr1) (some ([] : List TOp)) ((aw_ n nowKeys now).bind fun xr2 => (cond (!xr2) (some ([] : List TOp)) ((as_ n old oldKeys now nowKeys).bind fun xr3 => (some xr3))))))
def bn_.step4 (n : Nat) (k0 : (List TOp) → Option (List TOp)) (back : Bs → (List TOp) → Int → (List TOp) → Option (List TOp)) (name : Bs) (list : List TOp) (i : Int) (out_1 : List TOp) : Option (List TOp) :=
  (cond (decide (i < (list.length : Int))) (inB i list.length (inB i list.length (cL_ (([name] : List Bs).length + ((list.getD i.toNat TOp.dflt).way).length) 16 (inB i list.length ((aX_ n (aa_.re ((list.getD i.toNat TOp.dflt).value))).bind fun xr1 => (cL_ (out_1.length + ([(TOp.mk ((list.getD i.toNat TOp.dflt).kind) (([name] : List Bs) ++ ((list.getD i.toNat TOp.dflt).way)) (aa_.re xr1))] : List TOp).length) 112 (back name list (W (i + 1)) (out_1 ++ ([(TOp.mk ((list.getD i.toNat TOp.dflt).kind) (([name] : List Bs) ++ ((list.getD i.toNat TOp.dflt).way)) (aa_.re xr1))] : List TOp))))))))) (k0 out_1))
def bn_.loop4 (n : Nat) (k0 : (List TOp) → Option (List TOp)) (N : Nat) : Bs → (List TOp) → Int → (List TOp) → Option (List TOp) :=
  cK_ (fun _ _ _ _ => none) (fun back => bn_.step4 n k0 back) N
def bn_ : Nat → Bs → (List TOp) → Option (List TOp)
  | 0, _, _ => none
  | n + 1, name, list =>
    (bn_.loop4 n (fun xy2 => (some xy2)) n name list 0 ([] : List TOp))
def bG_ : Nat → bB_ → bB_ → Option (List TOp)
  | 0, _, _ => none
  | n + 1, a, b =>
    ((bH_ n a.q b.q).bind fun xr1 => (cond (!xr1) (some ([] : List TOp)) (cond ((a.rows.length : Int) != (b.rows.length : Int)) ((cu_ n (b.rows.length : Int)).bind fun xr2 => (cL_ (([] : List TOp).length + ([(TOp.mk 3 ([[99, 111, 117, 110, 116]] : List Bs) (aa_.re xr2))] : List TOp).length) 112 ((aN_ n a).bind fun xr3 => ((aN_ n b).bind fun xr4 => ((cH_ n xr3.1 xr3.2 xr4.1 xr4.2).bind fun xr5 => ((bn_ n [114, 111, 119, 115] xr5).bind fun xr6 => (cL_ ((([] : List TOp) ++ ([(TOp.mk 3 ([[99, 111, 117, 110, 116]] : List Bs) (aa_.re xr2))] : List TOp)).length + xr6.length) 112 (some ((([] : List TOp) ++ ([(TOp.mk 3 ([[99, 111, 117, 110, 116]] : List Bs) (aa_.re xr2))] : List TOp)) ++ xr6))))))))) ((aN_ n a).bind fun xr7 => ((aN_ n b).bind fun xr8 => ((cH_ n xr7.1 xr7.2 xr8.1 xr8.2).bind fun xr9 => ((bn_ n [114, 111, 119, 115] xr9).bind fun xr10 => (cL_ (([] : List TOp).length + xr10.length) 112 (some (([] : List TOp) ++ xr10))))))))))
def al_.step6 (n : Nat) (k0 : Option Bool) (back : (List aO_) → (List aO_) → Int → Int → Option Bool) (s1 : List aO_) (s2 : List aO_) (t12 : Int) (t13 : Int) : Option Bool :=
  (cond (decide (t13 < t12)) (inB t13 s1.length (inB t13 s2.length (let xv1 : Bool := (!(cond (((s1.getD t13.toNat aO_.dflt).col) == ((s2.getD t13.toNat aO_.dflt).col)) (cond (((s1.getD t13.toNat aO_.dflt).op) == ((s2.getD t13.toNat aO_.dflt).op)) (cond (((s1.getD t13.toNat aO_.dflt).v) == ((s2.getD t13.toNat aO_.dflt).v)) true false) false) false)); (cond xv1 (some false) (back s1 s2 t12 (W (t13 + 1))))))) k0)
def al_.loop6 (n : Nat) (k0 : Option Bool) (N : Nat) : (List aO_) → (List aO_) → Int → Int → Option Bool :=
  cK_ (fun _ _ _ _ => none) (fun back => al_.step6 n k0 back) N
def al_ : Nat → (List aO_) → (List aO_) → Option Bool
  | 0, _, _ => none
  | n + 1, s1, s2 =>
    (cond ((s1.length : Int) != (s2.length : Int)) (some false) (al_.loop6 n (some true) n s1 s2 (s1.length : Int) 0))
def av_.step6 (n : Nat) (k0 : Option Bool) (back : (List Int) → (List Int) → Int → Int → Option Bool) (s1 : List Int) (s2 : List Int) (t12 : Int) (t13 : Int) : Option Bool :=
  (cond (decide (t13 < t12)) (inB t13 s1.length (inB t13 s2.length (cond ((s1.getD t13.toNat 0) != (s2.getD t13.toNat 0)) (some false) (back s1 s2 t12 (W (t13 + 1)))))) k0)
def av_.loop6 (n : Nat) (k0 : Option Bool) (N : Nat) : (List Int) → (List Int) → Int → Int → Option Bool :=
  cK_ (fun _ _ _ _ => none) (fun back => av_.step6 n k0 back) N
def av_ : Nat → (List Int) → (List Int) → Option Bool
  | 0, _, _ => none
  | n + 1, s1, s2 =>
    (cond ((s1.length : Int) != (s2.length : Int)) (some false) (av_.loop6 n (some true) n s1 s2 (s1.length : Int) 0))
def bJ_ : Nat → bi_ → bi_ → Option Bool
  | 0, _, _ => none
  | n + 1, o, append =>
    (cond (o.table == append.table) (cond (o.order == append.order) (cond (o.down == append.down) (cond (o.kids == append.kids) (cond (o.kidTable == append.kidTable) (cond (o.first == append.first) (cond (o.kidCol == append.kidCol) ((al_ n o.where_ append.where_).bind fun xr1 => (cond xr1 ((av_ n o.show_ append.show_).bind fun xr2 => (some xr2)) (some false))) (some false)) (some false)) (cond (o.first == append.first) (some false) (some false))) (cond (o.first == append.first) (some false) (some false))) (cond (o.kids == append.kids) (cond (o.kidTable == append.kidTable) (some false) (some false)) (some false))) (cond (o.kids == append.kids) (cond (o.kidTable == append.kidTable) (some false) (some false)) (some false))) (cond (o.kids == append.kids) (cond (o.kidTable == append.kidTable) (some false) (some false)) (some false)))
def aM_ : Nat → Int → Int → Int → Option Bool
  | 0, _, _, _ => none
  | n + 1, n1, low, high =>
    (cond (decide (n1 ≥ low)) (some (decide (n1 ≤ high))) (some false))
def bh_ : Nat → Int → Option Bool
  | 0, _ => none
  | n + 1, n1 =>
    ((aM_ n n1 (-1000000000) 1000000000).bind fun xr1 => (some xr1))
def ap_.step3 (n : Nat) (k0 : Bs → Option Bool) (back : Bs → Int → Int → Option Bool) (s : Bs) (t5 : Int) (t6 : Int) : Option Bool :=
  (cond (decide (t6 < t5)) (inB t6 s.length ((aM_ n (W (((s.getD t6.toNat 0).toNat : Int))) 32 126).bind fun xr1 => (cond (!xr1) (some false) (back s t5 (W (t6 + 1)))))) (k0 s))
def ap_.loop3 (n : Nat) (k0 : Bs → Option Bool) (N : Nat) : Bs → Int → Int → Option Bool :=
  cK_ (fun _ _ _ => none) (fun back => ap_.step3 n k0 back) N
def ap_ : Nat → Bs → Option Bool
  | 0, _ => none
  | n + 1, s =>
    (ap_.loop3 n (fun xy2 => (some (decide ((xy2.length : Int) ≤ 60)))) n s (s.length : Int) 0)
def ag_.step3 (n : Nat) (k0 : Option Bool) (back : (List Bs) → (List Bs) → Int → Int → Option Bool) (names : List Bs) (t5 : List Bs) (t6 : Int) (t7 : Int) : Option Bool :=
  (cond (decide (t7 < t6)) (inB t7 t5.length ((ap_ n (t5.getD t7.toNat [])).bind fun xr1 => (cond (!xr1) (some false) (cond (decide (t7 > 0)) (inB (W (t7 - 1)) names.length (let xv2 : Bool := (!Op.bytesLess (names.getD (W (t7 - 1)).toNat []) (t5.getD t7.toNat [])); (cond xv2 (some false) (back names t5 t6 (W (t7 + 1)))))) (back names t5 t6 (W (t7 + 1))))))) k0)
def ag_.loop3 (n : Nat) (k0 : Option Bool) (N : Nat) : (List Bs) → (List Bs) → Int → Int → Option Bool :=
  cK_ (fun _ _ _ _ => none) (fun back => ag_.step3 n k0 back) N
def ag_ : Nat → (List Bs) → Option Bool
  | 0, _ => none
  | n + 1, names =>
    (ag_.loop3 n (some true) n names names (names.length : Int) 0)
def cz_ : Nat → aa_ → Option Bool
  | 0, _ => none
  | n + 1, o =>
    (cond (decide ((o.list.length : Int) > 0)) (cond (o.kind != 4) (cond (o.kind != 5) (some false) (cond (decide ((o.names.length : Int) > 0)) (cond (o.kind != 5) (some false) (cond (o.n_ != 0) (cond (o.kind != 1) (cond (o.kind != 2) (some false) (cond (!(o.s == [])) (cond (o.kind != 3) (some false) (cond (o.kind == 1) ((aM_ n o.n_ 0 1).bind fun xr1 => (some xr1)) (cond (o.kind == 2) ((bh_ n o.n_).bind fun xr2 => (some xr2)) (cond (o.kind == 3) ((ap_ n o.s).bind fun xr3 => (some xr3)) (cond (o.kind == 5) (cond ((o.names.length : Int) == (o.list.length : Int)) ((ag_ n o.names).bind fun xr4 => (some xr4)) (some false)) (cond (o.kind == 0) (some true) (some (o.kind == 4)))))))) (cond (o.kind == 1) ((aM_ n o.n_ 0 1).bind fun xr5 => (some xr5)) (cond (o.kind == 2) ((bh_ n o.n_).bind fun xr6 => (some xr6)) (cond (o.kind == 3) ((ap_ n o.s).bind fun xr7 => (some xr7)) (cond (o.kind == 5) (cond ((o.names.length : Int) == (o.list.length : Int)) ((ag_ n o.names).bind fun xr8 => (some xr8)) (some false)) (cond (o.kind == 0) (some true) (some (o.kind == 4))))))))) (cond (!(o.s == [])) (cond (o.kind != 3) (some false) (cond (o.kind == 1) ((aM_ n o.n_ 0 1).bind fun xr9 => (some xr9)) (cond (o.kind == 2) ((bh_ n o.n_).bind fun xr10 => (some xr10)) (cond (o.kind == 3) ((ap_ n o.s).bind fun xr11 => (some xr11)) (cond (o.kind == 5) (cond ((o.names.length : Int) == (o.list.length : Int)) ((ag_ n o.names).bind fun xr12 => (some xr12)) (some false)) (cond (o.kind == 0) (some true) (some (o.kind == 4)))))))) (cond (o.kind == 1) ((aM_ n o.n_ 0 1).bind fun xr13 => (some xr13)) (cond (o.kind == 2) ((bh_ n o.n_).bind fun xr14 => (some xr14)) (cond (o.kind == 3) ((ap_ n o.s).bind fun xr15 => (some xr15)) (cond (o.kind == 5) (cond ((o.names.length : Int) == (o.list.length : Int)) ((ag_ n o.names).bind fun xr16 => (some xr16)) (some false)) (cond (o.kind == 0) (some true) (some (o.kind == 4))))))))) (cond (!(o.s == [])) (cond (o.kind != 3) (some false) (cond (o.kind == 1) ((aM_ n o.n_ 0 1).bind fun xr17 => (some xr17)) (cond (o.kind == 2) ((bh_ n o.n_).bind fun xr18 => (some xr18)) (cond (o.kind == 3) ((ap_ n o.s).bind fun xr19 => (some xr19)) (cond (o.kind == 5) (cond ((o.names.length : Int) == (o.list.length : Int)) ((ag_ n o.names).bind fun xr20 => (some xr20)) (some false)) (cond (o.kind == 0) (some true) (some (o.kind == 4)))))))) (cond (o.kind == 1) ((aM_ n o.n_ 0 1).bind fun xr21 => (some xr21)) (cond (o.kind == 2) ((bh_ n o.n_).bind fun xr22 => (some xr22)) (cond (o.kind == 3) ((ap_ n o.s).bind fun xr23 => (some xr23)) (cond (o.kind == 5) (cond ((o.names.length : Int) == (o.list.length : Int)) ((ag_ n o.names).bind fun xr24 => (some xr24)) (some false)) (cond (o.kind == 0) (some true) (some (o.kind == 4)))))))))) (cond (o.n_ != 0) (cond (o.kind != 1) (cond (o.kind != 2) (some false) (cond (!(o.s == [])) (cond (o.kind != 3) (some false) (cond (o.kind == 1) ((aM_ n o.n_ 0 1).bind fun xr25 => (some xr25)) (cond (o.kind == 2) ((bh_ n o.n_).bind fun xr26 => (some xr26)) (cond (o.kind == 3) ((ap_ n o.s).bind fun xr27 => (some xr27)) (cond (o.kind == 5) (cond ((o.names.length : Int) == (o.list.length : Int)) ((ag_ n o.names).bind fun xr28 => (some xr28)) (some false)) (cond (o.kind == 0) (some true) (some (o.kind == 4)))))))) (cond (o.kind == 1) ((aM_ n o.n_ 0 1).bind fun xr29 => (some xr29)) (cond (o.kind == 2) ((bh_ n o.n_).bind fun xr30 => (some xr30)) (cond (o.kind == 3) ((ap_ n o.s).bind fun xr31 => (some xr31)) (cond (o.kind == 5) (cond ((o.names.length : Int) == (o.list.length : Int)) ((ag_ n o.names).bind fun xr32 => (some xr32)) (some false)) (cond (o.kind == 0) (some true) (some (o.kind == 4))))))))) (cond (!(o.s == [])) (cond (o.kind != 3) (some false) (cond (o.kind == 1) ((aM_ n o.n_ 0 1).bind fun xr33 => (some xr33)) (cond (o.kind == 2) ((bh_ n o.n_).bind fun xr34 => (some xr34)) (cond (o.kind == 3) ((ap_ n o.s).bind fun xr35 => (some xr35)) (cond (o.kind == 5) (cond ((o.names.length : Int) == (o.list.length : Int)) ((ag_ n o.names).bind fun xr36 => (some xr36)) (some false)) (cond (o.kind == 0) (some true) (some (o.kind == 4)))))))) (cond (o.kind == 1) ((aM_ n o.n_ 0 1).bind fun xr37 => (some xr37)) (cond (o.kind == 2) ((bh_ n o.n_).bind fun xr38 => (some xr38)) (cond (o.kind == 3) ((ap_ n o.s).bind fun xr39 => (some xr39)) (cond (o.kind == 5) (cond ((o.names.length : Int) == (o.list.length : Int)) ((ag_ n o.names).bind fun xr40 => (some xr40)) (some false)) (cond (o.kind == 0) (some true) (some (o.kind == 4))))))))) (cond (!(o.s == [])) (cond (o.kind != 3) (some false) (cond (o.kind == 1) ((aM_ n o.n_ 0 1).bind fun xr41 => (some xr41)) (cond (o.kind == 2) ((bh_ n o.n_).bind fun xr42 => (some xr42)) (cond (o.kind == 3) ((ap_ n o.s).bind fun xr43 => (some xr43)) (cond (o.kind == 5) (cond ((o.names.length : Int) == (o.list.length : Int)) ((ag_ n o.names).bind fun xr44 => (some xr44)) (some false)) (cond (o.kind == 0) (some true) (some (o.kind == 4)))))))) (cond (o.kind == 1) ((aM_ n o.n_ 0 1).bind fun xr45 => (some xr45)) (cond (o.kind == 2) ((bh_ n o.n_).bind fun xr46 => (some xr46)) (cond (o.kind == 3) ((ap_ n o.s).bind fun xr47 => (some xr47)) (cond (o.kind == 5) (cond ((o.names.length : Int) == (o.list.length : Int)) ((ag_ n o.names).bind fun xr48 => (some xr48)) (some false)) (cond (o.kind == 0) (some true) (some (o.kind == 4))))))))))) (cond (decide ((o.names.length : Int) > 0)) (cond (o.kind != 5) (some false) (cond (o.n_ != 0) (cond (o.kind != 1) (cond (o.kind != 2) (some false) (cond (!(o.s == [])) (cond (o.kind != 3) (some false) (cond (o.kind == 1) ((aM_ n o.n_ 0 1).bind fun xr49 => (some xr49)) (cond (o.kind == 2) ((bh_ n o.n_).bind fun xr50 => (some xr50)) (cond (o.kind == 3) ((ap_ n o.s).bind fun xr51 => (some xr51)) (cond (o.kind == 5) (cond ((o.names.length : Int) == (o.list.length : Int)) ((ag_ n o.names).bind fun xr52 => (some xr52)) (some false)) (cond (o.kind == 0) (some true) (some (o.kind == 4)))))))) (cond (o.kind == 1) ((aM_ n o.n_ 0 1).bind fun xr53 => (some xr53)) (cond (o.kind == 2) ((bh_ n o.n_).bind fun xr54 => (some xr54)) (cond (o.kind == 3) ((ap_ n o.s).bind fun xr55 => (some xr55)) (cond (o.kind == 5) (cond ((o.names.length : Int) == (o.list.length : Int)) ((ag_ n o.names).bind fun xr56 => (some xr56)) (some false)) (cond (o.kind == 0) (some true) (some (o.kind == 4))))))))) (cond (!(o.s == [])) (cond (o.kind != 3) (some false) (cond (o.kind == 1) ((aM_ n o.n_ 0 1).bind fun xr57 => (some xr57)) (cond (o.kind == 2) ((bh_ n o.n_).bind fun xr58 => (some xr58)) (cond (o.kind == 3) ((ap_ n o.s).bind fun xr59 => (some xr59)) (cond (o.kind == 5) (cond ((o.names.length : Int) == (o.list.length : Int)) ((ag_ n o.names).bind fun xr60 => (some xr60)) (some false)) (cond (o.kind == 0) (some true) (some (o.kind == 4)))))))) (cond (o.kind == 1) ((aM_ n o.n_ 0 1).bind fun xr61 => (some xr61)) (cond (o.kind == 2) ((bh_ n o.n_).bind fun xr62 => (some xr62)) (cond (o.kind == 3) ((ap_ n o.s).bind fun xr63 => (some xr63)) (cond (o.kind == 5) (cond ((o.names.length : Int) == (o.list.length : Int)) ((ag_ n o.names).bind fun xr64 => (some xr64)) (some false)) (cond (o.kind == 0) (some true) (some (o.kind == 4))))))))) (cond (!(o.s == [])) (cond (o.kind != 3) (some false) (cond (o.kind == 1) ((aM_ n o.n_ 0 1).bind fun xr65 => (some xr65)) (cond (o.kind == 2) ((bh_ n o.n_).bind fun xr66 => (some xr66)) (cond (o.kind == 3) ((ap_ n o.s).bind fun xr67 => (some xr67)) (cond (o.kind == 5) (cond ((o.names.length : Int) == (o.list.length : Int)) ((ag_ n o.names).bind fun xr68 => (some xr68)) (some false)) (cond (o.kind == 0) (some true) (some (o.kind == 4)))))))) (cond (o.kind == 1) ((aM_ n o.n_ 0 1).bind fun xr69 => (some xr69)) (cond (o.kind == 2) ((bh_ n o.n_).bind fun xr70 => (some xr70)) (cond (o.kind == 3) ((ap_ n o.s).bind fun xr71 => (some xr71)) (cond (o.kind == 5) (cond ((o.names.length : Int) == (o.list.length : Int)) ((ag_ n o.names).bind fun xr72 => (some xr72)) (some false)) (cond (o.kind == 0) (some true) (some (o.kind == 4)))))))))) (cond (o.n_ != 0) (cond (o.kind != 1) (cond (o.kind != 2) (some false) (cond (!(o.s == [])) (cond (o.kind != 3) (some false) (cond (o.kind == 1) ((aM_ n o.n_ 0 1).bind fun xr73 => (some xr73)) (cond (o.kind == 2) ((bh_ n o.n_).bind fun xr74 => (some xr74)) (cond (o.kind == 3) ((ap_ n o.s).bind fun xr75 => (some xr75)) (cond (o.kind == 5) (cond ((o.names.length : Int) == (o.list.length : Int)) ((ag_ n o.names).bind fun xr76 => (some xr76)) (some false)) (cond (o.kind == 0) (some true) (some (o.kind == 4)))))))) (cond (o.kind == 1) ((aM_ n o.n_ 0 1).bind fun xr77 => (some xr77)) (cond (o.kind == 2) ((bh_ n o.n_).bind fun xr78 => (some xr78)) (cond (o.kind == 3) ((ap_ n o.s).bind fun xr79 => (some xr79)) (cond (o.kind == 5) (cond ((o.names.length : Int) == (o.list.length : Int)) ((ag_ n o.names).bind fun xr80 => (some xr80)) (some false)) (cond (o.kind == 0) (some true) (some (o.kind == 4))))))))) (cond (!(o.s == [])) (cond (o.kind != 3) (some false) (cond (o.kind == 1) ((aM_ n o.n_ 0 1).bind fun xr81 => (some xr81)) (cond (o.kind == 2) ((bh_ n o.n_).bind fun xr82 => (some xr82)) (cond (o.kind == 3) ((ap_ n o.s).bind fun xr83 => (some xr83)) (cond (o.kind == 5) (cond ((o.names.length : Int) == (o.list.length : Int)) ((ag_ n o.names).bind fun xr84 => (some xr84)) (some false)) (cond (o.kind == 0) (some true) (some (o.kind == 4)))))))) (cond (o.kind == 1) ((aM_ n o.n_ 0 1).bind fun xr85 => (some xr85)) (cond (o.kind == 2) ((bh_ n o.n_).bind fun xr86 => (some xr86)) (cond (o.kind == 3) ((ap_ n o.s).bind fun xr87 => (some xr87)) (cond (o.kind == 5) (cond ((o.names.length : Int) == (o.list.length : Int)) ((ag_ n o.names).bind fun xr88 => (some xr88)) (some false)) (cond (o.kind == 0) (some true) (some (o.kind == 4))))))))) (cond (!(o.s == [])) (cond (o.kind != 3) (some false) (cond (o.kind == 1) ((aM_ n o.n_ 0 1).bind fun xr89 => (some xr89)) (cond (o.kind == 2) ((bh_ n o.n_).bind fun xr90 => (some xr90)) (cond (o.kind == 3) ((ap_ n o.s).bind fun xr91 => (some xr91)) (cond (o.kind == 5) (cond ((o.names.length : Int) == (o.list.length : Int)) ((ag_ n o.names).bind fun xr92 => (some xr92)) (some false)) (cond (o.kind == 0) (some true) (some (o.kind == 4)))))))) (cond (o.kind == 1) ((aM_ n o.n_ 0 1).bind fun xr93 => (some xr93)) (cond (o.kind == 2) ((bh_ n o.n_).bind fun xr94 => (some xr94)) (cond (o.kind == 3) ((ap_ n o.s).bind fun xr95 => (some xr95)) (cond (o.kind == 5) (cond ((o.names.length : Int) == (o.list.length : Int)) ((ag_ n o.names).bind fun xr96 => (some xr96)) (some false)) (cond (o.kind == 0) (some true) (some (o.kind == 4))))))))))) (cond (decide ((o.names.length : Int) > 0)) (cond (o.kind != 5) (some false) (cond (o.n_ != 0) (cond (o.kind != 1) (cond (o.kind != 2) (some false) (cond (!(o.s == [])) (cond (o.kind != 3) (some false) (cond (o.kind == 1) ((aM_ n o.n_ 0 1).bind fun xr97 => (some xr97)) (cond (o.kind == 2) ((bh_ n o.n_).bind fun xr98 => (some xr98)) (cond (o.kind == 3) ((ap_ n o.s).bind fun xr99 => (some xr99)) (cond (o.kind == 5) (cond ((o.names.length : Int) == (o.list.length : Int)) ((ag_ n o.names).bind fun xr100 => (some xr100)) (some false)) (cond (o.kind == 0) (some true) (some (o.kind == 4)))))))) (cond (o.kind == 1) ((aM_ n o.n_ 0 1).bind fun xr101 => (some xr101)) (cond (o.kind == 2) ((bh_ n o.n_).bind fun xr102 => (some xr102)) (cond (o.kind == 3) ((ap_ n o.s).bind fun xr103 => (some xr103)) (cond (o.kind == 5) (cond ((o.names.length : Int) == (o.list.length : Int)) ((ag_ n o.names).bind fun xr104 => (some xr104)) (some false)) (cond (o.kind == 0) (some true) (some (o.kind == 4))))))))) (cond (!(o.s == [])) (cond (o.kind != 3) (some false) (cond (o.kind == 1) ((aM_ n o.n_ 0 1).bind fun xr105 => (some xr105)) (cond (o.kind == 2) ((bh_ n o.n_).bind fun xr106 => (some xr106)) (cond (o.kind == 3) ((ap_ n o.s).bind fun xr107 => (some xr107)) (cond (o.kind == 5) (cond ((o.names.length : Int) == (o.list.length : Int)) ((ag_ n o.names).bind fun xr108 => (some xr108)) (some false)) (cond (o.kind == 0) (some true) (some (o.kind == 4)))))))) (cond (o.kind == 1) ((aM_ n o.n_ 0 1).bind fun xr109 => (some xr109)) (cond (o.kind == 2) ((bh_ n o.n_).bind fun xr110 => (some xr110)) (cond (o.kind == 3) ((ap_ n o.s).bind fun xr111 => (some xr111)) (cond (o.kind == 5) (cond ((o.names.length : Int) == (o.list.length : Int)) ((ag_ n o.names).bind fun xr112 => (some xr112)) (some false)) (cond (o.kind == 0) (some true) (some (o.kind == 4))))))))) (cond (!(o.s == [])) (cond (o.kind != 3) (some false) (cond (o.kind == 1) ((aM_ n o.n_ 0 1).bind fun xr113 => (some xr113)) (cond (o.kind == 2) ((bh_ n o.n_).bind fun xr114 => (some xr114)) (cond (o.kind == 3) ((ap_ n o.s).bind fun xr115 => (some xr115)) (cond (o.kind == 5) (cond ((o.names.length : Int) == (o.list.length : Int)) ((ag_ n o.names).bind fun xr116 => (some xr116)) (some false)) (cond (o.kind == 0) (some true) (some (o.kind == 4)))))))) (cond (o.kind == 1) ((aM_ n o.n_ 0 1).bind fun xr117 => (some xr117)) (cond (o.kind == 2) ((bh_ n o.n_).bind fun xr118 => (some xr118)) (cond (o.kind == 3) ((ap_ n o.s).bind fun xr119 => (some xr119)) (cond (o.kind == 5) (cond ((o.names.length : Int) == (o.list.length : Int)) ((ag_ n o.names).bind fun xr120 => (some xr120)) (some false)) (cond (o.kind == 0) (some true) (some (o.kind == 4)))))))))) (cond (o.n_ != 0) (cond (o.kind != 1) (cond (o.kind != 2) (some false) (cond (!(o.s == [])) (cond (o.kind != 3) (some false) (cond (o.kind == 1) ((aM_ n o.n_ 0 1).bind fun xr121 => (some xr121)) (cond (o.kind == 2) ((bh_ n o.n_).bind fun xr122 => (some xr122)) (cond (o.kind == 3) ((ap_ n o.s).bind fun xr123 => (some xr123)) (cond (o.kind == 5) (cond ((o.names.length : Int) == (o.list.length : Int)) ((ag_ n o.names).bind fun xr124 => (some xr124)) (some false)) (cond (o.kind == 0) (some true) (some (o.kind == 4)))))))) (cond (o.kind == 1) ((aM_ n o.n_ 0 1).bind fun xr125 => (some xr125)) (cond (o.kind == 2) ((bh_ n o.n_).bind fun xr126 => (some xr126)) (cond (o.kind == 3) ((ap_ n o.s).bind fun xr127 => (some xr127)) (cond (o.kind == 5) (cond ((o.names.length : Int) == (o.list.length : Int)) ((ag_ n o.names).bind fun xr128 => (some xr128)) (some false)) (cond (o.kind == 0) (some true) (some (o.kind == 4))))))))) (cond (!(o.s == [])) (cond (o.kind != 3) (some false) (cond (o.kind == 1) ((aM_ n o.n_ 0 1).bind fun xr129 => (some xr129)) (cond (o.kind == 2) ((bh_ n o.n_).bind fun xr130 => (some xr130)) (cond (o.kind == 3) ((ap_ n o.s).bind fun xr131 => (some xr131)) (cond (o.kind == 5) (cond ((o.names.length : Int) == (o.list.length : Int)) ((ag_ n o.names).bind fun xr132 => (some xr132)) (some false)) (cond (o.kind == 0) (some true) (some (o.kind == 4)))))))) (cond (o.kind == 1) ((aM_ n o.n_ 0 1).bind fun xr133 => (some xr133)) (cond (o.kind == 2) ((bh_ n o.n_).bind fun xr134 => (some xr134)) (cond (o.kind == 3) ((ap_ n o.s).bind fun xr135 => (some xr135)) (cond (o.kind == 5) (cond ((o.names.length : Int) == (o.list.length : Int)) ((ag_ n o.names).bind fun xr136 => (some xr136)) (some false)) (cond (o.kind == 0) (some true) (some (o.kind == 4))))))))) (cond (!(o.s == [])) (cond (o.kind != 3) (some false) (cond (o.kind == 1) ((aM_ n o.n_ 0 1).bind fun xr137 => (some xr137)) (cond (o.kind == 2) ((bh_ n o.n_).bind fun xr138 => (some xr138)) (cond (o.kind == 3) ((ap_ n o.s).bind fun xr139 => (some xr139)) (cond (o.kind == 5) (cond ((o.names.length : Int) == (o.list.length : Int)) ((ag_ n o.names).bind fun xr140 => (some xr140)) (some false)) (cond (o.kind == 0) (some true) (some (o.kind == 4)))))))) (cond (o.kind == 1) ((aM_ n o.n_ 0 1).bind fun xr141 => (some xr141)) (cond (o.kind == 2) ((bh_ n o.n_).bind fun xr142 => (some xr142)) (cond (o.kind == 3) ((ap_ n o.s).bind fun xr143 => (some xr143)) (cond (o.kind == 5) (cond ((o.names.length : Int) == (o.list.length : Int)) ((ag_ n o.names).bind fun xr144 => (some xr144)) (some false)) (cond (o.kind == 0) (some true) (some (o.kind == 4)))))))))))
def aS_.step7 (n : Nat) (impl_sizeIn_ : aa_ → Int → Option Int) (k0 : Int → Option Int) (back : Int → Int → (List aa_) → Int → Int → Option Int) (deep : Int) (n_1 : Int) (t16 : List aa_) (t17 : Int) (t18 : Int) : Option Int :=
  (cond (decide (t18 < t17)) (inB t18 t16.length ((impl_sizeIn_ (aa_.re (t16.getD t18.toNat aa_.dflt)) (W (deep - 1))).bind fun xr2 => (cond (decide ((W (n_1 + xr2)) > 400)) (some 401) (back deep (W (n_1 + xr2)) t16 t17 (W (t18 + 1)))))) (k0 n_1))
def aS_.loop7 (n : Nat) (impl_sizeIn_ : aa_ → Int → Option Int) (k0 : Int → Option Int) (N : Nat) : Int → Int → (List aa_) → Int → Int → Option Int :=
  cK_ (fun _ _ _ _ _ => none) (fun back => aS_.step7 n impl_sizeIn_ k0 back) N
def aS_ : Nat → aa_ → Int → Option Int
  | 0, _, _ => none
  | n + 1, j, deep =>
    (cond (decide (deep < 1)) (some 401) ((cz_ n (aa_.re j)).bind fun xr1 => (cond (!xr1) (some 401) (aS_.loop7 n (aS_ n) (fun xy3 => (some xy3)) n deep 1 j.list (j.list.length : Int) 0))))
def b1_ : Nat → aa_ → Option Bool
  | 0, _ => none
  | n + 1, j =>
    ((aS_ n (aa_.re j) 6).bind fun xr1 => (some (decide (xr1 ≤ 400))))
def bA_ : Nat → Int → Int → Bs → Option aa_
  | 0, _, _, _ => none
  | n + 1, c, c1, c2 =>
    ((b1_ n (aa_.mk c c1 c2 [] [])).bind fun xr1 => (cond (!xr1) (some (aa_.mk 0 0 [] ([] : List aa_) ([] : List Bs))) (some (aa_.mk c c1 c2 ([] : List aa_) ([] : List Bs)))))
def cA_ : Nat → Int → Option aa_
  | 0, _ => none
  | n + 1, n1 =>
    ((bA_ n 2 n1 []).bind fun xr1 => (some (aa_.re xr1)))
def bg_.step3 (n : Nat) (k0 : Option Int) (back : Int → (List TKid) → Int → Int → Option Int) (id_1 : Int) (t8 : List TKid) (t9 : Int) (t10 : Int) : Option Int :=
  (cond (decide (t10 < t9)) (inB t10 t8.length (cond (((t8.getD t10.toNat TKid.dflt).id_) == id_1) (some ((t8.getD t10.toNat TKid.dflt).n_)) (back id_1 t8 t9 (W (t10 + 1))))) k0)
def bg_.loop3 (n : Nat) (k0 : Option Int) (N : Nat) : Int → (List TKid) → Int → Int → Option Int :=
  cK_ (fun _ _ _ _ => none) (fun back => bg_.step3 n k0 back) N
def bg_ : Nat → bB_ → Int → Option Int
  | 0, _, _ => none
  | n + 1, v, id1 =>
    (bg_.loop3 n (some 0) n id1 v.kids (v.kids.length : Int) 0)
def az_.step4 (n : Nat) (k0 : (List Int) → Option (List Int)) (back : (List TRow) → Int → Int → Int → (List aO_) → Int → Bool → Int → (List Int) → Bool → Int → Int → (List TRow) → (List TKid) → (List Int) → Option (List Int)) (t8 : List TRow) (t9 : Int) (t10 : Int) (v0 : Int) (v1 : List aO_) (v2 : Int) (v3 : Bool) (v4 : Int) (v5 : List Int) (v6 : Bool) (v7 : Int) (v8 : Int) (v9 : List TRow) (v10 : List TKid) (kids : List Int) : Option (List Int) :=
  (cond (decide (t10 < t9)) (inB t10 t8.length ((bg_ n (bB_.mk (bi_.mk v0 v1 v2 v3 v4 v5 v6 v7 v8) v9 v10) ((t8.getD t10.toNat TRow.dflt).id_)).bind fun xr1 => (cL_ (kids.length + ([xr1] : List Int).length) 8 (back t8 t9 (W (t10 + 1)) v0 v1 v2 v3 v4 v5 v6 v7 v8 v9 v10 (kids ++ ([xr1] : List Int)))))) (k0 kids))
def az_.loop4 (n : Nat) (k0 : (List Int) → Option (List Int)) (N : Nat) : (List TRow) → Int → Int → Int → (List aO_) → Int → Bool → Int → (List Int) → Bool → Int → Int → (List TRow) → (List TKid) → (List Int) → Option (List Int) :=
  cK_ (fun _ _ _ _ _ _ _ _ _ _ _ _ _ _ _ => none) (fun back => az_.step4 n k0 back) N
def az_ : Nat → bB_ → Option (List Int)
  | 0, _ => none
  | n + 1, v =>
    (az_.loop4 n (fun xy2 => (some xy2)) n v.rows (v.rows.length : Int) 0 v.q.table v.q.where_ v.q.order v.q.down v.q.first v.q.show_ v.q.kids v.q.kidTable v.q.kidCol v.rows v.kids ([] : List Int))
def bX_ : Nat → bi_ → Int → Option Int
  | 0, _, _ => none
  | n + 1, q, count =>
    (cond (q.first == 0) (some count) (let xv1 : Int := (cond (decide (count < (cond (decide ((0 : Int) > q.first)) 0 q.first))) count (cond (decide ((0 : Int) > q.first)) 0 q.first)); (some xv1)))
def au_.step3 (n : Nat) (k0 : Option Int) (back : (List Int) → Int → Int → Int → Option Int) (s : List Int) (v : Int) (t7 : Int) (t8 : Int) : Option Int :=
  (cond (decide (t8 < t7)) (inB t8 s.length (cond (v == (s.getD t8.toNat 0)) (some t8) (back s v t7 (W (t8 + 1))))) k0)
def au_.loop3 (n : Nat) (k0 : Option Int) (N : Nat) : (List Int) → Int → Int → Int → Option Int :=
  cK_ (fun _ _ _ _ => none) (fun back => au_.step3 n k0 back) N
def au_ : Nat → (List Int) → Int → Option Int
  | 0, _, _ => none
  | n + 1, s, v =>
    (au_.loop3 n (some (-1)) n s v (s.length : Int) 0)
def a9_ : Nat → (List Int) → Int → Option Bool
  | 0, _, _ => none
  | n + 1, s, v =>
    ((au_ n s v).bind fun xr1 => (some (decide (xr1 ≥ 0))))
def strconv_Itoa : Nat → Int → Option Bs
  | 0, _ => none
  | _ + 1, i => nItoa i
def cj_ : Nat → Int → Option Bs
  | 0, _ => none
  | n + 1, n1 =>
    ((strconv_Itoa n n1).bind fun xr1 => (some xr1))
def cl_ : Nat → TRow → Int → Option Int
  | 0, _, _ => none
  | n + 1, r, col =>
    ((aM_ n col 0 (W ((r.cells.length : Int) - 1))).bind fun xr1 => (cond (!xr1) (some 0) (inB col r.cells.length (some (r.cells.getD col.toNat 0)))))
def br_ : Nat → Bs → Option Bool
  | 0, _ => none
  | n + 1, x =>
    (some (!(x == x)))
def bv_ : Nat → Bs → Bs → Option Bool
  | 0, _, _ => none
  | n + 1, x, y =>
    ((br_ n x).bind fun xr1 => (cond xr1 ((br_ n y).bind fun xr2 => (cond (!xr2) (some true) (some (Op.bytesLess x y)))) (some (Op.bytesLess x y))))
def a8_ : Nat → Bs → Option Bool
  | 0, _ => none
  | n + 1, x =>
    (some (!(x == x)))
def ad_.step4 (n : Nat) (k0 : (List Bs) → Bs → Int → Int → Option (Int × Bool)) (back : (List Bs) → Bs → Int → Int → Int → Option (Int × Bool)) (x : List Bs) (target : Bs) (n_1 : Int) (i : Int) (j : Int) : Option (Int × Bool) :=
  (cond (decide (i < j)) (let xv1 : Int := (Int.fdiv (IntKind.u64.wrap ((W (i + j)))) (2 ^ min (1 : Int).toNat (IntKind.bits .u64))); (inB (W (xv1)) x.length ((bv_ n (x.getD (W (xv1)).toNat []) target).bind fun xr2 => (cond xr2 (back x target n_1 (W ((W (xv1)) + 1)) j) (back x target n_1 i (W (xv1))))))) (k0 x target n_1 i))
def ad_.loop4 (n : Nat) (k0 : (List Bs) → Bs → Int → Int → Option (Int × Bool)) (N : Nat) : (List Bs) → Bs → Int → Int → Int → Option (Int × Bool) :=
  cK_ (fun _ _ _ _ _ => none) (fun back => ad_.step4 n k0 back) N
def ad_ : Nat → (List Bs) → Bs → Option (Int × Bool)
  | 0, _, _ => none
  | n + 1, x, target =>
    (ad_.loop4 n (fun xy3 xy4 xy5 xy6 => (cond (decide (xy6 < xy5)) (inB xy6 xy3.length (cond ((xy3.getD xy6.toNat []) == xy4) (some (xy6, true)) (inB xy6 xy3.length ((a8_ n (xy3.getD xy6.toNat [])).bind fun xr7 => (cond xr7 ((a8_ n xy4).bind fun xr8 => (some (xy6, xr8))) (some (xy6, false))))))) (some (xy6, false)))) n x target (x.length : Int) 0 (x.length : Int))
def bq_ : Nat → List Bs → Int → List Bs → Option (List Bs)
  | 0, _, _, _ => none
  | _ + 1, s, i, v => eW_ 16 s i v
def bu_ : Nat → List aa_ → Int → List aa_ → Option (List aa_)
  | 0, _, _, _ => none
  | _ + 1, s, i, v => eW_ 80 s i v
def bk_.step4 (n : Nat) (k0 : Int → Int → Bs → Int → Int → Bs → (List aa_) → (List Bs) → Option aa_) (back : (List Int) → (List Bs) → Int → Int → Int → Int → Bs → Int → Int → Bs → (List aa_) → (List Bs) → Option aa_) (numbers : List Int) (t11 : List Bs) (t12 : Int) (t13 : Int) (t40 : Int) (t41 : Int) (t42 : Bs) (j0 : Int) (j1 : Int) (j2 : Bs) (j3 : List aa_) (j4 : List Bs) : Option aa_ :=
  (cond (decide (t13 < t12)) (inB t13 t11.length ((ad_ n j4 (t11.getD t13.toNat [])).bind fun xr1 => ((bq_ n j4 xr1.1 ([(t11.getD t13.toNat [])] : List Bs)).bind fun xr2 => (inB t13 numbers.length ((bu_ n j3 xr1.1 ([(aa_.mk 2 (numbers.getD t13.toNat 0) [] [] [])] : List aa_)).bind fun xr3 => (back numbers t11 t12 (W (t13 + 1)) t40 t41 t42 j0 j1 j2 xr3 xr2)))))) (k0 t40 t41 t42 j0 j1 j2 j3 j4))
def bk_.loop4 (n : Nat) (k0 : Int → Int → Bs → Int → Int → Bs → (List aa_) → (List Bs) → Option aa_) (N : Nat) : (List Int) → (List Bs) → Int → Int → Int → Int → Bs → Int → Int → Bs → (List aa_) → (List Bs) → Option aa_ :=
  cK_ (fun _ _ _ _ _ _ _ _ _ _ _ _ => none) (fun back => bk_.step4 n k0 back) N
def bk_ : Nat → (List Bs) → (List Int) → Option aa_
  | 0, _, _ => none
  | n + 1, names, numbers =>
    (bk_.loop4 n (fun xy4 xy5 xy6 xy7 xy8 xy9 xy10 xy11 => (some (aa_.mk xy7 xy8 xy9 xy10 xy11))) n numbers names (names.length : Int) 0 0 0 [] 5 0 [] ([] : List aa_) ([] : List Bs))
def b0_ : Nat → aa_ → Option aa_
  | 0, _ => none
  | n + 1, j =>
    ((b1_ n (aa_.re j)).bind fun xr1 => (cond (!xr1) (some (aa_.mk 0 0 [] [] [])) (some (aa_.re j))))
def a4_.step4 (n : Nat) (k0 : Int → Int → (List aO_) → Int → Bool → Int → (List Int) → Bool → Int → Int → Int → Int → Bs → (List Bs) → (List Int) → Option aa_) (back : Int → (List Int) → Int → Int → Int → (List aO_) → Int → Bool → Int → (List Int) → Bool → Int → Int → Int → (List Int) → Int → Int → Bs → (List Bs) → (List Int) → Option aa_) (kids : Int) (t16 : List Int) (t17 : Int) (t18 : Int) (q0 : Int) (q1 : List aO_) (q2 : Int) (q3 : Bool) (q4 : Int) (q5 : List Int) (q6 : Bool) (q7 : Int) (q8 : Int) (r0 : Int) (r1 : List Int) (t60 : Int) (t61 : Int) (t62 : Bs) (names : List Bs) (numbers : List Int) : Option aa_ :=
  (cond (decide (t18 < t17)) (inB t18 t16.length (hO_ 0 t18 q5.length ((a9_ n ((q5.take t18.toNat).drop 0) (t16.getD t18.toNat 0)).bind fun xr1 => (cond xr1 (back kids t16 t17 (W (t18 + 1)) q0 q1 q2 q3 q4 q5 q6 q7 q8 r0 r1 t60 t61 t62 names numbers) ((cj_ n (t16.getD t18.toNat 0)).bind fun xr2 => (cond (decide ([99].length + xr2.length ≤ 9223372036854775807)) (cL_ (names.length + ([(([99] : Bs) ++ xr2)] : List Bs).length) 16 ((cl_ n (TRow.mk r0 r1) (t16.getD t18.toNat 0)).bind fun xr3 => (cL_ (numbers.length + ([xr3] : List Int).length) 8 (back kids t16 t17 (W (t18 + 1)) q0 q1 q2 q3 q4 q5 q6 q7 q8 r0 r1 t60 t61 t62 (names ++ ([(([99] : Bs) ++ xr2)] : List Bs)) (numbers ++ ([xr3] : List Int)))))) none)))))) (k0 kids q0 q1 q2 q3 q4 q5 q6 q7 q8 t60 t61 t62 names numbers))
def a4_.loop4 (n : Nat) (k0 : Int → Int → (List aO_) → Int → Bool → Int → (List Int) → Bool → Int → Int → Int → Int → Bs → (List Bs) → (List Int) → Option aa_) (N : Nat) : Int → (List Int) → Int → Int → Int → (List aO_) → Int → Bool → Int → (List Int) → Bool → Int → Int → Int → (List Int) → Int → Int → Bs → (List Bs) → (List Int) → Option aa_ :=
  cK_ (fun _ _ _ _ _ _ _ _ _ _ _ _ _ _ _ _ _ _ _ _ => none) (fun back => a4_.step4 n k0 back) N
def a4_ : Nat → bi_ → TRow → Int → Option aa_
  | 0, _, _, _ => none
  | n + 1, q, r, kids =>
    (a4_.loop4 n (fun xy4 xy5 xy6 xy7 xy8 xy9 xy10 xy11 xy12 xy13 xy14 xy15 xy16 xy17 xy18 => (cond xy11 (cL_ (xy17.length + ([[107, 105, 100, 115]] : List Bs).length) 16 (cL_ (xy18.length + ([xy4] : List Int).length) 8 ((bk_ n (xy17 ++ ([[107, 105, 100, 115]] : List Bs)) (xy18 ++ ([xy4] : List Int))).bind fun xr19 => ((b0_ n (aa_.re xr19)).bind fun xr20 => (some (aa_.re xr20)))))) ((bk_ n xy17 xy18).bind fun xr21 => ((b0_ n (aa_.re xr21)).bind fun xr22 => (some (aa_.re xr22)))))) n kids q.show_ (q.show_.length : Int) 0 q.table q.where_ q.order q.down q.first q.show_ q.kids q.kidTable q.kidCol r.id_ r.cells 0 0 [] ([[105, 100]] : List Bs) ([r.id_] : List Int))
def aV_.step4 (n : Nat) (k0 : (List aa_) → Option (List aa_)) (back : (List Int) → (List TRow) → Int → Int → Int → (List aO_) → Int → Bool → Int → (List Int) → Bool → Int → Int → (List aa_) → Option (List aa_)) (kids : List Int) (t17 : List TRow) (t18 : Int) (t19 : Int) (q0 : Int) (q1 : List aO_) (q2 : Int) (q3 : Bool) (q4 : Int) (q5 : List Int) (q6 : Bool) (q7 : Int) (q8 : Int) (docs : List aa_) : Option (List aa_) :=
  (cond (decide (t19 < t18)) (inB t19 t17.length (cond (decide (t19 < (kids.length : Int))) (inB t19 kids.length ((a4_ n (bi_.mk q0 q1 q2 q3 q4 q5 q6 q7 q8) (t17.getD t19.toNat TRow.dflt) (kids.getD t19.toNat 0)).bind fun xr2 => (cL_ (docs.length + ([(aa_.re xr2)] : List aa_).length) 80 (back kids t17 t18 (W (t19 + 1)) q0 q1 q2 q3 q4 q5 q6 q7 q8 (docs ++ ([(aa_.re xr2)] : List aa_)))))) ((a4_ n (bi_.mk q0 q1 q2 q3 q4 q5 q6 q7 q8) (t17.getD t19.toNat TRow.dflt) 0).bind fun xr3 => (cL_ (docs.length + ([(aa_.re xr3)] : List aa_).length) 80 (back kids t17 t18 (W (t19 + 1)) q0 q1 q2 q3 q4 q5 q6 q7 q8 (docs ++ ([(aa_.re xr3)] : List aa_))))))) (k0 docs))
def aV_.loop4 (n : Nat) (k0 : (List aa_) → Option (List aa_)) (N : Nat) : (List Int) → (List TRow) → Int → Int → Int → (List aO_) → Int → Bool → Int → (List Int) → Bool → Int → Int → (List aa_) → Option (List aa_) :=
  cK_ (fun _ _ _ _ _ _ _ _ _ _ _ _ _ _ => none) (fun back => aV_.step4 n k0 back) N
def aV_ : Nat → bi_ → (List TRow) → (List Int) → Option (List aa_)
  | 0, _, _, _ => none
  | n + 1, q, rows, kids =>
    ((bX_ n q (rows.length : Int)).bind fun xr1 => (hO_ 0 xr1 rows.length (aV_.loop4 n (fun xy4 => (some xy4)) n kids ((rows.take xr1.toNat).drop 0) (((rows.take xr1.toNat).drop 0).length : Int) 0 q.table q.where_ q.order q.down q.first q.show_ q.kids q.kidTable q.kidCol ([] : List aa_))))
def bl_.step5 (n : Nat) (k0 : (List aa_) → (List Int) → Option ((List aa_) × (List Int))) (back : (List TRow) → Int → Int → (List aa_) → (List Int) → Option ((List aa_) × (List Int))) (t20 : List TRow) (t21 : Int) (t22 : Int) (docs : List aa_) (ids : List Int) : Option ((List aa_) × (List Int)) :=
  (cond (decide (t22 < t21)) (inB t22 t20.length (cL_ (ids.length + ([(t20.getD t22.toNat TRow.dflt).id_] : List Int).length) 8 (back t20 t21 (W (t22 + 1)) docs (ids ++ ([(t20.getD t22.toNat TRow.dflt).id_] : List Int))))) (k0 docs ids))
def bl_.loop5 (n : Nat) (k0 : (List aa_) → (List Int) → Option ((List aa_) × (List Int))) (N : Nat) : (List TRow) → Int → Int → (List aa_) → (List Int) → Option ((List aa_) × (List Int)) :=
  cK_ (fun _ _ _ _ _ => none) (fun back => bl_.step5 n k0 back) N
def bl_ : Nat → bB_ → Option ((List aa_) × (List Int))
  | 0, _ => none
  | n + 1, v =>
    ((az_ n v).bind fun xr1 => ((aV_ n v.q v.rows xr1).bind fun xr2 => (hO_ 0 (xr2.length : Int) v.rows.length (bl_.loop5 n (fun xy3 xy4 => (some (xy3, xy4))) n ((v.rows.take (xr2.length : Int).toNat).drop 0) (((v.rows.take (xr2.length : Int).toNat).drop 0).length : Int) 0 xr2 ([] : List Int)))))
def aW_.step7 (n : Nat) (k0 : (List am_) → Option ((List am_) × Bool)) (back : (List Int) → (List aa_) → Int → Int → (List am_) → Option ((List am_) × Bool)) (keys : List Int) (t15 : List aa_) (t16 : Int) (t17 : Int) (out_1 : List am_) : Option ((List am_) × Bool) :=
  (cond (decide (t17 < t16)) (inB t17 t15.length ((b1_ n (aa_.re (t15.getD t17.toNat aa_.dflt))).bind fun xr1 => (cond (!xr1) (some (([] : List am_), false)) (hO_ 0 t17 keys.length (inB t17 keys.length ((a9_ n ((keys.take t17.toNat).drop 0) (keys.getD t17.toNat 0)).bind fun xr2 => (cond xr2 (some (([] : List am_), false)) (inB t17 keys.length (cL_ (out_1.length + ([(am_.mk (keys.getD t17.toNat 0) (aa_.re (t15.getD t17.toNat aa_.dflt)))] : List am_).length) 88 (back keys t15 t16 (W (t17 + 1)) (out_1 ++ ([(am_.mk (keys.getD t17.toNat 0) (aa_.re (t15.getD t17.toNat aa_.dflt)))] : List am_)))))))))))) (k0 out_1))
def aW_.loop7 (n : Nat) (k0 : (List am_) → Option ((List am_) × Bool)) (N : Nat) : (List Int) → (List aa_) → Int → Int → (List am_) → Option ((List am_) × Bool) :=
  cK_ (fun _ _ _ _ _ => none) (fun back => aW_.step7 n k0 back) N
def aW_ : Nat → (List aa_) → (List Int) → Option ((List am_) × Bool)
  | 0, _, _ => none
  | n + 1, list, keys =>
    (cond ((list.length : Int) != (keys.length : Int)) (some (([] : List am_), false)) (aW_.loop7 n (fun xy3 => (some (xy3, true))) n keys list (list.length : Int) 0 ([] : List am_)))
def bR_ : Nat → am_ → Int → Option Bool
  | 0, _, _ => none
  | n + 1, x, c =>
    (some (x.key == c))
def ab_.step3 (n : Nat) (k0 : Option Int) (back : (List am_) → Int → Int → Int → Option Int) (s : List am_) (f00 : Int) (t7 : Int) (t8 : Int) : Option Int :=
  (cond (decide (t8 < t7)) (inB t8 s.length ((bR_ n (am_.mk ((s.getD t8.toNat am_.dflt).key) (aa_.re ((s.getD t8.toNat am_.dflt).value))) f00).bind fun xr1 => (cond xr1 (some t8) (back s f00 t7 (W (t8 + 1)))))) k0)
def ab_.loop3 (n : Nat) (k0 : Option Int) (N : Nat) : (List am_) → Int → Int → Int → Option Int :=
  cK_ (fun _ _ _ _ => none) (fun back => ab_.step3 n k0 back) N
def ab_ : Nat → (List am_) → Int → Option Int
  | 0, _, _ => none
  | n + 1, s, c =>
    (ab_.loop3 n (some (-1)) n s c (s.length : Int) 0)
def cq_ : Nat → (List am_) → Int → Option Int
  | 0, _, _ => none
  | n + 1, list, key =>
    ((ab_ n list key).bind fun xr1 => (some xr1))
def b9_ : Nat → Int → Option (List Bs)
  | 0, _ => none
  | n + 1, n1 =>
    ((strconv_Itoa n n1).bind fun xr1 => (some ([xr1] : List Bs)))
def a6_ : Nat → List am_ → Int → Int → Option (List am_)
  | 0, _, _, _ => none
  | _ + 1, s, i, j => iK_ s i j
def af_.step6 (n : Nat) (k0 : Option Bool) (back : (List Bs) → (List Bs) → Int → Int → Option Bool) (s1 : List Bs) (s2 : List Bs) (t12 : Int) (t13 : Int) : Option Bool :=
  (cond (decide (t13 < t12)) (inB t13 s1.length (inB t13 s2.length (cond (!((s1.getD t13.toNat []) == (s2.getD t13.toNat []))) (some false) (back s1 s2 t12 (W (t13 + 1)))))) k0)
def af_.loop6 (n : Nat) (k0 : Option Bool) (N : Nat) : (List Bs) → (List Bs) → Int → Int → Option Bool :=
  cK_ (fun _ _ _ _ => none) (fun back => af_.step6 n k0 back) N
def af_ : Nat → (List Bs) → (List Bs) → Option Bool
  | 0, _, _ => none
  | n + 1, s1, s2 =>
    (cond ((s1.length : Int) != (s2.length : Int)) (some false) (af_.loop6 n (some true) n s1 s2 (s1.length : Int) 0))
def ac_.step6 (n : Nat) (impl_alike_ : aa_ → aa_ → Option Bool) (k0 : Option Bool) (back : (List aa_) → (List aa_) → Int → Int → Option Bool) (s2 : List aa_) (t15 : List aa_) (t16 : Int) (t17 : Int) : Option Bool :=
  (cond (decide (t17 < t16)) (inB t17 t15.length (inB t17 s2.length ((impl_alike_ (aa_.re (t15.getD t17.toNat aa_.dflt)) (aa_.re (s2.getD t17.toNat aa_.dflt))).bind fun xr1 => (cond (!xr1) (some false) (back s2 t15 t16 (W (t17 + 1))))))) k0)
def ac_.loop6 (n : Nat) (impl_alike_ : aa_ → aa_ → Option Bool) (k0 : Option Bool) (N : Nat) : (List aa_) → (List aa_) → Int → Int → Option Bool :=
  cK_ (fun _ _ _ _ => none) (fun back => ac_.step6 n impl_alike_ k0 back) N
mutual
def ca_ : Nat → aa_ → aa_ → Option Bool
  | 0, _, _ => none
  | n + 1, a, b =>
    (cond (a.kind == b.kind) (cond (a.n_ == b.n_) (cond (a.s == b.s) ((af_ n a.names b.names).bind fun xr1 => (cond xr1 ((ac_ n a.list b.list).bind fun xr2 => (some xr2)) (some false))) (some false)) (some false)) (some false))
def ac_ : Nat → (List aa_) → (List aa_) → Option Bool
  | 0, _, _ => none
  | n + 1, s1, s2 =>
    (cond ((s1.length : Int) != (s2.length : Int)) (some false) (ac_.loop6 n (ca_ n) (some true) n s2 s1 (s1.length : Int) 0))
end
def bx_ : Nat → (List Bs) → Option (List Bs)
  | 0, _ => none
  | n + 1, l =>
    (cL_ (([] : List Bs).length + l.length) 16 (some (([] : List Bs) ++ l)))
def aC_.step4 (n : Nat) (impl_copyJson_ : aa_ → Option aa_) (k0 : Int → Int → Bs → Int → Int → Bs → (List aa_) → (List Bs) → Option aa_) (back : (List aa_) → Int → Int → Int → Int → Bs → Int → Int → Bs → (List aa_) → (List Bs) → Option aa_) (t17 : List aa_) (t18 : Int) (t19 : Int) (t20 : Int) (t21 : Int) (t22 : Bs) (out0 : Int) (out1 : Int) (out2 : Bs) (out3 : List aa_) (out4 : List Bs) : Option aa_ :=
  (cond (decide (t19 < t18)) (inB t19 t17.length ((impl_copyJson_ (aa_.re (t17.getD t19.toNat aa_.dflt))).bind fun xr2 => (cL_ (out3.length + ([(aa_.re xr2)] : List aa_).length) 80 (back t17 t18 (W (t19 + 1)) t20 t21 t22 out0 out1 out2 (out3 ++ ([(aa_.re xr2)] : List aa_)) out4)))) (k0 t20 t21 t22 out0 out1 out2 out3 out4))
def aC_.loop4 (n : Nat) (impl_copyJson_ : aa_ → Option aa_) (k0 : Int → Int → Bs → Int → Int → Bs → (List aa_) → (List Bs) → Option aa_) (N : Nat) : (List aa_) → Int → Int → Int → Int → Bs → Int → Int → Bs → (List aa_) → (List Bs) → Option aa_ :=
  cK_ (fun _ _ _ _ _ _ _ _ _ _ _ => none) (fun back => aC_.step4 n impl_copyJson_ k0 back) N
def aC_ : Nat → aa_ → Option aa_
  | 0, _ => none
  | n + 1, j =>
    ((bx_ n j.names).bind fun xr1 => (aC_.loop4 n (aC_ n) (fun xy3 xy4 xy5 xy6 xy7 xy8 xy9 xy10 => (some (aa_.mk xy6 xy7 xy8 xy9 xy10))) n j.list (j.list.length : Int) 0 0 0 [] j.kind j.n_ j.s ([] : List aa_) xr1))
def a5_ : Nat → List am_ → Int → List am_ → Option (List am_)
  | 0, _, _, _ => none
  | _ + 1, s, i, v => eW_ 88 s i v
def aL_.step9 (n : Nat) (k0 : (List am_) → (List am_) → (List TOp) → Option (List TOp)) (back : Int → (List am_) → (List am_) → (List TOp) → Option (List TOp)) (t14 : Int) (t9 : List am_) (t11 : List am_) (t13 : List TOp) : Option (List TOp) :=
  (cond (decide (t14 ≥ 0)) (inB t14 t9.length ((cq_ n t11 ((t9.getD t14.toNat am_.dflt).key)).bind fun xr3 => (cond (decide (xr3 < 0)) ((b9_ n t14).bind fun xr4 => (cL_ (t13.length + ([(TOp.mk 2 xr4 (aa_.mk 0 0 [] [] []))] : List TOp).length) 112 ((a6_ n t9 t14 (W (t14 + 1))).bind fun xr5 => (back (W (t14 - 1)) xr5 t11 (t13 ++ ([(TOp.mk 2 xr4 (aa_.mk 0 0 [] [] []))] : List TOp)))))) (back (W (t14 - 1)) t9 t11 t13)))) (k0 t9 t11 t13))
def aL_.loop9 (n : Nat) (k0 : (List am_) → (List am_) → (List TOp) → Option (List TOp)) (N : Nat) : Int → (List am_) → (List am_) → (List TOp) → Option (List TOp) :=
  cK_ (fun _ _ _ _ => none) (fun back => aL_.step9 n k0 back) N
def aL_.step17 (n : Nat) (k2 : (List TOp) → Option (List TOp)) (back : Int → Int → (List am_) → (List TOp) → (List am_) → Option (List TOp)) (t65 : Int) (t66 : Int) (t9 : List am_) (t13 : List TOp) (t64 : List am_) : Option (List TOp) :=
  (cond (decide (t66 < t65)) (inB t66 t64.length ((cq_ n t9 ((t64.getD t66.toNat am_.dflt).key)).bind fun xr9 => (cond (xr9 == t66) (inB t66 t9.length ((ca_ n (aa_.re ((t9.getD t66.toNat am_.dflt).value)) (aa_.re ((t64.getD t66.toNat am_.dflt).value))).bind fun xr10 => (cond (!xr10) ((b9_ n t66).bind fun xr11 => ((aC_ n (aa_.re ((t64.getD t66.toNat am_.dflt).value))).bind fun xr12 => (cL_ (t13.length + ([(TOp.mk 3 xr11 (aa_.re xr12))] : List TOp).length) 112 (back t65 (W (t66 + 1)) t9 (t13 ++ ([(TOp.mk 3 xr11 (aa_.re xr12))] : List TOp)) t64)))) (back t65 (W (t66 + 1)) t9 t13 t64)))) (cond (decide (xr9 > t66)) ((b9_ n xr9).bind fun xr13 => (cL_ (t13.length + ([(TOp.mk 2 xr13 (aa_.mk 0 0 [] [] []))] : List TOp).length) 112 ((a6_ n t9 xr9 (W (xr9 + 1))).bind fun xr14 => ((b9_ n t66).bind fun xr15 => ((aC_ n (aa_.re ((t64.getD t66.toNat am_.dflt).value))).bind fun xr16 => (cL_ ((t13 ++ ([(TOp.mk 2 xr13 (aa_.mk 0 0 [] [] []))] : List TOp)).length + ([(TOp.mk 1 xr15 (aa_.re xr16))] : List TOp).length) 112 ((a5_ n xr14 t66 ([(am_.mk ((t64.getD t66.toNat am_.dflt).key) (aa_.re ((t64.getD t66.toNat am_.dflt).value)))] : List am_)).bind fun xr17 => (back t65 (W (t66 + 1)) xr17 ((t13 ++ ([(TOp.mk 2 xr13 (aa_.mk 0 0 [] [] []))] : List TOp)) ++ ([(TOp.mk 1 xr15 (aa_.re xr16))] : List TOp)) t64)))))))) ((b9_ n t66).bind fun xr18 => ((aC_ n (aa_.re ((t64.getD t66.toNat am_.dflt).value))).bind fun xr19 => (cL_ (t13.length + ([(TOp.mk 1 xr18 (aa_.re xr19))] : List TOp).length) 112 ((a5_ n t9 t66 ([(am_.mk ((t64.getD t66.toNat am_.dflt).key) (aa_.re ((t64.getD t66.toNat am_.dflt).value)))] : List am_)).bind fun xr20 => (back t65 (W (t66 + 1)) xr20 (t13 ++ ([(TOp.mk 1 xr18 (aa_.re xr19))] : List TOp)) t64))))))))) (k2 t13))
def aL_.loop17 (n : Nat) (k2 : (List TOp) → Option (List TOp)) (N : Nat) : Int → Int → (List am_) → (List TOp) → (List am_) → Option (List TOp) :=
  cK_ (fun _ _ _ _ _ => none) (fun back => aL_.step17 n k2 back) N
def aL_ : Nat → (List aa_) → (List Int) → (List aa_) → (List Int) → Option (List TOp)
  | 0, _, _, _, _ => none
  | n + 1, o, append, a2, a3 =>
    ((aW_ n o append).bind fun xr1 => ((aW_ n a2 a3).bind fun xr2 => (cond (!xr1.2) (some ([] : List TOp)) (cond (!xr2.2) (some ([] : List TOp)) (aL_.loop9 n (fun xy6 xy7 xy8 => (aL_.loop17 n (fun xy21 => (some xy21)) n (xy7.length : Int) 0 xy6 xy8 xy7)) n (W ((xr1.1.length : Int) - 1)) xr1.1 xr2.1 ([] : List TOp))))))
def ck_ : Nat → TOp → Option TOp
  | 0, _ => none
  | n + 1, o =>
    ((bx_ n o.way).bind fun xr1 => ((aC_ n (aa_.re o.value)).bind fun xr2 => (some (TOp.mk o.kind xr1 (aa_.re xr2)))))
def bo_.step4 (n : Nat) (k0 : (List TOp) → Option (List TOp)) (back : Bs → (List TOp) → Int → Int → (List TOp) → Option (List TOp)) (name : Bs) (t9 : List TOp) (t10 : Int) (t11 : Int) (out_1 : List TOp) : Option (List TOp) :=
  (cond (decide (t11 < t10)) (inB t11 t9.length ((ck_ n { (t9.getD t11.toNat TOp.dflt) with value := (aa_.re ((t9.getD t11.toNat TOp.dflt).value)) }).bind fun xr1 => (cL_ (([name] : List Bs).length + xr1.way.length) 16 (cL_ (out_1.length + ([(TOp.mk xr1.kind (([name] : List Bs) ++ xr1.way) (aa_.re xr1.value))] : List TOp).length) 112 (back name t9 t10 (W (t11 + 1)) (out_1 ++ ([(TOp.mk xr1.kind (([name] : List Bs) ++ xr1.way) (aa_.re xr1.value))] : List TOp))))))) (k0 out_1))
def bo_.loop4 (n : Nat) (k0 : (List TOp) → Option (List TOp)) (N : Nat) : Bs → (List TOp) → Int → Int → (List TOp) → Option (List TOp) :=
  cK_ (fun _ _ _ _ _ => none) (fun back => bo_.step4 n k0 back) N
def bo_ : Nat → Bs → (List TOp) → Option (List TOp)
  | 0, _, _ => none
  | n + 1, name, list =>
    (bo_.loop4 n (fun xy2 => (some xy2)) n name list (list.length : Int) 0 ([] : List TOp))
def bE_ : Nat → bB_ → bB_ → Option (List TOp)
  | 0, _, _ => none
  | n + 1, a, b =>
    ((bJ_ n a.q b.q).bind fun xr1 => (cond (!xr1) (some ([] : List TOp)) (cond ((a.rows.length : Int) != (b.rows.length : Int)) ((cA_ n (b.rows.length : Int)).bind fun xr2 => (cL_ (([] : List TOp).length + ([(TOp.mk 3 ([[99, 111, 117, 110, 116]] : List Bs) (aa_.re xr2))] : List TOp).length) 112 ((bl_ n a).bind fun xr3 => ((bl_ n b).bind fun xr4 => ((aL_ n xr3.1 xr3.2 xr4.1 xr4.2).bind fun xr5 => ((bo_ n [114, 111, 119, 115] xr5).bind fun xr6 => (cL_ ((([] : List TOp) ++ ([(TOp.mk 3 ([[99, 111, 117, 110, 116]] : List Bs) (aa_.re xr2))] : List TOp)).length + xr6.length) 112 (some ((([] : List TOp) ++ ([(TOp.mk 3 ([[99, 111, 117, 110, 116]] : List Bs) (aa_.re xr2))] : List TOp)) ++ xr6))))))))) ((bl_ n a).bind fun xr7 => ((bl_ n b).bind fun xr8 => ((aL_ n xr7.1 xr7.2 xr8.1 xr8.2).bind fun xr9 => ((bo_ n [114, 111, 119, 115] xr9).bind fun xr10 => (cL_ (([] : List TOp).length + xr10.length) 112 (some (([] : List TOp) ++ xr10))))))))))
def aE_.step6 (n : Nat) (k0 : Option Bool) (back : (List Bs) → (List Bs) → Int → Option Bool) (a : List Bs) (b : List Bs) (i : Int) : Option Bool :=
  (cond (decide (i < (a.length : Int))) (inB i a.length (inB i b.length (cond (!((a.getD i.toNat []) == (b.getD i.toNat []))) (some false) (back a b (W (i + 1)))))) k0)
def aE_.loop6 (n : Nat) (k0 : Option Bool) (N : Nat) : (List Bs) → (List Bs) → Int → Option Bool :=
  cK_ (fun _ _ _ => none) (fun back => aE_.step6 n k0 back) N
def aE_ : Nat → (List Bs) → (List Bs) → Option Bool
  | 0, _, _ => none
  | n + 1, a, b =>
    (cond ((a.length : Int) != (b.length : Int)) (some false) (aE_.loop6 n (some true) n a b 0))
def aU_.step6 (n : Nat) (laws_eqJson_ : aa_ → aa_ → Option Bool) (k0 : Option Bool) (back : (List aa_) → (List aa_) → Int → Option Bool) (a : List aa_) (b : List aa_) (i : Int) : Option Bool :=
  (cond (decide (i < (a.length : Int))) (inB i a.length (inB i b.length ((laws_eqJson_ (aa_.re (a.getD i.toNat aa_.dflt)) (aa_.re (b.getD i.toNat aa_.dflt))).bind fun xr1 => (cond (!xr1) (some false) (back a b (W (i + 1))))))) k0)
def aU_.loop6 (n : Nat) (laws_eqJson_ : aa_ → aa_ → Option Bool) (k0 : Option Bool) (N : Nat) : (List aa_) → (List aa_) → Int → Option Bool :=
  cK_ (fun _ _ _ => none) (fun back => aU_.step6 n laws_eqJson_ k0 back) N
mutual
def bK_ : Nat → aa_ → aa_ → Option Bool
  | 0, _, _ => none
  | n + 1, a, b =>
    (cond (a.kind != b.kind) (some false) (cond (a.n_ != b.n_) (some false) (cond (!(a.s == b.s)) (some false) ((aU_ n a.list b.list).bind fun xr1 => (cond (!xr1) (some false) ((aE_ n a.names b.names).bind fun xr2 => (cond (!xr2) (some false) (some true))))))))
def aU_ : Nat → (List aa_) → (List aa_) → Option Bool
  | 0, _, _ => none
  | n + 1, a, b =>
    (cond ((a.length : Int) != (b.length : Int)) (some false) (aU_.loop6 n (bK_ n) (some true) n a b 0))
end
def cJ_ : Nat → TOp → TOp → Option Bool
  | 0, _, _ => none
  | n + 1, a, b =>
    (cond (a.kind != b.kind) (some false) ((aE_ n a.way b.way).bind fun xr1 => (cond (!xr1) (some false) ((bK_ n (aa_.re a.value) (aa_.re b.value)).bind fun xr2 => (cond (!xr2) (some false) (some true))))))
def bm_.step6 (n : Nat) (k0 : Option Bool) (back : (List TOp) → (List TOp) → Int → Option Bool) (a : List TOp) (b : List TOp) (i : Int) : Option Bool :=
  (cond (decide (i < (a.length : Int))) (inB i a.length (inB i b.length ((cJ_ n { (a.getD i.toNat TOp.dflt) with value := (aa_.re ((a.getD i.toNat TOp.dflt).value)) } { (b.getD i.toNat TOp.dflt) with value := (aa_.re ((b.getD i.toNat TOp.dflt).value)) }).bind fun xr1 => (cond (!xr1) (some false) (back a b (W (i + 1))))))) k0)
def bm_.loop6 (n : Nat) (k0 : Option Bool) (N : Nat) : (List TOp) → (List TOp) → Int → Option Bool :=
  cK_ (fun _ _ _ => none) (fun back => bm_.step6 n k0 back) N
def bm_ : Nat → (List TOp) → (List TOp) → Option Bool
  | 0, _, _ => none
  | n + 1, a, b =>
    (cond ((a.length : Int) != (b.length : Int)) (some false) (bm_.loop6 n (some true) n a b 0))
def ci_ : Nat → aO_ → aO_ → Option Bool
  | 0, _, _ => none
  | n + 1, a, b =>
    (cond (a.col != b.col) (some false) (cond (a.op != b.op) (some false) (cond (a.v != b.v) (some false) (some true))))
def aZ_.step6 (n : Nat) (k0 : Option Bool) (back : (List aO_) → (List aO_) → Int → Option Bool) (a : List aO_) (b : List aO_) (i : Int) : Option Bool :=
  (cond (decide (i < (a.length : Int))) (inB i a.length (inB i b.length ((ci_ n (a.getD i.toNat aO_.dflt) (b.getD i.toNat aO_.dflt)).bind fun xr1 => (cond (!xr1) (some false) (back a b (W (i + 1))))))) k0)
def aZ_.loop6 (n : Nat) (k0 : Option Bool) (N : Nat) : (List aO_) → (List aO_) → Int → Option Bool :=
  cK_ (fun _ _ _ => none) (fun back => aZ_.step6 n k0 back) N
def aZ_ : Nat → (List aO_) → (List aO_) → Option Bool
  | 0, _, _ => none
  | n + 1, a, b =>
    (cond ((a.length : Int) != (b.length : Int)) (some false) (aZ_.loop6 n (some true) n a b 0))
def ba_.step6 (n : Nat) (k0 : Option Bool) (back : (List Int) → (List Int) → Int → Option Bool) (a : List Int) (b : List Int) (i : Int) : Option Bool :=
  (cond (decide (i < (a.length : Int))) (inB i a.length (inB i b.length (cond ((a.getD i.toNat 0) != (b.getD i.toNat 0)) (some false) (back a b (W (i + 1)))))) k0)
def ba_.loop6 (n : Nat) (k0 : Option Bool) (N : Nat) : (List Int) → (List Int) → Int → Option Bool :=
  cK_ (fun _ _ _ => none) (fun back => ba_.step6 n k0 back) N
def ba_ : Nat → (List Int) → (List Int) → Option Bool
  | 0, _, _ => none
  | n + 1, a, b =>
    (cond ((a.length : Int) != (b.length : Int)) (some false) (ba_.loop6 n (some true) n a b 0))
def bW_ : Nat → bi_ → bi_ → Option Bool
  | 0, _, _ => none
  | n + 1, a, b =>
    (cond (a.table != b.table) (some false) ((aZ_ n a.where_ b.where_).bind fun xr1 => (cond (!xr1) (some false) (cond (a.order != b.order) (some false) (cond (!(a.down == b.down)) (some false) (cond (a.first != b.first) (some false) ((ba_ n a.show_ b.show_).bind fun xr2 => (cond (!xr2) (some false) (cond (!(a.kids == b.kids)) (some false) (cond (a.kidTable != b.kidTable) (some false) (cond (a.kidCol != b.kidCol) (some false) (some true))))))))))))
def cx_ : Nat → TRow → TRow → Option Bool
  | 0, _, _ => none
  | n + 1, a, b =>
    (cond (a.id_ != b.id_) (some false) ((ba_ n a.cells b.cells).bind fun xr1 => (cond (!xr1) (some false) (some true))))
def be_.step6 (n : Nat) (k0 : Option Bool) (back : (List TRow) → (List TRow) → Int → Option Bool) (a : List TRow) (b : List TRow) (i : Int) : Option Bool :=
  (cond (decide (i < (a.length : Int))) (inB i a.length (inB i b.length ((cx_ n (a.getD i.toNat TRow.dflt) (b.getD i.toNat TRow.dflt)).bind fun xr1 => (cond (!xr1) (some false) (back a b (W (i + 1))))))) k0)
def be_.loop6 (n : Nat) (k0 : Option Bool) (N : Nat) : (List TRow) → (List TRow) → Int → Option Bool :=
  cK_ (fun _ _ _ => none) (fun back => be_.step6 n k0 back) N
def be_ : Nat → (List TRow) → (List TRow) → Option Bool
  | 0, _, _ => none
  | n + 1, a, b =>
    (cond ((a.length : Int) != (b.length : Int)) (some false) (be_.loop6 n (some true) n a b 0))
def cy_ : Nat → TKid → TKid → Option Bool
  | 0, _, _ => none
  | n + 1, a, b =>
    (cond (a.id_ != b.id_) (some false) (cond (a.n_ != b.n_) (some false) (some true)))
def bf_.step6 (n : Nat) (k0 : Option Bool) (back : (List TKid) → (List TKid) → Int → Option Bool) (a : List TKid) (b : List TKid) (i : Int) : Option Bool :=
  (cond (decide (i < (a.length : Int))) (inB i a.length (inB i b.length ((cy_ n (a.getD i.toNat TKid.dflt) (b.getD i.toNat TKid.dflt)).bind fun xr1 => (cond (!xr1) (some false) (back a b (W (i + 1))))))) k0)
def bf_.loop6 (n : Nat) (k0 : Option Bool) (N : Nat) : (List TKid) → (List TKid) → Int → Option Bool :=
  cK_ (fun _ _ _ => none) (fun back => bf_.step6 n k0 back) N
def bf_ : Nat → (List TKid) → (List TKid) → Option Bool
  | 0, _, _ => none
  | n + 1, a, b =>
    (cond ((a.length : Int) != (b.length : Int)) (some false) (bf_.loop6 n (some true) n a b 0))
def b7_ : Nat → bB_ → bB_ → Option Bool
  | 0, _, _ => none
  | n + 1, a, b =>
    ((bW_ n a.q b.q).bind fun xr1 => (cond (!xr1) (some false) ((be_ n a.rows b.rows).bind fun xr2 => (cond (!xr2) (some false) ((bf_ n a.kids b.kids).bind fun xr3 => (cond (!xr3) (some false) (some true)))))))
def aD_.step3 (n : Nat) (k0 : Int → (List aO_) → Option (Int × (List aO_))) (back : Int → Int → (List aO_) → Option (Int × (List aO_))) (k : Int) (i : Int) (a : List aO_) : Option (Int × (List aO_)) :=
  (cond (decide (i < (a.length : Int))) (inB i a.length (let xa1 : List aO_ := a.set i.toNat { (a.getD i.toNat aO_.dflt) with col := k }; (inB i xa1.length (let xa2 : List aO_ := xa1.set i.toNat { (xa1.getD i.toNat aO_.dflt) with op := (W (k + 1)) }; (inB i xa2.length (let xa3 : List aO_ := xa2.set i.toNat { (xa2.getD i.toNat aO_.dflt) with v := (W ((W (k + 1)) + 1)) }; (back (W ((W ((W (k + 1)) + 1)) + 1)) (W (i + 1)) xa3))))))) (k0 k a))
def aD_.loop3 (n : Nat) (k0 : Int → (List aO_) → Option (Int × (List aO_))) (N : Nat) : Int → Int → (List aO_) → Option (Int × (List aO_)) :=
  cK_ (fun _ _ _ => none) (fun back => aD_.step3 n k0 back) N
def aD_ : Nat → (List aO_) → Int → Option (Int × (List aO_))
  | 0, _, _ => none
  | n + 1, a, k =>
    (aD_.loop3 n (fun xy4 xy5 => (some (xy4, xy5))) n k 0 a)
def aG_.step3 (n : Nat) (k0 : Int → (List Int) → Option (Int × (List Int))) (back : Int → Int → (List Int) → Option (Int × (List Int))) (k : Int) (i : Int) (a : List Int) : Option (Int × (List Int)) :=
  (cond (decide (i < (a.length : Int))) (inB i a.length (let xa1 : List Int := a.set i.toNat k; (back (W (k + 1)) (W (i + 1)) xa1))) (k0 k a))
def aG_.loop3 (n : Nat) (k0 : Int → (List Int) → Option (Int × (List Int))) (N : Nat) : Int → Int → (List Int) → Option (Int × (List Int)) :=
  cK_ (fun _ _ _ => none) (fun back => aG_.step3 n k0 back) N
def aG_ : Nat → (List Int) → Int → Option (Int × (List Int))
  | 0, _, _ => none
  | n + 1, a, k =>
    (aG_.loop3 n (fun xy2 xy3 => (some (xy2, xy3))) n k 0 a)
def bI_ : Nat → bi_ → Int → Option (Int × (List aO_) × (List Int))
  | 0, _, _ => none
  | n + 1, a, k =>
    ((aD_ n a.where_ k).bind fun xr1 => (cond (Nat.beq xr1.2.length a.where_.length) ((aG_ n a.show_ xr1.1).bind fun xr2 => (cond (Nat.beq xr2.2.length a.show_.length) (some (xr2.1, xr1.2, xr2.2)) none)) none))
def aH_.step3 (n : Nat) (k0 : Int → (List TRow) → Option (Int × (List TRow))) (back : Int → Int → (List TRow) → Option (Int × (List TRow))) (k : Int) (i : Int) (a : List TRow) : Option (Int × (List TRow)) :=
  (cond (decide (i < (a.length : Int))) (inB i a.length (let xa1 : List TRow := a.set i.toNat (TRow.mk k ((a.getD i.toNat TRow.dflt).cells)); (inB i xa1.length ((aG_ n ((xa1.getD i.toNat TRow.dflt).cells) (W (k + 1))).bind fun xr2 => (cond (Nat.beq xr2.2.length ((xa1.getD i.toNat TRow.dflt).cells).length) (let xa3 : List TRow := xa1.set i.toNat (TRow.mk ((xa1.getD i.toNat TRow.dflt).id_) xr2.2); (back xr2.1 (W (i + 1)) xa3)) none))))) (k0 k a))
def aH_.loop3 (n : Nat) (k0 : Int → (List TRow) → Option (Int × (List TRow))) (N : Nat) : Int → Int → (List TRow) → Option (Int × (List TRow)) :=
  cK_ (fun _ _ _ => none) (fun back => aH_.step3 n k0 back) N
def aH_ : Nat → (List TRow) → Int → Option (Int × (List TRow))
  | 0, _, _ => none
  | n + 1, a, k =>
    (aH_.loop3 n (fun xy4 xy5 => (some (xy4, xy5))) n k 0 a)
def aI_.step3 (n : Nat) (k0 : Int → (List TKid) → Option (Int × (List TKid))) (back : Int → Int → (List TKid) → Option (Int × (List TKid))) (k : Int) (i : Int) (a : List TKid) : Option (Int × (List TKid)) :=
  (cond (decide (i < (a.length : Int))) (inB i a.length (let xa1 : List TKid := a.set i.toNat (TKid.mk k ((a.getD i.toNat TKid.dflt).n_)); (inB i xa1.length (let xa2 : List TKid := xa1.set i.toNat (TKid.mk ((xa1.getD i.toNat TKid.dflt).id_) (W (k + 1))); (back (W ((W (k + 1)) + 1)) (W (i + 1)) xa2))))) (k0 k a))
def aI_.loop3 (n : Nat) (k0 : Int → (List TKid) → Option (Int × (List TKid))) (N : Nat) : Int → Int → (List TKid) → Option (Int × (List TKid)) :=
  cK_ (fun _ _ _ => none) (fun back => aI_.step3 n k0 back) N
def aI_ : Nat → (List TKid) → Int → Option (Int × (List TKid))
  | 0, _, _ => none
  | n + 1, a, k =>
    (aI_.loop3 n (fun xy3 xy4 => (some (xy3, xy4))) n k 0 a)
def bO_ : Nat → bB_ → Int → Option (Int × (List aO_) × (List Int) × (List TRow) × (List TKid))
  | 0, _, _ => none
  | n + 1, a, k =>
    ((bI_ n a.q k).bind fun xr1 => (cond (Nat.beq xr1.2.1.length a.q.where_.length) (cond (Nat.beq xr1.2.2.length a.q.show_.length) ((aH_ n a.rows xr1.1).bind fun xr2 => (cond (Nat.beq xr2.2.length a.rows.length) ((aI_ n a.kids xr2.1).bind fun xr3 => (cond (Nat.beq xr3.2.length a.kids.length) (some (xr3.1, xr1.2.1, xr1.2.2, xr2.2, xr3.2)) none)) none)) none) none))
def aB_.step6 (n : Nat) (k0 : Bs → Option Bs) (back : Int → Bs → Option Bs) (k : Int) (out_1 : Bs) : Option Bs :=
  (cond (decide (k > 0)) (cond (decide ((toBs ([(IntKind.u8.wrap ((W (48 + (Int.tmod k 10)))))] : List Int)).length + out_1.length ≤ 9223372036854775807)) (let xv1 : Bs := ((toBs ([(IntKind.u8.wrap ((W (48 + (Int.tmod k 10)))))] : List Int)) ++ out_1); (back (W (Int.tdiv k 10)) xv1)) none) (k0 out_1))
def aB_.loop6 (n : Nat) (k0 : Bs → Option Bs) (N : Nat) : Int → Bs → Option Bs :=
  cK_ (fun _ _ => none) (fun back => aB_.step6 n k0 back) N
def aB_ : Nat → Int → Option Bs
  | 0, _ => none
  | n + 1, k =>
    (cond (decide (k ≤ 0)) (some [109, 48]) (aB_.loop6 n (fun xy2 => (cond (decide ([109].length + xy2.length ≤ 9223372036854775807)) (some (([109] : Bs) ++ xy2)) none)) n k []))
def an_.step3 (n : Nat) (k0 : Int → (List Bs) → Option (Int × (List Bs))) (back : Int → Int → (List Bs) → Option (Int × (List Bs))) (k : Int) (i : Int) (a : List Bs) : Option (Int × (List Bs)) :=
  (cond (decide (i < (a.length : Int))) ((aB_ n k).bind fun xr1 => (inB i a.length (let xa2 : List Bs := a.set i.toNat xr1; (back (W (k + 1)) (W (i + 1)) xa2)))) (k0 k a))
def an_.loop3 (n : Nat) (k0 : Int → (List Bs) → Option (Int × (List Bs))) (N : Nat) : Int → Int → (List Bs) → Option (Int × (List Bs)) :=
  cK_ (fun _ _ _ => none) (fun back => an_.step3 n k0 back) N
def an_ : Nat → (List Bs) → Int → Option (Int × (List Bs))
  | 0, _, _ => none
  | n + 1, a, k =>
    (an_.loop3 n (fun xy3 xy4 => (some (xy3, xy4))) n k 0 a)
def aq_.step3 (n : Nat) (laws_markJsonS_ : (List aa_) → Int → Option (Int × (List aa_))) (k0 : Int → (List aa_) → Option (Int × (List aa_))) (back : Int → Int → (List aa_) → Option (Int × (List aa_))) (k : Int) (i : Int) (a : List aa_) : Option (Int × (List aa_)) :=
  (cond (decide (i < (a.length : Int))) (inB i a.length (let xa1 : List aa_ := a.set i.toNat (aa_.mk k ((a.getD i.toNat aa_.dflt).n_) ((a.getD i.toNat aa_.dflt).s) ((a.getD i.toNat aa_.dflt).list) ((a.getD i.toNat aa_.dflt).names)); (inB i xa1.length (let xa2 : List aa_ := xa1.set i.toNat (aa_.mk ((xa1.getD i.toNat aa_.dflt).kind) (W (k + 1)) ((xa1.getD i.toNat aa_.dflt).s) ((xa1.getD i.toNat aa_.dflt).list) ((xa1.getD i.toNat aa_.dflt).names)); ((aB_ n (W ((W (k + 1)) + 1))).bind fun xr3 => (inB i xa2.length (let xa4 : List aa_ := xa2.set i.toNat (aa_.mk ((xa2.getD i.toNat aa_.dflt).kind) ((xa2.getD i.toNat aa_.dflt).n_) xr3 ((xa2.getD i.toNat aa_.dflt).list) ((xa2.getD i.toNat aa_.dflt).names)); (inB i xa4.length ((laws_markJsonS_ ((xa4.getD i.toNat aa_.dflt).list) (W ((W ((W (k + 1)) + 1)) + 1))).bind fun xr5 => (cond (Nat.beq xr5.2.length ((xa4.getD i.toNat aa_.dflt).list).length) (let xa6 : List aa_ := xa4.set i.toNat (aa_.mk ((xa4.getD i.toNat aa_.dflt).kind) ((xa4.getD i.toNat aa_.dflt).n_) ((xa4.getD i.toNat aa_.dflt).s) xr5.2 ((xa4.getD i.toNat aa_.dflt).names)); (inB i xa6.length ((an_ n ((xa6.getD i.toNat aa_.dflt).names) xr5.1).bind fun xr7 => (cond (Nat.beq xr7.2.length ((xa6.getD i.toNat aa_.dflt).names).length) (let xa8 : List aa_ := xa6.set i.toNat (aa_.mk ((xa6.getD i.toNat aa_.dflt).kind) ((xa6.getD i.toNat aa_.dflt).n_) ((xa6.getD i.toNat aa_.dflt).s) ((xa6.getD i.toNat aa_.dflt).list) xr7.2); (back xr7.1 (W (i + 1)) xa8)) none)))) none)))))))))) (k0 k a))
def aq_.loop3 (n : Nat) (laws_markJsonS_ : (List aa_) → Int → Option (Int × (List aa_))) (k0 : Int → (List aa_) → Option (Int × (List aa_))) (N : Nat) : Int → Int → (List aa_) → Option (Int × (List aa_)) :=
  cK_ (fun _ _ _ => none) (fun back => aq_.step3 n laws_markJsonS_ k0 back) N
def aq_ : Nat → (List aa_) → Int → Option (Int × (List aa_))
  | 0, _, _ => none
  | n + 1, a, k =>
    (aq_.loop3 n (aq_ n) (fun xy9 xy10 => (some (xy9, xy10))) n k 0 a)
def aT_.step3 (n : Nat) (k0 : Int → (List TOp) → Option (Int × (List TOp))) (back : Int → Int → (List TOp) → Option (Int × (List TOp))) (append : Int) (t5 : Int) (o : List TOp) : Option (Int × (List TOp)) :=
  (cond (decide (t5 < (o.length : Int))) (inB t5 o.length (let xa1 : List TOp := o.set t5.toNat (TOp.mk append ((o.getD t5.toNat TOp.dflt).way) (aa_.re ((o.getD t5.toNat TOp.dflt).value))); (inB t5 xa1.length ((an_ n ((xa1.getD t5.toNat TOp.dflt).way) (W (append + 1))).bind fun xr2 => (cond (Nat.beq xr2.2.length ((xa1.getD t5.toNat TOp.dflt).way).length) (let xa3 : List TOp := xa1.set t5.toNat (TOp.mk ((xa1.getD t5.toNat TOp.dflt).kind) xr2.2 (aa_.re ((xa1.getD t5.toNat TOp.dflt).value))); (inB t5 xa3.length (let xa4 : List TOp := xa3.set t5.toNat { (xa3.getD t5.toNat TOp.dflt) with value := (aa_.mk xr2.1 (((xa3.getD t5.toNat TOp.dflt).value).n_) (((xa3.getD t5.toNat TOp.dflt).value).s) (((xa3.getD t5.toNat TOp.dflt).value).list) (((xa3.getD t5.toNat TOp.dflt).value).names)) }; (inB t5 xa4.length (let xa5 : List TOp := xa4.set t5.toNat { (xa4.getD t5.toNat TOp.dflt) with value := (aa_.mk (((xa4.getD t5.toNat TOp.dflt).value).kind) (W (xr2.1 + 1)) (((xa4.getD t5.toNat TOp.dflt).value).s) (((xa4.getD t5.toNat TOp.dflt).value).list) (((xa4.getD t5.toNat TOp.dflt).value).names)) }; ((aB_ n (W ((W (xr2.1 + 1)) + 1))).bind fun xr6 => (inB t5 xa5.length (let xa7 : List TOp := xa5.set t5.toNat { (xa5.getD t5.toNat TOp.dflt) with value := (aa_.mk (((xa5.getD t5.toNat TOp.dflt).value).kind) (((xa5.getD t5.toNat TOp.dflt).value).n_) xr6 (((xa5.getD t5.toNat TOp.dflt).value).list) (((xa5.getD t5.toNat TOp.dflt).value).names)) }; (inB t5 xa7.length ((aq_ n (((xa7.getD t5.toNat TOp.dflt).value).list) (W ((W ((W (xr2.1 + 1)) + 1)) + 1))).bind fun xr8 => (cond (Nat.beq xr8.2.length (((xa7.getD t5.toNat TOp.dflt).value).list).length) (let xa9 : List TOp := xa7.set t5.toNat { (xa7.getD t5.toNat TOp.dflt) with value := (aa_.mk (((xa7.getD t5.toNat TOp.dflt).value).kind) (((xa7.getD t5.toNat TOp.dflt).value).n_) (((xa7.getD t5.toNat TOp.dflt).value).s) xr8.2 (((xa7.getD t5.toNat TOp.dflt).value).names)) }; (inB t5 xa9.length ((an_ n (((xa9.getD t5.toNat TOp.dflt).value).names) xr8.1).bind fun xr10 => (cond (Nat.beq xr10.2.length (((xa9.getD t5.toNat TOp.dflt).value).names).length) (let xa11 : List TOp := xa9.set t5.toNat { (xa9.getD t5.toNat TOp.dflt) with value := (aa_.mk (((xa9.getD t5.toNat TOp.dflt).value).kind) (((xa9.getD t5.toNat TOp.dflt).value).n_) (((xa9.getD t5.toNat TOp.dflt).value).s) (((xa9.getD t5.toNat TOp.dflt).value).list) xr10.2) }; (back xr10.1 (W (t5 + 1)) xa11)) none)))) none))))))))))) none))))) (k0 append o))
def aT_.loop3 (n : Nat) (k0 : Int → (List TOp) → Option (Int × (List TOp))) (N : Nat) : Int → Int → (List TOp) → Option (Int × (List TOp)) :=
  cK_ (fun _ _ _ => none) (fun back => aT_.step3 n k0 back) N
def aT_ : Nat → (List TOp) → Int → Option (Int × (List TOp))
  | 0, _, _ => none
  | n + 1, o, append =>
    (aT_.loop3 n (fun xy12 xy13 => (some (xy12, xy13))) n append 0 o)
def ao_.step3 (n : Nat) (k0 : Int → Option Int) (back : (List Bs) → Int → Int → Option Int) (a : List Bs) (k : Int) (i : Int) : Option Int :=
  (cond (decide (i < (a.length : Int))) (inB i a.length ((aB_ n k).bind fun xr1 => (cond (!((a.getD i.toNat []) == xr1)) (some (-1)) (back a (W (k + 1)) (W (i + 1)))))) (k0 k))
def ao_.loop3 (n : Nat) (k0 : Int → Option Int) (N : Nat) : (List Bs) → Int → Int → Option Int :=
  cK_ (fun _ _ _ => none) (fun back => ao_.step3 n k0 back) N
def ao_ : Nat → (List Bs) → Int → Option Int
  | 0, _, _ => none
  | n + 1, a, k =>
    (ao_.loop3 n (fun xy2 => (some xy2)) n a k 0)
def ar_.step3 (n : Nat) (laws_heldJsonS_ : (List aa_) → Int → Option Int) (k0 : Int → Option Int) (back : (List aa_) → Int → Int → Option Int) (a : List aa_) (k : Int) (i : Int) : Option Int :=
  (cond (decide (i < (a.length : Int))) (inB i a.length (cond (((a.getD i.toNat aa_.dflt).kind) != k) (some (-1)) (inB i a.length (cond (((a.getD i.toNat aa_.dflt).n_) != (W (k + 1))) (some (-1)) (inB i a.length ((aB_ n (W ((W (k + 1)) + 1))).bind fun xr1 => (cond (!(((a.getD i.toNat aa_.dflt).s) == xr1)) (some (-1)) (inB i a.length ((laws_heldJsonS_ ((a.getD i.toNat aa_.dflt).list) (W ((W ((W (k + 1)) + 1)) + 1))).bind fun xr2 => (cond (decide (xr2 < 0)) (some (-1)) (inB i a.length ((ao_ n ((a.getD i.toNat aa_.dflt).names) xr2).bind fun xr3 => (cond (decide (xr3 < 0)) (some (-1)) (back a xr3 (W (i + 1)))))))))))))))) (k0 k))
def ar_.loop3 (n : Nat) (laws_heldJsonS_ : (List aa_) → Int → Option Int) (k0 : Int → Option Int) (N : Nat) : (List aa_) → Int → Int → Option Int :=
  cK_ (fun _ _ _ => none) (fun back => ar_.step3 n laws_heldJsonS_ k0 back) N
def ar_ : Nat → (List aa_) → Int → Option Int
  | 0, _, _ => none
  | n + 1, a, k =>
    (ar_.loop3 n (ar_ n) (fun xy4 => (some xy4)) n a k 0)
def aQ_.step3 (n : Nat) (k0 : Int → Option Int) (back : (List TOp) → Int → Int → Option Int) (o : List TOp) (append : Int) (t5 : Int) : Option Int :=
  (cond (decide (t5 < (o.length : Int))) (inB t5 o.length (cond (((o.getD t5.toNat TOp.dflt).kind) != append) (some (-1)) (inB t5 o.length ((ao_ n ((o.getD t5.toNat TOp.dflt).way) (W (append + 1))).bind fun xr1 => (cond (decide (xr1 < 0)) (some (-1)) (inB t5 o.length (cond ((((o.getD t5.toNat TOp.dflt).value).kind) != xr1) (some (-1)) (inB t5 o.length (cond ((((o.getD t5.toNat TOp.dflt).value).n_) != (W (xr1 + 1))) (some (-1)) (inB t5 o.length ((aB_ n (W ((W (xr1 + 1)) + 1))).bind fun xr2 => (cond (!((((o.getD t5.toNat TOp.dflt).value).s) == xr2)) (some (-1)) (inB t5 o.length ((ar_ n (((o.getD t5.toNat TOp.dflt).value).list) (W ((W ((W (xr1 + 1)) + 1)) + 1))).bind fun xr3 => (cond (decide (xr3 < 0)) (some (-1)) (inB t5 o.length ((ao_ n (((o.getD t5.toNat TOp.dflt).value).names) xr3).bind fun xr4 => (cond (decide (xr4 < 0)) (some (-1)) (back o xr4 (W (t5 + 1))))))))))))))))))))) (k0 append))
def aQ_.loop3 (n : Nat) (k0 : Int → Option Int) (N : Nat) : (List TOp) → Int → Int → Option Int :=
  cK_ (fun _ _ _ => none) (fun back => aQ_.step3 n k0 back) N
def aQ_ : Nat → (List TOp) → Int → Option Int
  | 0, _, _ => none
  | n + 1, o, append =>
    (aQ_.loop3 n (fun xy5 => (some xy5)) n o append 0)
def laws_FnExactViewPatch : Nat → bB_ → bB_ → Option Bool
  | 0, _, _ => none
  | n + 1, o, append =>
    ((cg_ n o 1048576).bind fun xr1 => (cond (decide (xr1 < 0)) (some true) ((cg_ n append xr1).bind fun xr2 => (cond (decide (xr2 < 0)) (some true) ((bN_ n o).bind fun xr3 => ((bN_ n append).bind fun xr4 => ((bG_ n xr3 xr4).bind fun xr5 => ((bN_ n o).bind fun xr6 => ((bN_ n append).bind fun xr7 => ((bE_ n xr6 xr7).bind fun xr8 => ((bm_ n xr8 xr5).bind fun xr9 => (cond (!xr9) (some false) ((bN_ n o).bind fun xr10 => ((b7_ n xr6 xr10).bind fun xr11 => (cond (!xr11) (some false) ((bN_ n append).bind fun xr12 => ((b7_ n xr7 xr12).bind fun xr13 => (cond (!xr13) (some false) ((bO_ n xr6 1).bind fun xr14 => (cond (Nat.beq xr14.2.1.length xr6.q.where_.length) (cond (Nat.beq xr14.2.2.1.length xr6.q.show_.length) (cond (Nat.beq xr14.2.2.2.1.length xr6.rows.length) (cond (Nat.beq xr14.2.2.2.2.length xr6.kids.length) ((bO_ n xr7 xr14.1).bind fun xr15 => (cond (Nat.beq xr15.2.1.length xr7.q.where_.length) (cond (Nat.beq xr15.2.2.1.length xr7.q.show_.length) (cond (Nat.beq xr15.2.2.2.1.length xr7.rows.length) (cond (Nat.beq xr15.2.2.2.2.length xr7.kids.length) (cond (decide (xr15.1 < 0)) (some false) ((bm_ n xr8 xr5).bind fun xr16 => (cond (!xr16) (some false) ((aT_ n xr8 1).bind fun xr17 => (cond (Nat.beq xr17.2.length xr8.length) ((aQ_ n xr17.2 1).bind fun xr18 => (cond (decide (xr18 < 0)) (some false) (cond (xr18 != xr17.1) (some false) ((bN_ n o).bind fun xr19 => ((bN_ n append).bind fun xr20 => ((bE_ n xr19 xr20).bind fun xr21 => ((bm_ n xr21 xr5).bind fun xr22 => (cond (!xr22) (some false) ((aQ_ n xr17.2 1).bind fun xr23 => (cond (decide (xr23 < 0)) (some false) (cond (xr23 != xr17.1) (some false) (some true)))))))))))) none))))) none) none) none) none)) none) none) none) none))))))))))))))))))))
end Go.Pi
end
