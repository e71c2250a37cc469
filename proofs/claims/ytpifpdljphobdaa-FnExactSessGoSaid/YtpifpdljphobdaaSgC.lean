/- The law FnExactSessGo returns true at every input, and leaves its arguments as they were; no condition. Text 3 of 5. -/
import Derived.Test.YtpifpdljphobdaaSgB
import Derived.Test.YtpifpdljphobdaaChecked
section
set_option linter.unusedVariables false
namespace Go.Pi
/-! ### A function: how it begins, how it ends -/
variable {ω : Type}
/-- the state in which a call begins: root 0 stands for all that others own -/
def xStart : X := ⟨fun r => cond (Nat.beq r 0) (some .ext) none, fun r => cond (Nat.beq r 0) true (Nat.beq r 1000003)⟩
mutual
/-- the memory that a call writes to for its caller -/
def outOf : PS → AV → Option (List AV)
  | .mu, .rt r => some [.rt r]
  | .ptr _, .pb r off => some [.pb r off]
  | .ag ps, .ag cs => outOfAll ps cs
  | .v, _ => some []
  | .o, _ => some []
  | _, _ => none
def outOfAll : List PS → List AV → Option (List AV)
  | p :: ps, a :: az => match outOf p a with
    | some l => match outOfAll ps az with
      | some l' => some (l ++ l')
      | none => none
    | none => none
  | [], [] => some []
  | _, _ => none
end
def entryK (e : Nat) (avs : List AV) (κ : D ω) : Option ω :=
  takenAll 0 xStart 1 avs fun x k az => cond (Nat.beq k e) (match x.h 0 with
    | some .ext => κ (az.map (AV.renD (List.range e))) (renL 1 x (List.range e))
    | _ => none) none
def rvOf (nres : Nat) (out : List AV) : AV := cond (Nat.beq nres 1) (out.headD .u) (.tu (out.take nres))
def live0 (n : Nat) : Live := (List.range n).map fun i => (i, .k)
section
variable [Coding]
def resOf (c : Cx) (s : St) : List ResultVar → Option (List AV)
  | [] => some []
  | .tmp t :: l => match resOf c s l with
    | some vs => some (s.tmps t :: vs)
    | none => none
  | .cell t T :: l => match c.tt T with
    | some td => match s.tmps t with
      | .pb q off => match s.x.h q with
        | some (.box bs) => cond (Nat.beq ((bs.drop off).take td.size).length td.size && ((bs.drop off).take td.size).all AV.cel) (match resOf c s l with
          | some vs => some (td.val ((bs.drop off).take td.size) :: vs)
          | none => none) none
        | _ => none
      | _ => none
    | none => none
def retK (c : Cx) (rsh : List Sh) (rps : List PS) (rs : List ResultVar) (outs : List AV) (fin : List AV → Option ω) (s : St) : Option ω :=
  match resOf c s rs with
  | none => none
  | some vs0 => coerces s.x 2000000 rsh (vs0 ++ outs) fun x vs => match handedAll x rps vs with
    | some (x3, avs, _, []) => match x3.h 0 with
      | some .ext => fin avs
      | _ => none
    | _ => none
end
variable [Coding]
open Coding
variable {E : Env} {w : World} {G : Ghost} {r : ω}
theorem out_aux [CodingOk] {x : X} : ∀ n : Nat,
    (∀ (p : PS) (a : AV) (v : Value) (os : List AV), SizeOf.sizeOf p < n → RT E w x G a v → Used x a.refsT → outOf p a = some os → AllF (RT E w x G) os (PS.outs p v) ∧ ∀ o ∈ os, Used x o.refsT) ∧
    (∀ (ps : List PS) (az : List AV) (vs : List Value) (os : List AV), SizeOf.sizeOf ps < n → AllF (RT E w x G) az vs → (∀ a ∈ az, Used x a.refsT) → outOfAll ps az = some os → AllF (RT E w x G) os (PS.outsAll ps vs) ∧ ∀ o ∈ os, Used x o.refsT) := by
  intro n
  induction n with
  | zero => exact ⟨fun _ _ _ _ h => absurd h (Nat.not_lt_zero _), fun _ _ _ _ h => absurd h (Nat.not_lt_zero _)⟩
  | succ n ih =>
    refine ⟨fun p a v os hn hv hu h => ?_, fun ps az vs os hn hv hu h => ?_⟩
    · cases p with
      | v => simp only [outOf, Option.some.injEq] at h; subst h; exact ⟨by simp only [PS.outs]; trivial, fun o ho => by cases ho⟩
      | o => simp only [outOf, Option.some.injEq] at h; subst h; exact ⟨by simp only [PS.outs]; trivial, fun o ho => by cases ho⟩
      | mu =>
        cases a <;> simp only [outOf] at h <;> (try (cases h; done))
        cases h
        exact ⟨by simp only [PS.outs]; exact ⟨hv, trivial⟩, fun o ho => by rw [List.mem_singleton] at ho; subst ho; exact hu⟩
      | ptr ps =>
        cases a <;> simp only [outOf] at h <;> (try (cases h; done))
        cases h
        exact ⟨by simp only [PS.outs]; exact ⟨hv, trivial⟩, fun o ho => by rw [List.mem_singleton] at ho; subst ho; exact hu⟩
      | ag ps =>
        cases a <;> simp only [outOf] at h <;> (try (cases h; done))
        rename_i cs
        obtain ⟨us, rfl, hall⟩ := hv.ag
        simp only [PS.outs]
        refine ih.2 ps cs us os (by simp at hn; omega) (hall.mono fun a v _ h => h.flat) (fun a ha => ?_) h
        have : ∃ v, RF E w x G a v := by
          clear hv hu h
          induction cs generalizing us with
          | nil => cases ha
          | cons c cs ih2 => cases us with
            | nil => exact hall.elim
            | cons u us =>
              rcases List.mem_cons.1 ha with rfl | ha
              · exact ⟨u, hall.1⟩
              · exact ih2 us hall.2 ha
        obtain ⟨v, hv'⟩ := this
        have hu' : Used x (cs.flatMap AV.refs) := hu
        exact hv'.refsT (hu'.mem ha)
    · cases ps with
      | nil =>
        cases az with
        | cons => simp [outOfAll] at h
        | nil =>
          cases vs with
          | cons => exact hv.elim
          | nil =>
            simp only [outOfAll, Option.some.injEq] at h
            subst h
            exact ⟨by simp only [PS.outsAll]; trivial, fun o ho => by cases ho⟩
      | cons p ps =>
        cases az with
        | nil => simp [outOfAll] at h
        | cons a az =>
          cases vs with
          | nil => exact hv.elim
          | cons v vs =>
            simp only [outOfAll] at h
            cases h1 : outOf p a with
            | none => rw [h1] at h; cases h
            | some l =>
              rw [h1] at h
              simp only at h
              cases h2 : outOfAll ps az with
              | none => rw [h2] at h; cases h
              | some l' =>
                rw [h2] at h
                simp only [Option.some.injEq] at h
                subst h
                obtain ⟨k1, k2⟩ := ih.1 p a v l (by simp at hn; omega) hv.1 (hu a (List.mem_cons_self ..)) h1
                obtain ⟨j1, j2⟩ := ih.2 ps az vs l' (by simp at hn; omega) hv.2 (fun a ha => hu a (List.mem_cons_of_mem _ ha)) h2
                simp only [PS.outsAll]
                exact ⟨k1.append j1, fun o ho => (List.mem_append.1 ho).elim (k2 o) (j2 o)⟩
theorem out_ok [CodingOk] {x : X} {ps : List PS} {az : List AV} {vs : List Value} {os : List AV} (hv : AllF (RT E w x G) az vs) (hu : ∀ a ∈ az, Used x a.refsT) (h : outOfAll ps az = some os) :
    AllF (RT E w x G) os (PS.outsAll ps vs) ∧ ∀ o ∈ os, Used x o.refsT := (out_aux (SizeOf.sizeOf ps + 1)).2 ps az vs os (Nat.lt_succ_self _) hv hu h
/-- how a call begins -/
structure Began (E : Env) (w : World) (F : Nat → Prop) (φ : Nat → Nat) (e : Nat) (Vs : List Value) (v : List AV) (b : List (Option Blk)) (G : Ghost) : Prop where
  mem : Mem E (X.ofL b) w G
  ent : Ent e (X.ofL b)
  slots : AllF (RT E w (X.ofL b) G) v Vs
  used : ∀ a ∈ v, Used (X.ofL b) a.refsT
  ext : ∀ c, G.φ 0 c ≠ 0 ↔ (F c ∧ φ c = 0)
  ext0 : (X.ofL b).h 0 = some .ext
  inF : ∀ c, Fof (X.ofL b) G c → F c
  u0 : (X.ofL b).u 0 = true
theorem entry_ok [CodingOk] {e : Nat} (he : 0 < e) {F : Nat → Prop} {avs : List AV} {Vs : List Value} {φ : Nat → Nat} (hrl : RL E w F avs Vs φ) (h1 : ∀ b, φ b ≤ 1) (hlow : ∀ b, F b → b < w.heap.size) {κ : D ω} (h : entryK e avs κ = some r) :
    ∃ v b G, κ v b = some r ∧ Began E w F φ e Vs v b G := by
  classical
  let G : Ghost := ⟨fun _ => undef, fun _ => [], fun r b => if r = 0 then (if F b ∧ φ b = 0 then 1 else 0) else if r = 1000003 then (if F b then 1 else 0) else 0, fun _ => 0⟩
  let x0 : X := ⟨fun r => cond (Nat.beq r 1000003) (some .ext) none, fun r => Nat.beq r 1000003⟩
  have hx : ∀ r blk, xStart.h r = some blk → r = 0 ∧ blk = .ext := by
    intro r blk hr
    simp only [xStart] at hr
    cases hb : Nat.beq r 0 with
    | false => rw [hb] at hr; cases hr
    | true => rw [hb] at hr; exact ⟨beq_iff.1 hb, (Option.some.inj hr).symm⟩
  have hfof : ∀ b, Fof xStart G b ↔ F b ∧ φ b = 0 := by
    intro b
    constructor
    · rintro ⟨r, blk, k1, k2⟩
      obtain ⟨rfl, rfl⟩ := hx r blk k1
      simp only [G, if_true] at k2
      by_cases hc : F b ∧ φ b = 0
      · exact hc
      · rw [if_neg hc] at k2; exact absurd rfl k2
    · intro hc
      exact ⟨0, .ext, rfl, by simp only [G, if_true]; rw [if_pos hc]; decide⟩
  have hfof0 : ∀ b, F b → Fof x0 G b := fun b hb => ⟨1000003, .ext, by simp [x0], by simp [G, hb]⟩
  have hφF : ∀ b, φ b ≠ 0 → F b := fun b hb => (hrl.low b hb).1
  have hA : After E x0 w G xStart xStart w G F (fun b => φ b + 0) := by
    refine ⟨⟨rfl, rfl, rfl, Nat.le_refl _, fun _ _ _ => rfl, fun b hb hF => hfof0 b ((hfof b).1 hF).1, fun r hr => ?_, fun r blk' hu hr => ?_, fun r b hu hr => ?_⟩, fun b hb => ((hfof b).1 hb).1, fun b hb => hφF b (by omega), fun b hb hF => ?_, fun b => by have := h1 b; omega, fun b hb _ => hfof0 b (hφF b (by omega)), fun b hb => (hrl.low b (by omega)).2, fun b hb => ?_, fun r blk hr => ?_, fun r blk hr => ?_, fun r r' blk blk' b k1 k2 _ _ => ?_⟩
    · have := beq_iff.1 (show Nat.beq r 1000003 = true from hr)
      subst this
      simp [xStart]
    · have := beq_iff.1 (show Nat.beq r 1000003 = true from hu)
      subst this
      have := (hx _ _ hr).1
      omega
    · have := beq_iff.1 (show Nat.beq r 1000003 = true from hu)
      subst this
      have := (hx _ _ hr).1
      omega
    · have := ((hfof b).1 hF).2; omega
    · by_cases hc : φ b = 0
      · exact .inl ((hfof b).2 ⟨hb, hc⟩)
      · exact .inr (by omega)
    · exact .inl ⟨hr, rfl, rfl, rfl, fun _ => rfl⟩
    · obtain ⟨rfl, rfl⟩ := hx r blk hr
      rfl
    · rw [(hx _ _ k1).1, (hx _ _ k2).1]
  unfold entryK at h
  obtain ⟨x', G', k', as', hk, hA', hv, _⟩ := (taken_aux 0 (SizeOf.sizeOf avs + 1)).2 avs 1 xStart G (fun _ => 0) φ Vs ω _ r (Nat.lt_succ_self _) hrl (hA.congr fun b => rfl) h
  cases hke : Nat.beq k' e with
  | false => rw [hke] at hk; cases hk
  | true =>
    rw [hke] at hk
    simp only [cond_true] at hk
    cases hx0 : x'.h 0 with
    | none => rw [hx0] at hk; cases hk
    | some blk =>
      rw [hx0] at hk
      cases blk with
      | box => cases hk
      | arr => cases hk
      | ext =>
        simp only at hk
        have hroot0 : ∀ b, G'.φ 0 b = G.φ 0 b := by
          rcases hA'.roots 0 _ hx0 with ⟨_, _, _, _, k⟩ | ⟨k, _⟩
          · exact k
          · exact k.elim
        have hM : Mem E x' w G' := by
          refine ⟨fun r blk hr => ?_, hA'.used, fun r blk b hr => ?_, fun r blk b hr hb => ?_, hA'.sep⟩
          · rcases hA'.roots r blk hr with ⟨k1, _⟩ | ⟨k1, _⟩
            · obtain ⟨rfl, rfl⟩ := hx r blk k1
              trivial
            · exact k1.ok hA'.inF hr
          · rcases hA'.roots r blk hr with ⟨k1, _, _, _, k5⟩ | ⟨_, k2⟩
            · obtain ⟨rfl, rfl⟩ := hx r blk k1
              rw [k5]
              simp only [G, if_true]
              split <;> omega
            · exact (k2 b).1
          · exact hlow b (hA'.inF b ⟨r, blk, hr, hb⟩)
        have hL : ∀ k, k < e → (List.range e)[k]? = some k := fun k hk => by simp [hk]
        have hget0 : (List.range e).getD 0 0 = 0 := by
          have := hL 0 he
          simp [List.getD, this]
        refine ⟨_, _, G'.ren (List.range e), hk, hM.ren List.nodup_range, ⟨fun r hr => ?_, fun r m t st xs hr => ?_⟩, ?_, ?_, fun c => ?_, ?_, fun c hc => hA'.inF c (ofL_fof hc), ?_⟩
        · have := ofL_u.1 hr
          simpa using this
        · obtain ⟨r', b0, e1, e2, e3, e4⟩ := ofL_h hr
          cases b0 <;> simp only [Blk.ren] at e4 <;> (try (cases e4; done))
          simp only [Blk.arr.injEq] at e4
          exact e4.2.2.1
        · have h5 : AllF (RT E w x' G') as' Vs := hv.mono fun a v _ h => h.rt hA'.inF
          clear hk hv h
          induction as' generalizing Vs with
          | nil => cases Vs with
            | nil => trivial
            | cons => exact h5.elim
          | cons a az ih => cases Vs with
            | nil => exact h5.elim
            | cons u us => exact ⟨(RT.ren h5.1).1, by
                clear ih
                have h6 := h5.2
                clear h5 hrl
                induction az generalizing us with
                | nil => cases us with
                  | nil => trivial
                  | cons => exact h6.elim
                | cons a az ih => cases us with
                  | nil => exact h6.elim
                  | cons u us => exact ⟨(RT.ren h6.1).1, ih us h6.2⟩⟩
        · intro a ha
          obtain ⟨a0, ha0, rfl⟩ := List.mem_map.1 ha
          have h5 : AllF (RT E w x' G') as' Vs := hv.mono fun a v _ h => h.rt hA'.inF
          have : ∀ {az : List AV} {us : List Value}, AllF (RT E w x' G') az us → a0 ∈ az → ∃ u, RT E w x' G' a0 u := by
            intro az
            induction az with
            | nil => intro us _ h; cases h
            | cons a az ih =>
              intro us h hm
              cases us with
              | nil => exact h.elim
              | cons u us =>
                rcases List.mem_cons.1 hm with rfl | hm
                · exact ⟨u, h.1⟩
                · exact ih h.2 hm
          obtain ⟨u, hu⟩ := this h5 ha0
          exact (RT.ren hu).2
        · simp only [Ghost.ren, hget0]
          rw [hroot0]
          simp only [G, if_true]
          constructor
          · intro h
            by_cases hc : F c ∧ φ c = 0
            · exact hc
            · rw [if_neg hc] at h; exact absurd rfl h
          · intro hc; rw [if_pos hc]; decide
        · have := hL 0 he
          simp only [X.ofL, renL, List.getElem?_map, this, Option.map_some, hx0, Blk.ren]
        · exact ofL_u.2 (by simpa using he)
end Go.Pi
end
section
set_option linter.unusedVariables false
namespace Go.Pi
variable {ω : Type}
def AV.sameRoot : AV → AV → Bool
  | .rt p, .rt q => Nat.beq p q
  | .pb p j, .pb q j' => Nat.beq p q && Nat.beq j j'
  | _, _ => false
def AV.allRoots : List AV → List AV → Bool
  | [], [] => true
  | p :: l, q :: r => AV.sameRoot p q && AV.allRoots l r
  | _, _ => false
theorem sameRoot_eq {a b : AV} (h : AV.sameRoot a b = true) : a = b := by
  cases a <;> cases b <;> simp only [AV.sameRoot] at h <;> (try (cases h; done))
  · have := beq_iff.1 h; subst this; rfl
  · simp only [Bool.and_eq_true] at h
    have := beq_iff.1 h.1; have := beq_iff.1 h.2; subst_vars; rfl
theorem allRoots_eq : ∀ {l r : List AV}, AV.allRoots l r = true → l = r
  | [], [], _ => rfl
  | a :: l, b :: r, h => by
    simp only [AV.allRoots, Bool.and_eq_true] at h
    rw [sameRoot_eq h.1, allRoots_eq h.2]
  | [], _ :: _, h => by simp [AV.allRoots] at h
  | _ :: _, [], h => by simp [AV.allRoots] at h
variable [Coding]
open Coding
variable {E : Env} {w : World} {G : Ghost} {r : ω}
theorem res_ok [CodingOk] {c : Cx} (hc : CxOk E c) {s : St} {a : Act} (h : Sim E c s a w G) {g : ResultVar → Sem Value} (hg : ∀ t, g (.tmp t) = pure (a.tmps.getD t undef))
    (hg' : ∀ t T, g (.cell t T) = (asAddr (a.tmps.getD t undef) >>= fun l => loadVar T l)) : ∀ (rs : List ResultVar) (vs : List AV), resOf c s rs = some vs →
    ∃ Vs, Vs.length = rs.length ∧ AllF (RT E w s.x G) vs Vs ∧ (∀ v ∈ vs, Used s.x v.refsT) ∧ (List.mapM g rs).run E.P w = .ok Vs w
  | [], vs, hr => by
    simp only [resOf, Option.some.injEq] at hr
    subst hr
    exact ⟨[], rfl, trivial, fun v hv => (by cases hv), rfl⟩
  | .tmp t :: rs, vs, hr => by
    simp only [resOf] at hr
    cases h1 : resOf c s rs with
    | none => rw [h1] at hr; cases hr
    | some vs1 =>
      rw [h1] at hr
      simp only [Option.some.injEq] at hr
      subst hr
      obtain ⟨Vs, k1, k2, k3, k4⟩ := res_ok hc h hg hg' rs vs1 h1
      refine ⟨_ :: Vs, by simp [k1], ⟨h.slot t, k2⟩, fun v hv => ?_, ?_⟩
      · rcases List.mem_cons.1 hv with rfl | hv
        · exact h.used t
        · exact k3 v hv
      · simp only [List.mapM_cons, Sem.run_bind, Sem.run_pure, Result.andThen_ok, k4, hg]
  | .cell t T :: rs, vs, hr => by
    simp only [resOf] at hr
    cases ht : c.tt T with
    | none => rw [ht] at hr; cases hr
    | some td =>
      rw [ht] at hr
      simp only at hr
      have hs := h.slot t
      have hu := h.used t
      cases hp : s.tmps t <;> rw [hp] at hr hs hu <;> (try (cases hr; done))
      rename_i q off
      simp only at hr
      cases hq : s.x.h q with
      | none => rw [hq] at hr; cases hr
      | some blk =>
        rw [hq] at hr
        cases blk with
        | arr => cases hr
        | ext => cases hr
        | box bs =>
          simp only at hr
          obtain ⟨h1, h2⟩ := cond_some hr
          simp only [Bool.and_eq_true] at h1
          cases h3 : resOf c s rs with
          | none => rw [h3] at h2; cases h2
          | some vs1 =>
            rw [h3] at h2
            simp only [Option.some.injEq] at h2
            subst h2
            obtain ⟨Vs, k1, k2, k3, k4⟩ := res_ok hc h hg hg' rs vs1 h3
            have hf := hs.rf (by intro cs e; cases e) (by intro cs e; cases e) (by intro f cs e; cases e)
            have hV := hf.2 bs hq
            obtain ⟨⟨cur, T', hcur, hall⟩, hφ, hus⟩ := h.mem.root q _ hq
            have htd := (hc.tt T).ok td ht
            have hl := beq_iff.1 h1.1
            have hall' := (hall.drop off).take td.size
            have hr' := rangeAt_part (rangeAt_cells hcur) off td.size
            rw [Nat.zero_add] at hr'
            have hus' : Used s.x (((bs.drop off).take td.size).flatMap AV.refs) := by
              intro z hz
              obtain ⟨c, hc1, hc2⟩ := List.mem_flatMap.1 hz
              exact hus z (List.mem_flatMap.2 ⟨c, List.mem_of_mem_drop (List.mem_of_mem_take hc1), hc2⟩)
            refine ⟨_ :: Vs, by simp [k1], ⟨RT.val htd hall' hl, k2⟩, fun v hv => ?_, ?_⟩
            · rcases List.mem_cons.1 hv with rfl | hv
              · exact used_val hus' h1.2
              · exact k3 v hv
            · have := run_loadVar htd hr' (hall'.len.trans hl)
              simp only [List.mapM_cons, Sem.run_bind, Sem.run_pure, Result.andThen_ok, k4, hg', hV, asAddr, this]
def resVal (vs : List Value) : Value := if vs.length = 1 then vs.headD undef else .tuple (List.toArray vs)
theorem run_results [CodingOk] {c : Cx} (hc : CxOk E c) {s : St} {a : Act} (h : Sim E c s a w G) {fn : Func} {rs : List ResultVar} {vs : List AV} (hr : fn.results = List.toArray rs) (hv : resOf c s rs = some vs) :
    ∃ Vs, Vs.length = rs.length ∧ AllF (RT E w s.x G) vs Vs ∧ (∀ v ∈ vs, Used s.x v.refsT) ∧ (results fn a.tmps).run E.P w = .ok (resVal Vs) w := by
  unfold results
  rw [hr]
  simp only [List.mapM_toArray, Sem.run_bind, Sem.run_map, Sem.run_pure]
  suffices ∀ g : ResultVar → Sem Value, (∀ t, g (.tmp t) = pure (a.tmps.getD t undef)) → (∀ t T, g (.cell t T) = (asAddr (a.tmps.getD t undef) >>= fun l => loadVar T l)) →
      ∃ Vs : List Value, Vs.length = rs.length ∧ AllF (RT E w s.x G) vs Vs ∧ (∀ v ∈ vs, Used s.x v.refsT) ∧ ((((List.mapM g rs).run E.P w).andThen fun a w' => Result.ok a.toArray w').andThen fun a w' => Result.ok (if h : a.size = 1 then a[0] else Value.tuple a) w') = .ok (resVal Vs) w from
    this _ (fun t => rfl) (fun t T => rfl)
  intro g hg hg'
  obtain ⟨Vs, k1, k2, k3, k4⟩ := res_ok hc h hg hg' rs vs hv
  refine ⟨Vs, k1, k2, k3, ?_⟩
  rw [k4]
  simp only [Result.andThen_ok, resVal, List.size_toArray]
  congr 1
  split
  · rename_i h1
    obtain ⟨v, hv⟩ := List.length_eq_one_iff.1 h1
    subst hv
    rfl
  · rfl
/-- the values of a call's results, and what it wrote -/
theorem rl_results {F : Nat → Prop} {out : List AV} {vs os : List Value} {φ : Nat → Nat} (h : RL E w F out (vs ++ os) φ) : RL E w F (rvOf vs.length out :: out.drop vs.length) (resVal vs :: os) φ := by
  have hl := h.length
  have e : out = out.take vs.length ++ out.drop vs.length := (List.take_append_drop _ _).symm
  rw [e] at h
  obtain ⟨us, us', φ₁, φ₂, e1, h1, h2, h3⟩ := RL.split h
  have l1 : us.length = vs.length := by rw [← h1.length, List.length_take]; simp at hl; omega
  obtain ⟨rfl, rfl⟩ := List.append_inj e1.symm l1
  unfold rvOf resVal
  by_cases hc : us.length = 1
  · rw [hc] at h1 ⊢
    simp only [if_true]
    cases us with
    | nil => cases hc
    | cons u us =>
      cases us with
      | cons => simp at hc
      | nil =>
        have : ∃ a, out.take 1 = [a] ∧ out.headD .u = a := by
          cases out with
          | nil => simp at hl
          | cons a l => exact ⟨a, rfl, rfl⟩
        obtain ⟨a, e2, e3⟩ := this
        rw [e2] at h1
        show RL E w F (cond (Nat.beq 1 1) (out.headD .u) _ :: _) (u :: _) φ
        rw [e3]
        exact h1.cons h2 h3
  · rw [if_neg hc, beq_no hc, cond_false]
    exact .tu _ us φ₁ _ _ φ₂ _ h1 h2 h3
/-- what a function owes, out of what its code makes -/
theorem fn_sound [CodingOk] {c : Cx} (hc : CxOk E c) (hK : KPar c) (hm : E.P.follows .mixedOrders = true) {f : FuncId} {fn : Func} {B : Code} (hfn : E.P.funcs[f]? = some fn) (hbody : fn.body = some B) {rs : List ResultVar} (hres : fn.results = List.toArray rs) (hnt : fn.ntmps = c.nt)
    {e : Nat} (he : 0 < e) {ann : Ann} {lf : LF ω} {rsh : List Sh} {rps ps : List PS} {outs : List AV} {fin : List AV → Option ω} {inj : ω → List AV} (hfin : ∀ o r, fin o = some r → o = inj r)
    {avs : List AV} (hn : Nat.ble avs.length c.nt = true)
    (hrun : entryK e avs (fun v b => match outOfAll ps v with
      | some o => cond (AV.allRoots o outs) (run c e ann lf (retK c rsh rps rs outs fin) B 0 (retK c rsh rps rs outs fin) (fun _ _ => none) (St.ofC (live0 avs.length) v b)) none
      | none => none) = some r)
    (hcut : Cuts c e ann lf (retK c rsh rps rs outs fin) B) :
    CallOk E f avs (rvOf rs.length (inj r)) ((inj r).drop rs.length) ps := by
  intro w F Vs φ hrl h1 hlow
  obtain ⟨v, b, G, hk, hB⟩ := entry_ok he hrl h1 hlow hrun
  cases ho : outOfAll ps v with
  | none => rw [ho] at hk; cases hk
  | some o =>
    rw [ho] at hk
    simp only at hk
    cases har : AV.allRoots o outs with
    | false => rw [har] at hk; cases hk
    | true =>
      rw [har] at hk
      simp only [cond_true] at hk
      have := allRoots_eq har
      subst this
      obtain ⟨hO1, hO2⟩ := out_ok hB.slots hB.used ho
      have hlen : Vs.length = avs.length := hrl.length.symm
      have hnle : avs.length ≤ c.nt := Nat.le_of_ble_eq_true hn
      let a0 : Act := { tmps := List.toArray Vs ++ Array.replicate (fn.ntmps - (List.toArray Vs).size) undef, defers := [] }
      have hget : (live0 avs.length).map (fun p => a0.tmps.getD p.1 undef) = Vs := by
        apply List.ext_getElem?
        intro i
        simp only [live0, List.map_map, List.getElem?_map]
        by_cases hi : i < avs.length
        · have hi' : i < Vs.length := by omega
          simp [a0, hi, hi']
          rw [Array.getElem?_append_left (by simpa using hi')]
          simp [hi']
        · simp [hi, show Vs.length ≤ i by omega]
      have hsl := look_ok (P := RT E w (X.ofL b) G) (Q := fun v => Used (X.ofL b) v.refsT) (a := fun t => a0.tmps.getD t undef) (fun v => RT.scl trivial) used_nil (live := live0 avs.length) (vals := v) (by rw [hget]; exact hB.slots) hB.used
      have hsim : Sim E c (St.ofC (live0 avs.length) v b) a0 w G := ⟨hB.mem, rfl, by simp [a0, hnt]; omega, fun t => (hsl t).1, fun t => (hsl t).2⟩
      have hwp := run_wp (f := ⟨c, e, ann, lf, retK c rsh rps rs o fin, X.ofL b, w, G⟩) ⟨hc, hB.ent, hK, hm⟩ hcut B 0 (retK c rsh rps rs o fin) (fun _ _ => none) (fun key p h => h) _ a0 w G hsim (Evo.refl _ _ _) hk
      refine calls_of_wp hfn hbody (wp_mono hwp fun ex a1 w1 hq => ?_)
      have fin_ : Here E ⟨c, e, ann, lf, retK c rsh rps rs o fin, X.ofL b, w, G⟩ r (retK c rsh rps rs o fin) a1 w1 → a1.defers = [] ∧ ∃ v, (results fn a1.tmps).run E.P w1 = .ok v w1 ∧ ∃ V φ', Ending.returned v = .returned V ∧
          RL E w1 (fun b => (F b ∧ φ b = 0) ∨ φ' b ≠ 0) (rvOf rs.length (inj r) :: (inj r).drop rs.length) (V :: PS.outsAll ps Vs) φ' ∧ (∀ b, φ' b ≤ 1) ∧ (∀ b, φ' b ≠ 0 → φ b ≠ 0 ∨ w.heap.size ≤ b) ∧
          w1.os = w.os ∧ w1.tape = w.tape ∧ w1.output = w.output ∧ w.heap.size ≤ w1.heap.size ∧ ∀ b, b < w.heap.size → φ b = 0 → w1.heap[b]? = w.heap[b]? := by
        rintro ⟨s, G1, k1, k2, k3⟩
        have k3 : Evo (X.ofL b) w G s.x w1 G1 := k3
        unfold retK at k1
        cases hrs : resOf c s rs with
        | none => rw [hrs] at k1; cases k1
        | some vs0 =>
        rw [hrs] at k1
        simp only at k1
        obtain ⟨Rs, i1, i2, i3, i4⟩ := run_results hc k2 hres hrs
        refine ⟨k2.defers, _, i4, ?_⟩
        have hvals : AllF (RT E w1 s.x G1) (vs0 ++ o) (Rs ++ PS.outsAll ps Vs) := AllF.append i2 (hO1.mono fun a v ha h => h.evolve k3 (hO2 a ha))
        obtain ⟨x2, G2, vs, j1, j2, j3, j4⟩ := coerces_sound _ _ _ _ _ _ _ k2.mem hvals (fun a ha => (List.mem_append.1 ha).elim (i3 a) fun ha => Used.evolve k3 (hO2 a ha)) k1
        cases hh : handedAll x2 rps vs with
        | none => rw [hh] at j1; cases j1
        | some z =>
          obtain ⟨x3, avs', ws, q⟩ := z
          rw [hh] at j1
          cases q with
          | cons => cases j1
          | nil =>
            simp only at j1
            cases h30 : x3.h 0 with
            | none => rw [h30] at j1; cases j1
            | some blk =>
              rw [h30] at j1
              cases blk with
              | box => cases j1
              | arr => cases j1
              | ext =>
                simp only at j1
                have := hfin _ _ j1
                subst this
                obtain ⟨φ', k⟩ := handedAll_ok j2.2 rps vs _ x2 x3 _ ws [] (Sub.refl x2) j3 hh
                have ev2 : Evo (X.ofL b) w G x2 w1 G2 := k3.trans j2.1
                have hx20 : x2.h 0 = some .ext := k.sub.1 0 _ h30
                have hext := fun c => ev2.ext 0 c hB.u0 hx20
                have hφ'ext : ∀ c, φ' c ≠ 0 → G.φ 0 c = 0 := fun c hc => by
                  refine Classical.byContradiction fun h0 => k.out c hc ⟨0, .ext, h30, ?_⟩
                  rw [(hext c).1]; exact h0
                refine ⟨_, φ', rfl, ?_, k.one, fun c hc => ?_, ev2.os, ev2.tape, ev2.output, ev2.size, fun c hc h0 => ?_⟩
                · have h5 := k.rl (fun b => (F b ∧ φ b = 0) ∨ φ' b ≠ 0) (fun c hc => ?_) (fun s hs => by cases hs) (fun c hc => .inr hc)
                  · have := rl_results h5
                    rwa [i1] at this
                  · rcases hc with hc | hc
                    · exact ⟨0, .ext, hx20, by rw [(hext c).1]; exact (hB.ext c).2 hc⟩
                    · exact k.from_ c hc
                · by_cases hlt : c < w.heap.size
                  · left
                    intro h0
                    have h6 := ev2.fresh c hlt (k.from_ c hc)
                    have h7 := hB.inF c h6
                    exact (hB.ext c).2 ⟨h7, h0⟩ (hφ'ext c hc)
                  · exact .inr (by omega)
                · by_cases hF : F c
                  · exact (hext c).2 ((hB.ext c).2 ⟨hF, h0⟩) hc
                  · exact ev2.heap c hc fun hc' => hF (hB.inF c hc')
      cases ex with
      | normal => exact fin_ hq
      | ret => exact fin_ hq
      | exit id => obtain ⟨s, G1, k1, _⟩ := hq; cases k1
      | goto => exact hq.elim
      | panic => exact hq.elim
      | outgrown => exact hq.elim
end Go.Pi
end
section
set_option linter.unusedVariables false
namespace Go.Pi
/-- so many times -/
def iterN {α : Type} (z : α) (step : α → α) : Nat → α
  | 0 => z
  | n + 1 => step (iterN z step n)
/-- slices.Delete and slices.Insert, az they answer -/
def nDelete {α : Type} (xs : List α) (i j : Int) : Option (List α) :=
  cond (decide (0 ≤ i) && (decide (i ≤ j) && decide (j ≤ (xs.length : Int)))) (some (xs.take i.toNat ++ xs.drop j.toNat)) none
def nInsert {α : Type} (bytes : Nat) (xs : List α) (i : Int) (ys : List α) : Option (List α) :=
  cond (decide (0 ≤ i) && decide (i ≤ (xs.length : Int))) (cond (decide ((xs.length + ys.length) * bytes ≤ 140737488355328)) (some (xs.take i.toNat ++ ys ++ xs.drop i.toNat)) none) none
end Go.Pi
end
section
set_option linter.unusedVariables false
namespace Go.Pi
/-! ### Taking data apart, one thing at a time -/
variable {ω : Type} {r : ω}
def uc {α : Type} : List α → (α → List α → Option ω) → Option ω
  | a :: l, κ => κ a l
  | [], _ => none
def un {α : Type} : List α → Option ω → Option ω
  | [], κ => κ
  | _ :: _, _ => none
theorem uc_ok {α : Type} {v : List α} {κ : α → List α → Option ω} (h : uc v κ = some r) : ∃ a l, v = a :: l ∧ κ a l = some r := by
  cases v with
  | nil => cases h
  | cons a l => exact ⟨a, l, rfl, h⟩
theorem un_ok {α : Type} {v : List α} {κ : Option ω} (h : un v κ = some r) : v = [] ∧ κ = some r := by
  cases v with
  | nil => exact ⟨rfl, h⟩
  | cons => cases h
def getI (k : IntKind) (a : AV) (κ : Int → Option ω) : Option ω := match a with
  | .i k' n => cond (decide (k' = k)) (κ n) none
  | _ => none
theorem getI_ok {k : IntKind} {a : AV} {κ : Int → Option ω} (h : getI k a κ = some r) : ∃ n, a = .i k n ∧ κ n = some r := by
  cases a <;> (try (cases h; done))
  obtain ⟨h1, h2⟩ := cond_some h
  have := of_decide_eq_true h1
  subst this
  exact ⟨_, rfl, h2⟩
def getB (a : AV) (κ : Bool → Option ω) : Option ω := match a with
  | .b q => κ q
  | _ => none
theorem getB_ok {a : AV} {κ : Bool → Option ω} (h : getB a κ = some r) : ∃ n, a = .b n ∧ κ n = some r := by
  cases a <;> (try (cases h; done))
  exact ⟨_, rfl, h⟩
def getS (a : AV) (κ : Bs → Option ω) : Option ω := match a with
  | .s q => κ q
  | _ => none
theorem getS_ok {a : AV} {κ : Bs → Option ω} (h : getS a κ = some r) : ∃ n, a = .s n ∧ κ n = some r := by
  cases a <;> (try (cases h; done))
  exact ⟨_, rfl, h⟩
def M.same : M → M → Bool
  | .v, .v | .s, .s | .d, .d => true
  | _, _ => false
theorem M.same_eq {m m' : M} (h : M.same m m' = true) : m = m' := by cases m <;> cases m' <;> first | rfl | cases h
def getSl (m : M) (t : TC) (a : AV) (κ : List (El t) → Option ω) : Option ω := match a with
  | .sl m' t' xs => cond (M.same m' m) (if h : t' = t then κ (h ▸ xs) else none) none
  | _ => none
theorem getSl_ok {m : M} {t : TC} {a : AV} {κ : List (El t) → Option ω} (h : getSl m t a κ = some r) : ∃ xs, a = .sl m t xs ∧ κ xs = some r := by
  cases a <;> (try (cases h; done))
  rename_i m' t' xs
  obtain ⟨h1, h2⟩ := cond_some h
  have := M.same_eq h1
  subst this
  by_cases e : t' = t
  · subst e
    simp only [dite_true] at h2
    exact ⟨xs, rfl, h2⟩
  · simp [e] at h2
def isRt (q : Nat) (a : AV) (κ : Option ω) : Option ω := match a with
  | .rt p => cond (Nat.beq p q) κ none
  | _ => none
theorem isRt_ok {q : Nat} {a : AV} {κ : Option ω} (h : isRt q a κ = some r) : a = .rt q ∧ κ = some r := by
  cases a <;> (try (cases h; done))
  obtain ⟨h1, h2⟩ := cond_some h
  have := beq_iff.1 h1
  subst this
  exact ⟨rfl, h2⟩
def isPb (q off : Nat) (a : AV) (κ : Option ω) : Option ω := match a with
  | .pb p o => cond (Nat.beq p q && Nat.beq o off) κ none
  | _ => none
theorem isPb_ok {q off : Nat} {a : AV} {κ : Option ω} (h : isPb q off a κ = some r) : a = .pb q off ∧ κ = some r := by
  cases a <;> (try (cases h; done))
  obtain ⟨h1, h2⟩ := cond_some h
  simp only [Bool.and_eq_true] at h1
  have e1 := beq_iff.1 h1.1
  have e2 := beq_iff.1 h1.2
  subst e1 e2
  exact ⟨rfl, h2⟩
def getAg (a : AV) (κ : List AV → Option ω) : Option ω := match a with
  | .ag cs => κ cs
  | _ => none
theorem getAg_ok {a : AV} {κ : List AV → Option ω} (h : getAg a κ = some r) : ∃ cs, a = .ag cs ∧ κ cs = some r := by
  cases a <;> (try (cases h; done))
  exact ⟨_, rfl, h⟩
def getTu (a : AV) (κ : List AV → Option ω) : Option ω := match a with
  | .tu cs => κ cs
  | _ => none
theorem getTu_ok {a : AV} {κ : List AV → Option ω} (h : getTu a κ = some r) : ∃ cs, a = .tu cs ∧ κ cs = some r := by
  cases a <;> (try (cases h; done))
  exact ⟨_, rfl, h⟩
def getBx (a : AV) (κ : List AV → Option ω) : Option ω := match a with
  | .bx cs => κ cs
  | _ => none
theorem getBx_ok {a : AV} {κ : List AV → Option ω} (h : getBx a κ = some r) : ∃ cs, a = .bx cs ∧ κ cs = some r := by
  cases a <;> (try (cases h; done))
  exact ⟨_, rfl, h⟩
def getPc (off : Nat) (a : AV) (κ : List AV → Option ω) : Option ω := match a with
  | .pc cs o => cond (Nat.beq o off) (κ cs) none
  | _ => none
theorem getPc_ok {off : Nat} {a : AV} {κ : List AV → Option ω} (h : getPc off a κ = some r) : ∃ cs, a = .pc cs off ∧ κ cs = some r := by
  cases a <;> (try (cases h; done))
  obtain ⟨h1, h2⟩ := cond_some h
  have := beq_iff.1 h1
  subst this
  exact ⟨_, rfl, h2⟩
def getClo (f : Nat) (a : AV) (κ : List AV → Option ω) : Option ω := match a with
  | .clo g cs => cond (Nat.beq g f) (κ cs) none
  | _ => none
theorem getClo_ok {f : Nat} {a : AV} {κ : List AV → Option ω} (h : getClo f a κ = some r) : ∃ cs, a = .clo f cs ∧ κ cs = some r := by
  cases a <;> (try (cases h; done))
  obtain ⟨h1, h2⟩ := cond_some h
  have := beq_iff.1 h1
  subst this
  exact ⟨_, rfl, h2⟩
def isNils (a : AV) (κ : Option ω) : Option ω := match a with
  | .nils => κ
  | _ => none
theorem isNils_ok {a : AV} {κ : Option ω} (h : isNils a κ = some r) : a = .nils ∧ κ = some r := by
  cases a <;> (try (cases h; done))
  exact ⟨rfl, h⟩
def isNili (a : AV) (κ : Option ω) : Option ω := match a with
  | .nili => κ
  | _ => none
theorem isNili_ok {a : AV} {κ : Option ω} (h : isNili a κ = some r) : a = .nili ∧ κ = some r := by
  cases a <;> (try (cases h; done))
  exact ⟨rfl, h⟩
def isU (a : AV) (κ : Option ω) : Option ω := match a with
  | .u => κ
  | _ => none
theorem isU_ok {a : AV} {κ : Option ω} (h : isU a κ = some r) : a = .u ∧ κ = some r := by
  cases a <;> (try (cases h; done))
  exact ⟨rfl, h⟩
def noBlk (a : Option Blk) (κ : Option ω) : Option ω := match a with
  | none => κ
  | some _ => none
theorem noBlk_ok {a : Option Blk} {κ : Option ω} (h : noBlk a κ = some r) : a = none ∧ κ = some r := by
  cases a with
  | none => exact ⟨rfl, h⟩
  | some => cases h
def isExt (a : Option Blk) (κ : Option ω) : Option ω := match a with
  | some .ext => κ
  | _ => none
theorem isExt_ok {a : Option Blk} {κ : Option ω} (h : isExt a κ = some r) : a = some .ext ∧ κ = some r := by
  cases a with
  | none => cases h
  | some b => cases b <;> first | exact ⟨rfl, h⟩ | cases h
def getBox (a : Option Blk) (κ : List AV → Option ω) : Option ω := match a with
  | some (.box cs) => κ cs
  | _ => none
theorem getBox_ok {a : Option Blk} {κ : List AV → Option ω} (h : getBox a κ = some r) : ∃ cs, a = some (.box cs) ∧ κ cs = some r := by
  cases a with
  | none => cases h
  | some b => cases b <;> first | exact ⟨_, rfl, h⟩ | cases h
def getArr (m : M) (t : TC) (st : Nat) (a : Option Blk) (κ : List (El t) → Option ω) : Option ω := match a with
  | some (.arr m' t' st' xs) => cond (M.same m' m && Nat.beq st' st) (if h : t' = t then κ (h ▸ xs) else none) none
  | _ => none
theorem getArr_ok {m : M} {t : TC} {st : Nat} {a : Option Blk} {κ : List (El t) → Option ω} (h : getArr m t st a κ = some r) : ∃ xs, a = some (.arr m t st xs) ∧ κ xs = some r := by
  cases a with
  | none => cases h
  | some b =>
    cases b <;> (try (cases h; done))
    rename_i m' t' st' xs
    obtain ⟨h1, h2⟩ := cond_some h
    simp only [Bool.and_eq_true] at h1
    have e1 := M.same_eq h1.1
    have e2 := beq_iff.1 h1.2
    subst e1 e2
    by_cases e : t' = t
    · subst e
      simp only [dite_true] at h2
      exact ⟨xs, rfl, h2⟩
    · simp [e] at h2
/-! ### Slices without memory, az a callee takes them -/
inductive Sk where
  | k
  | sl (m : M) (t : TC)
  | ag (l : List Sk)
def fix1 : Sk → AV → AV
  | .sl m t, .nils => .sl m t []
  | _, a => a
def fixL : List Sk → List AV → List AV
  | s :: ss, a :: az => fix1 s a :: fixL ss az
  | _, az => az
def fix : Sk → AV → AV
  | .ag l, .ag cs => .ag (fixL l cs)
  | s, a => fix1 s a
def fixes : List Sk → List AV → List AV
  | s :: ss, a :: az => fix s a :: fixes ss az
  | _, az => az
variable [Coding]
variable {E : Env} {w : World} {F : Nat → Prop}
theorem fix1_ok {s : Sk} {a : AV} {v : Value} {φ : Nat → Nat} (h : RL E w F [a] [v] φ) : RL E w F [fix1 s a] [v] φ := by
  cases s <;> (try exact h)
  rename_i m t
  cases a <;> (try exact h)
  cases h with
  | scal _ _ _ _ _ hs hn =>
    simp only [scl] at hs
    subst hs
    have h0 := (RL.nil_inv hn).2
    cases m with
    | v => exact .view t [] none 0 0 [] (fun _ => 0) _ _ _ ⟨rfl, Nat.le_refl _⟩ (.nil _ fun _ => rfl) (fun _ => rfl) (fun hp => by omega) (.nil _ h0)
    | s => exact .own .s t [] _ [] (fun _ => 0) _ _ (fun _ => 0) _ (by decide) (World.ownsRow_nil _ _ _ _) (.nil _ fun _ => rfl) (fun b hb => by simp [own1] at hb) (.nil _ fun _ => rfl) (fun b => by rw [h0 b]; simp [own1])
    | d => exact .own .d t [] _ [] (fun _ => 0) _ _ (fun _ => 0) _ (by decide) (World.ownsRow_nil _ _ _ _) (.nil _ fun _ => rfl) (fun b hb => by simp [own1] at hb) (.nil _ fun _ => rfl) (fun b => by rw [h0 b]; simp [own1])
theorem fixL_ok : ∀ {ss : List Sk} {az : List AV} {vs : List Value} {φ : Nat → Nat}, RL E w F az vs φ → RL E w F (fixL ss az) vs φ
  | [], az, vs, φ, h => by cases az <;> exact h
  | s :: ss, [], vs, φ, h => h
  | s :: ss, a :: az, vs, φ, h => by
    obtain ⟨v, vs', φ₁, φ₂, rfl, h1, h2, e⟩ := RL.uncons h
    exact (fix1_ok h1).cons (fixL_ok h2) e
theorem fix_ok {s : Sk} {a : AV} {v : Value} {φ : Nat → Nat} (h : RL E w F [a] [v] φ) : RL E w F [fix s a] [v] φ := by
  by_cases hc : ∃ l cs, s = .ag l ∧ a = .ag cs
  · obtain ⟨l, cs, rfl, rfl⟩ := hc
    cases h with
    | scal _ _ _ _ _ hs _ => exact hs.elim
    | ag _ us φ₁ _ _ φ₂ _ h1 h2 he => exact .ag _ us φ₁ _ _ φ₂ _ (fixL_ok h1) h2 he
  · have : fix s a = fix1 s a := by
      cases s <;> (try rfl)
      cases a <;> (try rfl)
      exact absurd ⟨_, _, rfl, rfl⟩ hc
    rw [this]; exact fix1_ok h
theorem fixes_ok : ∀ {ss : List Sk} {az : List AV} {vs : List Value} {φ : Nat → Nat}, RL E w F az vs φ → RL E w F (fixes ss az) vs φ
  | [], az, vs, φ, h => by cases az <;> exact h
  | s :: ss, [], vs, φ, h => h
  | s :: ss, a :: az, vs, φ, h => by
    obtain ⟨v, vs', φ₁, φ₂, rfl, h1, h2, e⟩ := RL.uncons h
    exact (fix_ok h1).cons (fixes_ok h2) e
theorem CallOk.fix {f : FuncId} {avs : List AV} {rv : AV} {outs : List AV} {ps : List PS} {ss : List Sk} (h : CallOk E f (fixes ss avs) rv outs ps) : CallOk E f avs rv outs ps :=
  fun w F Vs φ hrl => h w F Vs φ (fixes_ok hrl)
end Go.Pi
end
section
set_option linter.unusedVariables false
namespace Go.Pi
/-! ### The tables, looked over by program -/
def sclB : AV → Value → Bool
  | .i k n, .int k' n' => decide (k = k') && decide (n = n')
  | .b p, .bool q => p == q
  | .s [], .string s => Nat.beq s.size 0
  | .nils, .slice none 0 0 => true
  | .nilp, .pointer none => true
  | .nili, .nilIface => true
  | _, _ => false
def sclsB : List AV → List Value → Bool
  | [], [] => true
  | a :: l, v :: r => sclB a v && sclsB l r
  | _, _ => false
theorem sclB_ok {a : AV} {v : Value} (h : sclB a v = true) : scl a v := by
  unfold sclB at h
  split at h <;> simp only [scl] <;> (try rfl)
  · simp only [Bool.and_eq_true, decide_eq_true_eq] at h
    rw [h.1, h.2]
  · have := eq_of_beq h
    rw [this]
  · rename_i s
    have h0 := Nat.eq_of_beq_eq_true h
    obtain ⟨⟨l⟩⟩ := s
    have : l = [] := by
      cases l with
      | nil => rfl
      | cons a l => simp [ByteArray.size] at h0
    subst this; rfl
  · cases h
theorem sclsB_ok : ∀ {l : List AV} {r : List Value}, sclsB l r = true → AllF scl l r
  | [], [], _ => trivial
  | a :: l, v :: r, h => by
    simp only [sclsB, Bool.and_eq_true] at h
    exact ⟨sclB_ok h.1, sclsB_ok h.2⟩
  | [], _ :: _, h => by simp [sclsB] at h
  | _ :: _, [], h => by simp [sclsB] at h
def descB (d : TypeDesc) (td : TD) (eid : TC → TypeId) : Bool :=
  (match td.elem with
    | none => true
    | some t => match d with | .slice e => Nat.beq e (eid t) | _ => false) &&
  (match td.kind with
    | none => true
    | some k => match d with | .int k' => decide (k' = k) | _ => false) &&
  (cond td.isStr (match d with | .string => true | _ => false) true) &&
  (cond td.isBool (match d with | .bool => true | _ => false) true)
def fieldsB (P : Program) : List Field → List (Nat × Nat) → Bool
  | [], [] => true
  | f :: fs, p :: ps => Nat.beq f.offset p.1 && (match P.info? f.type with | some i => Nat.beq i.size p.2 | none => false) && Nat.blt 0 p.2 && fieldsB P fs ps
  | _, _ => false
def cmpB (P : Program) : Nat → List Field → List CK → Bool
  | _, [], [] => true
  | k, f :: fs, q :: qs => !(f.name == "_") && Nat.beq f.offset k && P.plainKey f.type && (match P.underlying f.type, q with
      | some (.int _), .i => true
      | some .bool, .b => true
      | some .string, .s => true
      | _, _ => false) && cmpB P (k + 1) fs qs
  | _, _, _ => false
def tdB (P : Program) (eid : TC → TypeId) (T : TypeId) (td : TD) : Bool :=
  match P.info? T, P.underlying T with
  | some i, some d =>
    Nat.beq i.size td.size && Nat.blt 0 td.size && (cond td.agg d.isRow (Nat.beq td.size 1 && !d.isRow)) &&
    (match i.zero with
      | some z => Nat.beq td.zero.length td.size && td.zero.all AV.one && sclsB td.zero z.cells.toList
      | none => false) &&
    (match td.fields with
      | [] => !td.agg
      | fs => match d with
        | .struct gs => fieldsB P gs.toList fs
        | _ => false) &&
    descB d td eid &&
    (match td.cmp with
      | [] => true
      | qs => match d with
        | .struct gs => cmpB P 0 gs.toList qs && !(P.stoodInHeld T) && !(P.eqGuardType P.depth T)
        | _ => false)
  | _, _ => false
theorem fieldsB_ok {P : Program} : ∀ {fs : List Field} {ps : List (Nat × Nat)}, fieldsB P fs ps = true → fs.length = ps.length ∧ ∀ (f off n : Nat), ps[f]? = some (off, n) → ∃ fd : Field, fs[f]? = some fd ∧ fd.offset = off ∧ (P.info? fd.type).map (·.size) = some n ∧ 0 < n
  | [], [], _ => ⟨rfl, fun f off n h => by simp at h⟩
  | g :: fs, p :: ps, h => by
    simp only [fieldsB, Bool.and_eq_true] at h
    obtain ⟨⟨⟨h1, h2⟩, h3⟩, h4⟩ := h
    obtain ⟨k1, k2⟩ := fieldsB_ok h4
    refine ⟨by simp [k1], fun f off n hf => ?_⟩
    cases f with
    | zero =>
      simp only [List.getElem?_cons_zero, Option.some.injEq] at hf
      subst hf
      refine ⟨g, rfl, Nat.eq_of_beq_eq_true h1, ?_, blt_iff.1 h3⟩
      cases hi : P.info? g.type with
      | none => rw [hi] at h2; cases h2
      | some i => rw [hi] at h2; simp [Nat.eq_of_beq_eq_true h2]
    | succ f => exact k2 f off n (by simpa using hf)
  | [], _ :: _, h => by simp [fieldsB] at h
  | _ :: _, [], h => by simp [fieldsB] at h
theorem cmpB_ok {P : Program} : ∀ {k0 : Nat} {fs : List Field} {qs : List CK}, cmpB P k0 fs qs = true → fs.length = qs.length ∧ ∀ (k : Nat) (f : Field) (q : CK), fs[k]? = some f → qs[k]? = some q → (f.name == "_") = false ∧ f.offset = k0 + k ∧ P.plainKey f.type = true ∧
      match q with
      | .i => ∃ kk, P.underlying f.type = some (.int kk)
      | .b => P.underlying f.type = some .bool
      | .s => P.underlying f.type = some .string
  | k0, [], [], _ => ⟨rfl, fun k f q h => by simp at h⟩
  | k0, g :: fs, p :: qs, h => by
    simp only [cmpB, Bool.and_eq_true, Bool.not_eq_true'] at h
    obtain ⟨⟨⟨⟨h1, h2⟩, h3⟩, h4⟩, h5⟩ := h
    obtain ⟨k1, k2⟩ := cmpB_ok h5
    refine ⟨by simp [k1], fun k f q hf hq => ?_⟩
    cases k with
    | zero =>
      simp only [List.getElem?_cons_zero, Option.some.injEq] at hf hq
      subst hf hq
      refine ⟨h1, Nat.eq_of_beq_eq_true h2, h3, ?_⟩
      split at h4 <;> (try (cases h4; done))
      · rename_i kk e1; exact ⟨kk, e1⟩
      · rename_i e1; exact e1
      · rename_i e1; exact e1
    | succ k =>
      obtain ⟨j1, j2, j3⟩ := k2 k f q (by simpa using hf) (by simpa using hq)
      exact ⟨j1, by omega, j3⟩
  | _, [], _ :: _, h => by simp [cmpB] at h
  | _, _ :: _, [], h => by simp [cmpB] at h
variable [Coding]
omit [Coding] in
theorem tdB_ok {E : Env} {T : TypeId} {td : TD} (h : tdB E.P E.eid T td = true) : TDok E T td := by
  unfold tdB at h
  cases hi : E.P.info? T with
  | none => rw [hi] at h; cases h
  | some i =>
    cases hu : E.P.underlying T with
    | none => rw [hi, hu] at h; cases h
    | some d =>
      rw [hi, hu] at h
      simp only [Bool.and_eq_true] at h
      obtain ⟨⟨⟨⟨⟨⟨h1, h2⟩, h3⟩, h4⟩, h5⟩, h6⟩, h7⟩ := h
      simp only [descB, Bool.and_eq_true] at h6
      obtain ⟨⟨⟨g1, g2⟩, g3⟩, g4⟩ := h6
      refine ⟨by rw [hi]; simp [Nat.eq_of_beq_eq_true h1], blt_iff.1 h2, fun e => ⟨d, hu, by rw [e] at h3; exact h3⟩, fun e => ?_, ?_, fun e => ?_, fun e => ?_, fun t e => ?_, fun k e => ?_, fun e => ?_, fun e => ?_, fun e => ?_⟩
      · rw [e] at h3
        simp only [cond_false, Bool.and_eq_true, Bool.not_eq_true'] at h3
        exact ⟨Nat.eq_of_beq_eq_true h3.1, d, hu, h3.2⟩
      · cases hz : i.zero with
        | none => rw [hz] at h4; cases h4
        | some z =>
          rw [hz] at h4
          simp only [Bool.and_eq_true] at h4
          exact ⟨Nat.eq_of_beq_eq_true h4.1.1, h4.1.2, i, z, z.cells.toList, hi, hz, by simp, sclsB_ok h4.2⟩
      · cases hf : td.fields with
        | nil => exact absurd hf e
        | cons p ps =>
          rw [hf] at h5
          cases d <;> simp only at h5 <;> (try (cases h5; done))
          rename_i gs
          obtain ⟨k1, k2⟩ := fieldsB_ok h5
          exact ⟨gs, hu, by simpa using k1, fun f off n hq => by
            obtain ⟨fd, j1, j2⟩ := k2 f off n hq
            exact ⟨fd, by simpa using j1, j2⟩⟩
      · intro e'
        rw [e'] at h5
        simp only [e] at h5
        cases h5
      · rw [e] at g1
        cases d <;> simp only at g1 <;> (try (cases g1; done))
        rw [hu, Nat.eq_of_beq_eq_true g1]
      · rw [e] at g2
        cases d <;> simp only at g2 <;> (try (cases g2; done))
        rw [hu, of_decide_eq_true g2]
      · rw [e] at g3
        cases d <;> simp only [cond_true] at g3 <;> first | exact hu | cases g3
      · rw [e] at g4
        cases d <;> simp only [cond_true] at g4 <;> first | exact hu | cases g4
      · cases hq : td.cmp with
        | nil => exact absurd hq e
        | cons p ps =>
          rw [hq] at h7
          cases d <;> simp only at h7 <;> (try (cases h7; done))
          rename_i gs
          simp only [Bool.and_eq_true, Bool.not_eq_true'] at h7
          obtain ⟨k1, k2⟩ := cmpB_ok h7.1.1
          refine ⟨gs, hu, h7.1.2, h7.2, by simpa using k1, fun k f q hf hq' => ?_⟩
          obtain ⟨j1, j2, j3⟩ := k2 k f q (by simpa using hf) hq'
          exact ⟨j1, by omega, j3⟩
def look2 {α : Type _} : List (Nat × α) → Nat → Option α
  | [], _ => none
  | (k, a) :: l, n => cond (Nat.beq n k) (some a) (look2 l n)
def allB {α : Type _} (p : Nat → α → Bool) : List (Nat × α) → Bool
  | [] => true
  | (k, a) :: l => p k a && allB p l
omit [Coding] in
theorem look2_ok {α : Type _} {p : Nat → α → Bool} : ∀ {l : List (Nat × α)} {n : Nat} {a : α}, allB p l = true → look2 l n = some a → p n a = true
  | [], n, a, _, h => by cases h
  | (k, b) :: l, n, a, h, h' => by
    simp only [allB, Bool.and_eq_true] at h
    simp only [look2] at h'
    cases hb : Nat.beq n k with
    | true =>
      rw [hb] at h'
      simp only [cond_true, Option.some.injEq] at h'
      have := Nat.eq_of_beq_eq_true hb
      subst this h'
      exact h.1
    | false => rw [hb] at h'; exact look2_ok h.2 h'
omit [Coding] in
theorem tt_ok {E : Env} {l : List (Nat × TD)} (h : allB (tdB E.P E.eid) l = true) (T : TypeId) : TTok E T (look2 l T) :=
  ⟨fun td ht => tdB_ok (look2_ok h ht)⟩
open Coding
def tcB (P : Program) (eid : TC → TypeId) (t : TC) (zc : List AV) : Bool :=
  match P.info? (eid t) with
  | some i => Nat.beq i.size t.width && Nat.beq i.bytes t.bytes && Nat.blt 0 t.bytes && zc.all AV.one && match i.zero with
    | some z => sclsB zc z.cells.toList
    | none => false
  | none => false
theorem tcB_ok {E : Env} {t : TC} {zc : List AV} (h : tcB E.P E.eid t zc = true) (hz : ∀ m, sims m zc (enc m t (El.dflt t))) : TCok E t := by
  unfold tcB at h
  cases hi : E.P.info? (E.eid t) with
  | none => rw [hi] at h; cases h
  | some i =>
    rw [hi] at h
    simp only [Bool.and_eq_true] at h
    obtain ⟨⟨⟨⟨h1, h2⟩, h3⟩, h4⟩, h5⟩ := h
    cases hq : i.zero with
    | none => rw [hq] at h5; cases h5
    | some z =>
      rw [hq] at h5
      exact ⟨⟨i, z, z.cells.toList, zc, hi, hq, Nat.eq_of_beq_eq_true h1, Nat.eq_of_beq_eq_true h2, by simp, sclsB_ok h5, h4, hz⟩, blt_iff.1 h3⟩
omit [Coding] in
theorem cond_t {α : Type _} {c : Bool} {a b x : α} (hc : c = true) (h : cond c a b = x) : a = x := by subst hc; exact h
omit [Coding] in
theorem cond_f {α : Type _} {c : Bool} {a b x : α} (hc : c = false) (h : cond c a b = x) : b = x := by subst hc; exact h
omit [Coding] in
theorem cond_is {α : Type _} {c : Bool} (hc : c = true) (a b : α) : cond c a b = a := by subst hc; rfl
omit [Coding] in
theorem cond_no {α : Type _} {c : Bool} (hc : c = false) (a b : α) : cond c a b = b := by subst hc; rfl
/-- are the rows handed of these kinds? -/
def selM : List M → List AV → Bool
  | m :: ms, .sl m' _ _ :: az => (match m, m' with | .d, .d => true | .s, .s => true | .v, .v => true | _, _ => false) && selM ms az
  | _ :: ms, _ :: az => selM ms az
  | _, _ => true
def selClo (k : Nat) (avs : List AV) : Nat := match avs[k]? with
  | some (.clo g _) => g
  | _ => 0
/-- a callee, az the table bears it -/
structure Hd : Type 1 where
  K : (ω : Type) → List AV → (AV → List AV → Option ω) → Option ω
def AllP {α : Type _} (p : Nat → α → Prop) : List (Nat × α) → Prop
  | [] => True
  | (k, a) :: l => p k a ∧ AllP p l
omit [Coding] in
theorem look2_all {α : Type _} {p : Nat → α → Prop} : ∀ {l : List (Nat × α)} {n : Nat} {a : α}, AllP p l → look2 l n = some a → p n a
  | [], n, a, _, h => by cases h
  | (k, b) :: l, n, a, h, h' => by
    simp only [look2] at h'
    cases hb : Nat.beq n k with
    | true =>
      rw [hb] at h'
      simp only [cond_true, Option.some.injEq] at h'
      have := Nat.eq_of_beq_eq_true hb
      subst this h'
      exact h.1
    | false => rw [hb] at h'; exact look2_all h.2 h'
def KH (l : List (Nat × Hd)) (ω : Type) (f : Nat) (avs : List AV) (κ : AV → List AV → Option ω) : Option ω := match look2 l f with
  | some h => h.K ω avs κ
  | none => none
omit [Coding] in
theorem KH_par {l : List (Nat × Hd)} {nt : Nat} {tt : Nat → Option TD} {sig : Nat → Option (List PS)} {fz : Nat → Bool} (h : AllP (fun _ (h : Hd) => ∀ (ω : Type) (avs : List AV) (κ : AV → List AV → Option ω) (q : ω), h.K ω avs κ = some q → ∃ rv outs, κ rv outs = some q ∧ ∀ (ω' : Type) (κ' : AV → List AV → Option ω'), h.K ω' avs κ' = κ' rv outs) l) :
    KPar ⟨nt, tt, sig, KH l, fz⟩ := by
  intro ω f avs κ q hK
  have hK : KH l ω f avs κ = some q := hK
  show ∃ rv outs, κ rv outs = some q ∧ ∀ (ω' : Type) (κ' : AV → List AV → Option ω'), KH l ω' f avs κ' = κ' rv outs
  unfold KH at hK ⊢
  cases hl : look2 l f with
  | none => rw [hl] at hK; cases hK
  | some g => rw [hl] at hK; exact look2_all h hl ω avs κ q hK
theorem KH_ok {E : Env} {l : List (Nat × Hd)} {nt : Nat} {tt : Nat → Option TD} {sig : Nat → Option (List PS)} {fz : Nat → Bool} (h : AllP (fun f (h : Hd) => ∀ (ω : Type) (avs : List AV) (κ : AV → List AV → Option ω) (q : ω), h.K ω avs κ = some q → FnOk E f ∧ ∃ ps rv outs, sig f = some ps ∧ κ rv outs = some q ∧ CallOk E f avs rv outs ps) l) :
    KOk E ⟨nt, tt, sig, KH l, fz⟩ := by
  intro ω f avs κ q hK
  have hK : KH l ω f avs κ = some q := hK
  unfold KH at hK
  cases hl : look2 l f with
  | none => rw [hl] at hK; cases hK
  | some g => rw [hl] at hK; exact look2_all h hl ω avs κ q hK
/-- a slice's rows, whatever it is -/
def getAny (t : TC) (a : AV) {ω : Type} (κ : List (El t) → Option ω) : Option ω := match decSl t a with
  | some xs => κ xs
  | none => none
omit [Coding] in
theorem getAny_ok {t : TC} {a : AV} {ω : Type} {r : ω} {κ : List (El t) → Option ω} (h : getAny t a κ = some r) : ∃ xs, κ xs = some r ∧ ∀ m, AV.sim m a (.sl m t xs) := by
  unfold getAny at h
  cases hd : decSl t a with
  | none => rw [hd] at h; cases h
  | some xs =>
    rw [hd] at h
    refine ⟨xs, h, fun m => ?_⟩
    cases a <;> simp only [decSl] at hd <;> (try (cases hd; done))
    case nils => simp only [Option.some.injEq] at hd; subst hd; exact ⟨t, rfl⟩
    case sl m' t' ys =>
      by_cases e : t' = t
      · subst e
        simp only [dite_true, Option.some.injEq] at hd
        subst hd; rfl
      · simp [e] at hd
/-- is a cell such az an element bears? -/
def codedB (m : M) : AV → Bool
  | .i _ _ | .b _ | .s _ => true
  | .sl m' _ _ => M.same m' m
  | _ => false
omit [Coding] in
theorem coded_of {m : M} {l : List AV} (h : l.all (codedB m) = true) (a : AV) (ha : a ∈ l) : (∃ k n, a = .i k n) ∨ (∃ q, a = .b q) ∨ (∃ l, a = .s l) ∨ ∃ t' xs, a = .sl m t' xs := by
  have := List.all_eq_true.1 h a ha
  cases a <;> simp only [codedB] at this <;> (try (cases this; done))
  · exact .inl ⟨_, _, rfl⟩
  · exact .inr (.inl ⟨_, rfl⟩)
  · exact .inr (.inr (.inl ⟨_, rfl⟩))
  · rw [M.same_eq this]; exact .inr (.inr (.inr ⟨_, _, rfl⟩))
end Go.Pi
end
section
set_option linter.unusedVariables false
set_option maxRecDepth 100000
namespace Go.Pi
open Go.Proofs
instance coding : Coding where
  enc := fun m t => match t with
    | .int => fun (x : Int) => [AV.i .i64 x]
    | .u8 => fun (x : Int) => [AV.i .u8 x]
    | .str => fun (x : Bs) => [AV.s x]
    | .lCond => fun (x : TCond) => [AV.i .i64 x.col, AV.i .i64 x.op, AV.i .i64 x.v]
    | .lRow => fun (x : TRow) => [AV.i .i64 x.id_, AV.sl m .int x.cells]
    | .lKid => fun (x : TKid) => [AV.i .i64 x.id_, AV.i .i64 x.n_]
    | .lChange => fun (x : TChange) => [AV.i .i64 x.table, AV.b x.had, AV.b x.has, AV.i .i64 x.old.id_, AV.sl m .int x.old.cells, AV.i .i64 x.new.id_, AV.sl m .int x.new.cells]
    | .iCond => fun (x : TCond) => [AV.i .i64 x.col, AV.i .i64 x.op, AV.i .i64 x.v]
    | .iRow => fun (x : TRow) => [AV.i .i64 x.id_, AV.sl m .int x.cells]
    | .iKid => fun (x : TKid) => [AV.i .i64 x.id_, AV.i .i64 x.n_]
    | .iChange => fun (x : TChange) => [AV.i .i64 x.table, AV.b x.had, AV.b x.has, AV.i .i64 x.old.id_, AV.sl m .int x.old.cells, AV.i .i64 x.new.id_, AV.sl m .int x.new.cells]
  dec := fun t => match t with
    | .int => fun l => uc l fun a1 l2 => getI .i64 a1 fun x3 => un l2 (some (x3 : Int))
    | .u8 => fun l => uc l fun a1 l2 => getI .u8 a1 fun x3 => un l2 (some (x3 : Int))
    | .str => fun l => uc l fun a1 l2 => getS a1 fun x3 => un l2 (some (x3 : Bs))
    | .lCond => fun l => uc l fun a1 l2 => getI .i64 a1 fun x3 => uc l2 fun a4 l5 => getI .i64 a4 fun x6 => uc l5 fun a7 l8 => getI .i64 a7 fun x9 => un l8 (some ((TCond.mk x3 x6 x9) : TCond))
    | .lRow => fun l => uc l fun a1 l2 => getI .i64 a1 fun x3 => uc l2 fun a4 l5 => getAny .int a4 fun x6 => un l5 (some ((TRow.mk x3 x6) : TRow))
    | .lKid => fun l => uc l fun a1 l2 => getI .i64 a1 fun x3 => uc l2 fun a4 l5 => getI .i64 a4 fun x6 => un l5 (some ((TKid.mk x3 x6) : TKid))
    | .lChange => fun l => uc l fun a1 l2 => getI .i64 a1 fun x3 => uc l2 fun a4 l5 => getB a4 fun x6 => uc l5 fun a7 l8 => getB a7 fun x9 => uc l8 fun a10 l11 => getI .i64 a10 fun x12 => uc l11 fun a13 l14 => getAny .int a13 fun x15 => uc l14 fun a17 l18 => getI .i64 a17 fun x19 => uc l18 fun a20 l21 => getAny .int a20 fun x22 => un l21 (some ((TChange.mk x3 x6 x9 (TRow.mk x12 x15) (TRow.mk x19 x22)) : TChange))
    | .iCond => fun l => uc l fun a1 l2 => getI .i64 a1 fun x3 => uc l2 fun a4 l5 => getI .i64 a4 fun x6 => uc l5 fun a7 l8 => getI .i64 a7 fun x9 => un l8 (some ((TCond.mk x3 x6 x9) : TCond))
    | .iRow => fun l => uc l fun a1 l2 => getI .i64 a1 fun x3 => uc l2 fun a4 l5 => getAny .int a4 fun x6 => un l5 (some ((TRow.mk x3 x6) : TRow))
    | .iKid => fun l => uc l fun a1 l2 => getI .i64 a1 fun x3 => uc l2 fun a4 l5 => getI .i64 a4 fun x6 => un l5 (some ((TKid.mk x3 x6) : TKid))
    | .iChange => fun l => uc l fun a1 l2 => getI .i64 a1 fun x3 => uc l2 fun a4 l5 => getB a4 fun x6 => uc l5 fun a7 l8 => getB a7 fun x9 => uc l8 fun a10 l11 => getI .i64 a10 fun x12 => uc l11 fun a13 l14 => getAny .int a13 fun x15 => uc l14 fun a17 l18 => getI .i64 a17 fun x19 => uc l18 fun a20 l21 => getAny .int a20 fun x22 => un l21 (some ((TChange.mk x3 x6 x9 (TRow.mk x12 x15) (TRow.mk x19 x22)) : TChange))
instance codingOk : CodingOk where
  len := by intro m t x; cases t <;> rfl
  pos := by intro t; cases t <;> decide
  view := by intro m t x; cases t <;> rfl
  flat := by intro m m' t x h; cases t <;> first | rfl | cases h
  cell := by
    intro m t x a ha
    refine coded_of ?_ a ha
    cases t <;> cases m <;> rfl
  u8 := by intro m n; rfl
  dec := by
    intro m t l y h
    cases t with
    | int =>
      replace h : (uc l fun a1 l2 => getI .i64 a1 fun x3 => un l2 (some (x3 : Int))) = some y := h
      replace h := uc_ok h; obtain ⟨a1, l2, rfl, h⟩ := h
      replace h := getI_ok h; obtain ⟨x3, rfl, h⟩ := h
      replace h := un_ok h; obtain ⟨rfl, h⟩ := h
      cases h
      exact ⟨rfl, trivial⟩
    | u8 =>
      replace h : (uc l fun a1 l2 => getI .u8 a1 fun x3 => un l2 (some (x3 : Int))) = some y := h
      replace h := uc_ok h; obtain ⟨a1, l2, rfl, h⟩ := h
      replace h := getI_ok h; obtain ⟨x3, rfl, h⟩ := h
      replace h := un_ok h; obtain ⟨rfl, h⟩ := h
      cases h
      exact ⟨rfl, trivial⟩
    | str =>
      replace h : (uc l fun a1 l2 => getS a1 fun x3 => un l2 (some (x3 : Bs))) = some y := h
      replace h := uc_ok h; obtain ⟨a1, l2, rfl, h⟩ := h
      replace h := getS_ok h; obtain ⟨x3, rfl, h⟩ := h
      replace h := un_ok h; obtain ⟨rfl, h⟩ := h
      cases h
      exact ⟨rfl, trivial⟩
    | lCond =>
      replace h : (uc l fun a1 l2 => getI .i64 a1 fun x3 => uc l2 fun a4 l5 => getI .i64 a4 fun x6 => uc l5 fun a7 l8 => getI .i64 a7 fun x9 => un l8 (some ((TCond.mk x3 x6 x9) : TCond))) = some y := h
      replace h := uc_ok h; obtain ⟨a1, l2, rfl, h⟩ := h
      replace h := getI_ok h; obtain ⟨x3, rfl, h⟩ := h
      replace h := uc_ok h; obtain ⟨a4, l5, rfl, h⟩ := h
      replace h := getI_ok h; obtain ⟨x6, rfl, h⟩ := h
      replace h := uc_ok h; obtain ⟨a7, l8, rfl, h⟩ := h
      replace h := getI_ok h; obtain ⟨x9, rfl, h⟩ := h
      replace h := un_ok h; obtain ⟨rfl, h⟩ := h
      cases h
      exact ⟨rfl, rfl, rfl, trivial⟩
    | lRow =>
      replace h : (uc l fun a1 l2 => getI .i64 a1 fun x3 => uc l2 fun a4 l5 => getAny .int a4 fun x6 => un l5 (some ((TRow.mk x3 x6) : TRow))) = some y := h
      replace h := uc_ok h; obtain ⟨a1, l2, rfl, h⟩ := h
      replace h := getI_ok h; obtain ⟨x3, rfl, h⟩ := h
      replace h := uc_ok h; obtain ⟨a4, l5, rfl, h⟩ := h
      replace h := getAny_ok h; obtain ⟨x6, h, z7⟩ := h
      replace h := un_ok h; obtain ⟨rfl, h⟩ := h
      cases h
      exact ⟨rfl, z7 m, trivial⟩
    | lKid =>
      replace h : (uc l fun a1 l2 => getI .i64 a1 fun x3 => uc l2 fun a4 l5 => getI .i64 a4 fun x6 => un l5 (some ((TKid.mk x3 x6) : TKid))) = some y := h
      replace h := uc_ok h; obtain ⟨a1, l2, rfl, h⟩ := h
      replace h := getI_ok h; obtain ⟨x3, rfl, h⟩ := h
      replace h := uc_ok h; obtain ⟨a4, l5, rfl, h⟩ := h
      replace h := getI_ok h; obtain ⟨x6, rfl, h⟩ := h
      replace h := un_ok h; obtain ⟨rfl, h⟩ := h
      cases h
      exact ⟨rfl, rfl, trivial⟩
    | lChange =>
      replace h : (uc l fun a1 l2 => getI .i64 a1 fun x3 => uc l2 fun a4 l5 => getB a4 fun x6 => uc l5 fun a7 l8 => getB a7 fun x9 => uc l8 fun a10 l11 => getI .i64 a10 fun x12 => uc l11 fun a13 l14 => getAny .int a13 fun x15 => uc l14 fun a17 l18 => getI .i64 a17 fun x19 => uc l18 fun a20 l21 => getAny .int a20 fun x22 => un l21 (some ((TChange.mk x3 x6 x9 (TRow.mk x12 x15) (TRow.mk x19 x22)) : TChange))) = some y := h
      replace h := uc_ok h; obtain ⟨a1, l2, rfl, h⟩ := h
      replace h := getI_ok h; obtain ⟨x3, rfl, h⟩ := h
      replace h := uc_ok h; obtain ⟨a4, l5, rfl, h⟩ := h
      replace h := getB_ok h; obtain ⟨x6, rfl, h⟩ := h
      replace h := uc_ok h; obtain ⟨a7, l8, rfl, h⟩ := h
      replace h := getB_ok h; obtain ⟨x9, rfl, h⟩ := h
      replace h := uc_ok h; obtain ⟨a10, l11, rfl, h⟩ := h
      replace h := getI_ok h; obtain ⟨x12, rfl, h⟩ := h
      replace h := uc_ok h; obtain ⟨a13, l14, rfl, h⟩ := h
      replace h := getAny_ok h; obtain ⟨x15, h, z16⟩ := h
      replace h := uc_ok h; obtain ⟨a17, l18, rfl, h⟩ := h
      replace h := getI_ok h; obtain ⟨x19, rfl, h⟩ := h
      replace h := uc_ok h; obtain ⟨a20, l21, rfl, h⟩ := h
      replace h := getAny_ok h; obtain ⟨x22, h, z23⟩ := h
      replace h := un_ok h; obtain ⟨rfl, h⟩ := h
      cases h
      exact ⟨rfl, rfl, rfl, rfl, z16 m, rfl, z23 m, trivial⟩
    | iCond =>
      replace h : (uc l fun a1 l2 => getI .i64 a1 fun x3 => uc l2 fun a4 l5 => getI .i64 a4 fun x6 => uc l5 fun a7 l8 => getI .i64 a7 fun x9 => un l8 (some ((TCond.mk x3 x6 x9) : TCond))) = some y := h
      replace h := uc_ok h; obtain ⟨a1, l2, rfl, h⟩ := h
      replace h := getI_ok h; obtain ⟨x3, rfl, h⟩ := h
      replace h := uc_ok h; obtain ⟨a4, l5, rfl, h⟩ := h
      replace h := getI_ok h; obtain ⟨x6, rfl, h⟩ := h
      replace h := uc_ok h; obtain ⟨a7, l8, rfl, h⟩ := h
      replace h := getI_ok h; obtain ⟨x9, rfl, h⟩ := h
      replace h := un_ok h; obtain ⟨rfl, h⟩ := h
      cases h
      exact ⟨rfl, rfl, rfl, trivial⟩
    | iRow =>
      replace h : (uc l fun a1 l2 => getI .i64 a1 fun x3 => uc l2 fun a4 l5 => getAny .int a4 fun x6 => un l5 (some ((TRow.mk x3 x6) : TRow))) = some y := h
      replace h := uc_ok h; obtain ⟨a1, l2, rfl, h⟩ := h
      replace h := getI_ok h; obtain ⟨x3, rfl, h⟩ := h
      replace h := uc_ok h; obtain ⟨a4, l5, rfl, h⟩ := h
      replace h := getAny_ok h; obtain ⟨x6, h, z7⟩ := h
      replace h := un_ok h; obtain ⟨rfl, h⟩ := h
      cases h
      exact ⟨rfl, z7 m, trivial⟩
    | iKid =>
      replace h : (uc l fun a1 l2 => getI .i64 a1 fun x3 => uc l2 fun a4 l5 => getI .i64 a4 fun x6 => un l5 (some ((TKid.mk x3 x6) : TKid))) = some y := h
      replace h := uc_ok h; obtain ⟨a1, l2, rfl, h⟩ := h
      replace h := getI_ok h; obtain ⟨x3, rfl, h⟩ := h
      replace h := uc_ok h; obtain ⟨a4, l5, rfl, h⟩ := h
      replace h := getI_ok h; obtain ⟨x6, rfl, h⟩ := h
      replace h := un_ok h; obtain ⟨rfl, h⟩ := h
      cases h
      exact ⟨rfl, rfl, trivial⟩
    | iChange =>
      replace h : (uc l fun a1 l2 => getI .i64 a1 fun x3 => uc l2 fun a4 l5 => getB a4 fun x6 => uc l5 fun a7 l8 => getB a7 fun x9 => uc l8 fun a10 l11 => getI .i64 a10 fun x12 => uc l11 fun a13 l14 => getAny .int a13 fun x15 => uc l14 fun a17 l18 => getI .i64 a17 fun x19 => uc l18 fun a20 l21 => getAny .int a20 fun x22 => un l21 (some ((TChange.mk x3 x6 x9 (TRow.mk x12 x15) (TRow.mk x19 x22)) : TChange))) = some y := h
      replace h := uc_ok h; obtain ⟨a1, l2, rfl, h⟩ := h
      replace h := getI_ok h; obtain ⟨x3, rfl, h⟩ := h
      replace h := uc_ok h; obtain ⟨a4, l5, rfl, h⟩ := h
      replace h := getB_ok h; obtain ⟨x6, rfl, h⟩ := h
      replace h := uc_ok h; obtain ⟨a7, l8, rfl, h⟩ := h
      replace h := getB_ok h; obtain ⟨x9, rfl, h⟩ := h
      replace h := uc_ok h; obtain ⟨a10, l11, rfl, h⟩ := h
      replace h := getI_ok h; obtain ⟨x12, rfl, h⟩ := h
      replace h := uc_ok h; obtain ⟨a13, l14, rfl, h⟩ := h
      replace h := getAny_ok h; obtain ⟨x15, h, z16⟩ := h
      replace h := uc_ok h; obtain ⟨a17, l18, rfl, h⟩ := h
      replace h := getI_ok h; obtain ⟨x19, rfl, h⟩ := h
      replace h := uc_ok h; obtain ⟨a20, l21, rfl, h⟩ := h
      replace h := getAny_ok h; obtain ⟨x22, h, z23⟩ := h
      replace h := un_ok h; obtain ⟨rfl, h⟩ := h
      cases h
      exact ⟨rfl, rfl, rfl, rfl, z16 m, rfl, z23 m, trivial⟩
def eid : TC → TypeId
  | .int => 3
  | .u8 => 5
  | .str => 9
  | .lCond => 167
  | .lRow => 108
  | .lKid => 172
  | .lChange => 110
  | .iCond => 144
  | .iRow => 113
  | .iKid => 137
  | .iChange => 115
noncomputable def E : Env := ⟨Try.prog, eid⟩
def ttL : List (Nat × TD) := [
  (3, ⟨1, false, [.i .i64 0], [], none, some .i64, false, false, []⟩),
  (4, ⟨1, false, [.b false], [], none, none, false, true, []⟩),
  (22, ⟨1, false, [.nils], [], some .int, none, false, false, []⟩),
  (25, ⟨1, false, [.nils], [], some .lCond, none, false, false, []⟩),
  (27, ⟨9, true, [.i .i64 0, .nils, .i .i64 0, .b false, .i .i64 0, .nils, .b false, .i .i64 0, .i .i64 0], [(0, 1), (1, 1), (2, 1), (3, 1), (4, 1), (5, 1), (6, 1), (7, 1), (8, 1)], none, none, false, false, []⟩),
  (28, ⟨1, false, [.nils], [], some .lRow, none, false, false, []⟩),
  (29, ⟨1, false, [.nils], [], some .lKid, none, false, false, []⟩),
  (31, ⟨11, true, [.i .i64 0, .nils, .i .i64 0, .b false, .i .i64 0, .nils, .b false, .i .i64 0, .i .i64 0, .nils, .nils], [(0, 9), (9, 1), (10, 1)], none, none, false, false, []⟩),
  (33, ⟨25, true, [.i .i64 0, .nils, .i .i64 0, .b false, .i .i64 0, .nils, .b false, .i .i64 0, .i .i64 0, .nils, .nils, .i .i64 0, .i .i64 0, .nils, .i .i64 0, .b false, .i .i64 0, .nils, .b false, .i .i64 0, .i .i64 0, .nils, .nils, .i .i64 0, .b false], [(0, 11), (11, 1), (12, 11), (23, 1), (24, 1)], none, none, false, false, []⟩),
  (39, ⟨1, false, [.nils], [], some .iCond, none, false, false, []⟩),
  (41, ⟨9, true, [.i .i64 0, .nils, .i .i64 0, .b false, .i .i64 0, .nils, .b false, .i .i64 0, .i .i64 0], [(0, 1), (1, 1), (2, 1), (3, 1), (4, 1), (5, 1), (6, 1), (7, 1), (8, 1)], none, none, false, false, []⟩),
  (42, ⟨1, false, [.nils], [], some .iRow, none, false, false, []⟩),
  (43, ⟨1, false, [.nils], [], some .iKid, none, false, false, []⟩),
  (45, ⟨11, true, [.i .i64 0, .nils, .i .i64 0, .b false, .i .i64 0, .nils, .b false, .i .i64 0, .i .i64 0, .nils, .nils], [(0, 9), (9, 1), (10, 1)], none, none, false, false, []⟩),
  (47, ⟨25, true, [.i .i64 0, .nils, .i .i64 0, .b false, .i .i64 0, .nils, .b false, .i .i64 0, .i .i64 0, .nils, .nils, .i .i64 0, .i .i64 0, .nils, .i .i64 0, .b false, .i .i64 0, .nils, .b false, .i .i64 0, .i .i64 0, .nils, .nils, .i .i64 0, .b false], [(0, 11), (11, 1), (12, 11), (23, 1), (24, 1)], none, none, false, false, []⟩),
  (67, ⟨1, false, [.nils], [], some .lChange, none, false, false, []⟩),
  (70, ⟨1, false, [.nils], [], some .iChange, none, false, false, []⟩),
  (108, ⟨2, true, [.i .i64 0, .nils], [(0, 1), (1, 1)], none, none, false, false, []⟩),
  (110, ⟨7, true, [.i .i64 0, .b false, .b false, .i .i64 0, .nils, .i .i64 0, .nils], [(0, 1), (1, 1), (2, 1), (3, 2), (5, 2)], none, none, false, false, []⟩),
  (113, ⟨2, true, [.i .i64 0, .nils], [(0, 1), (1, 1)], none, none, false, false, []⟩),
  (115, ⟨7, true, [.i .i64 0, .b false, .b false, .i .i64 0, .nils, .i .i64 0, .nils], [(0, 1), (1, 1), (2, 1), (3, 2), (5, 2)], none, none, false, false, []⟩),
  (137, ⟨2, true, [.i .i64 0, .i .i64 0], [(0, 1), (1, 1)], none, none, false, false, [.i, .i]⟩),
  (144, ⟨3, true, [.i .i64 0, .i .i64 0, .i .i64 0], [(0, 1), (1, 1), (2, 1)], none, none, false, false, [.i, .i, .i]⟩),
  (167, ⟨3, true, [.i .i64 0, .i .i64 0, .i .i64 0], [(0, 1), (1, 1), (2, 1)], none, none, false, false, [.i, .i, .i]⟩),
  (172, ⟨2, true, [.i .i64 0, .i .i64 0], [(0, 1), (1, 1)], none, none, false, false, [.i, .i]⟩)]
def tt (T : Nat) : Option TD := look2 ttL T
theorem ttOk (T : TypeId) : TTok E T (tt T) := tt_ok (E := E) (by kernel_rfl) T
theorem tcOk (t : TC) : TCok E t := by
  cases t with
  | int => exact tcB_ok (zc := [.i .i64 0]) (by kernel_rfl) (fun m => ⟨rfl, trivial⟩)
  | u8 => exact tcB_ok (zc := [.i .u8 0]) (by kernel_rfl) (fun m => ⟨rfl, trivial⟩)
  | str => exact tcB_ok (zc := [.s []]) (by kernel_rfl) (fun m => ⟨rfl, trivial⟩)
  | lCond => exact tcB_ok (zc := [.i .i64 0, .i .i64 0, .i .i64 0]) (by kernel_rfl) (fun m => ⟨rfl, rfl, rfl, trivial⟩)
  | lRow => exact tcB_ok (zc := [.i .i64 0, .nils]) (by kernel_rfl) (fun m => ⟨rfl, ⟨_, rfl⟩, trivial⟩)
  | lKid => exact tcB_ok (zc := [.i .i64 0, .i .i64 0]) (by kernel_rfl) (fun m => ⟨rfl, rfl, trivial⟩)
  | lChange => exact tcB_ok (zc := [.i .i64 0, .b false, .b false, .i .i64 0, .nils, .i .i64 0, .nils]) (by kernel_rfl) (fun m => ⟨rfl, rfl, rfl, rfl, ⟨_, rfl⟩, rfl, ⟨_, rfl⟩, trivial⟩)
  | iCond => exact tcB_ok (zc := [.i .i64 0, .i .i64 0, .i .i64 0]) (by kernel_rfl) (fun m => ⟨rfl, rfl, rfl, trivial⟩)
  | iRow => exact tcB_ok (zc := [.i .i64 0, .nils]) (by kernel_rfl) (fun m => ⟨rfl, ⟨_, rfl⟩, trivial⟩)
  | iKid => exact tcB_ok (zc := [.i .i64 0, .i .i64 0]) (by kernel_rfl) (fun m => ⟨rfl, rfl, trivial⟩)
  | iChange => exact tcB_ok (zc := [.i .i64 0, .b false, .b false, .i .i64 0, .nils, .i .i64 0, .nils]) (by kernel_rfl) (fun m => ⟨rfl, rfl, rfl, rfl, ⟨_, rfl⟩, rfl, ⟨_, rfl⟩, trivial⟩)
theorem u8Ok : E.P.underlying (E.eid .u8) = some (.int .u8) := by kernel_rfl
theorem mixedOk : E.P.follows .mixedOrders = true := by kernel_rfl
end Go.Pi
end
section
set_option linter.unusedVariables false
/-! Patterns of abstract values: what they hold, how it is read and laid. -/
namespace Go.Pi
def both {α β : Type} (a : Option α) (b : Option β) : Option (α × β) := match a with
  | some x => match b with
    | some y => some (x, y)
    | none => none
  | none => none
theorem both_ok {α β : Type} {a : Option α} {b : Option β} {z : α × β} (h : both a b = some z) : a = some z.1 ∧ b = some z.2 := by
  cases a with
  | none => cases h
  | some x => cases b with
    | none => cases h
    | some y => cases h; exact ⟨rfl, rfl⟩
inductive Pat : Type where
  | i (k : IntKind) | b | s
  | sl (m : M) (t : TC)
  | ag (ps : List Pat) | tu (ps : List Pat) | bx (ps : List Pat)
  | pc (ps : List Pat) (off : Nat)
  | clo (f : FuncId) (ps : List Pat)
  | rt (r : Nat) | pb (r off : Nat)
  | nils | nili | u
mutual
def Pat.T : Pat → Type
  | .i _ => Int
  | .b => Bool
  | .s => Bs
  | .sl _ t => List (El t)
  | .ag ps => Pat.Ts ps
  | .tu ps => Pat.Ts ps
  | .bx ps => Pat.Ts ps
  | .pc ps _ => Pat.Ts ps
  | .clo _ ps => Pat.Ts ps
  | .rt _ => Unit
  | .pb _ _ => Unit
  | .nils => Unit
  | .nili => Unit
  | .u => Unit
def Pat.Ts : List Pat → Type
  | [] => Unit
  | p :: ps => Pat.T p × Pat.Ts ps
end
mutual
def Pat.enc : (p : Pat) → Pat.T p → AV
  | .i k, n => .i k n
  | .b, q => .b q
  | .s, l => .s l
  | .sl m t, xs => .sl m t xs
  | .ag ps, x => .ag (Pat.encs ps x)
  | .tu ps, x => .tu (Pat.encs ps x)
  | .bx ps, x => .bx (Pat.encs ps x)
  | .pc ps off, x => .pc (Pat.encs ps x) off
  | .clo f ps, x => .clo f (Pat.encs ps x)
  | .rt r, _ => .rt r
  | .pb r off, _ => .pb r off
  | .nils, _ => .nils
  | .nili, _ => .nili
  | .u, _ => .u
def Pat.encs : (ps : List Pat) → Pat.Ts ps → List AV
  | [], _ => []
  | p :: ps, x => Pat.enc p x.1 :: Pat.encs ps x.2
end
mutual
def Pat.dec : (p : Pat) → AV → Option (Pat.T p)
  | .i k, a => getI k a fun n => some n
  | .b, a => getB a fun q => some q
  | .s, a => getS a fun l => some l
  | .sl m t, a => getSl m t a fun xs => some xs
  | .ag ps, a => getAg a fun l => Pat.decs ps l
  | .tu ps, a => getTu a fun l => Pat.decs ps l
  | .bx ps, a => getBx a fun l => Pat.decs ps l
  | .pc ps off, a => getPc off a fun l => Pat.decs ps l
  | .clo f ps, a => getClo f a fun l => Pat.decs ps l
  | .rt r, a => isRt r a (some ())
  | .pb r off, a => isPb r off a (some ())
  | .nils, a => isNils a (some ())
  | .nili, a => isNili a (some ())
  | .u, a => isU a (some ())
def Pat.decs : (ps : List Pat) → List AV → Option (Pat.Ts ps)
  | [], l => un l (some ())
  | p :: ps, l => uc l fun a l => both (Pat.dec p a) (Pat.decs ps l)
end
mutual
theorem Pat.dec_ok : ∀ (p : Pat) (a : AV) (x : Pat.T p), Pat.dec p a = some x → a = Pat.enc p x
  | .i k, a, x, h => by simp only [Pat.dec] at h; replace h := getI_ok h; obtain ⟨n, rfl, h⟩ := h; cases h; simp only [Pat.enc]
  | .b, a, x, h => by simp only [Pat.dec] at h; replace h := getB_ok h; obtain ⟨n, rfl, h⟩ := h; cases h; simp only [Pat.enc]
  | .s, a, x, h => by simp only [Pat.dec] at h; replace h := getS_ok h; obtain ⟨n, rfl, h⟩ := h; cases h; simp only [Pat.enc]
  | .sl m t, a, x, h => by simp only [Pat.dec] at h; replace h := getSl_ok h; obtain ⟨n, rfl, h⟩ := h; cases h; simp only [Pat.enc]
  | .ag ps, a, x, h => by simp only [Pat.dec] at h; replace h := getAg_ok h; obtain ⟨l, rfl, h⟩ := h; rw [Pat.decs_ok ps l x h]; simp only [Pat.enc]
  | .tu ps, a, x, h => by simp only [Pat.dec] at h; replace h := getTu_ok h; obtain ⟨l, rfl, h⟩ := h; rw [Pat.decs_ok ps l x h]; simp only [Pat.enc]
  | .bx ps, a, x, h => by simp only [Pat.dec] at h; replace h := getBx_ok h; obtain ⟨l, rfl, h⟩ := h; rw [Pat.decs_ok ps l x h]; simp only [Pat.enc]
  | .pc ps off, a, x, h => by simp only [Pat.dec] at h; replace h := getPc_ok h; obtain ⟨l, rfl, h⟩ := h; rw [Pat.decs_ok ps l x h]; simp only [Pat.enc]
  | .clo f ps, a, x, h => by simp only [Pat.dec] at h; replace h := getClo_ok h; obtain ⟨l, rfl, h⟩ := h; rw [Pat.decs_ok ps l x h]; simp only [Pat.enc]
  | .rt r, a, x, h => by simp only [Pat.dec] at h; replace h := isRt_ok h; obtain ⟨rfl, h⟩ := h; simp only [Pat.enc]
  | .pb r off, a, x, h => by simp only [Pat.dec] at h; replace h := isPb_ok h; obtain ⟨rfl, h⟩ := h; simp only [Pat.enc]
  | .nils, a, x, h => by simp only [Pat.dec] at h; replace h := isNils_ok h; obtain ⟨rfl, h⟩ := h; simp only [Pat.enc]
  | .nili, a, x, h => by simp only [Pat.dec] at h; replace h := isNili_ok h; obtain ⟨rfl, h⟩ := h; simp only [Pat.enc]
  | .u, a, x, h => by simp only [Pat.dec] at h; replace h := isU_ok h; obtain ⟨rfl, h⟩ := h; simp only [Pat.enc]
theorem Pat.decs_ok : ∀ (ps : List Pat) (l : List AV) (x : Pat.Ts ps), Pat.decs ps l = some x → l = Pat.encs ps x
  | [], l, x, h => by simp only [Pat.decs] at h; replace h := un_ok h; obtain ⟨rfl, h⟩ := h; simp only [Pat.encs]
  | p :: ps, l, x, h => by
    simp only [Pat.decs] at h
    replace h := uc_ok h; obtain ⟨a, l, rfl, h⟩ := h
    obtain ⟨h1, h2⟩ := both_ok h
    rw [Pat.dec_ok p a x.1 h1, Pat.decs_ok ps l x.2 h2]
    simp only [Pat.encs]
end
/-! the blocks of roots -/
inductive BPat : Type where
  | ext | non
  | box (ps : List Pat)
  | arr (m : M) (t : TC) (st : Nat)
def BPat.T : BPat → Type
  | .ext => Unit
  | .non => Unit
  | .box ps => Pat.Ts ps
  | .arr _ t _ => List (El t)
def BPat.Ts : List BPat → Type
  | [] => Unit
  | p :: ps => BPat.T p × BPat.Ts ps
def BPat.enc : (p : BPat) → BPat.T p → Option Blk
  | .ext, _ => some .ext
  | .non, _ => none
  | .box ps, x => some (.box (Pat.encs ps x))
  | .arr m t st, xs => some (.arr m t st xs)
def BPat.encs : (ps : List BPat) → BPat.Ts ps → List (Option Blk)
  | [], _ => []
  | p :: ps, x => BPat.enc p x.1 :: BPat.encs ps x.2
def BPat.dec : (p : BPat) → Option Blk → Option (BPat.T p)
  | .ext, a => isExt a (some ())
  | .non, a => noBlk a (some ())
  | .box ps, a => getBox a fun l => Pat.decs ps l
  | .arr m t st, a => getArr m t st a fun xs => some xs
def BPat.decs : (ps : List BPat) → List (Option Blk) → Option (BPat.Ts ps)
  | [], l => un l (some ())
  | p :: ps, l => uc l fun a l => both (BPat.dec p a) (BPat.decs ps l)
theorem BPat.dec_ok (p : BPat) (a : Option Blk) (x : BPat.T p) (h : BPat.dec p a = some x) : a = BPat.enc p x := by
  cases p with
  | ext => obtain ⟨rfl, _⟩ := isExt_ok h; rfl
  | non => obtain ⟨rfl, _⟩ := noBlk_ok h; rfl
  | box ps => replace h := getBox_ok h; obtain ⟨l, rfl, h⟩ := h; rw [Pat.decs_ok ps l x h]; rfl
  | arr m t st => replace h := getArr_ok h; obtain ⟨l, rfl, h⟩ := h; cases h; rfl
theorem BPat.decs_ok : ∀ (ps : List BPat) (l : List (Option Blk)) (x : BPat.Ts ps), BPat.decs ps l = some x → l = BPat.encs ps x
  | [], l, x, h => by simp only [BPat.decs] at h; replace h := un_ok h; obtain ⟨rfl, h⟩ := h; rfl
  | p :: ps, l, x, h => by
    simp only [BPat.decs] at h
    replace h := uc_ok h; obtain ⟨a, l, rfl, h⟩ := h
    obtain ⟨h1, h2⟩ := both_ok h
    rw [BPat.dec_ok p a x.1 h1, BPat.decs_ok ps l x.2 h2]
    rfl
/-- what a piece makes of its data -/
def piece {R : Type} (vp : List Pat) (bp : List BPat) (v : List AV) (b : List (Option Blk)) (g : Pat.Ts vp → BPat.Ts bp → Option R) : Option R :=
  match Pat.decs vp v with
  | some x => (match BPat.decs bp b with
    | some y => g x y
    | none => none)
  | none => none
theorem piece_ok {R : Type} {vp : List Pat} {bp : List BPat} {v : List AV} {b : List (Option Blk)} {g : Pat.Ts vp → BPat.Ts bp → Option R} {r : R} (h : piece vp bp v b g = some r) :
    ∃ x y, v = Pat.encs vp x ∧ b = BPat.encs bp y ∧ g x y = some r := by
  unfold piece at h
  cases h1 : Pat.decs vp v with
  | none => rw [h1] at h; cases h
  | some x =>
    rw [h1] at h
    cases h2 : BPat.decs bp b with
    | none => rw [h2] at h; cases h
    | some y => rw [h2] at h; exact ⟨x, y, Pat.decs_ok _ _ _ h1, BPat.decs_ok _ _ _ h2, h⟩
/-- what is left at the end, az the answer -/
def finP {R : Type} (ps : List Pat) (k : Pat.Ts ps → R) (o : List AV) : Option R := match Pat.decs ps o with
  | some x => some (k x)
  | none => none
theorem finP_ok {R : Type} {ps : List Pat} {k : Pat.Ts ps → R} {inj : R → List AV} (hk : ∀ x, Pat.encs ps x = inj (k x)) {o : List AV} {r : R} (h : finP ps k o = some r) : o = inj r := by
  unfold finP at h
  cases h1 : Pat.decs ps o with
  | none => rw [h1] at h; cases h
  | some x =>
    rw [h1] at h
    cases h
    rw [Pat.decs_ok _ _ _ h1, hk]
end Go.Pi
end
section
set_option linter.unusedVariables false
namespace Go.Pi
/-- a callee, out of what its arguments are and what it answers -/
def mkK {R : Type} (ss : List Sk) (ps : List Pat) (f : Pat.Ts ps → Option R) (rv : R → AV) (outs : R → List AV) {ω : Type} (avs : List AV) (κ : AV → List AV → Option ω) : Option ω :=
  match Pat.decs ps (fixes ss avs) with
  | some x => (f x).bind fun r => κ (rv r) (outs r)
  | none => none
theorem mkK_par {R : Type} {ss : List Sk} {ps : List Pat} {f : Pat.Ts ps → Option R} {rv : R → AV} {outs : R → List AV} {ω : Type} {avs : List AV} {κ : AV → List AV → Option ω} {q : ω} (h : mkK ss ps f rv outs avs κ = some q) :
    ∃ r o, κ r o = some q ∧ ∀ (ω' : Type) (κ' : AV → List AV → Option ω'), mkK ss ps f rv outs avs κ' = κ' r o := by
  unfold mkK at h
  cases hd : Pat.decs ps (fixes ss avs) with
  | none => rw [hd] at h; cases h
  | some x =>
    rw [hd] at h
    simp only at h
    cases hf : f x with
    | none => rw [hf] at h; cases h
    | some r =>
      rw [hf] at h
      exact ⟨_, _, h, fun ω' κ' => by unfold mkK; rw [hd]; simp only [hf]; rfl⟩
variable [Coding]
theorem mkK_ok [CodingOk] {E : Env} {fid : FuncId} {sg : Option (List PS)} {R : Type} {ss : List Sk} {ps : List Pat} {f : Pat.Ts ps → Option R} {rv : R → AV} {outs : R → List AV} {pss : List PS} (hfn : FnOk E fid) (hsig : sg = some pss)
    (ho : ∀ x r, f x = some r → CallOk E fid (Pat.encs ps x) (rv r) (outs r) pss) {ω : Type} {avs : List AV} {κ : AV → List AV → Option ω} {q : ω} (h : mkK ss ps f rv outs avs κ = some q) :
    FnOk E fid ∧ ∃ ps' r o, sg = some ps' ∧ κ r o = some q ∧ CallOk E fid avs r o ps' := by
  unfold mkK at h
  cases hd : Pat.decs ps (fixes ss avs) with
  | none => rw [hd] at h; cases h
  | some x =>
    rw [hd] at h
    simp only at h
    cases hf : f x with
    | none => rw [hf] at h; cases h
    | some r =>
      rw [hf] at h
      exact ⟨hfn, pss, _, _, hsig, h, CallOk.fix (ss := ss) (by rw [Pat.decs_ok _ _ _ hd]; exact ho x r hf)⟩
end Go.Pi
end
section
set_option linter.unusedVariables false
set_option linter.unusedSectionVars false
/-! What a function's print says of it, az data; what it owes, out of a few closed facts. -/
namespace Go.Pi
mutual
def Pat.C : Pat → Type → Type
  | .i _, α => Int → α
  | .b, α => Bool → α
  | .s, α => Bs → α
  | .sl _ t, α => List (El t) → α
  | .ag ps, α => Pat.Cs ps α
  | .tu ps, α => Pat.Cs ps α
  | .bx ps, α => Pat.Cs ps α
  | .pc ps _, α => Pat.Cs ps α
  | .clo _ ps, α => Pat.Cs ps α
  | .rt _, α => α
  | .pb _ _, α => α
  | .nils, α => α
  | .nili, α => α
  | .u, α => α
def Pat.Cs : List Pat → Type → Type
  | [], α => α
  | p :: ps, α => Pat.C p (Pat.Cs ps α)
end
mutual
def Pat.ap : (p : Pat) → (α : Type) → Pat.C p α → Pat.T p → α
  | .i _, _, f, x => f x
  | .b, _, f, x => f x
  | .s, _, f, x => f x
  | .sl _ _, _, f, x => f x
  | .ag ps, α, f, x => Pat.aps ps α f x
  | .tu ps, α, f, x => Pat.aps ps α f x
  | .bx ps, α, f, x => Pat.aps ps α f x
  | .pc ps _, α, f, x => Pat.aps ps α f x
  | .clo _ ps, α, f, x => Pat.aps ps α f x
  | .rt _, _, f, _ => f
  | .pb _ _, _, f, _ => f
  | .nils, _, f, _ => f
  | .nili, _, f, _ => f
  | .u, _, f, _ => f
def Pat.aps : (ps : List Pat) → (α : Type) → Pat.Cs ps α → Pat.Ts ps → α
  | [], _, f, _ => f
  | p :: ps, α, f, x => Pat.aps ps α (Pat.ap p (Pat.Cs ps α) f x.1) x.2
end
mutual
def Pat.lm : (p : Pat) → (α : Type) → (Pat.T p → α) → Pat.C p α
  | .i _, _, f => f
  | .b, _, f => f
  | .s, _, f => f
  | .sl _ _, _, f => f
  | .ag ps, α, f => Pat.lms ps α f
  | .tu ps, α, f => Pat.lms ps α f
  | .bx ps, α, f => Pat.lms ps α f
  | .pc ps _, α, f => Pat.lms ps α f
  | .clo _ ps, α, f => Pat.lms ps α f
  | .rt _, _, f => f ()
  | .pb _ _, _, f => f ()
  | .nils, _, f => f ()
  | .nili, _, f => f ()
  | .u, _, f => f ()
def Pat.lms : (ps : List Pat) → (α : Type) → (Pat.Ts ps → α) → Pat.Cs ps α
  | [], _, f => f ()
  | p :: ps, α, f => Pat.lm p (Pat.Cs ps α) fun a => Pat.lms ps α fun r => f (a, r)
end
mutual
theorem Pat.ap_lm : ∀ (p : Pat) (α : Type) (f : Pat.T p → α) (x : Pat.T p), Pat.ap p α (Pat.lm p α f) x = f x
  | .i _, _, f, x => rfl
  | .b, _, f, x => rfl
  | .s, _, f, x => rfl
  | .sl _ _, _, f, x => rfl
  | .ag ps, α, f, x => Pat.aps_lms ps α f x
  | .tu ps, α, f, x => Pat.aps_lms ps α f x
  | .bx ps, α, f, x => Pat.aps_lms ps α f x
  | .pc ps _, α, f, x => Pat.aps_lms ps α f x
  | .clo _ ps, α, f, x => Pat.aps_lms ps α f x
  | .rt _, _, f, x => rfl
  | .pb _ _, _, f, x => rfl
  | .nils, _, f, x => rfl
  | .nili, _, f, x => rfl
  | .u, _, f, x => rfl
theorem Pat.aps_lms : ∀ (ps : List Pat) (α : Type) (f : Pat.Ts ps → α) (x : Pat.Ts ps), Pat.aps ps α (Pat.lms ps α f) x = f x
  | [], _, f, x => rfl
  | p :: ps, α, f, x => by
    show Pat.aps ps α (Pat.ap p (Pat.Cs ps α) (Pat.lm p (Pat.Cs ps α) fun a => Pat.lms ps α fun r => f (a, r)) x.1) x.2 = f x
    rw [Pat.ap_lm p _ _ x.1, Pat.aps_lms ps α _ x.2]
    rfl
end
mutual
theorem Pat.lm_ap : ∀ (p : Pat) (α : Type) (f : Pat.C p α), Pat.lm p α (Pat.ap p α f) = f
  | .i _, _, f => rfl
  | .b, _, f => rfl
  | .s, _, f => rfl
  | .sl _ _, _, f => rfl
  | .ag ps, α, f => Pat.lms_aps ps α f
  | .tu ps, α, f => Pat.lms_aps ps α f
  | .bx ps, α, f => Pat.lms_aps ps α f
  | .pc ps _, α, f => Pat.lms_aps ps α f
  | .clo _ ps, α, f => Pat.lms_aps ps α f
  | .rt _, _, f => rfl
  | .pb _ _, _, f => rfl
  | .nils, _, f => rfl
  | .nili, _, f => rfl
  | .u, _, f => rfl
theorem Pat.lms_aps : ∀ (ps : List Pat) (α : Type) (f : Pat.Cs ps α), Pat.lms ps α (Pat.aps ps α f) = f
  | [], _, f => rfl
  | p :: ps, α, f => by
    show Pat.lm p (Pat.Cs ps α) (fun a => Pat.lms ps α (Pat.aps ps α (Pat.ap p (Pat.Cs ps α) f a))) = f
    rw [show (fun a => Pat.lms ps α (Pat.aps ps α (Pat.ap p (Pat.Cs ps α) f a))) = Pat.ap p (Pat.Cs ps α) f from funext fun a => Pat.lms_aps ps α _]
    exact Pat.lm_ap p _ f
end
def BPat.C : BPat → Type → Type
  | .ext, α => α
  | .non, α => α
  | .box ps, α => Pat.Cs ps α
  | .arr _ t _, α => List (El t) → α
def BPat.Cs : List BPat → Type → Type
  | [], α => α
  | p :: ps, α => BPat.C p (BPat.Cs ps α)
def BPat.ap : (p : BPat) → (α : Type) → BPat.C p α → BPat.T p → α
  | .ext, _, f, _ => f
  | .non, _, f, _ => f
  | .box ps, α, f, x => Pat.aps ps α f x
  | .arr _ _ _, _, f, x => f x
def BPat.aps : (ps : List BPat) → (α : Type) → BPat.Cs ps α → BPat.Ts ps → α
  | [], _, f, _ => f
  | p :: ps, α, f, x => BPat.aps ps α (BPat.ap p (BPat.Cs ps α) f x.1) x.2
def BPat.lm : (p : BPat) → (α : Type) → (BPat.T p → α) → BPat.C p α
  | .ext, _, f => f ()
  | .non, _, f => f ()
  | .box ps, α, f => Pat.lms ps α f
  | .arr _ _ _, _, f => f
def BPat.lms : (ps : List BPat) → (α : Type) → (BPat.Ts ps → α) → BPat.Cs ps α
  | [], _, f => f ()
  | p :: ps, α, f => BPat.lm p (BPat.Cs ps α) fun a => BPat.lms ps α fun r => f (a, r)
theorem BPat.ap_lm (p : BPat) (α : Type) (f : BPat.T p → α) (x : BPat.T p) : BPat.ap p α (BPat.lm p α f) x = f x := by
  cases p with
  | ext => rfl
  | non => rfl
  | box ps => exact Pat.aps_lms ps α f x
  | arr m t st => rfl
theorem BPat.lm_ap (p : BPat) (α : Type) (f : BPat.C p α) : BPat.lm p α (BPat.ap p α f) = f := by
  cases p with
  | ext => rfl
  | non => rfl
  | box ps => exact Pat.lms_aps ps α f
  | arr m t st => rfl
theorem BPat.aps_lms : ∀ (ps : List BPat) (α : Type) (f : BPat.Ts ps → α) (x : BPat.Ts ps), BPat.aps ps α (BPat.lms ps α f) x = f x
  | [], _, f, x => rfl
  | p :: ps, α, f, x => by
    show BPat.aps ps α (BPat.ap p (BPat.Cs ps α) (BPat.lm p (BPat.Cs ps α) fun a => BPat.lms ps α fun r => f (a, r)) x.1) x.2 = f x
    rw [BPat.ap_lm p _ _ x.1, BPat.aps_lms ps α _ x.2]
    rfl
theorem BPat.lms_aps : ∀ (ps : List BPat) (α : Type) (f : BPat.Cs ps α), BPat.lms ps α (BPat.aps ps α f) = f
  | [], _, f => rfl
  | p :: ps, α, f => by
    show BPat.lm p (BPat.Cs ps α) (fun a => BPat.lms ps α (BPat.aps ps α (BPat.ap p (BPat.Cs ps α) f a))) = f
    rw [show (fun a => BPat.lms ps α (BPat.aps ps α (BPat.ap p (BPat.Cs ps α) f a))) = BPat.ap p (BPat.Cs ps α) f from funext fun a => BPat.lms_aps ps α _]
    exact BPat.lm_ap p _ f
/-- what lives at a place, and of what form it is -/
structure OD where
  live : Live
  vp : List Pat
  bp : List BPat
abbrev OD.Cu (o : OD) (α : Type) : Type := Pat.Cs o.vp (BPat.Cs o.bp α)
def OD.ap (o : OD) {α : Type} (f : o.Cu α) (x : Pat.Ts o.vp) (y : BPat.Ts o.bp) : α := BPat.aps o.bp α (Pat.aps o.vp _ f x) y
def OD.lm (o : OD) {α : Type} (g : Pat.Ts o.vp → BPat.Ts o.bp → α) : o.Cu α := Pat.lms o.vp _ fun x => BPat.lms o.bp α fun y => g x y
theorem OD.ap_lm (o : OD) {α : Type} (g : Pat.Ts o.vp → BPat.Ts o.bp → α) (x : Pat.Ts o.vp) (y : BPat.Ts o.bp) : o.ap (o.lm g) x y = g x y := by
  unfold OD.ap OD.lm; rw [Pat.aps_lms, BPat.aps_lms]
theorem OD.lm_ap (o : OD) {α : Type} (f : o.Cu α) : o.lm (fun x y => o.ap f x y) = f := by
  unfold OD.ap OD.lm
  rw [show (fun x => BPat.lms o.bp α fun y => BPat.aps o.bp α (Pat.aps o.vp _ f x) y) = Pat.aps o.vp _ f from funext fun x => BPat.lms_aps _ _ _]
  exact Pat.lms_aps _ _ _
/-- what goes on behind a place -/
def OD.k {R : Type} (o : OD) (κ : D R) : o.Cu (Option R) := o.lm fun x y => κ (Pat.encs o.vp x) (BPat.encs o.bp y)
/-- what the pieces make of their data -/
def PFs (R : Type) : List (Nat × OD) → Type
  | [] => Unit
  | (_, o) :: l => (D R → (Nat → D R) → o.Cu (Option R)) × PFs R l
structure FD (R : Type) where
  fid : Nat
  nt : Nat
  e : Nat
  ps : List Pat
  rp : List Pat
  toR : Pat.Ts rp → R
  ofR : R → Pat.Ts rp
  sig : List PS
  rps : List PS
  rsh : List Sh
  rs : List ResultVar
  outs : List AV
  cut : List (Nat × OD)
  nxt : List (Nat × OD)
  out : List (Nat × OD)
variable {R : Type}
abbrev FD.nres (d : FD R) : Nat := d.rs.length
abbrev FD.Fs (d : FD R) : Type := PFs R d.cut
def liveOf (l : List (Nat × OD)) (k : Nat) : Live := match look2 l k with
  | some o => o.live
  | none => []
def FD.ann (d : FD R) : Ann := ⟨fun k => match look2 d.cut k with
  | some o => some o.live
  | none => none, liveOf d.nxt, liveOf d.out⟩
def FD.inj (d : FD R) (r : R) : List AV := Pat.encs d.rp (d.ofR r)
def FD.fin (d : FD R) (o : List AV) : Option R := match Pat.decs d.rp o with
  | some x => some (d.toR x)
  | none => none
def lfL : (l : List (Nat × OD)) → PFs R l → LF R
  | [], _, _, _, _, _, _ => none
  | (k, o) :: l, fs, key, κd, κe, v, b => cond (Nat.beq key k) (piece o.vp o.bp v b fun x y => o.ap (fs.1 κd κe) x y) (lfL l fs.2 key κd κe v b)
/-- of all pieces -/
def AllQ (q : Nat → (o : OD) → (D R → (Nat → D R) → o.Cu (Option R)) → Prop) : (l : List (Nat × OD)) → PFs R l → Prop
  | [], _ => True
  | (k, o) :: l, fs => q k o fs.1 ∧ AllQ q l fs.2
theorem AllQ.nil {q : Nat → (o : OD) → (D R → (Nat → D R) → o.Cu (Option R)) → Prop} {u : PFs R []} : AllQ q [] u := trivial
theorem AllQ.cons {q : Nat → (o : OD) → (D R → (Nat → D R) → o.Cu (Option R)) → Prop} {k : Nat} {o : OD} {l : List (Nat × OD)} {fs : PFs R ((k, o) :: l)} (h : q k o fs.1) (hl : AllQ q l fs.2) : AllQ q ((k, o) :: l) fs := ⟨h, hl⟩
def codeAt : Option Piece → Code
  | some (.loop a _) => a
  | some (.tail a _) => a
  | none => .skip
def keyAt : Option Piece → Nat
  | some (.loop _ k) => k
  | some (.tail _ k) => k
  | none => 0
def isLoopB : Option Piece → Bool
  | some (.loop _ _) => true
  | _ => false
def isTailB : Option Piece → Bool
  | some (.tail _ _) => true
  | _ => false
theorem isLoop_eq {p : Option Piece} (h : isLoopB p = true) : p = some (.loop (codeAt p) (keyAt p)) := by
  match p, h with
  | some (.loop a k), _ => rfl
theorem isTail_eq {p : Option Piece} (h : isTailB p = true) : p = some (.tail (codeAt p) (keyAt p)) := by
  match p, h with
  | some (.tail a k), _ => rfl
def bodyOf (fn : Func) : Code := match fn.body with
  | some c => c
  | none => .skip
mutual
def Pat.sk : Pat → Sk
  | .sl m t => .sl m t
  | .ag ps => .ag (Pat.sks ps)
  | _ => .k
def Pat.sks : List Pat → List Sk
  | [] => []
  | p :: ps => Pat.sk p :: Pat.sks ps
end
theorem Pat.encs_length : ∀ (ps : List Pat) (x : Pat.Ts ps), (Pat.encs ps x).length = ps.length
  | [], _ => rfl
  | p :: ps, x => by simp only [Pat.encs, List.length_cons, Pat.encs_length ps x.2]
section
variable [Coding]
def FD.kr (d : FD R) (c : Cx) : St → Option R := retK c d.rsh d.rps d.rs d.outs d.fin
def FD.at (d : FD R) (B : Code) (key : Nat) : Option Piece := pieceAt d.ann B 0 key
/-- one round of a loop -/
def FD.Round (d : FD R) (fs : d.Fs) (c : Cx) (B : Code) (key : Nat) (o : OD) (step : (Nat → D R) → o.Cu (Option R) → o.Cu (Option R)) : Prop :=
  ∀ (κ : D R) (κe : Nat → D R) (x : Pat.Ts o.vp) (y : BPat.Ts o.bp), run c d.e d.ann (lfL d.cut fs) (d.kr c) (codeAt (d.at B key)) (keyAt (d.at B key)) (fun s => cutK d.e o.live s κ) (fun j s => cutK d.e (d.ann.out j) s (κe j)) (St.ofC o.live (Pat.encs o.vp x) (BPat.encs o.bp y)) =
    o.ap (step κe (o.k κ)) x y
def FD.Tail (d : FD R) (fs : d.Fs) (c : Cx) (B : Code) (key : Nat) (o : OD) (f : D R → (Nat → D R) → o.Cu (Option R)) : Prop :=
  ∀ (κd : D R) (κe : Nat → D R) (x : Pat.Ts o.vp) (y : BPat.Ts o.bp), run c d.e d.ann (lfL d.cut fs) (d.kr c) (codeAt (d.at B key)) (keyAt (d.at B key)) (fun s => cutK d.e (d.ann.nxt key) s κd) (fun j s => cutK d.e (d.ann.out j) s (κe j)) (St.ofC o.live (Pat.encs o.vp x) (BPat.encs o.bp y)) =
    o.ap (f κd κe) x y
def FD.PieceOk (d : FD R) (fs : d.Fs) (c : Cx) (B : Code) (key : Nat) (o : OD) (f : D R → (Nat → D R) → o.Cu (Option R)) : Prop :=
  ∀ (κd : D R) (κe : Nat → D R) (x : Pat.Ts o.vp) (y : BPat.Ts o.bp) (r : R), o.ap (f κd κe) x y = some r →
    ∃ q, pieceAt d.ann B 0 key = some q ∧ pieceIs c d.e d.ann (lfL d.cut fs) (d.kr c) key o.live κd κe (Pat.encs o.vp x) (BPat.encs o.bp y) r q
theorem FD.rounds_eq {d : FD R} {fs : d.Fs} {c : Cx} {B : Code} {key : Nat} {o : OD} {step : (Nat → D R) → o.Cu (Option R) → o.Cu (Option R)} (h : d.Round fs c B key o step) (κe : Nat → D R) :
    ∀ (N : Nat) (x : Pat.Ts o.vp) (y : BPat.Ts o.bp), rounds c d.e d.ann (lfL d.cut fs) (d.kr c) (codeAt (d.at B key)) (keyAt (d.at B key)) o.live κe N (Pat.encs o.vp x) (BPat.encs o.bp y) = o.ap (iterN (o.lm fun _ _ => none) (step κe) N) x y
  | 0, x, y => (o.ap_lm (fun _ _ => (none : Option R)) x y).symm
  | N + 1, x, y => by
    show run c d.e d.ann (lfL d.cut fs) (d.kr c) (codeAt (d.at B key)) (keyAt (d.at B key)) (fun s => cutK d.e o.live s (rounds c d.e d.ann (lfL d.cut fs) (d.kr c) (codeAt (d.at B key)) (keyAt (d.at B key)) o.live κe N)) (fun j s => cutK d.e (d.ann.out j) s (κe j)) (St.ofC o.live (Pat.encs o.vp x) (BPat.encs o.bp y)) = o.ap (step κe (iterN (o.lm fun _ _ => none) (step κe) N)) x y
    rw [h]
    congr 2
    unfold OD.k
    rw [← o.lm_ap (iterN (o.lm fun _ _ => none) (step κe) N)]
    congr 1
    funext x y
    exact FD.rounds_eq h κe N x y
theorem FD.lp {d : FD R} {fs : d.Fs} {c : Cx} {B : Code} {key : Nat} {o : OD} {f : D R → (Nat → D R) → o.Cu (Option R)} {step : (Nat → D R) → o.Cu (Option R) → o.Cu (Option R)} (N : Nat) (hr : d.Round fs c B key o step) (h1 : isLoopB (d.at B key) = true)
    (hf : ∀ κd κe, f κd κe = iterN (o.lm fun _ _ => none) (step κe) N) : d.PieceOk fs c B key o f := by
  intro κd κe x y r h
  refine ⟨_, isLoop_eq h1, N, (FD.rounds_eq hr κe N x y).trans ?_⟩
  rw [← hf κd κe]
  exact h
theorem FD.tl {d : FD R} {fs : d.Fs} {c : Cx} {B : Code} {key : Nat} {o : OD} {f : D R → (Nat → D R) → o.Cu (Option R)} (hr : d.Tail fs c B key o f) (h1 : isTailB (d.at B key) = true) : d.PieceOk fs c B key o f := by
  intro κd κe x y r h
  exact ⟨_, isTail_eq h1, (hr κd κe x y).trans h⟩
theorem lfL_some : ∀ {l : List (Nat × OD)} {fs : PFs R l} {q : Nat → (o : OD) → (D R → (Nat → D R) → o.Cu (Option R)) → Prop} {key : Nat} {κd : D R} {κe : Nat → D R} {v : List AV} {b : List (Option Blk)} {r : R}, AllQ q l fs → lfL l fs key κd κe v b = some r →
    ∃ o f x y, look2 l key = some o ∧ q key o f ∧ v = Pat.encs o.vp x ∧ b = BPat.encs o.bp y ∧ o.ap (f κd κe) x y = some r
  | [], _, _, _, _, _, _, _, _, _, h => by cases h
  | (k, o) :: l, fs, q, key, κd, κe, v, b, r, ha, h => by
    simp only [lfL] at h
    cases hk : Nat.beq key k with
    | true =>
      rw [hk] at h
      simp only [cond_true] at h
      obtain ⟨x, y, h1, h2, h3⟩ := piece_ok h
      have := beq_iff.1 hk
      subst this
      exact ⟨o, _, x, y, by simp only [look2, hk, cond_true], ha.1, h1, h2, h3⟩
    | false =>
      rw [hk] at h
      simp only [cond_false] at h
      obtain ⟨o', f, x, y, h0, h1⟩ := lfL_some ha.2 h
      exact ⟨o', f, x, y, by simp only [look2, hk, cond_false]; exact h0, h1⟩
theorem FD.cuts {d : FD R} {fs : d.Fs} {c : Cx} {B : Code} (h : AllQ (fun key o f => d.PieceOk fs c B key o f) d.cut fs) : Cuts c d.e d.ann (lfL d.cut fs) (d.kr c) B := by
  intro key κd κe v b r hl
  obtain ⟨o, f, x, y, h0, hp, rfl, rfl, h3⟩ := lfL_some h hl
  obtain ⟨q, h4, h5⟩ := hp κd κe x y r h3
  exact ⟨o.live, q, by simp only [FD.ann, h0], h4, h5⟩
theorem FD.fin_ok {d : FD R} (hi : ∀ x, d.ofR (d.toR x) = x) (o : List AV) (r : R) (h : d.fin o = some r) : o = d.inj r := by
  unfold FD.fin at h
  cases h1 : Pat.decs d.rp o with
  | none => rw [h1] at h; cases h
  | some x =>
    rw [h1] at h
    simp only [Option.some.injEq] at h
    subst h
    rw [Pat.decs_ok _ _ _ h1, FD.inj, hi]
/-- the whole of a function, az it is run -/
def FD.whole (d : FD R) (fs : d.Fs) (c : Cx) (B : Code) (x : Pat.Ts d.ps) : Option R :=
  entryK d.e (Pat.encs d.ps x) fun v b => match outOfAll d.sig v with
    | some o => cond (AV.allRoots o d.outs) (run c d.e d.ann (lfL d.cut fs) (d.kr c) B 0 (d.kr c) (fun _ _ => none) (St.ofC (live0 d.ps.length) v b)) none
    | none => none
/-- what a function owes -/
def FD.Ok (d : FD R) (E : Env) (F : Pat.Ts d.ps → Option R) : Prop :=
  ∀ x r, F x = some r → CallOk E d.fid (Pat.encs d.ps x) (rvOf d.nres (d.inj r)) ((d.inj r).drop d.nres) d.sig
def FD.K (d : FD R) (F : Pat.Ts d.ps → Option R) {ω : Type} (avs : List AV) (κ : AV → List AV → Option ω) : Option ω :=
  mkK (Pat.sks d.ps) d.ps F (fun r => rvOf d.nres (d.inj r)) (fun r => (d.inj r).drop d.nres) avs κ
theorem FD.kpar {d : FD R} {F : Pat.Ts d.ps → Option R} {ω : Type} {avs : List AV} {κ : AV → List AV → Option ω} {q : ω} (h : d.K F avs κ = some q) :
    ∃ r o, κ r o = some q ∧ ∀ (ω' : Type) (κ' : AV → List AV → Option ω'), d.K F avs κ' = κ' r o := mkK_par h
theorem FD.kok [CodingOk] {E : Env} {d : FD R} {F : Pat.Ts d.ps → Option R} {sg : Option (List PS)} (hfn : FnOk E d.fid) (hsig : sg = some d.sig) (ho : d.Ok E F) {ω : Type} {avs : List AV} {κ : AV → List AV → Option ω} {q : ω} (h : d.K F avs κ = some q) :
    FnOk E d.fid ∧ ∃ ps' r o, sg = some ps' ∧ κ r o = some q ∧ CallOk E d.fid avs r o ps' := mkK_ok hfn hsig ho h
def notNG (fn : Func) : Bool := !(decide (fn.name = "runtime.NumGoroutine"))
theorem FD.kf [CodingOk] {E : Env} {d : FD R} {F : Pat.Ts d.ps → Option R} {sg : Option (List PS)} {fn : Func} (hfn : E.P.funcs[d.fid]? = some fn) (h1 : notNG fn = true) (h2 : fn.body = some (bodyOf fn)) (hsig : sg = some d.sig) (ho : d.Ok E F) (ω : Type) (avs : List AV) (κ : AV → List AV → Option ω) (q : ω) (h : d.K F avs κ = some q) :
    FnOk E d.fid ∧ ∃ ps' r o, sg = some ps' ∧ κ r o = some q ∧ CallOk E d.fid avs r o ps' :=
  FD.kok ⟨fn, _, hfn, fun e => by simp [notNG, e] at h1, h2⟩ hsig ho h
theorem FD.kp {d : FD R} {F : Pat.Ts d.ps → Option R} (ω : Type) (avs : List AV) (κ : AV → List AV → Option ω) (q : ω) (h : d.K F avs κ = some q) :
    ∃ r o, κ r o = some q ∧ ∀ (ω' : Type) (κ' : AV → List AV → Option ω'), d.K F avs κ' = κ' r o := FD.kpar h
theorem FD.ok [CodingOk] {E : Env} {d : FD R} {fs : d.Fs} {c : Cx} {fn : Func} {F : Pat.Ts d.ps → Option R} (hm : E.P.follows .mixedOrders = true) (hfn : E.P.funcs[d.fid]? = some fn) (hbody : fn.body = some (bodyOf fn)) (hres : fn.results = List.toArray d.rs)
    (hnt : fn.ntmps = c.nt) (he : Nat.blt 0 d.e = true) (hi : ∀ x, d.ofR (d.toR x) = x) (hn : Nat.ble d.ps.length c.nt = true) (top : ∀ x, d.whole fs c (bodyOf fn) x = F x)
    (cuts : AllQ (fun key o f => d.PieceOk fs c (bodyOf fn) key o f) d.cut fs) (hc : CxOk E c) (hK : KPar c) : d.Ok E F := by
  intro x r h
  refine fn_sound (avs := Pat.encs d.ps x) hc hK hm hfn hbody hres hnt (blt_iff.1 he) (FD.fin_ok hi) (by rw [Pat.encs_length]; exact hn) ?_ (FD.cuts cuts)
  rw [Pat.encs_length]
  exact (top x).trans h
end
end Go.Pi
end
section
set_option linter.unusedVariables false
set_option maxRecDepth 100000
namespace Go.Pi
def laws_szCondS : Nat → (List TCond) → Int → Option Int
  | 0, _, _ => none
  | n + 1, a, left =>
    (cond (decide ((W (left - (a.length : Int))) < 0)) (some (-1)) (some (W (left - (a.length : Int)))))
def laws_szIntS : Nat → (List Int) → Int → Option Int
  | 0, _, _ => none
  | n + 1, a, left =>
    (cond (decide ((W (left - (a.length : Int))) < 0)) (some (-1)) (some (W (left - (a.length : Int)))))
def laws_szQuery : Nat → TQuery → Int → Option Int
  | 0, _, _ => none
  | n + 1, a, left =>
    ((laws_szCondS n a.where_ left).bind fun xr1 => (cond (decide (xr1 < 0)) (some (-1)) ((laws_szIntS n a.show_ xr1).bind fun xr2 => (cond (decide (xr2 < 0)) (some (-1)) (some xr2)))))
def laws_szRow : Nat → TRow → Int → Option Int
  | 0, _, _ => none
  | n + 1, a, left =>
    ((laws_szIntS n a.cells left).bind fun xr1 => (cond (decide (xr1 < 0)) (some (-1)) (some xr1)))
def laws_szRowS.step7 (n : Nat) (k0 : Int → Option Int) (back : (List TRow) → Int → Int → Option Int) (a : List TRow) (left : Int) (i : Int) : Option Int :=
  (cond (decide (i < (a.length : Int))) (inB i a.length ((laws_szRow n (a.getD i.toNat TRow.dflt) left).bind fun xr1 => (cond (decide (xr1 < 0)) (some (-1)) (back a xr1 (W (i + 1)))))) (k0 left))
def laws_szRowS.loop7 (n : Nat) (k0 : Int → Option Int) (N : Nat) : (List TRow) → Int → Int → Option Int :=
  iterN (fun _ _ _ => none) (fun back => laws_szRowS.step7 n k0 back) N
def laws_szRowS : Nat → (List TRow) → Int → Option Int
  | 0, _, _ => none
  | n + 1, a, left =>
    (cond (decide ((W (left - (a.length : Int))) < 0)) (some (-1)) (laws_szRowS.loop7 n (fun xy2 => (some xy2)) n a (W (left - (a.length : Int))) 0))
def laws_szKidS : Nat → (List TKid) → Int → Option Int
  | 0, _, _ => none
  | n + 1, a, left =>
    (cond (decide ((W (left - (a.length : Int))) < 0)) (some (-1)) (some (W (left - (a.length : Int)))))
def laws_szView : Nat → TView → Int → Option Int
  | 0, _, _ => none
  | n + 1, a, left =>
    ((laws_szQuery n a.q left).bind fun xr1 => (cond (decide (xr1 < 0)) (some (-1)) ((laws_szRowS n a.rows xr1).bind fun xr2 => (cond (decide (xr2 < 0)) (some (-1)) ((laws_szKidS n a.kids xr2).bind fun xr3 => (cond (decide (xr3 < 0)) (some (-1)) (some xr3)))))))
def laws_szSess : Nat → TSess → Int → Option Int
  | 0, _, _ => none
  | n + 1, a, left =>
    ((laws_szView n a.view left).bind fun xr1 => (cond (decide (xr1 < 0)) (some (-1)) ((laws_szView n a.last xr1).bind fun xr2 => (cond (decide (xr2 < 0)) (some (-1)) (some xr2)))))
def laws_szChange : Nat → TChange → Int → Option Int
  | 0, _, _ => none
  | n + 1, a, left =>
    ((laws_szRow n a.old left).bind fun xr1 => (cond (decide (xr1 < 0)) (some (-1)) ((laws_szRow n a.new xr1).bind fun xr2 => (cond (decide (xr2 < 0)) (some (-1)) (some xr2)))))
def laws_szChangeS.step7 (n : Nat) (k0 : Int → Option Int) (back : (List TChange) → Int → Int → Option Int) (a : List TChange) (left : Int) (i : Int) : Option Int :=
  (cond (decide (i < (a.length : Int))) (inB i a.length ((laws_szChange n { (a.getD i.toNat TChange.dflt) with old := ((a.getD i.toNat TChange.dflt).old), new := ((a.getD i.toNat TChange.dflt).new) } left).bind fun xr1 => (cond (decide (xr1 < 0)) (some (-1)) (back a xr1 (W (i + 1)))))) (k0 left))
def laws_szChangeS.loop7 (n : Nat) (k0 : Int → Option Int) (N : Nat) : (List TChange) → Int → Int → Option Int :=
  iterN (fun _ _ _ => none) (fun back => laws_szChangeS.step7 n k0 back) N
def laws_szChangeS : Nat → (List TChange) → Int → Option Int
  | 0, _, _ => none
  | n + 1, a, left =>
    (cond (decide ((W (left - (a.length : Int))) < 0)) (some (-1)) (laws_szChangeS.loop7 n (fun xy2 => (some xy2)) n a (W (left - (a.length : Int))) 0))
def laws_toCond : Nat → TCond → Option TCond
  | 0, _ => none
  | n + 1, a =>
    (some a)
def laws_toCondS.step4 (n : Nat) (k0 : (List TCond) → Option (List TCond)) (back : (List TCond) → Int → (List TCond) → Option (List TCond)) (a : List TCond) (i : Int) (out_1 : List TCond) : Option (List TCond) :=
  (cond (decide (i < (a.length : Int))) (inB i a.length ((laws_toCond n (a.getD i.toNat TCond.dflt)).bind fun xr1 => (inB i out_1.length (let xa2 : List TCond := out_1.set i.toNat xr1; (back a (W (i + 1)) xa2))))) (k0 out_1))
def laws_toCondS.loop4 (n : Nat) (k0 : (List TCond) → Option (List TCond)) (N : Nat) : (List TCond) → Int → (List TCond) → Option (List TCond) :=
  iterN (fun _ _ _ => none) (fun back => laws_toCondS.step4 n k0 back) N
def laws_toCondS : Nat → (List TCond) → Option (List TCond)
  | 0, _ => none
  | n + 1, a =>
    (cond (decide ((a.length : Int) = (a.length : Int))) (cond (decide (0 ≤ (a.length : Int))) (cond (decide ((a.length : Int) * 24 ≤ 140737488355328)) (laws_toCondS.loop4 n (fun xy3 => (some xy3)) n a 0 (List.replicate (a.length : Int).toNat TCond.dflt)) none) none) none)
def laws_toIntS.step4 (n : Nat) (k0 : (List Int) → Option (List Int)) (back : (List Int) → Int → (List Int) → Option (List Int)) (a : List Int) (i : Int) (out_1 : List Int) : Option (List Int) :=
  (cond (decide (i < (a.length : Int))) (inB i a.length (inB i out_1.length (let xa1 : List Int := out_1.set i.toNat (a.getD i.toNat 0); (back a (W (i + 1)) xa1)))) (k0 out_1))
def laws_toIntS.loop4 (n : Nat) (k0 : (List Int) → Option (List Int)) (N : Nat) : (List Int) → Int → (List Int) → Option (List Int) :=
  iterN (fun _ _ _ => none) (fun back => laws_toIntS.step4 n k0 back) N
def laws_toIntS : Nat → (List Int) → Option (List Int)
  | 0, _ => none
  | n + 1, a =>
    (cond (decide ((a.length : Int) = (a.length : Int))) (cond (decide (0 ≤ (a.length : Int))) (cond (decide ((a.length : Int) * 8 ≤ 140737488355328)) (laws_toIntS.loop4 n (fun xy2 => (some xy2)) n a 0 (List.replicate (a.length : Int).toNat 0)) none) none) none)
def laws_toQuery : Nat → TQuery → Option TQuery
  | 0, _ => none
  | n + 1, a =>
    ((laws_toCondS n a.where_).bind fun xr1 => ((laws_toIntS n a.show_).bind fun xr2 => (some { a with where_ := xr1, show_ := xr2 })))
def laws_toRow : Nat → TRow → Option TRow
  | 0, _ => none
  | n + 1, a =>
    ((laws_toIntS n a.cells).bind fun xr1 => (some (TRow.mk a.id_ xr1)))
def laws_toRowS.step4 (n : Nat) (k0 : (List TRow) → Option (List TRow)) (back : (List TRow) → Int → (List TRow) → Option (List TRow)) (a : List TRow) (i : Int) (out_1 : List TRow) : Option (List TRow) :=
  (cond (decide (i < (a.length : Int))) (inB i a.length ((laws_toRow n (a.getD i.toNat TRow.dflt)).bind fun xr1 => (inB i out_1.length (let xa2 : List TRow := out_1.set i.toNat xr1; (back a (W (i + 1)) xa2))))) (k0 out_1))
def laws_toRowS.loop4 (n : Nat) (k0 : (List TRow) → Option (List TRow)) (N : Nat) : (List TRow) → Int → (List TRow) → Option (List TRow) :=
  iterN (fun _ _ _ => none) (fun back => laws_toRowS.step4 n k0 back) N
def laws_toRowS : Nat → (List TRow) → Option (List TRow)
  | 0, _ => none
  | n + 1, a =>
    (cond (decide ((a.length : Int) = (a.length : Int))) (cond (decide (0 ≤ (a.length : Int))) (cond (decide ((a.length : Int) * 32 ≤ 140737488355328)) (laws_toRowS.loop4 n (fun xy3 => (some xy3)) n a 0 (List.replicate (a.length : Int).toNat TRow.dflt)) none) none) none)
def laws_toKid : Nat → TKid → Option TKid
  | 0, _ => none
  | n + 1, a =>
    (some a)
def laws_toKidS.step4 (n : Nat) (k0 : (List TKid) → Option (List TKid)) (back : (List TKid) → Int → (List TKid) → Option (List TKid)) (a : List TKid) (i : Int) (out_1 : List TKid) : Option (List TKid) :=
  (cond (decide (i < (a.length : Int))) (inB i a.length ((laws_toKid n (a.getD i.toNat TKid.dflt)).bind fun xr1 => (inB i out_1.length (let xa2 : List TKid := out_1.set i.toNat xr1; (back a (W (i + 1)) xa2))))) (k0 out_1))
def laws_toKidS.loop4 (n : Nat) (k0 : (List TKid) → Option (List TKid)) (N : Nat) : (List TKid) → Int → (List TKid) → Option (List TKid) :=
  iterN (fun _ _ _ => none) (fun back => laws_toKidS.step4 n k0 back) N
def laws_toKidS : Nat → (List TKid) → Option (List TKid)
  | 0, _ => none
  | n + 1, a =>
    (cond (decide ((a.length : Int) = (a.length : Int))) (cond (decide (0 ≤ (a.length : Int))) (cond (decide ((a.length : Int) * 16 ≤ 140737488355328)) (laws_toKidS.loop4 n (fun xy3 => (some xy3)) n a 0 (List.replicate (a.length : Int).toNat TKid.dflt)) none) none) none)
def laws_toView : Nat → TView → Option TView
  | 0, _ => none
  | n + 1, a =>
    ((laws_toQuery n a.q).bind fun xr1 => ((laws_toRowS n a.rows).bind fun xr2 => ((laws_toKidS n a.kids).bind fun xr3 => (some (TView.mk xr1 xr2 xr3)))))
def laws_toSess : Nat → TSess → Option TSess
  | 0, _ => none
  | n + 1, a =>
    ((laws_toView n a.view).bind fun xr1 => ((laws_toView n a.last).bind fun xr2 => (some { a with view := xr1, last := xr2 })))
def laws_toChange : Nat → TChange → Option TChange
  | 0, _ => none
  | n + 1, a =>
    ((laws_toRow n a.old).bind fun xr1 => ((laws_toRow n a.new).bind fun xr2 => (some { a with old := xr1, new := xr2 })))
def laws_toChangeS.step4 (n : Nat) (k0 : (List TChange) → Option (List TChange)) (back : (List TChange) → Int → (List TChange) → Option (List TChange)) (a : List TChange) (i : Int) (out_1 : List TChange) : Option (List TChange) :=
  (cond (decide (i < (a.length : Int))) (inB i a.length ((laws_toChange n { (a.getD i.toNat TChange.dflt) with old := ((a.getD i.toNat TChange.dflt).old), new := ((a.getD i.toNat TChange.dflt).new) }).bind fun xr1 => (inB i out_1.length (let xa2 : List TChange := out_1.set i.toNat xr1; (back a (W (i + 1)) xa2))))) (k0 out_1))
def laws_toChangeS.loop4 (n : Nat) (k0 : (List TChange) → Option (List TChange)) (N : Nat) : (List TChange) → Int → (List TChange) → Option (List TChange) :=
  iterN (fun _ _ _ => none) (fun back => laws_toChangeS.step4 n k0 back) N
def laws_toChangeS : Nat → (List TChange) → Option (List TChange)
  | 0, _ => none
  | n + 1, a =>
    (cond (decide ((a.length : Int) = (a.length : Int))) (cond (decide (0 ≤ (a.length : Int))) (cond (decide ((a.length : Int) * 80 ≤ 140737488355328)) (laws_toChangeS.loop4 n (fun xy3 => (some xy3)) n a 0 (List.replicate (a.length : Int).toNat TChange.dflt)) none) none) none)
def spec_l9Copy : Nat → TQuery → Option TQuery
  | 0, _ => none
  | n + 1, q =>
    (roomB (([] : List TCond).length + q.where_.length) 24 (roomB (([] : List Int).length + q.show_.length) 8 (some { q with where_ := (([] : List TCond) ++ q.where_), show_ := (([] : List Int) ++ q.show_) })))
def spec_l6Copy : Nat → TRow → Option TRow
  | 0, _ => none
  | n + 1, r =>
    (roomB (([] : List Int).length + r.cells.length) 8 (some (TRow.mk r.id_ (([] : List Int) ++ r.cells))))
def spec_l6Rows.step4 (n : Nat) (k0 : (List TRow) → Option (List TRow)) (back : (List TRow) → Int → (List TRow) → Option (List TRow)) (rows : List TRow) (i : Int) (out_1 : List TRow) : Option (List TRow) :=
  (cond (decide (i < (rows.length : Int))) (inB i rows.length ((spec_l6Copy n (rows.getD i.toNat TRow.dflt)).bind fun xr1 => (roomB (out_1.length + ([xr1] : List TRow).length) 32 (back rows (W (i + 1)) (out_1 ++ ([xr1] : List TRow)))))) (k0 out_1))
def spec_l6Rows.loop4 (n : Nat) (k0 : (List TRow) → Option (List TRow)) (N : Nat) : (List TRow) → Int → (List TRow) → Option (List TRow) :=
  iterN (fun _ _ _ => none) (fun back => spec_l6Rows.step4 n k0 back) N
def spec_l6Rows : Nat → (List TRow) → Option (List TRow)
  | 0, _ => none
  | n + 1, rows =>
    (spec_l6Rows.loop4 n (fun xy2 => (some xy2)) n rows 0 ([] : List TRow))
def spec_l13Copy : Nat → TView → Option TView
  | 0, _ => none
  | n + 1, v =>
    ((spec_l9Copy n v.q).bind fun xr1 => ((spec_l6Rows n v.rows).bind fun xr2 => (roomB (([] : List TKid).length + v.kids.length) 16 (some (TView.mk xr1 xr2 (([] : List TKid) ++ v.kids))))))
def spec_l16Copy : Nat → TSess → Option TSess
  | 0, _ => none
  | n + 1, x =>
    ((spec_l13Copy n x.view).bind fun xr1 => ((spec_l13Copy n x.last).bind fun xr2 => (some { x with view := xr1, last := xr2 })))
def spec_RowAt.step3 (n : Nat) (k0 : Option Int) (back : (List TRow) → Int → Int → Option Int) (rows : List TRow) (id_1 : Int) (i : Int) : Option Int :=
  (cond (decide (i < (rows.length : Int))) (inB i rows.length (cond (((rows.getD i.toNat TRow.dflt).id_) == id_1) (some i) (back rows id_1 (W (i + 1))))) k0)
def spec_RowAt.loop3 (n : Nat) (k0 : Option Int) (N : Nat) : (List TRow) → Int → Int → Option Int :=
  iterN (fun _ _ _ => none) (fun back => spec_RowAt.step3 n k0 back) N
def spec_RowAt : Nat → (List TRow) → Int → Option Int
  | 0, _, _ => none
  | n + 1, rows, id1 =>
    (spec_RowAt.loop3 n (some (-1)) n rows id1 0)
def spec_RowDrop.step5 (n : Nat) (k0 : (List TRow) → Option (List TRow)) (back : (List TRow) → Int → Int → (List TRow) → Option (List TRow)) (rows : List TRow) (at_1 : Int) (i : Int) (out_1 : List TRow) : Option (List TRow) :=
  (cond (decide (i < (rows.length : Int))) (cond (i != at_1) (inB i rows.length ((spec_l6Copy n (rows.getD i.toNat TRow.dflt)).bind fun xr2 => (roomB (out_1.length + ([xr2] : List TRow).length) 32 (back rows at_1 (W (i + 1)) (out_1 ++ ([xr2] : List TRow)))))) (back rows at_1 (W (i + 1)) out_1)) (k0 out_1))
def spec_RowDrop.loop5 (n : Nat) (k0 : (List TRow) → Option (List TRow)) (N : Nat) : (List TRow) → Int → Int → (List TRow) → Option (List TRow) :=
  iterN (fun _ _ _ _ => none) (fun back => spec_RowDrop.step5 n k0 back) N
def spec_RowDrop : Nat → (List TRow) → Int → Option (List TRow)
  | 0, _, _ => none
  | n + 1, rows, id1 =>
    ((spec_RowAt n rows id1).bind fun xr1 => (spec_RowDrop.loop5 n (fun xy3 => (some xy3)) n rows xr1 0 ([] : List TRow)))
def spec_l1In : Nat → Int → Int → Int → Option Bool
  | 0, _, _, _ => none
  | n + 1, x, lo, hi =>
    (cond (decide (x ≥ lo)) (some (decide (x ≤ hi))) (some false))
def spec_l9Holds : Nat → TCond → TRow → Option Bool
  | 0, _, _ => none
  | n + 1, x, r =>
    ((spec_l1In n x.col 0 (W ((r.cells.length : Int) - 1))).bind fun xr1 => (cond (!xr1) (some false) (inB x.col r.cells.length (cond (x.op == 1) (some ((r.cells.getD x.col.toNat 0) == x.v)) (cond (x.op == 2) (some (decide ((r.cells.getD x.col.toNat 0) < x.v))) (cond (x.op == 3) (some (decide ((r.cells.getD x.col.toNat 0) > x.v))) (cond (x.op == 4) (some ((r.cells.getD x.col.toNat 0) != x.v)) (some false))))))))
def spec_Matches.step3 (n : Nat) (k0 : Option Bool) (back : Int → Int → (List TCond) → Int → Bool → Int → (List Int) → Bool → Int → Int → Int → (List Int) → Option Bool) (i : Int) (q0 : Int) (q1 : List TCond) (q2 : Int) (q3 : Bool) (q4 : Int) (q5 : List Int) (q6 : Bool) (q7 : Int) (q8 : Int) (r0 : Int) (r1 : List Int) : Option Bool :=
  (cond (decide (i < (q1.length : Int))) (inB i q1.length ((spec_l9Holds n (q1.getD i.toNat TCond.dflt) (TRow.mk r0 r1)).bind fun xr1 => (cond (!xr1) (some false) (back (W (i + 1)) q0 q1 q2 q3 q4 q5 q6 q7 q8 r0 r1)))) k0)
def spec_Matches.loop3 (n : Nat) (k0 : Option Bool) (N : Nat) : Int → Int → (List TCond) → Int → Bool → Int → (List Int) → Bool → Int → Int → Int → (List Int) → Option Bool :=
  iterN (fun _ _ _ _ _ _ _ _ _ _ _ _ => none) (fun back => spec_Matches.step3 n k0 back) N
def spec_Matches : Nat → TQuery → TRow → Option Bool
  | 0, _, _ => none
  | n + 1, q, r =>
    (spec_Matches.loop3 n (some true) n 0 q.table q.where_ q.order q.down q.first q.show_ q.kids q.kidTable q.kidCol r.id_ r.cells)
def spec_l9Cell : Nat → TRow → Int → Option Int
  | 0, _, _ => none
  | n + 1, r, col =>
    ((spec_l1In n col 0 (W ((r.cells.length : Int) - 1))).bind fun xr1 => (cond (!xr1) (some 0) (inB col r.cells.length (some (r.cells.getD col.toNat 0)))))
def spec_Ahead : Nat → TQuery → TRow → TRow → Option Bool
  | 0, _, _, _ => none
  | n + 1, q, a, b =>
    (cond (q.order != 0) ((spec_l9Cell n a (W (q.order - 1))).bind fun xr1 => ((spec_l9Cell n b (W (q.order - 1))).bind fun xr2 => (cond (xr1 != xr2) (some (!((decide (xr1 < xr2)) == q.down))) (some (decide (a.id_ < b.id_)))))) (some (decide (a.id_ < b.id_))))
def spec_l11Put.step5 (n : Nat) (k0 : Bool → Int → (List Int) → (List TRow) → Option (List TRow)) (back : (List TRow) → Bool → Int → Int → (List TCond) → Int → Bool → Int → (List Int) → Bool → Int → Int → Int → (List Int) → (List TRow) → Option (List TRow)) (rows : List TRow) (put : Bool) (i : Int) (q0 : Int) (q1 : List TCond) (q2 : Int) (q3 : Bool) (q4 : Int) (q5 : List Int) (q6 : Bool) (q7 : Int) (q8 : Int) (r0 : Int) (r1 : List Int) (out_1 : List TRow) : Option (List TRow) :=
  (cond (decide (i < (rows.length : Int))) (cond (!put) (inB i rows.length ((spec_Ahead n (TQuery.mk q0 q1 q2 q3 q4 q5 q6 q7 q8) (TRow.mk r0 r1) (rows.getD i.toNat TRow.dflt)).bind fun xr1 => (cond xr1 ((spec_l6Copy n (TRow.mk r0 r1)).bind fun xr2 => (roomB (out_1.length + ([xr2] : List TRow).length) 32 (inB i rows.length (roomB ((out_1 ++ ([xr2] : List TRow)).length + ([(rows.getD i.toNat TRow.dflt)] : List TRow).length) 32 (back rows true (W (i + 1)) q0 q1 q2 q3 q4 q5 q6 q7 q8 r0 r1 ((out_1 ++ ([xr2] : List TRow)) ++ ([(rows.getD i.toNat TRow.dflt)] : List TRow))))))) (inB i rows.length (roomB (out_1.length + ([(rows.getD i.toNat TRow.dflt)] : List TRow).length) 32 (back rows put (W (i + 1)) q0 q1 q2 q3 q4 q5 q6 q7 q8 r0 r1 (out_1 ++ ([(rows.getD i.toNat TRow.dflt)] : List TRow)))))))) (inB i rows.length (roomB (out_1.length + ([(rows.getD i.toNat TRow.dflt)] : List TRow).length) 32 (back rows put (W (i + 1)) q0 q1 q2 q3 q4 q5 q6 q7 q8 r0 r1 (out_1 ++ ([(rows.getD i.toNat TRow.dflt)] : List TRow)))))) (k0 put r0 r1 out_1))
def spec_l11Put.loop5 (n : Nat) (k0 : Bool → Int → (List Int) → (List TRow) → Option (List TRow)) (N : Nat) : (List TRow) → Bool → Int → Int → (List TCond) → Int → Bool → Int → (List Int) → Bool → Int → Int → Int → (List Int) → (List TRow) → Option (List TRow) :=
  iterN (fun _ _ _ _ _ _ _ _ _ _ _ _ _ _ _ => none) (fun back => spec_l11Put.step5 n k0 back) N
def spec_l11Put : Nat → TQuery → (List TRow) → TRow → Option (List TRow)
  | 0, _, _, _ => none
  | n + 1, q, rows, r =>
    (spec_l11Put.loop5 n (fun xy3 xy4 xy5 xy6 => (cond (!xy3) ((spec_l6Copy n (TRow.mk xy4 xy5)).bind fun xr7 => (roomB (xy6.length + ([xr7] : List TRow).length) 32 (some (xy6 ++ ([xr7] : List TRow))))) (some xy6))) n rows false 0 q.table q.where_ q.order q.down q.first q.show_ q.kids q.kidTable q.kidCol r.id_ r.cells ([] : List TRow))
def spec_KidPut.step5 (n : Nat) (k0 : Int → Int → Bool → (List TKid) → Option (List TKid)) (back : (List TKid) → Int → Int → Bool → Int → (List TKid) → Option (List TKid)) (o : List TKid) (append : Int) (t2 : Int) (t8 : Bool) (t9 : Int) (t7 : List TKid) : Option (List TKid) :=
  (cond (decide (t9 < (o.length : Int))) (inB t9 o.length (cond (!t8) (cond (decide (((o.getD t9.toNat TKid.dflt).id_) ≥ append)) (cond (((o.getD t9.toNat TKid.dflt).id_) == append) (cond (decide ((W (((o.getD t9.toNat TKid.dflt).n_) + t2)) > 0)) (roomB (t7.length + ([(TKid.mk append (W (((o.getD t9.toNat TKid.dflt).n_) + t2)))] : List TKid).length) 16 (cond (((o.getD t9.toNat TKid.dflt).id_) == append) (back o append t2 true (W (t9 + 1)) (t7 ++ ([(TKid.mk append (W (((o.getD t9.toNat TKid.dflt).n_) + t2)))] : List TKid))) (roomB ((t7 ++ ([(TKid.mk append (W (((o.getD t9.toNat TKid.dflt).n_) + t2)))] : List TKid)).length + ([(o.getD t9.toNat TKid.dflt)] : List TKid).length) 16 (back o append t2 true (W (t9 + 1)) ((t7 ++ ([(TKid.mk append (W (((o.getD t9.toNat TKid.dflt).n_) + t2)))] : List TKid)) ++ ([(o.getD t9.toNat TKid.dflt)] : List TKid)))))) (cond (((o.getD t9.toNat TKid.dflt).id_) == append) (back o append t2 true (W (t9 + 1)) t7) (roomB (t7.length + ([(o.getD t9.toNat TKid.dflt)] : List TKid).length) 16 (back o append t2 true (W (t9 + 1)) (t7 ++ ([(o.getD t9.toNat TKid.dflt)] : List TKid)))))) (cond (decide (t2 > 0)) (roomB (t7.length + ([(TKid.mk append t2)] : List TKid).length) 16 (cond (((o.getD t9.toNat TKid.dflt).id_) == append) (back o append t2 true (W (t9 + 1)) (t7 ++ ([(TKid.mk append t2)] : List TKid))) (roomB ((t7 ++ ([(TKid.mk append t2)] : List TKid)).length + ([(o.getD t9.toNat TKid.dflt)] : List TKid).length) 16 (back o append t2 true (W (t9 + 1)) ((t7 ++ ([(TKid.mk append t2)] : List TKid)) ++ ([(o.getD t9.toNat TKid.dflt)] : List TKid)))))) (cond (((o.getD t9.toNat TKid.dflt).id_) == append) (back o append t2 true (W (t9 + 1)) t7) (roomB (t7.length + ([(o.getD t9.toNat TKid.dflt)] : List TKid).length) 16 (back o append t2 true (W (t9 + 1)) (t7 ++ ([(o.getD t9.toNat TKid.dflt)] : List TKid))))))) (roomB (t7.length + ([(o.getD t9.toNat TKid.dflt)] : List TKid).length) 16 (back o append t2 t8 (W (t9 + 1)) (t7 ++ ([(o.getD t9.toNat TKid.dflt)] : List TKid))))) (roomB (t7.length + ([(o.getD t9.toNat TKid.dflt)] : List TKid).length) 16 (back o append t2 t8 (W (t9 + 1)) (t7 ++ ([(o.getD t9.toNat TKid.dflt)] : List TKid)))))) (k0 append t2 t8 t7))
def spec_KidPut.loop5 (n : Nat) (k0 : Int → Int → Bool → (List TKid) → Option (List TKid)) (N : Nat) : (List TKid) → Int → Int → Bool → Int → (List TKid) → Option (List TKid) :=
  iterN (fun _ _ _ _ _ _ => none) (fun back => spec_KidPut.step5 n k0 back) N
def spec_KidPut : Nat → (List TKid) → Int → Int → Option (List TKid)
  | 0, _, _, _ => none
  | n + 1, o, append, a2 =>
    (spec_KidPut.loop5 n (fun xy1 xy2 xy3 xy4 => (cond (!xy3) (cond (decide (xy2 > 0)) (roomB (xy4.length + ([(TKid.mk xy1 xy2)] : List TKid).length) 16 (some (xy4 ++ ([(TKid.mk xy1 xy2)] : List TKid)))) (some xy4)) (some xy4))) n o append a2 false 0 ([] : List TKid))
def spec_ViewChange : Nat → TView → TChange → Option TView
  | 0, _, _ => none
  | n + 1, o, append =>
    ((spec_l13Copy n o).bind fun xr1 => (cond (append.table == o.q.table) (cond append.had ((spec_RowDrop n xr1.rows append.old.id_).bind fun xr2 => (cond append.has ((spec_Matches n o.q append.new).bind fun xr3 => (cond xr3 ((spec_l11Put n o.q xr2 append.new).bind fun xr4 => (cond o.q.kids (cond (append.table == o.q.kidTable) (cond append.had ((spec_l9Cell n append.old o.q.kidCol).bind fun xr5 => ((spec_KidPut n xr1.kids xr5 (-1)).bind fun xr6 => (cond append.has ((spec_l9Cell n append.new o.q.kidCol).bind fun xr7 => ((spec_KidPut n xr6 xr7 1).bind fun xr8 => (some (TView.mk xr1.q xr4 xr8)))) (some (TView.mk xr1.q xr4 xr6))))) (cond append.has ((spec_l9Cell n append.new o.q.kidCol).bind fun xr9 => ((spec_KidPut n xr1.kids xr9 1).bind fun xr10 => (some (TView.mk xr1.q xr4 xr10)))) (some { xr1 with rows := xr4 }))) (some { xr1 with rows := xr4 })) (some { xr1 with rows := xr4 }))) (cond o.q.kids (cond (append.table == o.q.kidTable) (cond append.had ((spec_l9Cell n append.old o.q.kidCol).bind fun xr11 => ((spec_KidPut n xr1.kids xr11 (-1)).bind fun xr12 => (cond append.has ((spec_l9Cell n append.new o.q.kidCol).bind fun xr13 => ((spec_KidPut n xr12 xr13 1).bind fun xr14 => (some (TView.mk xr1.q xr2 xr14)))) (some (TView.mk xr1.q xr2 xr12))))) (cond append.has ((spec_l9Cell n append.new o.q.kidCol).bind fun xr15 => ((spec_KidPut n xr1.kids xr15 1).bind fun xr16 => (some (TView.mk xr1.q xr2 xr16)))) (some { xr1 with rows := xr2 }))) (some { xr1 with rows := xr2 })) (some { xr1 with rows := xr2 })))) (cond o.q.kids (cond (append.table == o.q.kidTable) (cond append.had ((spec_l9Cell n append.old o.q.kidCol).bind fun xr17 => ((spec_KidPut n xr1.kids xr17 (-1)).bind fun xr18 => (cond append.has ((spec_l9Cell n append.new o.q.kidCol).bind fun xr19 => ((spec_KidPut n xr18 xr19 1).bind fun xr20 => (some (TView.mk xr1.q xr2 xr20)))) (some (TView.mk xr1.q xr2 xr18))))) (cond append.has ((spec_l9Cell n append.new o.q.kidCol).bind fun xr21 => ((spec_KidPut n xr1.kids xr21 1).bind fun xr22 => (some (TView.mk xr1.q xr2 xr22)))) (some { xr1 with rows := xr2 }))) (some { xr1 with rows := xr2 })) (some { xr1 with rows := xr2 })))) (cond append.has ((spec_Matches n o.q append.new).bind fun xr23 => (cond xr23 ((spec_l11Put n o.q xr1.rows append.new).bind fun xr24 => (cond o.q.kids (cond (append.table == o.q.kidTable) (cond append.had ((spec_l9Cell n append.old o.q.kidCol).bind fun xr25 => ((spec_KidPut n xr1.kids xr25 (-1)).bind fun xr26 => (cond append.has ((spec_l9Cell n append.new o.q.kidCol).bind fun xr27 => ((spec_KidPut n xr26 xr27 1).bind fun xr28 => (some (TView.mk xr1.q xr24 xr28)))) (some (TView.mk xr1.q xr24 xr26))))) (cond append.has ((spec_l9Cell n append.new o.q.kidCol).bind fun xr29 => ((spec_KidPut n xr1.kids xr29 1).bind fun xr30 => (some (TView.mk xr1.q xr24 xr30)))) (some { xr1 with rows := xr24 }))) (some { xr1 with rows := xr24 })) (some { xr1 with rows := xr24 }))) (cond o.q.kids (cond (append.table == o.q.kidTable) (cond append.had ((spec_l9Cell n append.old o.q.kidCol).bind fun xr31 => ((spec_KidPut n xr1.kids xr31 (-1)).bind fun xr32 => (cond append.has ((spec_l9Cell n append.new o.q.kidCol).bind fun xr33 => ((spec_KidPut n xr32 xr33 1).bind fun xr34 => (some { xr1 with kids := xr34 }))) (some { xr1 with kids := xr32 })))) (cond append.has ((spec_l9Cell n append.new o.q.kidCol).bind fun xr35 => ((spec_KidPut n xr1.kids xr35 1).bind fun xr36 => (some { xr1 with kids := xr36 }))) (some xr1))) (some xr1)) (some xr1)))) (cond o.q.kids (cond (append.table == o.q.kidTable) (cond append.had ((spec_l9Cell n append.old o.q.kidCol).bind fun xr37 => ((spec_KidPut n xr1.kids xr37 (-1)).bind fun xr38 => (cond append.has ((spec_l9Cell n append.new o.q.kidCol).bind fun xr39 => ((spec_KidPut n xr38 xr39 1).bind fun xr40 => (some { xr1 with kids := xr40 }))) (some { xr1 with kids := xr38 })))) (cond append.has ((spec_l9Cell n append.new o.q.kidCol).bind fun xr41 => ((spec_KidPut n xr1.kids xr41 1).bind fun xr42 => (some { xr1 with kids := xr42 }))) (some xr1))) (some xr1)) (some xr1)))) (cond o.q.kids (cond (append.table == o.q.kidTable) (cond append.had ((spec_l9Cell n append.old o.q.kidCol).bind fun xr43 => ((spec_KidPut n xr1.kids xr43 (-1)).bind fun xr44 => (cond append.has ((spec_l9Cell n append.new o.q.kidCol).bind fun xr45 => ((spec_KidPut n xr44 xr45 1).bind fun xr46 => (some { xr1 with kids := xr46 }))) (some { xr1 with kids := xr44 })))) (cond append.has ((spec_l9Cell n append.new o.q.kidCol).bind fun xr47 => ((spec_KidPut n xr1.kids xr47 1).bind fun xr48 => (some { xr1 with kids := xr48 }))) (some xr1))) (some xr1)) (some xr1))))
def spec_ViewChanges.step4 (n : Nat) (k0 : Int → Int → Bool → Int → Bool → Int → Int → Int → Int → Bool → Int → Bool → Int → Int → (List TCond) → (List Int) → (List TRow) → (List TKid) → Option TView) (back : (List TChange) → Int → Int → Int → Bool → Int → Bool → Int → Int → Int → Int → Bool → Int → Bool → Int → Int → (List TCond) → (List Int) → (List TRow) → (List TKid) → Option TView) (list : List TChange) (i : Int) (t40 : Int) (t42 : Int) (t43 : Bool) (t44 : Int) (t46 : Bool) (t47 : Int) (t48 : Int) (out0 : Int) (out2 : Int) (out3 : Bool) (out4 : Int) (out6 : Bool) (out7 : Int) (out8 : Int) (out1 : List TCond) (out5 : List Int) (out9 : List TRow) (out10 : List TKid) : Option TView :=
  (cond (decide (i < (list.length : Int))) (inB i list.length ((spec_ViewChange n (TView.mk (TQuery.mk out0 out1 out2 out3 out4 out5 out6 out7 out8) out9 out10) { (list.getD i.toNat TChange.dflt) with old := ((list.getD i.toNat TChange.dflt).old), new := ((list.getD i.toNat TChange.dflt).new) }).bind fun xr2 => (back list (W (i + 1)) t40 t42 t43 t44 t46 t47 t48 xr2.q.table xr2.q.order xr2.q.down xr2.q.first xr2.q.kids xr2.q.kidTable xr2.q.kidCol xr2.q.where_ xr2.q.show_ xr2.rows xr2.kids))) (k0 t40 t42 t43 t44 t46 t47 t48 out0 out2 out3 out4 out6 out7 out8 out1 out5 out9 out10))
def spec_ViewChanges.loop4 (n : Nat) (k0 : Int → Int → Bool → Int → Bool → Int → Int → Int → Int → Bool → Int → Bool → Int → Int → (List TCond) → (List Int) → (List TRow) → (List TKid) → Option TView) (N : Nat) : (List TChange) → Int → Int → Int → Bool → Int → Bool → Int → Int → Int → Int → Bool → Int → Bool → Int → Int → (List TCond) → (List Int) → (List TRow) → (List TKid) → Option TView :=
  iterN (fun _ _ _ _ _ _ _ _ _ _ _ _ _ _ _ _ _ _ _ _ => none) (fun back => spec_ViewChanges.step4 n k0 back) N
def spec_ViewChanges : Nat → TView → (List TChange) → Option TView
  | 0, _, _ => none
  | n + 1, v, list =>
    ((spec_l13Copy n v).bind fun xr1 => (spec_ViewChanges.loop4 n (fun xy3 xy4 xy5 xy6 xy7 xy8 xy9 xy10 xy11 xy12 xy13 xy14 xy15 xy16 xy17 xy18 xy19 xy20 => (some (TView.mk (TQuery.mk xy10 xy17 xy11 xy12 xy13 xy18 xy14 xy15 xy16) xy19 xy20))) n list 0 0 0 false 0 false 0 0 xr1.q.table xr1.q.order xr1.q.down xr1.q.first xr1.q.kids xr1.q.kidTable xr1.q.kidCol xr1.q.where_ xr1.q.show_ xr1.rows xr1.kids))
def spec_SessGo : Nat → TSess → (List TChange) → Option TSess
  | 0, _, _ => none
  | n + 1, x, list =>
    ((spec_l16Copy n x).bind fun xr1 => ((spec_ViewChanges n x.view list).bind fun xr2 => (some { xr1 with view := xr2, version := (W (x.version + 1)) })))
def impl_copyInts : Nat → (List Int) → Option (List Int)
  | 0, _ => none
  | n + 1, l =>
    (roomB (([] : List Int).length + l.length) 8 (some (([] : List Int) ++ l)))
def impl_copyQuery : Nat → TQuery → Option TQuery
  | 0, _ => none
  | n + 1, q =>
    (roomB (([] : List TCond).length + q.where_.length) 24 ((impl_copyInts n q.show_).bind fun xr1 => (some { q with where_ := (([] : List TCond) ++ q.where_), show_ := xr1 })))
def impl_copyRow : Nat → TRow → Option TRow
  | 0, _ => none
  | n + 1, r =>
    ((impl_copyInts n r.cells).bind fun xr1 => (some (TRow.mk r.id_ xr1)))
def impl_copyRows.step4 (n : Nat) (k0 : (List TRow) → Option (List TRow)) (back : (List TRow) → Int → Int → (List TRow) → Option (List TRow)) (t7 : List TRow) (t8 : Int) (t9 : Int) (out_1 : List TRow) : Option (List TRow) :=
  (cond (decide (t9 < t8)) (inB t9 t7.length ((impl_copyRow n (t7.getD t9.toNat TRow.dflt)).bind fun xr1 => (roomB (out_1.length + ([xr1] : List TRow).length) 32 (back t7 t8 (W (t9 + 1)) (out_1 ++ ([xr1] : List TRow)))))) (k0 out_1))
def impl_copyRows.loop4 (n : Nat) (k0 : (List TRow) → Option (List TRow)) (N : Nat) : (List TRow) → Int → Int → (List TRow) → Option (List TRow) :=
  iterN (fun _ _ _ _ => none) (fun back => impl_copyRows.step4 n k0 back) N
def impl_copyRows : Nat → (List TRow) → Option (List TRow)
  | 0, _ => none
  | n + 1, rows =>
    (impl_copyRows.loop4 n (fun xy2 => (some xy2)) n rows (rows.length : Int) 0 ([] : List TRow))
def impl_copyView : Nat → TView → Option TView
  | 0, _ => none
  | n + 1, v =>
    ((impl_copyQuery n v.q).bind fun xr1 => ((impl_copyRows n v.rows).bind fun xr2 => (roomB (([] : List TKid).length + v.kids.length) 16 (some (TView.mk xr1 xr2 (([] : List TKid) ++ v.kids))))))
def impl_copySess : Nat → TSess → Option TSess
  | 0, _ => none
  | n + 1, x =>
    ((impl_copyView n x.view).bind fun xr1 => ((impl_copyView n x.last).bind fun xr2 => (some { x with view := xr1, last := xr2 })))
def impl_RowAt_f1 : Nat → TRow → Int → Option Bool
  | 0, _, _ => none
  | n + 1, r, c =>
    (some (r.id_ == c))
def slices_IndexFunc_Row_impl_RowAt_f1.step3 (n : Nat) (k0 : Option Int) (back : (List TRow) → Int → Int → Int → Option Int) (s : List TRow) (f00 : Int) (t7 : Int) (t8 : Int) : Option Int :=
  (cond (decide (t8 < t7)) (inB t8 s.length ((impl_RowAt_f1 n (s.getD t8.toNat TRow.dflt) f00).bind fun xr1 => (cond xr1 (some t8) (back s f00 t7 (W (t8 + 1)))))) k0)
def slices_IndexFunc_Row_impl_RowAt_f1.loop3 (n : Nat) (k0 : Option Int) (N : Nat) : (List TRow) → Int → Int → Int → Option Int :=
  iterN (fun _ _ _ _ => none) (fun back => slices_IndexFunc_Row_impl_RowAt_f1.step3 n k0 back) N
def slices_IndexFunc_Row_impl_RowAt_f1 : Nat → (List TRow) → Int → Option Int
  | 0, _, _ => none
  | n + 1, s, c =>
    (slices_IndexFunc_Row_impl_RowAt_f1.loop3 n (some (-1)) n s c (s.length : Int) 0)
def impl_RowAt : Nat → (List TRow) → Int → Option Int
  | 0, _, _ => none
  | n + 1, rows, id1 =>
    ((slices_IndexFunc_Row_impl_RowAt_f1 n rows id1).bind fun xr1 => (some xr1))
def slices_Delete_Row : Nat → List TRow → Int → Int → Option (List TRow)
  | 0, _, _, _ => none
  | _ + 1, s, i, j => nDelete s i j
def impl_RowDrop : Nat → (List TRow) → Int → Option (List TRow)
  | 0, _, _ => none
  | n + 1, rows, id1 =>
    ((impl_copyRows n rows).bind fun xr1 => ((impl_RowAt n rows id1).bind fun xr2 => (cond (decide (xr2 ≥ 0)) ((slices_Delete_Row n xr1 xr2 (W (xr2 + 1))).bind fun xr3 => (some xr3)) (some xr1))))
def impl_within : Nat → Int → Int → Int → Option Bool
  | 0, _, _, _ => none
  | n + 1, n1, low, high =>
    (cond (decide (n1 ≥ low)) (some (decide (n1 ≤ high))) (some false))
def impl_holds : Nat → TCond → TRow → Option Bool
  | 0, _, _ => none
  | n + 1, c, r =>
    ((impl_within n c.col 0 (W ((r.cells.length : Int) - 1))).bind fun xr1 => (cond (!xr1) (some false) (inB c.col r.cells.length (cond (c.op == 1) (some ((r.cells.getD c.col.toNat 0) == c.v)) (cond (c.op == 2) (some (decide ((r.cells.getD c.col.toNat 0) < c.v))) (cond (c.op == 3) (some (decide ((r.cells.getD c.col.toNat 0) > c.v))) (cond (c.op == 4) (some ((r.cells.getD c.col.toNat 0) != c.v)) (some false))))))))
def impl_Matches.step3 (n : Nat) (k0 : Option Bool) (back : (List TCond) → Int → Int → Int → (List Int) → Option Bool) (t8 : List TCond) (t9 : Int) (t10 : Int) (r0 : Int) (r1 : List Int) : Option Bool :=
  (cond (decide (t10 < t9)) (inB t10 t8.length ((impl_holds n (t8.getD t10.toNat TCond.dflt) (TRow.mk r0 r1)).bind fun xr1 => (cond (!xr1) (some false) (back t8 t9 (W (t10 + 1)) r0 r1)))) k0)
def impl_Matches.loop3 (n : Nat) (k0 : Option Bool) (N : Nat) : (List TCond) → Int → Int → Int → (List Int) → Option Bool :=
  iterN (fun _ _ _ _ _ => none) (fun back => impl_Matches.step3 n k0 back) N
def impl_Matches : Nat → TQuery → TRow → Option Bool
  | 0, _, _ => none
  | n + 1, q, r =>
    (impl_Matches.loop3 n (some true) n q.where_ (q.where_.length : Int) 0 r.id_ r.cells)
def impl_cellOf : Nat → TRow → Int → Option Int
  | 0, _, _ => none
  | n + 1, r, col =>
    ((impl_within n col 0 (W ((r.cells.length : Int) - 1))).bind fun xr1 => (cond (!xr1) (some 0) (inB col r.cells.length (some (r.cells.getD col.toNat 0)))))
def impl_Ahead : Nat → TQuery → TRow → TRow → Option Bool
  | 0, _, _, _ => none
  | n + 1, q, a, b =>
    (cond (q.order == 0) (some (decide (a.id_ < b.id_))) ((impl_cellOf n a (W (q.order - 1))).bind fun xr1 => ((impl_cellOf n b (W (q.order - 1))).bind fun xr2 => (cond (xr1 == xr2) (some (decide (a.id_ < b.id_))) (cond q.down (some (decide (xr1 > xr2))) (some (decide (xr1 < xr2))))))))
def impl_rowPut_f1 : Nat → TRow → Int → (List TCond) → Int → Bool → Int → (List Int) → Bool → Int → Int → Int → (List Int) → Option Bool
  | 0, _, _, _, _, _, _, _, _, _, _, _, _ => none
  | n + 1, x, c, c1, c2, c3, c4, c5, c6, c7, c8, c9, c10 =>
    ((impl_Ahead n (TQuery.mk c c1 c2 c3 c4 c5 c6 c7 c8) (TRow.mk c9 c10) x).bind fun xr1 => (some xr1))
def slices_IndexFunc_Row_impl_rowPut_f1.step3 (n : Nat) (k0 : Option Int) (back : (List TRow) → Int → (List TCond) → Int → Bool → Int → (List Int) → Bool → Int → Int → Int → (List Int) → Int → Int → Option Int) (s : List TRow) (f00 : Int) (f01 : List TCond) (f02 : Int) (f03 : Bool) (f04 : Int) (f05 : List Int) (f06 : Bool) (f07 : Int) (f08 : Int) (f10 : Int) (f11 : List Int) (t7 : Int) (t8 : Int) : Option Int :=
  (cond (decide (t8 < t7)) (inB t8 s.length ((impl_rowPut_f1 n (s.getD t8.toNat TRow.dflt) f00 f01 f02 f03 f04 f05 f06 f07 f08 f10 f11).bind fun xr1 => (cond xr1 (some t8) (back s f00 f01 f02 f03 f04 f05 f06 f07 f08 f10 f11 t7 (W (t8 + 1)))))) k0)
def slices_IndexFunc_Row_impl_rowPut_f1.loop3 (n : Nat) (k0 : Option Int) (N : Nat) : (List TRow) → Int → (List TCond) → Int → Bool → Int → (List Int) → Bool → Int → Int → Int → (List Int) → Int → Int → Option Int :=
  iterN (fun _ _ _ _ _ _ _ _ _ _ _ _ _ _ => none) (fun back => slices_IndexFunc_Row_impl_rowPut_f1.step3 n k0 back) N
def slices_IndexFunc_Row_impl_rowPut_f1 : Nat → (List TRow) → Int → (List TCond) → Int → Bool → Int → (List Int) → Bool → Int → Int → Int → (List Int) → Option Int
  | 0, _, _, _, _, _, _, _, _, _, _, _, _ => none
  | n + 1, s, c, c1, c2, c3, c4, c5, c6, c7, c8, c9, c10 =>
    (slices_IndexFunc_Row_impl_rowPut_f1.loop3 n (some (-1)) n s c c1 c2 c3 c4 c5 c6 c7 c8 c9 c10 (s.length : Int) 0)
def slices_Insert_Row : Nat → List TRow → Int → List TRow → Option (List TRow)
  | 0, _, _, _ => none
  | _ + 1, s, i, v => nInsert 32 s i v
def impl_rowPut : Nat → TQuery → (List TRow) → TRow → Option (List TRow)
  | 0, _, _, _ => none
  | n + 1, q, rows, r =>
    ((slices_IndexFunc_Row_impl_rowPut_f1 n rows q.table q.where_ q.order q.down q.first q.show_ q.kids q.kidTable q.kidCol r.id_ r.cells).bind fun xr1 => (cond (decide (xr1 < 0)) ((impl_copyRows n rows).bind fun xr2 => ((impl_copyRow n r).bind fun xr3 => ((slices_Insert_Row n xr2 (rows.length : Int) ([xr3] : List TRow)).bind fun xr4 => (some xr4)))) ((impl_copyRows n rows).bind fun xr5 => ((impl_copyRow n r).bind fun xr6 => ((slices_Insert_Row n xr5 xr1 ([xr6] : List TRow)).bind fun xr7 => (some xr7))))))
def slices_Insert_Kid : Nat → List TKid → Int → List TKid → Option (List TKid)
  | 0, _, _, _ => none
  | _ + 1, s, i, v => nInsert 16 s i v
def slices_Delete_Kid : Nat → List TKid → Int → Int → Option (List TKid)
  | 0, _, _, _ => none
  | _ + 1, s, i, j => nDelete s i j
def impl_KidPut.step4 (n : Nat) (k0 : Int → Int → Int → (List TKid) → Option (List TKid)) (back : Int → Int → Int → (List TKid) → Option (List TKid)) (append : Int) (t2 : Int) (t8 : Int) (t7 : List TKid) : Option (List TKid) :=
  (cond (decide (t8 < (t7.length : Int))) (inB t8 t7.length (cond (decide (((t7.getD t8.toNat TKid.dflt).id_) < append)) (back append t2 (W (t8 + 1)) t7) (k0 append t2 t8 t7))) (k0 append t2 t8 t7))
def impl_KidPut.loop4 (n : Nat) (k0 : Int → Int → Int → (List TKid) → Option (List TKid)) (N : Nat) : Int → Int → Int → (List TKid) → Option (List TKid) :=
  iterN (fun _ _ _ _ => none) (fun back => impl_KidPut.step4 n k0 back) N
def impl_KidPut : Nat → (List TKid) → Int → Int → Option (List TKid)
  | 0, _, _, _ => none
  | n + 1, o, append, a2 =>
    (roomB (([] : List TKid).length + o.length) 16 (impl_KidPut.loop4 n (fun xy1 xy2 xy3 xy4 => (cond (xy3 == (xy4.length : Int)) (cond (decide (xy2 ≤ 0)) (some xy4) ((slices_Insert_Kid n xy4 xy3 ([(TKid.mk xy1 xy2)] : List TKid)).bind fun xr5 => (some xr5))) (inB xy3 xy4.length (cond (((xy4.getD xy3.toNat TKid.dflt).id_) != xy1) (cond (decide (xy2 ≤ 0)) (some xy4) ((slices_Insert_Kid n xy4 xy3 ([(TKid.mk xy1 xy2)] : List TKid)).bind fun xr6 => (some xr6))) (inB xy3 xy4.length (inB xy3 xy4.length (let xa7 : List TKid := xy4.set xy3.toNat (TKid.mk ((xy4.getD xy3.toNat TKid.dflt).id_) (W (((xy4.getD xy3.toNat TKid.dflt).n_) + xy2))); (inB xy3 xa7.length (cond (decide (((xa7.getD xy3.toNat TKid.dflt).n_) ≤ 0)) ((slices_Delete_Kid n xa7 xy3 (W (xy3 + 1))).bind fun xr8 => (some xr8)) (some xa7)))))))))) n append a2 0 (([] : List TKid) ++ o)))
def impl_ViewChange : Nat → TView → TChange → Option TView
  | 0, _, _ => none
  | n + 1, o, append =>
    ((impl_copyView n o).bind fun xr1 => (cond (append.table == o.q.table) (cond append.had ((impl_RowDrop n xr1.rows append.old.id_).bind fun xr2 => (cond append.has ((impl_Matches n o.q append.new).bind fun xr3 => (cond xr3 ((impl_rowPut n o.q xr2 append.new).bind fun xr4 => (cond o.q.kids (cond (append.table == o.q.kidTable) (cond append.had ((impl_cellOf n append.old o.q.kidCol).bind fun xr5 => ((impl_KidPut n xr1.kids xr5 (-1)).bind fun xr6 => (cond append.has ((impl_cellOf n append.new o.q.kidCol).bind fun xr7 => ((impl_KidPut n xr6 xr7 1).bind fun xr8 => (some (TView.mk xr1.q xr4 xr8)))) (some (TView.mk xr1.q xr4 xr6))))) (cond append.has ((impl_cellOf n append.new o.q.kidCol).bind fun xr9 => ((impl_KidPut n xr1.kids xr9 1).bind fun xr10 => (some (TView.mk xr1.q xr4 xr10)))) (some { xr1 with rows := xr4 }))) (some { xr1 with rows := xr4 })) (some { xr1 with rows := xr4 }))) (cond o.q.kids (cond (append.table == o.q.kidTable) (cond append.had ((impl_cellOf n append.old o.q.kidCol).bind fun xr11 => ((impl_KidPut n xr1.kids xr11 (-1)).bind fun xr12 => (cond append.has ((impl_cellOf n append.new o.q.kidCol).bind fun xr13 => ((impl_KidPut n xr12 xr13 1).bind fun xr14 => (some (TView.mk xr1.q xr2 xr14)))) (some (TView.mk xr1.q xr2 xr12))))) (cond append.has ((impl_cellOf n append.new o.q.kidCol).bind fun xr15 => ((impl_KidPut n xr1.kids xr15 1).bind fun xr16 => (some (TView.mk xr1.q xr2 xr16)))) (some { xr1 with rows := xr2 }))) (some { xr1 with rows := xr2 })) (some { xr1 with rows := xr2 })))) (cond o.q.kids (cond (append.table == o.q.kidTable) (cond append.had ((impl_cellOf n append.old o.q.kidCol).bind fun xr17 => ((impl_KidPut n xr1.kids xr17 (-1)).bind fun xr18 => (cond append.has ((impl_cellOf n append.new o.q.kidCol).bind fun xr19 => ((impl_KidPut n xr18 xr19 1).bind fun xr20 => (some (TView.mk xr1.q xr2 xr20)))) (some (TView.mk xr1.q xr2 xr18))))) (cond append.has ((impl_cellOf n append.new o.q.kidCol).bind fun xr21 => ((impl_KidPut n xr1.kids xr21 1).bind fun xr22 => (some (TView.mk xr1.q xr2 xr22)))) (some { xr1 with rows := xr2 }))) (some { xr1 with rows := xr2 })) (some { xr1 with rows := xr2 })))) (cond append.has ((impl_Matches n o.q append.new).bind fun xr23 => (cond xr23 ((impl_rowPut n o.q xr1.rows append.new).bind fun xr24 => (cond o.q.kids (cond (append.table == o.q.kidTable) (cond append.had ((impl_cellOf n append.old o.q.kidCol).bind fun xr25 => ((impl_KidPut n xr1.kids xr25 (-1)).bind fun xr26 => (cond append.has ((impl_cellOf n append.new o.q.kidCol).bind fun xr27 => ((impl_KidPut n xr26 xr27 1).bind fun xr28 => (some (TView.mk xr1.q xr24 xr28)))) (some (TView.mk xr1.q xr24 xr26))))) (cond append.has ((impl_cellOf n append.new o.q.kidCol).bind fun xr29 => ((impl_KidPut n xr1.kids xr29 1).bind fun xr30 => (some (TView.mk xr1.q xr24 xr30)))) (some { xr1 with rows := xr24 }))) (some { xr1 with rows := xr24 })) (some { xr1 with rows := xr24 }))) (cond o.q.kids (cond (append.table == o.q.kidTable) (cond append.had ((impl_cellOf n append.old o.q.kidCol).bind fun xr31 => ((impl_KidPut n xr1.kids xr31 (-1)).bind fun xr32 => (cond append.has ((impl_cellOf n append.new o.q.kidCol).bind fun xr33 => ((impl_KidPut n xr32 xr33 1).bind fun xr34 => (some { xr1 with kids := xr34 }))) (some { xr1 with kids := xr32 })))) (cond append.has ((impl_cellOf n append.new o.q.kidCol).bind fun xr35 => ((impl_KidPut n xr1.kids xr35 1).bind fun xr36 => (some { xr1 with kids := xr36 }))) (some xr1))) (some xr1)) (some xr1)))) (cond o.q.kids (cond (append.table == o.q.kidTable) (cond append.had ((impl_cellOf n append.old o.q.kidCol).bind fun xr37 => ((impl_KidPut n xr1.kids xr37 (-1)).bind fun xr38 => (cond append.has ((impl_cellOf n append.new o.q.kidCol).bind fun xr39 => ((impl_KidPut n xr38 xr39 1).bind fun xr40 => (some { xr1 with kids := xr40 }))) (some { xr1 with kids := xr38 })))) (cond append.has ((impl_cellOf n append.new o.q.kidCol).bind fun xr41 => ((impl_KidPut n xr1.kids xr41 1).bind fun xr42 => (some { xr1 with kids := xr42 }))) (some xr1))) (some xr1)) (some xr1)))) (cond o.q.kids (cond (append.table == o.q.kidTable) (cond append.had ((impl_cellOf n append.old o.q.kidCol).bind fun xr43 => ((impl_KidPut n xr1.kids xr43 (-1)).bind fun xr44 => (cond append.has ((impl_cellOf n append.new o.q.kidCol).bind fun xr45 => ((impl_KidPut n xr44 xr45 1).bind fun xr46 => (some { xr1 with kids := xr46 }))) (some { xr1 with kids := xr44 })))) (cond append.has ((impl_cellOf n append.new o.q.kidCol).bind fun xr47 => ((impl_KidPut n xr1.kids xr47 1).bind fun xr48 => (some { xr1 with kids := xr48 }))) (some xr1))) (some xr1)) (some xr1))))
def impl_ViewChanges.step4 (n : Nat) (k0 : Int → Int → Bool → Int → Bool → Int → Int → Int → Int → Bool → Int → Bool → Int → Int → (List TCond) → (List Int) → (List TRow) → (List TKid) → Option TView) (back : (List TChange) → Int → Int → Int → Int → Bool → Int → Bool → Int → Int → Int → Int → Bool → Int → Bool → Int → Int → (List TCond) → (List Int) → (List TRow) → (List TKid) → Option TView) (t10 : List TChange) (t11 : Int) (t12 : Int) (t40 : Int) (t42 : Int) (t43 : Bool) (t44 : Int) (t46 : Bool) (t47 : Int) (t48 : Int) (out0 : Int) (out2 : Int) (out3 : Bool) (out4 : Int) (out6 : Bool) (out7 : Int) (out8 : Int) (out1 : List TCond) (out5 : List Int) (out9 : List TRow) (out10 : List TKid) : Option TView :=
  (cond (decide (t12 < t11)) (inB t12 t10.length ((impl_ViewChange n (TView.mk (TQuery.mk out0 out1 out2 out3 out4 out5 out6 out7 out8) out9 out10) { (t10.getD t12.toNat TChange.dflt) with old := ((t10.getD t12.toNat TChange.dflt).old), new := ((t10.getD t12.toNat TChange.dflt).new) }).bind fun xr2 => (back t10 t11 (W (t12 + 1)) t40 t42 t43 t44 t46 t47 t48 xr2.q.table xr2.q.order xr2.q.down xr2.q.first xr2.q.kids xr2.q.kidTable xr2.q.kidCol xr2.q.where_ xr2.q.show_ xr2.rows xr2.kids))) (k0 t40 t42 t43 t44 t46 t47 t48 out0 out2 out3 out4 out6 out7 out8 out1 out5 out9 out10))
def impl_ViewChanges.loop4 (n : Nat) (k0 : Int → Int → Bool → Int → Bool → Int → Int → Int → Int → Bool → Int → Bool → Int → Int → (List TCond) → (List Int) → (List TRow) → (List TKid) → Option TView) (N : Nat) : (List TChange) → Int → Int → Int → Int → Bool → Int → Bool → Int → Int → Int → Int → Bool → Int → Bool → Int → Int → (List TCond) → (List Int) → (List TRow) → (List TKid) → Option TView :=
  iterN (fun _ _ _ _ _ _ _ _ _ _ _ _ _ _ _ _ _ _ _ _ _ => none) (fun back => impl_ViewChanges.step4 n k0 back) N
def impl_ViewChanges : Nat → TView → (List TChange) → Option TView
  | 0, _, _ => none
  | n + 1, v, list =>
    ((impl_copyView n v).bind fun xr1 => (impl_ViewChanges.loop4 n (fun xy3 xy4 xy5 xy6 xy7 xy8 xy9 xy10 xy11 xy12 xy13 xy14 xy15 xy16 xy17 xy18 xy19 xy20 => (some (TView.mk (TQuery.mk xy10 xy17 xy11 xy12 xy13 xy18 xy14 xy15 xy16) xy19 xy20))) n list (list.length : Int) 0 0 0 false 0 false 0 0 xr1.q.table xr1.q.order xr1.q.down xr1.q.first xr1.q.kids xr1.q.kidTable xr1.q.kidCol xr1.q.where_ xr1.q.show_ xr1.rows xr1.kids))
def impl_SessGo : Nat → TSess → (List TChange) → Option TSess
  | 0, _, _ => none
  | n + 1, x, list =>
    ((impl_copySess n x).bind fun xr1 => ((impl_ViewChanges n x.view list).bind fun xr2 => (some { xr1 with view := xr2, version := (W (xr1.version + 1)) })))
def laws_eqCond : Nat → TCond → TCond → Option Bool
  | 0, _, _ => none
  | n + 1, a, b =>
    (cond (a.col != b.col) (some false) (cond (a.op != b.op) (some false) (cond (a.v != b.v) (some false) (some true))))
def laws_eqCondS.step6 (n : Nat) (k0 : Option Bool) (back : (List TCond) → (List TCond) → Int → Option Bool) (a : List TCond) (b : List TCond) (i : Int) : Option Bool :=
  (cond (decide (i < (a.length : Int))) (inB i a.length (inB i b.length ((laws_eqCond n (a.getD i.toNat TCond.dflt) (b.getD i.toNat TCond.dflt)).bind fun xr1 => (cond (!xr1) (some false) (back a b (W (i + 1))))))) k0)
def laws_eqCondS.loop6 (n : Nat) (k0 : Option Bool) (N : Nat) : (List TCond) → (List TCond) → Int → Option Bool :=
  iterN (fun _ _ _ => none) (fun back => laws_eqCondS.step6 n k0 back) N
def laws_eqCondS : Nat → (List TCond) → (List TCond) → Option Bool
  | 0, _, _ => none
  | n + 1, a, b =>
    (cond ((a.length : Int) != (b.length : Int)) (some false) (laws_eqCondS.loop6 n (some true) n a b 0))
def laws_eqIntS.step6 (n : Nat) (k0 : Option Bool) (back : (List Int) → (List Int) → Int → Option Bool) (a : List Int) (b : List Int) (i : Int) : Option Bool :=
  (cond (decide (i < (a.length : Int))) (inB i a.length (inB i b.length (cond ((a.getD i.toNat 0) != (b.getD i.toNat 0)) (some false) (back a b (W (i + 1)))))) k0)
def laws_eqIntS.loop6 (n : Nat) (k0 : Option Bool) (N : Nat) : (List Int) → (List Int) → Int → Option Bool :=
  iterN (fun _ _ _ => none) (fun back => laws_eqIntS.step6 n k0 back) N
def laws_eqIntS : Nat → (List Int) → (List Int) → Option Bool
  | 0, _, _ => none
  | n + 1, a, b =>
    (cond ((a.length : Int) != (b.length : Int)) (some false) (laws_eqIntS.loop6 n (some true) n a b 0))
def laws_eqQuery : Nat → TQuery → TQuery → Option Bool
  | 0, _, _ => none
  | n + 1, a, b =>
    (cond (a.table != b.table) (some false) ((laws_eqCondS n a.where_ b.where_).bind fun xr1 => (cond (!xr1) (some false) (cond (a.order != b.order) (some false) (cond (!(a.down == b.down)) (some false) (cond (a.first != b.first) (some false) ((laws_eqIntS n a.show_ b.show_).bind fun xr2 => (cond (!xr2) (some false) (cond (!(a.kids == b.kids)) (some false) (cond (a.kidTable != b.kidTable) (some false) (cond (a.kidCol != b.kidCol) (some false) (some true))))))))))))
def laws_eqRow : Nat → TRow → TRow → Option Bool
  | 0, _, _ => none
  | n + 1, a, b =>
    (cond (a.id_ != b.id_) (some false) ((laws_eqIntS n a.cells b.cells).bind fun xr1 => (cond (!xr1) (some false) (some true))))
def laws_eqRowS.step6 (n : Nat) (k0 : Option Bool) (back : (List TRow) → (List TRow) → Int → Option Bool) (a : List TRow) (b : List TRow) (i : Int) : Option Bool :=
  (cond (decide (i < (a.length : Int))) (inB i a.length (inB i b.length ((laws_eqRow n (a.getD i.toNat TRow.dflt) (b.getD i.toNat TRow.dflt)).bind fun xr1 => (cond (!xr1) (some false) (back a b (W (i + 1))))))) k0)
def laws_eqRowS.loop6 (n : Nat) (k0 : Option Bool) (N : Nat) : (List TRow) → (List TRow) → Int → Option Bool :=
  iterN (fun _ _ _ => none) (fun back => laws_eqRowS.step6 n k0 back) N
def laws_eqRowS : Nat → (List TRow) → (List TRow) → Option Bool
  | 0, _, _ => none
  | n + 1, a, b =>
    (cond ((a.length : Int) != (b.length : Int)) (some false) (laws_eqRowS.loop6 n (some true) n a b 0))
def laws_eqKid : Nat → TKid → TKid → Option Bool
  | 0, _, _ => none
  | n + 1, a, b =>
    (cond (a.id_ != b.id_) (some false) (cond (a.n_ != b.n_) (some false) (some true)))
def laws_eqKidS.step6 (n : Nat) (k0 : Option Bool) (back : (List TKid) → (List TKid) → Int → Option Bool) (a : List TKid) (b : List TKid) (i : Int) : Option Bool :=
  (cond (decide (i < (a.length : Int))) (inB i a.length (inB i b.length ((laws_eqKid n (a.getD i.toNat TKid.dflt) (b.getD i.toNat TKid.dflt)).bind fun xr1 => (cond (!xr1) (some false) (back a b (W (i + 1))))))) k0)
def laws_eqKidS.loop6 (n : Nat) (k0 : Option Bool) (N : Nat) : (List TKid) → (List TKid) → Int → Option Bool :=
  iterN (fun _ _ _ => none) (fun back => laws_eqKidS.step6 n k0 back) N
def laws_eqKidS : Nat → (List TKid) → (List TKid) → Option Bool
  | 0, _, _ => none
  | n + 1, a, b =>
    (cond ((a.length : Int) != (b.length : Int)) (some false) (laws_eqKidS.loop6 n (some true) n a b 0))
def laws_eqView : Nat → TView → TView → Option Bool
  | 0, _, _ => none
  | n + 1, a, b =>
    ((laws_eqQuery n a.q b.q).bind fun xr1 => (cond (!xr1) (some false) ((laws_eqRowS n a.rows b.rows).bind fun xr2 => (cond (!xr2) (some false) ((laws_eqKidS n a.kids b.kids).bind fun xr3 => (cond (!xr3) (some false) (some true)))))))
def laws_eqSess : Nat → TSess → TSess → Option Bool
  | 0, _, _ => none
  | n + 1, a, b =>
    ((laws_eqView n a.view b.view).bind fun xr1 => (cond (!xr1) (some false) (cond (a.version != b.version) (some false) ((laws_eqView n a.last b.last).bind fun xr2 => (cond (!xr2) (some false) (cond (a.lastVersion != b.lastVersion) (some false) (cond (!(a.began == b.began)) (some false) (some true))))))))
def laws_eqChange : Nat → TChange → TChange → Option Bool
  | 0, _, _ => none
  | n + 1, a, b =>
    (cond (a.table != b.table) (some false) (cond (!(a.had == b.had)) (some false) (cond (!(a.has == b.has)) (some false) ((laws_eqRow n a.old b.old).bind fun xr1 => (cond (!xr1) (some false) ((laws_eqRow n a.new b.new).bind fun xr2 => (cond (!xr2) (some false) (some true))))))))
def laws_eqChangeS.step6 (n : Nat) (k0 : Option Bool) (back : (List TChange) → (List TChange) → Int → Option Bool) (a : List TChange) (b : List TChange) (i : Int) : Option Bool :=
  (cond (decide (i < (a.length : Int))) (inB i a.length (inB i b.length ((laws_eqChange n { (a.getD i.toNat TChange.dflt) with old := ((a.getD i.toNat TChange.dflt).old), new := ((a.getD i.toNat TChange.dflt).new) } { (b.getD i.toNat TChange.dflt) with old := ((b.getD i.toNat TChange.dflt).old), new := ((b.getD i.toNat TChange.dflt).new) }).bind fun xr1 => (cond (!xr1) (some false) (back a b (W (i + 1))))))) k0)
def laws_eqChangeS.loop6 (n : Nat) (k0 : Option Bool) (N : Nat) : (List TChange) → (List TChange) → Int → Option Bool :=
  iterN (fun _ _ _ => none) (fun back => laws_eqChangeS.step6 n k0 back) N
def laws_eqChangeS : Nat → (List TChange) → (List TChange) → Option Bool
  | 0, _, _ => none
  | n + 1, a, b =>
    (cond ((a.length : Int) != (b.length : Int)) (some false) (laws_eqChangeS.loop6 n (some true) n a b 0))
def laws_markCondS.step3 (n : Nat) (k0 : Int → (List TCond) → Option (Int × (List TCond))) (back : Int → Int → (List TCond) → Option (Int × (List TCond))) (k : Int) (i : Int) (a : List TCond) : Option (Int × (List TCond)) :=
  (cond (decide (i < (a.length : Int))) (inB i a.length (let xa1 : List TCond := a.set i.toNat { (a.getD i.toNat TCond.dflt) with col := k }; (inB i xa1.length (let xa2 : List TCond := xa1.set i.toNat { (xa1.getD i.toNat TCond.dflt) with op := (W (k + 1)) }; (inB i xa2.length (let xa3 : List TCond := xa2.set i.toNat { (xa2.getD i.toNat TCond.dflt) with v := (W ((W (k + 1)) + 1)) }; (back (W ((W ((W (k + 1)) + 1)) + 1)) (W (i + 1)) xa3))))))) (k0 k a))
def laws_markCondS.loop3 (n : Nat) (k0 : Int → (List TCond) → Option (Int × (List TCond))) (N : Nat) : Int → Int → (List TCond) → Option (Int × (List TCond)) :=
  iterN (fun _ _ _ => none) (fun back => laws_markCondS.step3 n k0 back) N
def laws_markCondS : Nat → (List TCond) → Int → Option (Int × (List TCond))
  | 0, _, _ => none
  | n + 1, a, k =>
    (laws_markCondS.loop3 n (fun xy4 xy5 => (some (xy4, xy5))) n k 0 a)
def laws_markIntS.step3 (n : Nat) (k0 : Int → (List Int) → Option (Int × (List Int))) (back : Int → Int → (List Int) → Option (Int × (List Int))) (k : Int) (i : Int) (a : List Int) : Option (Int × (List Int)) :=
  (cond (decide (i < (a.length : Int))) (inB i a.length (let xa1 : List Int := a.set i.toNat k; (back (W (k + 1)) (W (i + 1)) xa1))) (k0 k a))
def laws_markIntS.loop3 (n : Nat) (k0 : Int → (List Int) → Option (Int × (List Int))) (N : Nat) : Int → Int → (List Int) → Option (Int × (List Int)) :=
  iterN (fun _ _ _ => none) (fun back => laws_markIntS.step3 n k0 back) N
def laws_markIntS : Nat → (List Int) → Int → Option (Int × (List Int))
  | 0, _, _ => none
  | n + 1, a, k =>
    (laws_markIntS.loop3 n (fun xy2 xy3 => (some (xy2, xy3))) n k 0 a)
def laws_markQuery : Nat → TQuery → Int → Option (Int × (List TCond) × (List Int))
  | 0, _, _ => none
  | n + 1, a, k =>
    ((laws_markCondS n a.where_ k).bind fun xr1 => (cond (Nat.beq xr1.2.length a.where_.length) ((laws_markIntS n a.show_ xr1.1).bind fun xr2 => (cond (Nat.beq xr2.2.length a.show_.length) (some (xr2.1, xr1.2, xr2.2)) none)) none))
def laws_markRowS.step3 (n : Nat) (k0 : Int → (List TRow) → Option (Int × (List TRow))) (back : Int → Int → (List TRow) → Option (Int × (List TRow))) (k : Int) (i : Int) (a : List TRow) : Option (Int × (List TRow)) :=
  (cond (decide (i < (a.length : Int))) (inB i a.length (let xa1 : List TRow := a.set i.toNat (TRow.mk k ((a.getD i.toNat TRow.dflt).cells)); (inB i xa1.length ((laws_markIntS n ((xa1.getD i.toNat TRow.dflt).cells) (W (k + 1))).bind fun xr2 => (cond (Nat.beq xr2.2.length ((xa1.getD i.toNat TRow.dflt).cells).length) (let xa3 : List TRow := xa1.set i.toNat (TRow.mk ((xa1.getD i.toNat TRow.dflt).id_) xr2.2); (back xr2.1 (W (i + 1)) xa3)) none))))) (k0 k a))
def laws_markRowS.loop3 (n : Nat) (k0 : Int → (List TRow) → Option (Int × (List TRow))) (N : Nat) : Int → Int → (List TRow) → Option (Int × (List TRow)) :=
  iterN (fun _ _ _ => none) (fun back => laws_markRowS.step3 n k0 back) N
def laws_markRowS : Nat → (List TRow) → Int → Option (Int × (List TRow))
  | 0, _, _ => none
  | n + 1, a, k =>
    (laws_markRowS.loop3 n (fun xy4 xy5 => (some (xy4, xy5))) n k 0 a)
def laws_markKidS.step3 (n : Nat) (k0 : Int → (List TKid) → Option (Int × (List TKid))) (back : Int → Int → (List TKid) → Option (Int × (List TKid))) (k : Int) (i : Int) (a : List TKid) : Option (Int × (List TKid)) :=
  (cond (decide (i < (a.length : Int))) (inB i a.length (let xa1 : List TKid := a.set i.toNat (TKid.mk k ((a.getD i.toNat TKid.dflt).n_)); (inB i xa1.length (let xa2 : List TKid := xa1.set i.toNat (TKid.mk ((xa1.getD i.toNat TKid.dflt).id_) (W (k + 1))); (back (W ((W (k + 1)) + 1)) (W (i + 1)) xa2))))) (k0 k a))
def laws_markKidS.loop3 (n : Nat) (k0 : Int → (List TKid) → Option (Int × (List TKid))) (N : Nat) : Int → Int → (List TKid) → Option (Int × (List TKid)) :=
  iterN (fun _ _ _ => none) (fun back => laws_markKidS.step3 n k0 back) N
def laws_markKidS : Nat → (List TKid) → Int → Option (Int × (List TKid))
  | 0, _, _ => none
  | n + 1, a, k =>
    (laws_markKidS.loop3 n (fun xy3 xy4 => (some (xy3, xy4))) n k 0 a)
def laws_markView : Nat → TView → Int → Option (Int × (List TCond) × (List Int) × (List TRow) × (List TKid))
  | 0, _, _ => none
  | n + 1, a, k =>
    ((laws_markQuery n a.q k).bind fun xr1 => (cond (Nat.beq xr1.2.1.length a.q.where_.length) (cond (Nat.beq xr1.2.2.length a.q.show_.length) ((laws_markRowS n a.rows xr1.1).bind fun xr2 => (cond (Nat.beq xr2.2.length a.rows.length) ((laws_markKidS n a.kids xr2.1).bind fun xr3 => (cond (Nat.beq xr3.2.length a.kids.length) (some (xr3.1, xr1.2.1, xr1.2.2, xr2.2, xr3.2)) none)) none)) none) none))
def laws_markSess : Nat → TSess → Int → Option (Int × (List TCond) × (List Int) × (List TRow) × (List TKid) × (List TCond) × (List Int) × (List TRow) × (List TKid))
  | 0, _, _ => none
  | n + 1, a, k =>
    ((laws_markView n a.view k).bind fun xr1 => (cond (Nat.beq xr1.2.1.length a.view.q.where_.length) (cond (Nat.beq xr1.2.2.1.length a.view.q.show_.length) (cond (Nat.beq xr1.2.2.2.1.length a.view.rows.length) (cond (Nat.beq xr1.2.2.2.2.length a.view.kids.length) ((laws_markView n a.last xr1.1).bind fun xr2 => (cond (Nat.beq xr2.2.1.length a.last.q.where_.length) (cond (Nat.beq xr2.2.2.1.length a.last.q.show_.length) (cond (Nat.beq xr2.2.2.2.1.length a.last.rows.length) (cond (Nat.beq xr2.2.2.2.2.length a.last.kids.length) (some (xr2.1, xr1.2.1, xr1.2.2.1, xr1.2.2.2.1, xr1.2.2.2.2, xr2.2.1, xr2.2.2.1, xr2.2.2.2.1, xr2.2.2.2.2)) none) none) none) none)) none) none) none) none))
def laws_markChangeS.step3 (n : Nat) (k0 : Int → (List TChange) → Option (Int × (List TChange))) (back : Int → Int → (List TChange) → Option (Int × (List TChange))) (append : Int) (t5 : Int) (o : List TChange) : Option (Int × (List TChange)) :=
  (cond (decide (t5 < (o.length : Int))) (inB t5 o.length (let xa1 : List TChange := o.set t5.toNat { (o.getD t5.toNat TChange.dflt) with table := append, old := ((o.getD t5.toNat TChange.dflt).old), new := ((o.getD t5.toNat TChange.dflt).new) }; (inB t5 xa1.length (let xa2 : List TChange := xa1.set t5.toNat { (xa1.getD t5.toNat TChange.dflt) with had := ((Int.tmod (W (append + 1)) 3) == 0), old := ((xa1.getD t5.toNat TChange.dflt).old), new := ((xa1.getD t5.toNat TChange.dflt).new) }; (inB t5 xa2.length (let xa3 : List TChange := xa2.set t5.toNat { (xa2.getD t5.toNat TChange.dflt) with has := ((Int.tmod (W ((W (append + 1)) + 1)) 3) == 0), old := ((xa2.getD t5.toNat TChange.dflt).old), new := ((xa2.getD t5.toNat TChange.dflt).new) }; (inB t5 xa3.length (let xa4 : List TChange := xa3.set t5.toNat { (xa3.getD t5.toNat TChange.dflt) with old := (TRow.mk (W ((W ((W (append + 1)) + 1)) + 1)) (((xa3.getD t5.toNat TChange.dflt).old).cells)), new := ((xa3.getD t5.toNat TChange.dflt).new) }; (inB t5 xa4.length ((laws_markIntS n (((xa4.getD t5.toNat TChange.dflt).old).cells) (W ((W ((W ((W (append + 1)) + 1)) + 1)) + 1))).bind fun xr5 => (cond (Nat.beq xr5.2.length (((xa4.getD t5.toNat TChange.dflt).old).cells).length) (let xa6 : List TChange := xa4.set t5.toNat { (xa4.getD t5.toNat TChange.dflt) with old := (TRow.mk (((xa4.getD t5.toNat TChange.dflt).old).id_) xr5.2), new := ((xa4.getD t5.toNat TChange.dflt).new) }; (inB t5 xa6.length (let xa7 : List TChange := xa6.set t5.toNat { (xa6.getD t5.toNat TChange.dflt) with old := ((xa6.getD t5.toNat TChange.dflt).old), new := (TRow.mk xr5.1 (((xa6.getD t5.toNat TChange.dflt).new).cells)) }; (inB t5 xa7.length ((laws_markIntS n (((xa7.getD t5.toNat TChange.dflt).new).cells) (W (xr5.1 + 1))).bind fun xr8 => (cond (Nat.beq xr8.2.length (((xa7.getD t5.toNat TChange.dflt).new).cells).length) (let xa9 : List TChange := xa7.set t5.toNat { (xa7.getD t5.toNat TChange.dflt) with old := ((xa7.getD t5.toNat TChange.dflt).old), new := (TRow.mk (((xa7.getD t5.toNat TChange.dflt).new).id_) xr8.2) }; (back xr8.1 (W (t5 + 1)) xa9)) none)))))) none))))))))))) (k0 append o))
def laws_markChangeS.loop3 (n : Nat) (k0 : Int → (List TChange) → Option (Int × (List TChange))) (N : Nat) : Int → Int → (List TChange) → Option (Int × (List TChange)) :=
  iterN (fun _ _ _ => none) (fun back => laws_markChangeS.step3 n k0 back) N
def laws_markChangeS : Nat → (List TChange) → Int → Option (Int × (List TChange))
  | 0, _, _ => none
  | n + 1, o, append =>
    (laws_markChangeS.loop3 n (fun xy10 xy11 => (some (xy10, xy11))) n append 0 o)
def laws_heldCondS.step3 (n : Nat) (k0 : Int → Option Int) (back : (List TCond) → Int → Int → Option Int) (a : List TCond) (k : Int) (i : Int) : Option Int :=
  (cond (decide (i < (a.length : Int))) (inB i a.length (cond (((a.getD i.toNat TCond.dflt).col) != k) (some (-1)) (inB i a.length (cond (((a.getD i.toNat TCond.dflt).op) != (W (k + 1))) (some (-1)) (inB i a.length (cond (((a.getD i.toNat TCond.dflt).v) != (W ((W (k + 1)) + 1))) (some (-1)) (back a (W ((W ((W (k + 1)) + 1)) + 1)) (W (i + 1))))))))) (k0 k))
def laws_heldCondS.loop3 (n : Nat) (k0 : Int → Option Int) (N : Nat) : (List TCond) → Int → Int → Option Int :=
  iterN (fun _ _ _ => none) (fun back => laws_heldCondS.step3 n k0 back) N
def laws_heldCondS : Nat → (List TCond) → Int → Option Int
  | 0, _, _ => none
  | n + 1, a, k =>
    (laws_heldCondS.loop3 n (fun xy1 => (some xy1)) n a k 0)
def laws_heldIntS.step3 (n : Nat) (k0 : Int → Option Int) (back : (List Int) → Int → Int → Option Int) (a : List Int) (k : Int) (i : Int) : Option Int :=
  (cond (decide (i < (a.length : Int))) (inB i a.length (cond ((a.getD i.toNat 0) != k) (some (-1)) (back a (W (k + 1)) (W (i + 1))))) (k0 k))
def laws_heldIntS.loop3 (n : Nat) (k0 : Int → Option Int) (N : Nat) : (List Int) → Int → Int → Option Int :=
  iterN (fun _ _ _ => none) (fun back => laws_heldIntS.step3 n k0 back) N
def laws_heldIntS : Nat → (List Int) → Int → Option Int
  | 0, _, _ => none
  | n + 1, a, k =>
    (laws_heldIntS.loop3 n (fun xy1 => (some xy1)) n a k 0)
def laws_heldQuery : Nat → TQuery → Int → Option Int
  | 0, _, _ => none
  | n + 1, a, k =>
    ((laws_heldCondS n a.where_ k).bind fun xr1 => (cond (decide (xr1 < 0)) (some (-1)) ((laws_heldIntS n a.show_ xr1).bind fun xr2 => (cond (decide (xr2 < 0)) (some (-1)) (some xr2)))))
def laws_heldRowS.step3 (n : Nat) (k0 : Int → Option Int) (back : (List TRow) → Int → Int → Option Int) (a : List TRow) (k : Int) (i : Int) : Option Int :=
  (cond (decide (i < (a.length : Int))) (inB i a.length (cond (((a.getD i.toNat TRow.dflt).id_) != k) (some (-1)) (inB i a.length ((laws_heldIntS n ((a.getD i.toNat TRow.dflt).cells) (W (k + 1))).bind fun xr1 => (cond (decide (xr1 < 0)) (some (-1)) (back a xr1 (W (i + 1)))))))) (k0 k))
def laws_heldRowS.loop3 (n : Nat) (k0 : Int → Option Int) (N : Nat) : (List TRow) → Int → Int → Option Int :=
  iterN (fun _ _ _ => none) (fun back => laws_heldRowS.step3 n k0 back) N
def laws_heldRowS : Nat → (List TRow) → Int → Option Int
  | 0, _, _ => none
  | n + 1, a, k =>
    (laws_heldRowS.loop3 n (fun xy2 => (some xy2)) n a k 0)
def laws_heldKidS.step3 (n : Nat) (k0 : Int → Option Int) (back : (List TKid) → Int → Int → Option Int) (a : List TKid) (k : Int) (i : Int) : Option Int :=
  (cond (decide (i < (a.length : Int))) (inB i a.length (cond (((a.getD i.toNat TKid.dflt).id_) != k) (some (-1)) (inB i a.length (cond (((a.getD i.toNat TKid.dflt).n_) != (W (k + 1))) (some (-1)) (back a (W ((W (k + 1)) + 1)) (W (i + 1))))))) (k0 k))
def laws_heldKidS.loop3 (n : Nat) (k0 : Int → Option Int) (N : Nat) : (List TKid) → Int → Int → Option Int :=
  iterN (fun _ _ _ => none) (fun back => laws_heldKidS.step3 n k0 back) N
def laws_heldKidS : Nat → (List TKid) → Int → Option Int
  | 0, _, _ => none
  | n + 1, a, k =>
    (laws_heldKidS.loop3 n (fun xy1 => (some xy1)) n a k 0)
def laws_heldView : Nat → TView → Int → Option Int
  | 0, _, _ => none
  | n + 1, a, k =>
    ((laws_heldQuery n a.q k).bind fun xr1 => (cond (decide (xr1 < 0)) (some (-1)) ((laws_heldRowS n a.rows xr1).bind fun xr2 => (cond (decide (xr2 < 0)) (some (-1)) ((laws_heldKidS n a.kids xr2).bind fun xr3 => (cond (decide (xr3 < 0)) (some (-1)) (some xr3)))))))
def laws_heldSess : Nat → TSess → Int → Option Int
  | 0, _, _ => none
  | n + 1, a, k =>
    ((laws_heldView n a.view k).bind fun xr1 => (cond (decide (xr1 < 0)) (some (-1)) ((laws_heldView n a.last xr1).bind fun xr2 => (cond (decide (xr2 < 0)) (some (-1)) (some xr2)))))
def laws_FnExactSessGo : Nat → TSess → (List TChange) → Option Bool
  | 0, _, _ => none
  | n + 1, o, append =>
    ((laws_szSess n o 1048576).bind fun xr1 => (cond (decide (xr1 < 0)) (some true) ((laws_szChangeS n append xr1).bind fun xr2 => (cond (decide (xr2 < 0)) (some true) ((laws_toSess n o).bind fun xr3 => ((laws_toChangeS n append).bind fun xr4 => ((spec_SessGo n xr3 xr4).bind fun xr5 => ((laws_toSess n o).bind fun xr6 => ((laws_toChangeS n append).bind fun xr7 => ((impl_SessGo n xr6 xr7).bind fun xr8 => ((laws_eqSess n xr8 xr5).bind fun xr9 => (cond (!xr9) (some false) ((laws_toSess n o).bind fun xr10 => ((laws_eqSess n xr6 xr10).bind fun xr11 => (cond (!xr11) (some false) ((laws_toChangeS n append).bind fun xr12 => ((laws_eqChangeS n xr7 xr12).bind fun xr13 => (cond (!xr13) (some false) ((laws_markSess n xr6 1).bind fun xr14 => (cond (Nat.beq xr14.2.1.length xr6.view.q.where_.length) (cond (Nat.beq xr14.2.2.1.length xr6.view.q.show_.length) (cond (Nat.beq xr14.2.2.2.1.length xr6.view.rows.length) (cond (Nat.beq xr14.2.2.2.2.1.length xr6.view.kids.length) (cond (Nat.beq xr14.2.2.2.2.2.1.length xr6.last.q.where_.length) (cond (Nat.beq xr14.2.2.2.2.2.2.1.length xr6.last.q.show_.length) (cond (Nat.beq xr14.2.2.2.2.2.2.2.1.length xr6.last.rows.length) (cond (Nat.beq xr14.2.2.2.2.2.2.2.2.length xr6.last.kids.length) ((laws_markChangeS n xr7 xr14.1).bind fun xr15 => (cond (Nat.beq xr15.2.length xr7.length) (cond (decide (xr15.1 < 0)) (some false) ((laws_eqSess n xr8 xr5).bind fun xr16 => (cond (!xr16) (some false) ((laws_markSess n xr8 1).bind fun xr17 => (cond (Nat.beq xr17.2.1.length xr8.view.q.where_.length) (cond (Nat.beq xr17.2.2.1.length xr8.view.q.show_.length) (cond (Nat.beq xr17.2.2.2.1.length xr8.view.rows.length) (cond (Nat.beq xr17.2.2.2.2.1.length xr8.view.kids.length) (cond (Nat.beq xr17.2.2.2.2.2.1.length xr8.last.q.where_.length) (cond (Nat.beq xr17.2.2.2.2.2.2.1.length xr8.last.q.show_.length) (cond (Nat.beq xr17.2.2.2.2.2.2.2.1.length xr8.last.rows.length) (cond (Nat.beq xr17.2.2.2.2.2.2.2.2.length xr8.last.kids.length) ((laws_heldSess n { xr8 with view := (TView.mk { xr8.view.q with where_ := xr17.2.1, show_ := xr17.2.2.1 } xr17.2.2.2.1 xr17.2.2.2.2.1), last := (TView.mk { xr8.last.q with where_ := xr17.2.2.2.2.2.1, show_ := xr17.2.2.2.2.2.2.1 } xr17.2.2.2.2.2.2.2.1 xr17.2.2.2.2.2.2.2.2) } 1).bind fun xr18 => (cond (decide (xr18 < 0)) (some false) (cond (xr18 != xr17.1) (some false) ((laws_toSess n o).bind fun xr19 => ((laws_toChangeS n append).bind fun xr20 => ((impl_SessGo n xr19 xr20).bind fun xr21 => ((laws_eqSess n xr21 xr5).bind fun xr22 => (cond (!xr22) (some false) ((laws_heldSess n { xr8 with view := (TView.mk { xr8.view.q with where_ := xr17.2.1, show_ := xr17.2.2.1 } xr17.2.2.2.1 xr17.2.2.2.2.1), last := (TView.mk { xr8.last.q with where_ := xr17.2.2.2.2.2.1, show_ := xr17.2.2.2.2.2.2.1 } xr17.2.2.2.2.2.2.2.1 xr17.2.2.2.2.2.2.2.2) } 1).bind fun xr23 => (cond (decide (xr23 < 0)) (some false) (cond (xr23 != xr17.1) (some false) (some true)))))))))))) none) none) none) none) none) none) none) none))))) none)) none) none) none) none) none) none) none) none))))))))))))))))))))
end Go.Pi
end
section
set_option linter.unusedVariables false
set_option maxRecDepth 100000
namespace Go.Pi
def TCond.p (m : M) : List Pat := [.i .i64, .i .i64, .i .i64]
abbrev TCond.c : Type := Int × Int × Int × Unit
def TCond.of : TCond.c → TCond := fun (x0, x1, x2, _) => ⟨x0, x1, x2⟩
def TCond.to (s : TCond) : TCond.c := (s.col, s.op, s.v, ())
def TQuery.p (m : M) : List Pat := [.i .i64, .sl m .lCond, .i .i64, .b, .i .i64, .sl m .int, .b, .i .i64, .i .i64]
def TQuery.q1 (m : M) : List Pat := [.i .i64, .sl m .iCond, .i .i64, .b, .i .i64, .sl m .int, .b, .i .i64, .i .i64]
abbrev TQuery.c : Type := Int × (List TCond) × Int × Bool × Int × (List Int) × Bool × Int × Int × Unit
def TQuery.of : TQuery.c → TQuery := fun (x0, x1, x2, x3, x4, x5, x6, x7, x8, _) => ⟨x0, x1, x2, x3, x4, x5, x6, x7, x8⟩
def TQuery.to (s : TQuery) : TQuery.c := (s.table, s.where_, s.order, s.down, s.first, s.show_, s.kids, s.kidTable, s.kidCol, ())
def TRow.p (m : M) : List Pat := [.i .i64, .sl m .int]
abbrev TRow.c : Type := Int × (List Int) × Unit
def TRow.of : TRow.c → TRow := fun (x0, x1, _) => ⟨x0, x1⟩
def TRow.to (s : TRow) : TRow.c := (s.id_, s.cells, ())
def TKid.p (m : M) : List Pat := [.i .i64, .i .i64]
abbrev TKid.c : Type := Int × Int × Unit
def TKid.of : TKid.c → TKid := fun (x0, x1, _) => ⟨x0, x1⟩
def TKid.to (s : TKid) : TKid.c := (s.id_, s.n_, ())
def TView.p (m : M) : List Pat := [.i .i64, .sl m .lCond, .i .i64, .b, .i .i64, .sl m .int, .b, .i .i64, .i .i64, .sl m .lRow, .sl m .lKid]
def TView.q1 (m : M) : List Pat := [.i .i64, .sl m .iCond, .i .i64, .b, .i .i64, .sl m .int, .b, .i .i64, .i .i64, .sl m .iRow, .sl m .iKid]
abbrev TView.c : Type := Int × (List TCond) × Int × Bool × Int × (List Int) × Bool × Int × Int × (List TRow) × (List TKid) × Unit
def TView.of : TView.c → TView := fun (x0, x1, x2, x3, x4, x5, x6, x7, x8, x9, x10, _) => ⟨⟨x0, x1, x2, x3, x4, x5, x6, x7, x8⟩, x9, x10⟩
def TView.to (s : TView) : TView.c := (s.q.table, s.q.where_, s.q.order, s.q.down, s.q.first, s.q.show_, s.q.kids, s.q.kidTable, s.q.kidCol, s.rows, s.kids, ())
def TSess.p (m : M) : List Pat := [.i .i64, .sl m .lCond, .i .i64, .b, .i .i64, .sl m .int, .b, .i .i64, .i .i64, .sl m .lRow, .sl m .lKid, .i .i64, .i .i64, .sl m .lCond, .i .i64, .b, .i .i64, .sl m .int, .b, .i .i64, .i .i64, .sl m .lRow, .sl m .lKid, .i .i64, .b]
def TSess.q1 (m : M) : List Pat := [.i .i64, .sl m .iCond, .i .i64, .b, .i .i64, .sl m .int, .b, .i .i64, .i .i64, .sl m .iRow, .sl m .iKid, .i .i64, .i .i64, .sl m .iCond, .i .i64, .b, .i .i64, .sl m .int, .b, .i .i64, .i .i64, .sl m .iRow, .sl m .iKid, .i .i64, .b]
abbrev TSess.c : Type := Int × (List TCond) × Int × Bool × Int × (List Int) × Bool × Int × Int × (List TRow) × (List TKid) × Int × Int × (List TCond) × Int × Bool × Int × (List Int) × Bool × Int × Int × (List TRow) × (List TKid) × Int × Bool × Unit
def TSess.of : TSess.c → TSess := fun (x0, x1, x2, x3, x4, x5, x6, x7, x8, x9, x10, x11, x12, x13, x14, x15, x16, x17, x18, x19, x20, x21, x22, x23, x24, _) => ⟨⟨⟨x0, x1, x2, x3, x4, x5, x6, x7, x8⟩, x9, x10⟩, x11, ⟨⟨x12, x13, x14, x15, x16, x17, x18, x19, x20⟩, x21, x22⟩, x23, x24⟩
def TSess.to (s : TSess) : TSess.c := (s.view.q.table, s.view.q.where_, s.view.q.order, s.view.q.down, s.view.q.first, s.view.q.show_, s.view.q.kids, s.view.q.kidTable, s.view.q.kidCol, s.view.rows, s.view.kids, s.version, s.last.q.table, s.last.q.where_, s.last.q.order, s.last.q.down, s.last.q.first, s.last.q.show_, s.last.q.kids, s.last.q.kidTable, s.last.q.kidCol, s.last.rows, s.last.kids, s.lastVersion, s.began, ())
def TChange.p (m : M) : List Pat := [.i .i64, .b, .b, .i .i64, .sl m .int, .i .i64, .sl m .int]
abbrev TChange.c : Type := Int × Bool × Bool × Int × (List Int) × Int × (List Int) × Unit
def TChange.of : TChange.c → TChange := fun (x0, x1, x2, x3, x4, x5, x6, _) => ⟨x0, x1, x2, ⟨x3, x4⟩, ⟨x5, x6⟩⟩
def TChange.to (s : TChange) : TChange.c := (s.table, s.had, s.has, s.old.id_, s.old.cells, s.new.id_, s.new.cells, ())

def laws_szCondS.d : FD Int := ⟨75, 12, 1, [.sl .v .lCond, .i .i64], [.i .i64], fun (a0, _) => a0, fun r => (r, ()), [.v, .v], [.v], [.k], [.tmp 4], [], [], [], []⟩
def laws_szCondS.F (n : Nat) : Pat.Ts laws_szCondS.d.ps → Option Int := fun (a0, a1, _) => laws_szCondS n a0 a1

def laws_szIntS.d : FD Int := ⟨39, 12, 1, [.sl .v .int, .i .i64], [.i .i64], fun (a0, _) => a0, fun r => (r, ()), [.v, .v], [.v], [.k], [.tmp 4], [], [], [], []⟩
def laws_szIntS.F (n : Nat) : Pat.Ts laws_szIntS.d.ps → Option Int := fun (a0, a1, _) => laws_szIntS n a0 a1

def laws_szQuery.d : FD Int := ⟨30, 18, 1, [.ag (TQuery.p .v), .i .i64], [.i .i64], fun (a0, _) => a0, fun r => (r, ()), [.ag [.v, .v, .v, .v, .v, .v, .v, .v, .v], .v], [.v], [.k], [.tmp 4], [], [], [], []⟩
def laws_szQuery.F (n : Nat) : Pat.Ts laws_szQuery.d.ps → Option Int := fun (a0, a1, _) => laws_szQuery n (TQuery.of a0) a1

def laws_szRow.d : FD Int := ⟨127, 12, 1, [.ag (TRow.p .v), .i .i64], [.i .i64], fun (a0, _) => a0, fun r => (r, ()), [.ag [.v, .v], .v], [.v], [.k], [.tmp 4], [], [], [], []⟩
def laws_szRow.F (n : Nat) : Pat.Ts laws_szRow.d.ps → Option Int := fun (a0, a1, _) => laws_szRow n (TRow.of a0) a1

def laws_szRowS.p7 : OD := ⟨[(0, .view .lRow), (1, .k), (5, .k)], [.sl .v .lRow, .i .i64, .i .i64], [.ext]⟩
def laws_szRowS.o0 : OD := ⟨[(1, .k)], [.i .i64], [.ext]⟩
def laws_szRowS.d : FD Int := ⟨84, 27, 1, [.sl .v .lRow, .i .i64], [.i .i64], fun (a0, _) => a0, fun r => (r, ()), [.v, .v], [.v], [.k], [.tmp 4], [], [(7, laws_szRowS.p7)], [], [(0, laws_szRowS.o0)]⟩
def laws_szRowS.F (n : Nat) : Pat.Ts laws_szRowS.d.ps → Option Int := fun (a0, a1, _) => laws_szRowS n a0 a1

def laws_szKidS.d : FD Int := ⟨85, 12, 1, [.sl .v .lKid, .i .i64], [.i .i64], fun (a0, _) => a0, fun r => (r, ()), [.v, .v], [.v], [.k], [.tmp 4], [], [], [], []⟩
def laws_szKidS.F (n : Nat) : Pat.Ts laws_szKidS.d.ps → Option Int := fun (a0, a1, _) => laws_szKidS n a0 a1

def laws_szView.d : FD Int := ⟨40, 24, 1, [.ag (TView.p .v), .i .i64], [.i .i64], fun (a0, _) => a0, fun r => (r, ()), [.ag [.v, .v, .v, .v, .v, .v, .v, .v, .v, .v, .v], .v], [.v], [.k], [.tmp 4], [], [], [], []⟩
def laws_szView.F (n : Nat) : Pat.Ts laws_szView.d.ps → Option Int := fun (a0, a1, _) => laws_szView n (TView.of a0) a1

def laws_szSess.d : FD Int := ⟨8, 18, 1, [.ag (TSess.p .v), .i .i64], [.i .i64], fun (a0, _) => a0, fun r => (r, ()), [.ag [.v, .v, .v, .v, .v, .v, .v, .v, .v, .v, .v, .v, .v, .v, .v, .v, .v, .v, .v, .v, .v, .v, .v, .v, .v], .v], [.v], [.k], [.tmp 4], [], [], [], []⟩
def laws_szSess.F (n : Nat) : Pat.Ts laws_szSess.d.ps → Option Int := fun (a0, a1, _) => laws_szSess n (TSess.of a0) a1

def laws_szChange.d : FD Int := ⟨65, 18, 1, [.ag (TChange.p .v), .i .i64], [.i .i64], fun (a0, _) => a0, fun r => (r, ()), [.ag [.v, .v, .v, .v, .v, .v, .v], .v], [.v], [.k], [.tmp 4], [], [], [], []⟩
def laws_szChange.F (n : Nat) : Pat.Ts laws_szChange.d.ps → Option Int := fun (a0, a1, _) => laws_szChange n (TChange.of a0) a1

def laws_szChangeS.p7 : OD := ⟨[(0, .view .lChange), (1, .k), (5, .k)], [.sl .v .lChange, .i .i64, .i .i64], [.ext]⟩
def laws_szChangeS.o0 : OD := ⟨[(1, .k)], [.i .i64], [.ext]⟩
def laws_szChangeS.d : FD Int := ⟨21, 27, 1, [.sl .v .lChange, .i .i64], [.i .i64], fun (a0, _) => a0, fun r => (r, ()), [.v, .v], [.v], [.k], [.tmp 4], [], [(7, laws_szChangeS.p7)], [], [(0, laws_szChangeS.o0)]⟩
def laws_szChangeS.F (n : Nat) : Pat.Ts laws_szChangeS.d.ps → Option Int := fun (a0, a1, _) => laws_szChangeS n a0 a1

def laws_toCond.d : FD TCond := ⟨138, 14, 1, [.ag (TCond.p .v)], [.ag (TCond.p .v)], fun (a0, _) => (TCond.of a0), fun r => (TCond.to r, ()), [.ag [.v, .v, .v]], [.ag [.v, .v, .v]], [.ag [.k, .k, .k]], [.cell 2 144], [], [], [], []⟩
def laws_toCond.F (n : Nat) : Pat.Ts laws_toCond.d.ps → Option TCond := fun (a0, _) => laws_toCond n (TCond.of a0)

def laws_toCondS.p4 : OD := ⟨[(0, .view .lCond), (3, .own .d .iCond), (4, .k)], [.sl .v .lCond, .rt 1, .i .i64], [.ext, .arr .d .iCond 2]⟩
def laws_toCondS.o0 : OD := ⟨[(3, .own .d .iCond)], [.rt 1], [.ext, .arr .d .iCond 2]⟩
def laws_toCondS.d : FD (List TCond) := ⟨78, 23, 1, [.sl .v .lCond], [.sl .d .iCond], fun (a0, _) => a0, fun r => (r, ()), [.v], [.o], [.own .d .iCond], [.tmp 2], [], [(4, laws_toCondS.p4)], [], [(0, laws_toCondS.o0)]⟩
def laws_toCondS.F (n : Nat) : Pat.Ts laws_toCondS.d.ps → Option (List TCond) := fun (a0, _) => laws_toCondS n a0

def laws_toIntS.p4 : OD := ⟨[(0, .view .int), (3, .own .d .int), (4, .k)], [.sl .v .int, .rt 1, .i .i64], [.ext, .arr .d .int 2]⟩
def laws_toIntS.o0 : OD := ⟨[(3, .own .d .int)], [.rt 1], [.ext, .arr .d .int 2]⟩
def laws_toIntS.d : FD (List Int) := ⟨45, 22, 1, [.sl .v .int], [.sl .d .int], fun (a0, _) => a0, fun r => (r, ()), [.v], [.o], [.own .d .int], [.tmp 2], [], [(4, laws_toIntS.p4)], [], [(0, laws_toIntS.o0)]⟩
def laws_toIntS.F (n : Nat) : Pat.Ts laws_toIntS.d.ps → Option (List Int) := fun (a0, _) => laws_toIntS n a0

def laws_toQuery.d : FD TQuery := ⟨33, 34, 1, [.ag (TQuery.p .v)], [.ag (TQuery.q1 .d)], fun (a0, _) => (TQuery.of a0), fun r => (TQuery.to r, ()), [.ag [.v, .v, .v, .v, .v, .v, .v, .v, .v]], [.ag [.v, .o, .v, .v, .v, .o, .v, .v, .v]], [.ag [.k, .own .d .iCond, .k, .k, .k, .own .d .int, .k, .k, .k]], [.cell 2 41], [], [], [], []⟩
def laws_toQuery.F (n : Nat) : Pat.Ts laws_toQuery.d.ps → Option TQuery := fun (a0, _) => laws_toQuery n (TQuery.of a0)

def laws_toRow.d : FD TRow := ⟨130, 12, 1, [.ag (TRow.p .v)], [.ag (TRow.p .d)], fun (a0, _) => (TRow.of a0), fun r => (TRow.to r, ()), [.ag [.v, .v]], [.ag [.v, .o]], [.ag [.k, .own .d .int]], [.cell 2 113], [], [], [], []⟩
def laws_toRow.F (n : Nat) : Pat.Ts laws_toRow.d.ps → Option TRow := fun (a0, _) => laws_toRow n (TRow.of a0)

def laws_toRowS.p4 : OD := ⟨[(0, .view .lRow), (3, .own .d .iRow), (4, .k)], [.sl .v .lRow, .rt 1, .i .i64], [.ext, .arr .d .iRow 2]⟩
def laws_toRowS.o0 : OD := ⟨[(3, .own .d .iRow)], [.rt 1], [.ext, .arr .d .iRow 2]⟩
def laws_toRowS.d : FD (List TRow) := ⟨94, 23, 1, [.sl .v .lRow], [.sl .d .iRow], fun (a0, _) => a0, fun r => (r, ()), [.v], [.o], [.own .d .iRow], [.tmp 2], [], [(4, laws_toRowS.p4)], [], [(0, laws_toRowS.o0)]⟩
def laws_toRowS.F (n : Nat) : Pat.Ts laws_toRowS.d.ps → Option (List TRow) := fun (a0, _) => laws_toRowS n a0

def laws_toKid.d : FD TKid := ⟨145, 11, 1, [.ag (TKid.p .v)], [.ag (TKid.p .v)], fun (a0, _) => (TKid.of a0), fun r => (TKid.to r, ()), [.ag [.v, .v]], [.ag [.v, .v]], [.ag [.k, .k]], [.cell 2 137], [], [], [], []⟩
def laws_toKid.F (n : Nat) : Pat.Ts laws_toKid.d.ps → Option TKid := fun (a0, _) => laws_toKid n (TKid.of a0)

def laws_toKidS.p4 : OD := ⟨[(0, .view .lKid), (3, .own .d .iKid), (4, .k)], [.sl .v .lKid, .rt 1, .i .i64], [.ext, .arr .d .iKid 2]⟩
def laws_toKidS.o0 : OD := ⟨[(3, .own .d .iKid)], [.rt 1], [.ext, .arr .d .iKid 2]⟩
def laws_toKidS.d : FD (List TKid) := ⟨95, 23, 1, [.sl .v .lKid], [.sl .d .iKid], fun (a0, _) => a0, fun r => (r, ()), [.v], [.o], [.own .d .iKid], [.tmp 2], [], [(4, laws_toKidS.p4)], [], [(0, laws_toKidS.o0)]⟩
def laws_toKidS.F (n : Nat) : Pat.Ts laws_toKidS.d.ps → Option (List TKid) := fun (a0, _) => laws_toKidS n a0

def laws_toView.d : FD TView := ⟨46, 17, 1, [.ag (TView.p .v)], [.ag (TView.q1 .d)], fun (a0, _) => (TView.of a0), fun r => (TView.to r, ()), [.ag [.v, .v, .v, .v, .v, .v, .v, .v, .v, .v, .v]], [.ag [.v, .o, .v, .v, .v, .o, .v, .v, .v, .o, .o]], [.ag [.k, .own .d .iCond, .k, .k, .k, .own .d .int, .k, .k, .k, .own .d .iRow, .own .d .iKid]], [.cell 2 45], [], [], [], []⟩
def laws_toView.F (n : Nat) : Pat.Ts laws_toView.d.ps → Option TView := fun (a0, _) => laws_toView n (TView.of a0)

def laws_toSess.d : FD TSess := ⟨11, 22, 1, [.ag (TSess.p .v)], [.ag (TSess.q1 .d)], fun (a0, _) => (TSess.of a0), fun r => (TSess.to r, ()), [.ag [.v, .v, .v, .v, .v, .v, .v, .v, .v, .v, .v, .v, .v, .v, .v, .v, .v, .v, .v, .v, .v, .v, .v, .v, .v]], [.ag [.v, .o, .v, .v, .v, .o, .v, .v, .v, .o, .o, .v, .v, .o, .v, .v, .v, .o, .v, .v, .v, .o, .o, .v, .v]], [.ag [.k, .own .d .iCond, .k, .k, .k, .own .d .int, .k, .k, .k, .own .d .iRow, .own .d .iKid, .k, .k, .own .d .iCond, .k, .k, .k, .own .d .int, .k, .k, .k, .own .d .iRow, .own .d .iKid, .k, .k]], [.cell 2 47], [], [], [], []⟩
def laws_toSess.F (n : Nat) : Pat.Ts laws_toSess.d.ps → Option TSess := fun (a0, _) => laws_toSess n (TSess.of a0)

def laws_toChange.d : FD TChange := ⟨68, 22, 1, [.ag (TChange.p .v)], [.ag (TChange.p .d)], fun (a0, _) => (TChange.of a0), fun r => (TChange.to r, ()), [.ag [.v, .v, .v, .v, .v, .v, .v]], [.ag [.v, .v, .v, .v, .o, .v, .o]], [.ag [.k, .k, .k, .k, .own .d .int, .k, .own .d .int]], [.cell 2 115], [], [], [], []⟩
def laws_toChange.F (n : Nat) : Pat.Ts laws_toChange.d.ps → Option TChange := fun (a0, _) => laws_toChange n (TChange.of a0)

def laws_toChangeS.p4 : OD := ⟨[(0, .view .lChange), (3, .own .d .iChange), (4, .k)], [.sl .v .lChange, .rt 1, .i .i64], [.ext, .arr .d .iChange 2]⟩
def laws_toChangeS.o0 : OD := ⟨[(3, .own .d .iChange)], [.rt 1], [.ext, .arr .d .iChange 2]⟩
def laws_toChangeS.d : FD (List TChange) := ⟨23, 23, 1, [.sl .v .lChange], [.sl .d .iChange], fun (a0, _) => a0, fun r => (r, ()), [.v], [.o], [.own .d .iChange], [.tmp 2], [], [(4, laws_toChangeS.p4)], [], [(0, laws_toChangeS.o0)]⟩
def laws_toChangeS.F (n : Nat) : Pat.Ts laws_toChangeS.d.ps → Option (List TChange) := fun (a0, _) => laws_toChangeS n a0

def spec_l9Copy.d : FD TQuery := ⟨135, 14, 1, [.ag (TQuery.q1 .v)], [.ag (TQuery.q1 .d)], fun (a0, _) => (TQuery.of a0), fun r => (TQuery.to r, ()), [.ag [.v, .v, .v, .v, .v, .v, .v, .v, .v]], [.ag [.v, .o, .v, .v, .v, .o, .v, .v, .v]], [.ag [.k, .own .d .iCond, .k, .k, .k, .own .d .int, .k, .k, .k]], [.cell 2 41], [], [], [], []⟩
def spec_l9Copy.F (n : Nat) : Pat.Ts spec_l9Copy.d.ps → Option TQuery := fun (a0, _) => spec_l9Copy n (TQuery.of a0)

def spec_l6Copy.d : FD TRow := ⟨173, 10, 1, [.ag (TRow.p .v)], [.ag (TRow.p .d)], fun (a0, _) => (TRow.of a0), fun r => (TRow.to r, ()), [.ag [.v, .v]], [.ag [.v, .o]], [.ag [.k, .own .d .int]], [.cell 2 113], [], [], [], []⟩
def spec_l6Copy.F (n : Nat) : Pat.Ts spec_l6Copy.d.ps → Option TRow := fun (a0, _) => spec_l6Copy n (TRow.of a0)

def spec_l6Rows.p4 : OD := ⟨[(0, .view .iRow), (3, .own .d .iRow), (4, .k)], [.sl .v .iRow, .rt 1, .i .i64], [.ext, .arr .d .iRow 2]⟩
def spec_l6Rows.o0 : OD := ⟨[(3, .own .d .iRow)], [.rt 1], [.ext, .arr .d .iRow 2]⟩
def spec_l6Rows.d : FD (List TRow) := ⟨156, 21, 1, [.sl .v .iRow], [.sl .d .iRow], fun (a0, _) => a0, fun r => (r, ()), [.v], [.o], [.own .d .iRow], [.tmp 2], [], [(4, spec_l6Rows.p4)], [], [(0, spec_l6Rows.o0)]⟩
def spec_l6Rows.F (n : Nat) : Pat.Ts spec_l6Rows.d.ps → Option (List TRow) := fun (a0, _) => spec_l6Rows n a0

def spec_l13Copy.d : FD TView := ⟨128, 14, 1, [.ag (TView.q1 .v)], [.ag (TView.q1 .d)], fun (a0, _) => (TView.of a0), fun r => (TView.to r, ()), [.ag [.v, .v, .v, .v, .v, .v, .v, .v, .v, .v, .v]], [.ag [.v, .o, .v, .v, .v, .o, .v, .v, .v, .o, .o]], [.ag [.k, .own .d .iCond, .k, .k, .k, .own .d .int, .k, .k, .k, .own .d .iRow, .own .d .iKid]], [.cell 2 45], [], [], [], []⟩
def spec_l13Copy.F (n : Nat) : Pat.Ts spec_l13Copy.d.ps → Option TView := fun (a0, _) => spec_l13Copy n (TView.of a0)

def spec_l16Copy.d : FD TSess := ⟨66, 16, 1, [.ag (TSess.q1 .v)], [.ag (TSess.q1 .d)], fun (a0, _) => (TSess.of a0), fun r => (TSess.to r, ()), [.ag [.v, .v, .v, .v, .v, .v, .v, .v, .v, .v, .v, .v, .v, .v, .v, .v, .v, .v, .v, .v, .v, .v, .v, .v, .v]], [.ag [.v, .o, .v, .v, .v, .o, .v, .v, .v, .o, .o, .v, .v, .o, .v, .v, .v, .o, .v, .v, .v, .o, .o, .v, .v]], [.ag [.k, .own .d .iCond, .k, .k, .k, .own .d .int, .k, .k, .k, .own .d .iRow, .own .d .iKid, .k, .k, .own .d .iCond, .k, .k, .k, .own .d .int, .k, .k, .k, .own .d .iRow, .own .d .iKid, .k, .k]], [.cell 2 47], [], [], [], []⟩
def spec_l16Copy.F (n : Nat) : Pat.Ts spec_l16Copy.d.ps → Option TSess := fun (a0, _) => spec_l16Copy n (TSess.of a0)

def spec_RowAt.p3 : OD := ⟨[(0, .view .iRow), (1, .k), (5, .k)], [.sl .v .iRow, .i .i64, .i .i64], [.ext]⟩
def spec_RowAt.o0 : OD := ⟨[], [], [.ext]⟩
def spec_RowAt.d : FD Int := ⟨89, 20, 1, [.sl .v .iRow, .i .i64], [.i .i64], fun (a0, _) => a0, fun r => (r, ()), [.v, .v], [.v], [.k], [.tmp 4], [], [(3, spec_RowAt.p3)], [], [(0, spec_RowAt.o0)]⟩
def spec_RowAt.F (n : Nat) : Pat.Ts spec_RowAt.d.ps → Option Int := fun (a0, a1, _) => spec_RowAt n a0 a1

def spec_RowDrop.p5 : OD := ⟨[(0, .view .iRow), (5, .k), (6, .own .d .iRow), (7, .k)], [.sl .v .iRow, .i .i64, .rt 1, .i .i64], [.ext, .arr .d .iRow 2]⟩
def spec_RowDrop.o0 : OD := ⟨[(6, .own .d .iRow)], [.rt 1], [.ext, .arr .d .iRow 2]⟩
def spec_RowDrop.d : FD (List TRow) := ⟨163, 30, 1, [.sl .v .iRow, .i .i64], [.sl .d .iRow], fun (a0, _) => a0, fun r => (r, ()), [.v, .v], [.o], [.own .d .iRow], [.tmp 4], [], [(5, spec_RowDrop.p5)], [], [(0, spec_RowDrop.o0)]⟩
def spec_RowDrop.F (n : Nat) : Pat.Ts spec_RowDrop.d.ps → Option (List TRow) := fun (a0, a1, _) => spec_RowDrop n a0 a1

def spec_l1In.d : FD Bool := ⟨42, 15, 1, (TCond.p .v), [.b], fun (a0, _) => a0, fun r => (r, ()), [.v, .v, .v], [.v], [.k], [.tmp 6], [], [], [], []⟩
def spec_l1In.F (n : Nat) : Pat.Ts spec_l1In.d.ps → Option Bool := fun (a0, a1, a2, _) => spec_l1In n a0 a1 a2

def spec_l9Holds.d : FD Bool := ⟨143, 46, 1, [.ag (TCond.p .v), .ag (TRow.p .v)], [.b], fun (a0, _) => a0, fun r => (r, ()), [.ag [.v, .v, .v], .ag [.v, .v]], [.v], [.k], [.tmp 4], [], [], [], []⟩
def spec_l9Holds.F (n : Nat) : Pat.Ts spec_l9Holds.d.ps → Option Bool := fun (a0, a1, _) => spec_l9Holds n (TCond.of a0) (TRow.of a1)

def spec_Matches.p3 : OD := ⟨[(2, .box [.k, .view .iCond, .k, .k, .k, .view .int, .k, .k, .k]), (3, .box [.k, .view .int]), (5, .k)], [.pb 1 0, .pb 2 0, .i .i64], [.ext, .box (TQuery.q1 .v), .box (TRow.p .v)]⟩
def spec_Matches.o0 : OD := ⟨[], [], [.ext]⟩
def spec_Matches.d : FD Bool := ⟨88, 21, 1, [.ag (TQuery.q1 .v), .ag (TRow.p .v)], [.b], fun (a0, _) => a0, fun r => (r, ()), [.ag [.v, .v, .v, .v, .v, .v, .v, .v, .v], .ag [.v, .v]], [.v], [.k], [.tmp 4], [], [(3, spec_Matches.p3)], [], [(0, spec_Matches.o0)]⟩
def spec_Matches.F (n : Nat) : Pat.Ts spec_Matches.d.ps → Option Bool := fun (a0, a1, _) => spec_Matches n (TQuery.of a0) (TRow.of a1)

def spec_l9Cell.d : FD Int := ⟨144, 17, 1, [.ag (TRow.p .v), .i .i64], [.i .i64], fun (a0, _) => a0, fun r => (r, ()), [.ag [.v, .v], .v], [.v], [.k], [.tmp 4], [], [], [], []⟩
def spec_l9Cell.F (n : Nat) : Pat.Ts spec_l9Cell.d.ps → Option Int := fun (a0, a1, _) => spec_l9Cell n (TRow.of a0) a1

def spec_Ahead.d : FD Bool := ⟨90, 36, 1, [.ag (TQuery.q1 .v), .ag (TRow.p .v), .ag (TRow.p .v)], [.b], fun (a0, _) => a0, fun r => (r, ()), [.ag [.v, .v, .v, .v, .v, .v, .v, .v, .v], .ag [.v, .v], .ag [.v, .v]], [.v], [.k], [.tmp 6], [], [], [], []⟩
def spec_Ahead.F (n : Nat) : Pat.Ts spec_Ahead.d.ps → Option Bool := fun (a0, a1, a2, _) => spec_Ahead n (TQuery.of a0) (TRow.of a1) (TRow.of a2)

def spec_l11Put.p5 : OD := ⟨[(1, .view .iRow), (3, .box [.k, .view .iCond, .k, .k, .k, .view .int, .k, .k, .k]), (5, .box [.k, .view .int]), (7, .own .s .iRow), (8, .k), (9, .k)], [.sl .v .iRow, .pb 1 0, .pb 2 0, .rt 3, .b, .i .i64], [.ext, .box (TQuery.q1 .v), .box (TRow.p .v), .arr .s .iRow 2]⟩
def spec_l11Put.o0 : OD := ⟨[(5, .box [.k, .view .int]), (7, .own .s .iRow), (8, .k)], [.pb 1 0, .rt 2, .b], [.ext, .box (TRow.p .v), .arr .s .iRow 2]⟩
def spec_l11Put.d : FD (List TRow) := ⟨164, 48, 1, [.ag (TQuery.q1 .v), .sl .v .iRow, .ag (TRow.p .v)], [.sl .s .iRow], fun (a0, _) => a0, fun r => (r, ()), [.ag [.v, .v, .v, .v, .v, .v, .v, .v, .v], .v, .ag [.v, .v]], [.o], [.own .s .iRow], [.tmp 6], [], [(5, spec_l11Put.p5)], [], [(0, spec_l11Put.o0)]⟩
def spec_l11Put.F (n : Nat) : Pat.Ts spec_l11Put.d.ps → Option (List TRow) := fun (a0, a1, a2, _) => spec_l11Put n (TQuery.of a0) a1 (TRow.of a2)

def spec_KidPut.p5 : OD := ⟨[(0, .view .iKid), (1, .k), (2, .k), (7, .own .d .iKid), (8, .k), (9, .k)], [.sl .v .iKid, .i .i64, .i .i64, .rt 1, .b, .i .i64], [.ext, .arr .d .iKid 2]⟩
def spec_KidPut.o0 : OD := ⟨[(1, .k), (2, .k), (7, .own .d .iKid), (8, .k)], [.i .i64, .i .i64, .rt 1, .b], [.ext, .arr .d .iKid 2]⟩
def spec_KidPut.d : FD (List TKid) := ⟨137, 69, 1, [.sl .v .iKid, .i .i64, .i .i64], [.sl .d .iKid], fun (a0, _) => a0, fun r => (r, ()), [.v, .v, .v], [.o], [.own .d .iKid], [.tmp 6], [], [(5, spec_KidPut.p5)], [], [(0, spec_KidPut.o0)]⟩
def spec_KidPut.F (n : Nat) : Pat.Ts spec_KidPut.d.ps → Option (List TKid) := fun (a0, a1, a2, _) => spec_KidPut n a0 a1 a2

def spec_ViewChange.d : FD TView := ⟨129, 76, 1, [.ag (TView.q1 .v), .ag (TChange.p .v)], [.ag [.i .i64, .sl .d .iCond, .i .i64, .b, .i .i64, .sl .d .int, .b, .i .i64, .i .i64, .sl .s .iRow, .sl .d .iKid]], fun (a0, _) => (TView.of a0), fun r => (TView.to r, ()), [.ag [.v, .v, .v, .v, .v, .v, .v, .v, .v, .v, .v], .ag [.v, .v, .v, .v, .v, .v, .v]], [.ag [.v, .o, .v, .v, .v, .o, .v, .v, .v, .o, .o]], [.ag [.k, .own .d .iCond, .k, .k, .k, .own .d .int, .k, .k, .k, .own .s .iRow, .own .d .iKid]], [.cell 4 45], [], [], [], []⟩
def spec_ViewChange.F (n : Nat) : Pat.Ts spec_ViewChange.d.ps → Option TView := fun (a0, a1, _) => spec_ViewChange n (TView.of a0) (TChange.of a1)

def spec_ViewChanges.p4 : OD := ⟨[(1, .view .iChange), (4, .box [.k, .k, .k, .k, .k, .k, .k, .k, .k, .k, .k]), (5, .box [.k, .own .d .iCond, .k, .k, .k, .own .d .int, .k, .k, .k, .own .s .iRow, .own .d .iKid]), (6, .k)], [.sl .v .iChange, .pb 1 0, .pb 2 0, .i .i64], [.ext, .box [.i .i64, .nils, .i .i64, .b, .i .i64, .nils, .b, .i .i64, .i .i64, .nils, .nils], .box [.i .i64, .rt 3, .i .i64, .b, .i .i64, .rt 4, .b, .i .i64, .i .i64, .rt 5, .rt 6], .arr .d .iCond 2, .arr .d .int 2, .arr .s .iRow 2, .arr .d .iKid 2]⟩
def spec_ViewChanges.o0 : OD := ⟨[(4, .box [.k, .k, .k, .k, .k, .k, .k, .k, .k, .k, .k]), (5, .box [.k, .own .d .iCond, .k, .k, .k, .own .d .int, .k, .k, .k, .own .s .iRow, .own .d .iKid])], [.pb 1 0, .pb 2 0], [.ext, .box [.i .i64, .nils, .i .i64, .b, .i .i64, .nils, .b, .i .i64, .i .i64, .nils, .nils], .box [.i .i64, .rt 3, .i .i64, .b, .i .i64, .rt 4, .b, .i .i64, .i .i64, .rt 5, .rt 6], .arr .d .iCond 2, .arr .d .int 2, .arr .s .iRow 2, .arr .d .iKid 2]⟩
def spec_ViewChanges.d : FD TView := ⟨67, 22, 1, [.ag (TView.q1 .v), .sl .v .iChange], [.ag [.i .i64, .sl .d .iCond, .i .i64, .b, .i .i64, .sl .d .int, .b, .i .i64, .i .i64, .sl .s .iRow, .sl .d .iKid]], fun (a0, _) => (TView.of a0), fun r => (TView.to r, ()), [.ag [.v, .v, .v, .v, .v, .v, .v, .v, .v, .v, .v], .v], [.ag [.v, .o, .v, .v, .v, .o, .v, .v, .v, .o, .o]], [.ag [.k, .own .d .iCond, .k, .k, .k, .own .d .int, .k, .k, .k, .own .s .iRow, .own .d .iKid]], [.cell 4 45], [], [(4, spec_ViewChanges.p4)], [], [(0, spec_ViewChanges.o0)]⟩
def spec_ViewChanges.F (n : Nat) : Pat.Ts spec_ViewChanges.d.ps → Option TView := fun (a0, a1, _) => spec_ViewChanges n (TView.of a0) a1

def spec_SessGo.d : FD TSess := ⟨22, 18, 1, [.ag (TSess.q1 .v), .sl .v .iChange], [.ag [.i .i64, .sl .d .iCond, .i .i64, .b, .i .i64, .sl .d .int, .b, .i .i64, .i .i64, .sl .s .iRow, .sl .d .iKid, .i .i64, .i .i64, .sl .d .iCond, .i .i64, .b, .i .i64, .sl .d .int, .b, .i .i64, .i .i64, .sl .d .iRow, .sl .d .iKid, .i .i64, .b]], fun (a0, _) => (TSess.of a0), fun r => (TSess.to r, ()), [.ag [.v, .v, .v, .v, .v, .v, .v, .v, .v, .v, .v, .v, .v, .v, .v, .v, .v, .v, .v, .v, .v, .v, .v, .v, .v], .v], [.ag [.v, .o, .v, .v, .v, .o, .v, .v, .v, .o, .o, .v, .v, .o, .v, .v, .v, .o, .v, .v, .v, .o, .o, .v, .v]], [.ag [.k, .own .d .iCond, .k, .k, .k, .own .d .int, .k, .k, .k, .own .s .iRow, .own .d .iKid, .k, .k, .own .d .iCond, .k, .k, .k, .own .d .int, .k, .k, .k, .own .d .iRow, .own .d .iKid, .k, .k]], [.cell 4 47], [], [], [], []⟩
def spec_SessGo.F (n : Nat) : Pat.Ts spec_SessGo.d.ps → Option TSess := fun (a0, a1, _) => spec_SessGo n (TSess.of a0) a1

def impl_copyInts.d : FD (List Int) := ⟨112, 6, 1, [.sl .v .int], [.sl .d .int], fun (a0, _) => a0, fun r => (r, ()), [.v], [.o], [.own .d .int], [.tmp 2], [], [], [], []⟩
def impl_copyInts.F (n : Nat) : Pat.Ts impl_copyInts.d.ps → Option (List Int) := fun (a0, _) => impl_copyInts n a0

def impl_copyQuery.d : FD TQuery := ⟨139, 13, 1, [.ag (TQuery.q1 .v)], [.ag (TQuery.q1 .d)], fun (a0, _) => (TQuery.of a0), fun r => (TQuery.to r, ()), [.ag [.v, .v, .v, .v, .v, .v, .v, .v, .v]], [.ag [.v, .o, .v, .v, .v, .o, .v, .v, .v]], [.ag [.k, .own .d .iCond, .k, .k, .k, .own .d .int, .k, .k, .k]], [.cell 2 41], [], [], [], []⟩
def impl_copyQuery.F (n : Nat) : Pat.Ts impl_copyQuery.d.ps → Option TQuery := fun (a0, _) => impl_copyQuery n (TQuery.of a0)

def impl_copyRow.d : FD TRow := ⟨168, 9, 1, [.ag (TRow.p .v)], [.ag (TRow.p .d)], fun (a0, _) => (TRow.of a0), fun r => (TRow.to r, ()), [.ag [.v, .v]], [.ag [.v, .o]], [.ag [.k, .own .d .int]], [.cell 2 113], [], [], [], []⟩
def impl_copyRow.F (n : Nat) : Pat.Ts impl_copyRow.d.ps → Option TRow := fun (a0, _) => impl_copyRow n (TRow.of a0)

def impl_copyRows.p4 : OD := ⟨[(3, .own .d .iRow), (7, .view .iRow), (8, .k), (9, .k)], [.rt 1, .sl .v .iRow, .i .i64, .i .i64], [.ext, .arr .d .iRow 2]⟩
def impl_copyRows.o0 : OD := ⟨[(3, .own .d .iRow)], [.rt 1], [.ext, .arr .d .iRow 2]⟩
def impl_copyRows.d : FD (List TRow) := ⟨165, 20, 1, [.sl .v .iRow], [.sl .d .iRow], fun (a0, _) => a0, fun r => (r, ()), [.v], [.o], [.own .d .iRow], [.tmp 2], [], [(4, impl_copyRows.p4)], [], [(0, impl_copyRows.o0)]⟩
def impl_copyRows.F (n : Nat) : Pat.Ts impl_copyRows.d.ps → Option (List TRow) := fun (a0, _) => impl_copyRows n a0

def impl_copyView.d : FD TView := ⟨131, 14, 1, [.ag (TView.q1 .v)], [.ag (TView.q1 .d)], fun (a0, _) => (TView.of a0), fun r => (TView.to r, ()), [.ag [.v, .v, .v, .v, .v, .v, .v, .v, .v, .v, .v]], [.ag [.v, .o, .v, .v, .v, .o, .v, .v, .v, .o, .o]], [.ag [.k, .own .d .iCond, .k, .k, .k, .own .d .int, .k, .k, .k, .own .d .iRow, .own .d .iKid]], [.cell 2 45], [], [], [], []⟩
def impl_copyView.F (n : Nat) : Pat.Ts impl_copyView.d.ps → Option TView := fun (a0, _) => impl_copyView n (TView.of a0)

def impl_copySess.d : FD TSess := ⟨69, 12, 1, [.ag (TSess.q1 .v)], [.ag (TSess.q1 .d)], fun (a0, _) => (TSess.of a0), fun r => (TSess.to r, ()), [.ag [.v, .v, .v, .v, .v, .v, .v, .v, .v, .v, .v, .v, .v, .v, .v, .v, .v, .v, .v, .v, .v, .v, .v, .v, .v]], [.ag [.v, .o, .v, .v, .v, .o, .v, .v, .v, .o, .o, .v, .v, .o, .v, .v, .v, .o, .v, .v, .v, .o, .o, .v, .v]], [.ag [.k, .own .d .iCond, .k, .k, .k, .own .d .int, .k, .k, .k, .own .d .iRow, .own .d .iKid, .k, .k, .own .d .iCond, .k, .k, .k, .own .d .int, .k, .k, .k, .own .d .iRow, .own .d .iKid, .k, .k]], [.cell 2 47], [], [], [], []⟩
def impl_copySess.F (n : Nat) : Pat.Ts impl_copySess.d.ps → Option TSess := fun (a0, _) => impl_copySess n (TSess.of a0)

def impl_RowAt_f1.d : FD Bool := ⟨153, 8, 1, [.ag (TRow.p .v), .pc [.i .i64] 0], [.b], fun (a0, _) => a0, fun r => (r, ()), [.ag [.v, .v], .v], [.v], [.k], [.tmp 3], [], [], [], []⟩
def impl_RowAt_f1.F (n : Nat) : Pat.Ts impl_RowAt_f1.d.ps → Option Bool := fun (a0, (a1, _), _) => impl_RowAt_f1 n (TRow.of a0) a1

def slices_IndexFunc_Row_impl_RowAt_f1.p3 : OD := ⟨[(0, .view .iRow), (1, .k), (7, .k), (8, .k)], [.sl .v .iRow, .clo 153 [.pc [.i .i64] 0], .i .i64, .i .i64], [.ext]⟩
def slices_IndexFunc_Row_impl_RowAt_f1.o0 : OD := ⟨[], [], [.ext]⟩
def slices_IndexFunc_Row_impl_RowAt_f1.d : FD Int := ⟨152, 19, 1, [.sl .v .iRow, .clo 153 [.pc [.i .i64] 0]], [.i .i64], fun (a0, _) => a0, fun r => (r, ()), [.v, .v], [.v], [.k], [.tmp 4], [], [(3, slices_IndexFunc_Row_impl_RowAt_f1.p3)], [], [(0, slices_IndexFunc_Row_impl_RowAt_f1.o0)]⟩
def slices_IndexFunc_Row_impl_RowAt_f1.F (n : Nat) : Pat.Ts slices_IndexFunc_Row_impl_RowAt_f1.d.ps → Option Int := fun (a0, ((a1, _), _), _) => slices_IndexFunc_Row_impl_RowAt_f1 n a0 a1

def impl_RowAt.d : FD Int := ⟨100, 8, 1, [.sl .v .iRow, .i .i64], [.i .i64], fun (a0, _) => a0, fun r => (r, ()), [.v, .v], [.v], [.k], [.tmp 4], [], [], [], []⟩
def impl_RowAt.F (n : Nat) : Pat.Ts impl_RowAt.d.ps → Option Int := fun (a0, a1, _) => impl_RowAt n a0 a1

def slices_Delete_Row.d : FD (List TRow) := ⟨174, 33, 1, [.sl .d .iRow, .i .i64, .i .i64], [.sl .d .iRow], fun (a0, _) => a0, fun r => (r, ()), [.o, .v, .v], [], [], [.tmp 6], [], [], [], []⟩
def slices_Delete_Row.F (n : Nat) : Pat.Ts slices_Delete_Row.d.ps → Option (List TRow) := fun (a0, a1, a2, _) => slices_Delete_Row n a0 a1 a2

def impl_RowDrop.d : FD (List TRow) := ⟨166, 20, 1, [.sl .v .iRow, .i .i64], [.sl .d .iRow], fun (a0, _) => a0, fun r => (r, ()), [.v, .v], [.o], [.own .d .iRow], [.tmp 4], [], [], [], []⟩
def impl_RowDrop.F (n : Nat) : Pat.Ts impl_RowDrop.d.ps → Option (List TRow) := fun (a0, a1, _) => impl_RowDrop n a0 a1

def impl_within.d : FD Bool := ⟨51, 15, 1, (TCond.p .v), [.b], fun (a0, _) => a0, fun r => (r, ()), [.v, .v, .v], [.v], [.k], [.tmp 6], [], [], [], []⟩
def impl_within.F (n : Nat) : Pat.Ts impl_within.d.ps → Option Bool := fun (a0, a1, a2, _) => impl_within n a0 a1 a2

def impl_holds.d : FD Bool := ⟨150, 49, 1, [.ag (TCond.p .v), .ag (TRow.p .v)], [.b], fun (a0, _) => a0, fun r => (r, ()), [.ag [.v, .v, .v], .ag [.v, .v]], [.v], [.k], [.tmp 4], [], [], [], []⟩
def impl_holds.F (n : Nat) : Pat.Ts impl_holds.d.ps → Option Bool := fun (a0, a1, _) => impl_holds n (TCond.of a0) (TRow.of a1)

def impl_Matches.p3 : OD := ⟨[(3, .box [.k, .view .int]), (8, .view .iCond), (9, .k), (10, .k)], [.pb 1 0, .sl .v .iCond, .i .i64, .i .i64], [.ext, .box (TRow.p .v)]⟩
def impl_Matches.o0 : OD := ⟨[], [], [.ext]⟩
def impl_Matches.d : FD Bool := ⟨98, 19, 1, [.ag (TQuery.q1 .v), .ag (TRow.p .v)], [.b], fun (a0, _) => a0, fun r => (r, ()), [.ag [.v, .v, .v, .v, .v, .v, .v, .v, .v], .ag [.v, .v]], [.v], [.k], [.tmp 4], [], [(3, impl_Matches.p3)], [], [(0, impl_Matches.o0)]⟩
def impl_Matches.F (n : Nat) : Pat.Ts impl_Matches.d.ps → Option Bool := fun (a0, a1, _) => impl_Matches n (TQuery.of a0) (TRow.of a1)

def impl_cellOf.d : FD Int := ⟨151, 17, 1, [.ag (TRow.p .v), .i .i64], [.i .i64], fun (a0, _) => a0, fun r => (r, ()), [.ag [.v, .v], .v], [.v], [.k], [.tmp 4], [], [], [], []⟩
def impl_cellOf.F (n : Nat) : Pat.Ts impl_cellOf.d.ps → Option Int := fun (a0, a1, _) => impl_cellOf n (TRow.of a0) a1

def impl_Ahead.d : FD Bool := ⟨99, 45, 1, [.ag (TQuery.q1 .v), .ag (TRow.p .v), .ag (TRow.p .v)], [.b], fun (a0, _) => a0, fun r => (r, ()), [.ag [.v, .v, .v, .v, .v, .v, .v, .v, .v], .ag [.v, .v], .ag [.v, .v]], [.v], [.k], [.tmp 6], [], [], [], []⟩
def impl_Ahead.F (n : Nat) : Pat.Ts impl_Ahead.d.ps → Option Bool := fun (a0, a1, a2, _) => impl_Ahead n (TQuery.of a0) (TRow.of a1) (TRow.of a2)

def impl_rowPut_f1.d : FD Bool := ⟨175, 9, 1, [.ag (TRow.p .v), .pc (TQuery.q1 .v) 0, .pc (TRow.p .v) 0], [.b], fun (a0, _) => a0, fun r => (r, ()), [.ag [.v, .v], .v, .v], [.v], [.k], [.tmp 4], [], [], [], []⟩
def impl_rowPut_f1.F (n : Nat) : Pat.Ts impl_rowPut_f1.d.ps → Option Bool := fun (a0, (a1, a2, a3, a4, a5, a6, a7, a8, a9, _), (a10, a11, _), _) => impl_rowPut_f1 n (TRow.of a0) a1 a2 a3 a4 a5 a6 a7 a8 a9 a10 a11

def slices_IndexFunc_Row_impl_rowPut_f1.p3 : OD := ⟨[(0, .view .iRow), (1, .k), (7, .k), (8, .k)], [.sl .v .iRow, .clo 175 [.pc (TQuery.q1 .v) 0, .pc (TRow.p .v) 0], .i .i64, .i .i64], [.ext]⟩
def slices_IndexFunc_Row_impl_rowPut_f1.o0 : OD := ⟨[], [], [.ext]⟩
def slices_IndexFunc_Row_impl_rowPut_f1.d : FD Int := ⟨152, 19, 1, [.sl .v .iRow, .clo 175 [.pc (TQuery.q1 .v) 0, .pc (TRow.p .v) 0]], [.i .i64], fun (a0, _) => a0, fun r => (r, ()), [.v, .v], [.v], [.k], [.tmp 4], [], [(3, slices_IndexFunc_Row_impl_rowPut_f1.p3)], [], [(0, slices_IndexFunc_Row_impl_rowPut_f1.o0)]⟩
def slices_IndexFunc_Row_impl_rowPut_f1.F (n : Nat) : Pat.Ts slices_IndexFunc_Row_impl_rowPut_f1.d.ps → Option Int := fun (a0, ((a1, a2, a3, a4, a5, a6, a7, a8, a9, _), (a10, a11, _), _), _) => slices_IndexFunc_Row_impl_rowPut_f1 n a0 a1 a2 a3 a4 a5 a6 a7 a8 a9 a10 a11

def slices_Insert_Row.d : FD (List TRow) := ⟨176, 95, 1, [.sl .d .iRow, .i .i64, .sl .d .iRow], [.sl .d .iRow], fun (a0, _) => a0, fun r => (r, ()), [.o, .v, .o], [], [], [.tmp 6], [], [], [], []⟩
def slices_Insert_Row.F (n : Nat) : Pat.Ts slices_Insert_Row.d.ps → Option (List TRow) := fun (a0, a1, a2, _) => slices_Insert_Row n a0 a1 a2

def impl_rowPut.d : FD (List TRow) := ⟨167, 22, 1, [.ag (TQuery.q1 .v), .sl .v .iRow, .ag (TRow.p .v)], [.sl .d .iRow], fun (a0, _) => a0, fun r => (r, ()), [.ag [.v, .v, .v, .v, .v, .v, .v, .v, .v], .v, .ag [.v, .v]], [.o], [.own .d .iRow], [.tmp 6], [], [], [], []⟩
def impl_rowPut.F (n : Nat) : Pat.Ts impl_rowPut.d.ps → Option (List TRow) := fun (a0, a1, a2, _) => impl_rowPut n (TQuery.of a0) a1 (TRow.of a2)

def slices_Insert_Kid.d : FD (List TKid) := ⟨171, 95, 1, [.sl .d .iKid, .i .i64, .sl .d .iKid], [.sl .d .iKid], fun (a0, _) => a0, fun r => (r, ()), [.o, .v, .o], [], [], [.tmp 6], [], [], [], []⟩
def slices_Insert_Kid.F (n : Nat) : Pat.Ts slices_Insert_Kid.d.ps → Option (List TKid) := fun (a0, a1, a2, _) => slices_Insert_Kid n a0 a1 a2

def slices_Delete_Kid.d : FD (List TKid) := ⟨172, 33, 1, [.sl .d .iKid, .i .i64, .i .i64], [.sl .d .iKid], fun (a0, _) => a0, fun r => (r, ()), [.o, .v, .v], [], [], [.tmp 6], [], [], [], []⟩
def slices_Delete_Kid.F (n : Nat) : Pat.Ts slices_Delete_Kid.d.ps → Option (List TKid) := fun (a0, a1, a2, _) => slices_Delete_Kid n a0 a1 a2

def impl_KidPut.p4 : OD := ⟨[(1, .k), (2, .k), (7, .own .d .iKid), (8, .k)], [.i .i64, .i .i64, .rt 1, .i .i64], [.ext, .arr .d .iKid 2]⟩
def impl_KidPut.o0 : OD := ⟨[(1, .k), (2, .k), (7, .own .d .iKid), (8, .k)], [.i .i64, .i .i64, .rt 1, .i .i64], [.ext, .arr .d .iKid 2]⟩
def impl_KidPut.d : FD (List TKid) := ⟨141, 71, 1, [.sl .v .iKid, .i .i64, .i .i64], [.sl .d .iKid], fun (a0, _) => a0, fun r => (r, ()), [.v, .v, .v], [.o], [.own .d .iKid], [.tmp 6], [], [(4, impl_KidPut.p4)], [], [(0, impl_KidPut.o0)]⟩
def impl_KidPut.F (n : Nat) : Pat.Ts impl_KidPut.d.ps → Option (List TKid) := fun (a0, a1, a2, _) => impl_KidPut n a0 a1 a2

def impl_ViewChange.d : FD TView := ⟨132, 76, 1, [.ag (TView.q1 .v), .ag (TChange.p .v)], [.ag (TView.q1 .d)], fun (a0, _) => (TView.of a0), fun r => (TView.to r, ()), [.ag [.v, .v, .v, .v, .v, .v, .v, .v, .v, .v, .v], .ag [.v, .v, .v, .v, .v, .v, .v]], [.ag [.v, .o, .v, .v, .v, .o, .v, .v, .v, .o, .o]], [.ag [.k, .own .d .iCond, .k, .k, .k, .own .d .int, .k, .k, .k, .own .d .iRow, .own .d .iKid]], [.cell 4 45], [], [], [], []⟩
def impl_ViewChange.F (n : Nat) : Pat.Ts impl_ViewChange.d.ps → Option TView := fun (a0, a1, _) => impl_ViewChange n (TView.of a0) (TChange.of a1)

def impl_ViewChanges.p4 : OD := ⟨[(4, .box [.k, .k, .k, .k, .k, .k, .k, .k, .k, .k, .k]), (5, .box [.k, .own .d .iCond, .k, .k, .k, .own .d .int, .k, .k, .k, .own .d .iRow, .own .d .iKid]), (10, .view .iChange), (11, .k), (12, .k)], [.pb 1 0, .pb 2 0, .sl .v .iChange, .i .i64, .i .i64], [.ext, .box [.i .i64, .nils, .i .i64, .b, .i .i64, .nils, .b, .i .i64, .i .i64, .nils, .nils], .box [.i .i64, .rt 3, .i .i64, .b, .i .i64, .rt 4, .b, .i .i64, .i .i64, .rt 5, .rt 6], .arr .d .iCond 2, .arr .d .int 2, .arr .d .iRow 2, .arr .d .iKid 2]⟩
def impl_ViewChanges.o0 : OD := ⟨[(4, .box [.k, .k, .k, .k, .k, .k, .k, .k, .k, .k, .k]), (5, .box [.k, .own .d .iCond, .k, .k, .k, .own .d .int, .k, .k, .k, .own .d .iRow, .own .d .iKid])], [.pb 1 0, .pb 2 0], [.ext, .box [.i .i64, .nils, .i .i64, .b, .i .i64, .nils, .b, .i .i64, .i .i64, .nils, .nils], .box [.i .i64, .rt 3, .i .i64, .b, .i .i64, .rt 4, .b, .i .i64, .i .i64, .rt 5, .rt 6], .arr .d .iCond 2, .arr .d .int 2, .arr .d .iRow 2, .arr .d .iKid 2]⟩
def impl_ViewChanges.d : FD TView := ⟨70, 21, 1, [.ag (TView.q1 .v), .sl .v .iChange], [.ag (TView.q1 .d)], fun (a0, _) => (TView.of a0), fun r => (TView.to r, ()), [.ag [.v, .v, .v, .v, .v, .v, .v, .v, .v, .v, .v], .v], [.ag [.v, .o, .v, .v, .v, .o, .v, .v, .v, .o, .o]], [.ag [.k, .own .d .iCond, .k, .k, .k, .own .d .int, .k, .k, .k, .own .d .iRow, .own .d .iKid]], [.cell 4 45], [], [(4, impl_ViewChanges.p4)], [], [(0, impl_ViewChanges.o0)]⟩
def impl_ViewChanges.F (n : Nat) : Pat.Ts impl_ViewChanges.d.ps → Option TView := fun (a0, a1, _) => impl_ViewChanges n (TView.of a0) a1

def impl_SessGo.d : FD TSess := ⟨24, 18, 1, [.ag (TSess.q1 .v), .sl .v .iChange], [.ag (TSess.q1 .d)], fun (a0, _) => (TSess.of a0), fun r => (TSess.to r, ()), [.ag [.v, .v, .v, .v, .v, .v, .v, .v, .v, .v, .v, .v, .v, .v, .v, .v, .v, .v, .v, .v, .v, .v, .v, .v, .v], .v], [.ag [.v, .o, .v, .v, .v, .o, .v, .v, .v, .o, .o, .v, .v, .o, .v, .v, .v, .o, .v, .v, .v, .o, .o, .v, .v]], [.ag [.k, .own .d .iCond, .k, .k, .k, .own .d .int, .k, .k, .k, .own .d .iRow, .own .d .iKid, .k, .k, .own .d .iCond, .k, .k, .k, .own .d .int, .k, .k, .k, .own .d .iRow, .own .d .iKid, .k, .k]], [.cell 4 47], [], [], [], []⟩
def impl_SessGo.F (n : Nat) : Pat.Ts impl_SessGo.d.ps → Option TSess := fun (a0, a1, _) => impl_SessGo n (TSess.of a0) a1

def laws_eqCond.d : FD Bool := ⟨142, 20, 1, [.ag (TCond.p .v), .ag (TCond.p .v)], [.b], fun (a0, _) => a0, fun r => (r, ()), [.ag [.v, .v, .v], .ag [.v, .v, .v]], [.v], [.k], [.tmp 4], [], [], [], []⟩
def laws_eqCond.F (n : Nat) : Pat.Ts laws_eqCond.d.ps → Option Bool := fun (a0, a1, _) => laws_eqCond n (TCond.of a0) (TCond.of a1)

def laws_eqCondS.p6 : OD := ⟨[(0, .view .iCond), (1, .view .iCond), (5, .k)], [.sl .v .iCond, .sl .v .iCond, .i .i64], [.ext]⟩
def laws_eqCondS.o0 : OD := ⟨[], [], [.ext]⟩
def laws_eqCondS.d : FD Bool := ⟨81, 27, 1, [.sl .v .iCond, .sl .v .iCond], [.b], fun (a0, _) => a0, fun r => (r, ()), [.v, .v], [.v], [.k], [.tmp 4], [], [(6, laws_eqCondS.p6)], [], [(0, laws_eqCondS.o0)]⟩
def laws_eqCondS.F (n : Nat) : Pat.Ts laws_eqCondS.d.ps → Option Bool := fun (a0, a1, _) => laws_eqCondS n a0 a1

def laws_eqIntS.p6 : OD := ⟨[(0, .view .int), (1, .view .int), (5, .k)], [.sl .v .int, .sl .v .int, .i .i64], [.ext]⟩
def laws_eqIntS.o0 : OD := ⟨[], [], [.ext]⟩
def laws_eqIntS.d : FD Bool := ⟨52, 26, 1, [.sl .v .int, .sl .v .int], [.b], fun (a0, _) => a0, fun r => (r, ()), [.v, .v], [.v], [.k], [.tmp 4], [], [(6, laws_eqIntS.p6)], [], [(0, laws_eqIntS.o0)]⟩
def laws_eqIntS.F (n : Nat) : Pat.Ts laws_eqIntS.d.ps → Option Bool := fun (a0, a1, _) => laws_eqIntS n a0 a1

def laws_eqQuery.d : FD Bool := ⟨36, 52, 1, [.ag (TQuery.q1 .v), .ag (TQuery.q1 .v)], [.b], fun (a0, _) => a0, fun r => (r, ()), [.ag [.v, .v, .v, .v, .v, .v, .v, .v, .v], .ag [.v, .v, .v, .v, .v, .v, .v, .v, .v]], [.v], [.k], [.tmp 4], [], [], [], []⟩
def laws_eqQuery.F (n : Nat) : Pat.Ts laws_eqQuery.d.ps → Option Bool := fun (a0, a1, _) => laws_eqQuery n (TQuery.of a0) (TQuery.of a1)

def laws_eqRow.d : FD Bool := ⟨133, 16, 1, [.ag (TRow.p .v), .ag (TRow.p .v)], [.b], fun (a0, _) => a0, fun r => (r, ()), [.ag [.v, .v], .ag [.v, .v]], [.v], [.k], [.tmp 4], [], [], [], []⟩
def laws_eqRow.F (n : Nat) : Pat.Ts laws_eqRow.d.ps → Option Bool := fun (a0, a1, _) => laws_eqRow n (TRow.of a0) (TRow.of a1)

def laws_eqRowS.p6 : OD := ⟨[(0, .view .iRow), (1, .view .iRow), (5, .k)], [.sl .v .iRow, .sl .v .iRow, .i .i64], [.ext]⟩
def laws_eqRowS.o0 : OD := ⟨[], [], [.ext]⟩
def laws_eqRowS.d : FD Bool := ⟨106, 27, 1, [.sl .v .iRow, .sl .v .iRow], [.b], fun (a0, _) => a0, fun r => (r, ()), [.v, .v], [.v], [.k], [.tmp 4], [], [(6, laws_eqRowS.p6)], [], [(0, laws_eqRowS.o0)]⟩
def laws_eqRowS.F (n : Nat) : Pat.Ts laws_eqRowS.d.ps → Option Bool := fun (a0, a1, _) => laws_eqRowS n a0 a1

def laws_eqKid.d : FD Bool := ⟨154, 15, 1, [.ag (TKid.p .v), .ag (TKid.p .v)], [.b], fun (a0, _) => a0, fun r => (r, ()), [.ag [.v, .v], .ag [.v, .v]], [.v], [.k], [.tmp 4], [], [], [], []⟩
def laws_eqKid.F (n : Nat) : Pat.Ts laws_eqKid.d.ps → Option Bool := fun (a0, a1, _) => laws_eqKid n (TKid.of a0) (TKid.of a1)

def laws_eqKidS.p6 : OD := ⟨[(0, .view .iKid), (1, .view .iKid), (5, .k)], [.sl .v .iKid, .sl .v .iKid, .i .i64], [.ext]⟩
def laws_eqKidS.o0 : OD := ⟨[], [], [.ext]⟩
def laws_eqKidS.d : FD Bool := ⟨107, 27, 1, [.sl .v .iKid, .sl .v .iKid], [.b], fun (a0, _) => a0, fun r => (r, ()), [.v, .v], [.v], [.k], [.tmp 4], [], [(6, laws_eqKidS.p6)], [], [(0, laws_eqKidS.o0)]⟩
def laws_eqKidS.F (n : Nat) : Pat.Ts laws_eqKidS.d.ps → Option Bool := fun (a0, a1, _) => laws_eqKidS n a0 a1

def laws_eqView.d : FD Bool := ⟨53, 23, 1, [.ag (TView.q1 .v), .ag (TView.q1 .v)], [.b], fun (a0, _) => a0, fun r => (r, ()), [.ag [.v, .v, .v, .v, .v, .v, .v, .v, .v, .v, .v], .ag [.v, .v, .v, .v, .v, .v, .v, .v, .v, .v, .v]], [.v], [.k], [.tmp 4], [], [], [], []⟩
def laws_eqView.F (n : Nat) : Pat.Ts laws_eqView.d.ps → Option Bool := fun (a0, a1, _) => laws_eqView n (TView.of a0) (TView.of a1)

def laws_eqSess.d : FD Bool := ⟨14, 32, 1, [.ag (TSess.q1 .v), .ag (TSess.q1 .v)], [.b], fun (a0, _) => a0, fun r => (r, ()), [.ag [.v, .v, .v, .v, .v, .v, .v, .v, .v, .v, .v, .v, .v, .v, .v, .v, .v, .v, .v, .v, .v, .v, .v, .v, .v], .ag [.v, .v, .v, .v, .v, .v, .v, .v, .v, .v, .v, .v, .v, .v, .v, .v, .v, .v, .v, .v, .v, .v, .v, .v, .v]], [.v], [.k], [.tmp 4], [], [], [], []⟩
def laws_eqSess.F (n : Nat) : Pat.Ts laws_eqSess.d.ps → Option Bool := fun (a0, a1, _) => laws_eqSess n (TSess.of a0) (TSess.of a1)

def laws_eqChange.d : FD Bool := ⟨71, 32, 1, [.ag (TChange.p .v), .ag (TChange.p .v)], [.b], fun (a0, _) => a0, fun r => (r, ()), [.ag [.v, .v, .v, .v, .v, .v, .v], .ag [.v, .v, .v, .v, .v, .v, .v]], [.v], [.k], [.tmp 4], [], [], [], []⟩
def laws_eqChange.F (n : Nat) : Pat.Ts laws_eqChange.d.ps → Option Bool := fun (a0, a1, _) => laws_eqChange n (TChange.of a0) (TChange.of a1)

def laws_eqChangeS.p6 : OD := ⟨[(0, .view .iChange), (1, .view .iChange), (5, .k)], [.sl .v .iChange, .sl .v .iChange, .i .i64], [.ext]⟩
def laws_eqChangeS.o0 : OD := ⟨[], [], [.ext]⟩
def laws_eqChangeS.d : FD Bool := ⟨25, 27, 1, [.sl .v .iChange, .sl .v .iChange], [.b], fun (a0, _) => a0, fun r => (r, ()), [.v, .v], [.v], [.k], [.tmp 4], [], [(6, laws_eqChangeS.p6)], [], [(0, laws_eqChangeS.o0)]⟩
def laws_eqChangeS.F (n : Nat) : Pat.Ts laws_eqChangeS.d.ps → Option Bool := fun (a0, a1, _) => laws_eqChangeS n a0 a1

def laws_markCondS.p3 : OD := ⟨[(0, .own .d .iCond), (1, .k), (5, .k)], [.rt 1, .i .i64, .i .i64], [.ext, .arr .d .iCond 2]⟩
def laws_markCondS.o0 : OD := ⟨[(1, .k)], [.i .i64], [.ext, .arr .d .iCond 2]⟩
def laws_markCondS.d : FD (Int × (List TCond)) := ⟨83, 34, 2, [.sl .d .iCond, .i .i64], [.i .i64, .sl .d .iCond], fun (a0, a1, _) => (a0, a1), fun (a0, a1) => (a0, a1, ()), [.mu, .v], [.v, .o], [.k, .own .d .iCond], [.tmp 4], [.rt 1], [(3, laws_markCondS.p3)], [], [(0, laws_markCondS.o0)]⟩
def laws_markCondS.F (n : Nat) : Pat.Ts laws_markCondS.d.ps → Option (Int × (List TCond)) := fun (a0, a1, _) => laws_markCondS n a0 a1

def laws_markIntS.p3 : OD := ⟨[(0, .own .d .int), (1, .k), (5, .k)], [.rt 1, .i .i64, .i .i64], [.ext, .arr .d .int 2]⟩
def laws_markIntS.o0 : OD := ⟨[(1, .k)], [.i .i64], [.ext, .arr .d .int 2]⟩
def laws_markIntS.d : FD (Int × (List Int)) := ⟨60, 19, 2, [.sl .d .int, .i .i64], (TRow.p .d), fun (a0, a1, _) => (a0, a1), fun (a0, a1) => (a0, a1, ()), [.mu, .v], [.v, .o], [.k, .own .d .int], [.tmp 4], [.rt 1], [(3, laws_markIntS.p3)], [], [(0, laws_markIntS.o0)]⟩
def laws_markIntS.F (n : Nat) : Pat.Ts laws_markIntS.d.ps → Option (Int × (List Int)) := fun (a0, a1, _) => laws_markIntS n a0 a1

def laws_markQuery.d : FD (Int × (List TCond) × (List Int)) := ⟨38, 14, 3, [.ag (TQuery.q1 .d), .i .i64], [.i .i64, .sl .d .iCond, .sl .d .int], fun (a0, a1, a2, _) => (a0, a1, a2), fun (a0, a1, a2) => (a0, a1, a2, ()), [.ag [.v, .mu, .v, .v, .v, .mu, .v, .v, .v], .v], [.v, .o, .o], [.k, .own .d .iCond, .own .d .int], [.tmp 4], [.rt 1, .rt 2], [], [], []⟩
def laws_markQuery.F (n : Nat) : Pat.Ts laws_markQuery.d.ps → Option (Int × (List TCond) × (List Int)) := fun (a0, a1, _) => laws_markQuery n (TQuery.of a0) a1

def laws_markRowS.p3 : OD := ⟨[(0, .own .d .iRow), (1, .k), (5, .k)], [.rt 1, .i .i64, .i .i64], [.ext, .arr .d .iRow 2]⟩
def laws_markRowS.o0 : OD := ⟨[(1, .k)], [.i .i64], [.ext, .arr .d .iRow 2]⟩
def laws_markRowS.d : FD (Int × (List TRow)) := ⟨118, 27, 2, [.sl .d .iRow, .i .i64], [.i .i64, .sl .d .iRow], fun (a0, a1, _) => (a0, a1), fun (a0, a1) => (a0, a1, ()), [.mu, .v], [.v, .o], [.k, .own .d .iRow], [.tmp 4], [.rt 1], [(3, laws_markRowS.p3)], [], [(0, laws_markRowS.o0)]⟩
def laws_markRowS.F (n : Nat) : Pat.Ts laws_markRowS.d.ps → Option (Int × (List TRow)) := fun (a0, a1, _) => laws_markRowS n a0 a1

def laws_markKidS.p3 : OD := ⟨[(0, .own .d .iKid), (1, .k), (5, .k)], [.rt 1, .i .i64, .i .i64], [.ext, .arr .d .iKid 2]⟩
def laws_markKidS.o0 : OD := ⟨[(1, .k)], [.i .i64], [.ext, .arr .d .iKid 2]⟩
def laws_markKidS.d : FD (Int × (List TKid)) := ⟨119, 27, 2, [.sl .d .iKid, .i .i64], [.i .i64, .sl .d .iKid], fun (a0, a1, _) => (a0, a1), fun (a0, a1) => (a0, a1, ()), [.mu, .v], [.v, .o], [.k, .own .d .iKid], [.tmp 4], [.rt 1], [(3, laws_markKidS.p3)], [], [(0, laws_markKidS.o0)]⟩
def laws_markKidS.F (n : Nat) : Pat.Ts laws_markKidS.d.ps → Option (Int × (List TKid)) := fun (a0, a1, _) => laws_markKidS n a0 a1

def laws_markView.d : FD (Int × (List TCond) × (List Int) × (List TRow) × (List TKid)) := ⟨72, 18, 5, [.ag (TView.q1 .d), .i .i64], [.i .i64, .sl .d .iCond, .sl .d .int, .sl .d .iRow, .sl .d .iKid], fun (a0, a1, a2, a3, a4, _) => (a0, a1, a2, a3, a4), fun (a0, a1, a2, a3, a4) => (a0, a1, a2, a3, a4, ()), [.ag [.v, .mu, .v, .v, .v, .mu, .v, .v, .v, .mu, .mu], .v], [.v, .o, .o, .o, .o], [.k, .own .d .iCond, .own .d .int, .own .d .iRow, .own .d .iKid], [.tmp 4], [.rt 1, .rt 2, .rt 3, .rt 4], [], [], []⟩
def laws_markView.F (n : Nat) : Pat.Ts laws_markView.d.ps → Option (Int × (List TCond) × (List Int) × (List TRow) × (List TKid)) := fun (a0, a1, _) => laws_markView n (TView.of a0) a1

def laws_markSess.d : FD (Int × (List TCond) × (List Int) × (List TRow) × (List TKid) × (List TCond) × (List Int) × (List TRow) × (List TKid)) := ⟨26, 14, 9, [.ag (TSess.q1 .d), .i .i64], [.i .i64, .sl .d .iCond, .sl .d .int, .sl .d .iRow, .sl .d .iKid, .sl .d .iCond, .sl .d .int, .sl .d .iRow, .sl .d .iKid], fun (a0, a1, a2, a3, a4, a5, a6, a7, a8, _) => (a0, a1, a2, a3, a4, a5, a6, a7, a8), fun (a0, a1, a2, a3, a4, a5, a6, a7, a8) => (a0, a1, a2, a3, a4, a5, a6, a7, a8, ()), [.ag [.v, .mu, .v, .v, .v, .mu, .v, .v, .v, .mu, .mu, .v, .v, .mu, .v, .v, .v, .mu, .v, .v, .v, .mu, .mu, .v, .v], .v], [.v, .o, .o, .o, .o, .o, .o, .o, .o], [.k, .own .d .iCond, .own .d .int, .own .d .iRow, .own .d .iKid, .own .d .iCond, .own .d .int, .own .d .iRow, .own .d .iKid], [.tmp 4], [.rt 1, .rt 2, .rt 3, .rt 4, .rt 5, .rt 6, .rt 7, .rt 8], [], [], []⟩
def laws_markSess.F (n : Nat) : Pat.Ts laws_markSess.d.ps → Option (Int × (List TCond) × (List Int) × (List TRow) × (List TKid) × (List TCond) × (List Int) × (List TRow) × (List TKid)) := fun (a0, a1, _) => laws_markSess n (TSess.of a0) a1

def laws_markChangeS.p3 : OD := ⟨[(0, .own .d .iChange), (1, .k), (5, .k)], [.rt 1, .i .i64, .i .i64], [.ext, .arr .d .iChange 2]⟩
def laws_markChangeS.o0 : OD := ⟨[(1, .k)], [.i .i64], [.ext, .arr .d .iChange 2]⟩
def laws_markChangeS.d : FD (Int × (List TChange)) := ⟨27, 70, 2, [.sl .d .iChange, .i .i64], [.i .i64, .sl .d .iChange], fun (a0, a1, _) => (a0, a1), fun (a0, a1) => (a0, a1, ()), [.mu, .v], [.v, .o], [.k, .own .d .iChange], [.tmp 4], [.rt 1], [(3, laws_markChangeS.p3)], [], [(0, laws_markChangeS.o0)]⟩
def laws_markChangeS.F (n : Nat) : Pat.Ts laws_markChangeS.d.ps → Option (Int × (List TChange)) := fun (a0, a1, _) => laws_markChangeS n a0 a1

def laws_heldCondS.p3 : OD := ⟨[(0, .view .iCond), (1, .k), (5, .k)], [.sl .v .iCond, .i .i64, .i .i64], [.ext]⟩
def laws_heldCondS.o0 : OD := ⟨[(1, .k)], [.i .i64], [.ext]⟩
def laws_heldCondS.d : FD Int := ⟨123, 40, 1, [.sl .v .iCond, .i .i64], [.i .i64], fun (a0, _) => a0, fun r => (r, ()), [.v, .v], [.v], [.k], [.tmp 4], [], [(3, laws_heldCondS.p3)], [], [(0, laws_heldCondS.o0)]⟩
def laws_heldCondS.F (n : Nat) : Pat.Ts laws_heldCondS.d.ps → Option Int := fun (a0, a1, _) => laws_heldCondS n a0 a1

def laws_heldIntS.p3 : OD := ⟨[(0, .view .int), (1, .k), (5, .k)], [.sl .v .int, .i .i64, .i .i64], [.ext]⟩
def laws_heldIntS.o0 : OD := ⟨[(1, .k)], [.i .i64], [.ext]⟩
def laws_heldIntS.d : FD Int := ⟨124, 21, 1, [.sl .v .int, .i .i64], [.i .i64], fun (a0, _) => a0, fun r => (r, ()), [.v, .v], [.v], [.k], [.tmp 4], [], [(3, laws_heldIntS.p3)], [], [(0, laws_heldIntS.o0)]⟩
def laws_heldIntS.F (n : Nat) : Pat.Ts laws_heldIntS.d.ps → Option Int := fun (a0, a1, _) => laws_heldIntS n a0 a1

def laws_heldQuery.d : FD Int := ⟨134, 18, 1, [.ag (TQuery.q1 .v), .i .i64], [.i .i64], fun (a0, _) => a0, fun r => (r, ()), [.ag [.v, .v, .v, .v, .v, .v, .v, .v, .v], .v], [.v], [.k], [.tmp 4], [], [], [], []⟩
def laws_heldQuery.F (n : Nat) : Pat.Ts laws_heldQuery.d.ps → Option Int := fun (a0, a1, _) => laws_heldQuery n (TQuery.of a0) a1

def laws_heldRowS.p3 : OD := ⟨[(0, .view .iRow), (1, .k), (5, .k)], [.sl .v .iRow, .i .i64, .i .i64], [.ext]⟩
def laws_heldRowS.o0 : OD := ⟨[(1, .k)], [.i .i64], [.ext]⟩
def laws_heldRowS.d : FD Int := ⟨125, 31, 1, [.sl .v .iRow, .i .i64], [.i .i64], fun (a0, _) => a0, fun r => (r, ()), [.v, .v], [.v], [.k], [.tmp 4], [], [(3, laws_heldRowS.p3)], [], [(0, laws_heldRowS.o0)]⟩
def laws_heldRowS.F (n : Nat) : Pat.Ts laws_heldRowS.d.ps → Option Int := fun (a0, a1, _) => laws_heldRowS n a0 a1

def laws_heldKidS.p3 : OD := ⟨[(0, .view .iKid), (1, .k), (5, .k)], [.sl .v .iKid, .i .i64, .i .i64], [.ext]⟩
def laws_heldKidS.o0 : OD := ⟨[(1, .k)], [.i .i64], [.ext]⟩
def laws_heldKidS.d : FD Int := ⟨126, 31, 1, [.sl .v .iKid, .i .i64], [.i .i64], fun (a0, _) => a0, fun r => (r, ()), [.v, .v], [.v], [.k], [.tmp 4], [], [(3, laws_heldKidS.p3)], [], [(0, laws_heldKidS.o0)]⟩
def laws_heldKidS.F (n : Nat) : Pat.Ts laws_heldKidS.d.ps → Option Int := fun (a0, a1, _) => laws_heldKidS n a0 a1

def laws_heldView.d : FD Int := ⟨73, 24, 1, [.ag (TView.q1 .v), .i .i64], [.i .i64], fun (a0, _) => a0, fun r => (r, ()), [.ag [.v, .v, .v, .v, .v, .v, .v, .v, .v, .v, .v], .v], [.v], [.k], [.tmp 4], [], [], [], []⟩
def laws_heldView.F (n : Nat) : Pat.Ts laws_heldView.d.ps → Option Int := fun (a0, a1, _) => laws_heldView n (TView.of a0) a1

def laws_heldSess.d : FD Int := ⟨28, 18, 1, [.ag (TSess.q1 .v), .i .i64], [.i .i64], fun (a0, _) => a0, fun r => (r, ()), [.ag [.v, .v, .v, .v, .v, .v, .v, .v, .v, .v, .v, .v, .v, .v, .v, .v, .v, .v, .v, .v, .v, .v, .v, .v, .v], .v], [.v], [.k], [.tmp 4], [], [], [], []⟩
def laws_heldSess.F (n : Nat) : Pat.Ts laws_heldSess.d.ps → Option Int := fun (a0, a1, _) => laws_heldSess n (TSess.of a0) a1

def laws_FnExactSessGo.d : FD Bool := ⟨5, 92, 1, [.ag (TSess.p .v), .sl .v .lChange], [.b], fun (a0, _) => a0, fun r => (r, ()), [.ag [.v, .v, .v, .v, .v, .v, .v, .v, .v, .v, .v, .v, .v, .v, .v, .v, .v, .v, .v, .v, .v, .v, .v, .v, .v], .v], [.v], [.k], [.tmp 4], [], [], [], []⟩
def laws_FnExactSessGo.F (n : Nat) : Pat.Ts laws_FnExactSessGo.d.ps → Option Bool := fun (a0, a1, _) => laws_FnExactSessGo n (TSess.of a0) a1

def KL (n : Nat) : List (Nat × Hd) := [
  (5, ⟨fun _ => laws_FnExactSessGo.d.K (laws_FnExactSessGo.F n)⟩),
  (8, ⟨fun _ => laws_szSess.d.K (laws_szSess.F n)⟩),
  (11, ⟨fun _ => laws_toSess.d.K (laws_toSess.F n)⟩),
  (14, ⟨fun _ => laws_eqSess.d.K (laws_eqSess.F n)⟩),
  (21, ⟨fun _ => laws_szChangeS.d.K (laws_szChangeS.F n)⟩),
  (22, ⟨fun _ => spec_SessGo.d.K (spec_SessGo.F n)⟩),
  (23, ⟨fun _ => laws_toChangeS.d.K (laws_toChangeS.F n)⟩),
  (24, ⟨fun _ => impl_SessGo.d.K (impl_SessGo.F n)⟩),
  (25, ⟨fun _ => laws_eqChangeS.d.K (laws_eqChangeS.F n)⟩),
  (26, ⟨fun _ => laws_markSess.d.K (laws_markSess.F n)⟩),
  (27, ⟨fun _ => laws_markChangeS.d.K (laws_markChangeS.F n)⟩),
  (28, ⟨fun _ => laws_heldSess.d.K (laws_heldSess.F n)⟩),
  (30, ⟨fun _ => laws_szQuery.d.K (laws_szQuery.F n)⟩),
  (33, ⟨fun _ => laws_toQuery.d.K (laws_toQuery.F n)⟩),
  (36, ⟨fun _ => laws_eqQuery.d.K (laws_eqQuery.F n)⟩),
  (38, ⟨fun _ => laws_markQuery.d.K (laws_markQuery.F n)⟩),
  (39, ⟨fun _ => laws_szIntS.d.K (laws_szIntS.F n)⟩),
  (40, ⟨fun _ => laws_szView.d.K (laws_szView.F n)⟩),
  (42, ⟨fun _ => spec_l1In.d.K (spec_l1In.F n)⟩),
  (45, ⟨fun _ => laws_toIntS.d.K (laws_toIntS.F n)⟩),
  (46, ⟨fun _ => laws_toView.d.K (laws_toView.F n)⟩),
  (51, ⟨fun _ => impl_within.d.K (impl_within.F n)⟩),
  (52, ⟨fun _ => laws_eqIntS.d.K (laws_eqIntS.F n)⟩),
  (53, ⟨fun _ => laws_eqView.d.K (laws_eqView.F n)⟩),
  (60, ⟨fun _ => laws_markIntS.d.K (laws_markIntS.F n)⟩),
  (65, ⟨fun _ => laws_szChange.d.K (laws_szChange.F n)⟩),
  (66, ⟨fun _ => spec_l16Copy.d.K (spec_l16Copy.F n)⟩),
  (67, ⟨fun _ => spec_ViewChanges.d.K (spec_ViewChanges.F n)⟩),
  (68, ⟨fun _ => laws_toChange.d.K (laws_toChange.F n)⟩),
  (69, ⟨fun _ => impl_copySess.d.K (impl_copySess.F n)⟩),
  (70, ⟨fun _ => impl_ViewChanges.d.K (impl_ViewChanges.F n)⟩),
  (71, ⟨fun _ => laws_eqChange.d.K (laws_eqChange.F n)⟩),
  (72, ⟨fun _ => laws_markView.d.K (laws_markView.F n)⟩),
  (73, ⟨fun _ => laws_heldView.d.K (laws_heldView.F n)⟩),
  (75, ⟨fun _ => laws_szCondS.d.K (laws_szCondS.F n)⟩),
  (78, ⟨fun _ => laws_toCondS.d.K (laws_toCondS.F n)⟩),
  (81, ⟨fun _ => laws_eqCondS.d.K (laws_eqCondS.F n)⟩),
  (83, ⟨fun _ => laws_markCondS.d.K (laws_markCondS.F n)⟩),
  (84, ⟨fun _ => laws_szRowS.d.K (laws_szRowS.F n)⟩),
  (85, ⟨fun _ => laws_szKidS.d.K (laws_szKidS.F n)⟩),
  (88, ⟨fun _ => spec_Matches.d.K (spec_Matches.F n)⟩),
  (89, ⟨fun _ => spec_RowAt.d.K (spec_RowAt.F n)⟩),
  (90, ⟨fun _ => spec_Ahead.d.K (spec_Ahead.F n)⟩),
  (94, ⟨fun _ => laws_toRowS.d.K (laws_toRowS.F n)⟩),
  (95, ⟨fun _ => laws_toKidS.d.K (laws_toKidS.F n)⟩),
  (98, ⟨fun _ => impl_Matches.d.K (impl_Matches.F n)⟩),
  (99, ⟨fun _ => impl_Ahead.d.K (impl_Ahead.F n)⟩),
  (100, ⟨fun _ => impl_RowAt.d.K (impl_RowAt.F n)⟩),
  (106, ⟨fun _ => laws_eqRowS.d.K (laws_eqRowS.F n)⟩),
  (107, ⟨fun _ => laws_eqKidS.d.K (laws_eqKidS.F n)⟩),
  (112, ⟨fun _ => impl_copyInts.d.K (impl_copyInts.F n)⟩),
  (118, ⟨fun _ => laws_markRowS.d.K (laws_markRowS.F n)⟩),
  (119, ⟨fun _ => laws_markKidS.d.K (laws_markKidS.F n)⟩),
  (123, ⟨fun _ => laws_heldCondS.d.K (laws_heldCondS.F n)⟩),
  (124, ⟨fun _ => laws_heldIntS.d.K (laws_heldIntS.F n)⟩),
  (125, ⟨fun _ => laws_heldRowS.d.K (laws_heldRowS.F n)⟩),
  (126, ⟨fun _ => laws_heldKidS.d.K (laws_heldKidS.F n)⟩),
  (127, ⟨fun _ => laws_szRow.d.K (laws_szRow.F n)⟩),
  (128, ⟨fun _ => spec_l13Copy.d.K (spec_l13Copy.F n)⟩),
  (129, ⟨fun _ => spec_ViewChange.d.K (spec_ViewChange.F n)⟩),
  (130, ⟨fun _ => laws_toRow.d.K (laws_toRow.F n)⟩),
  (131, ⟨fun _ => impl_copyView.d.K (impl_copyView.F n)⟩),
  (132, ⟨fun _ => impl_ViewChange.d.K (impl_ViewChange.F n)⟩),
  (133, ⟨fun _ => laws_eqRow.d.K (laws_eqRow.F n)⟩),
  (134, ⟨fun _ => laws_heldQuery.d.K (laws_heldQuery.F n)⟩),
  (135, ⟨fun _ => spec_l9Copy.d.K (spec_l9Copy.F n)⟩),
  (137, ⟨fun _ => spec_KidPut.d.K (spec_KidPut.F n)⟩),
  (138, ⟨fun _ => laws_toCond.d.K (laws_toCond.F n)⟩),
  (139, ⟨fun _ => impl_copyQuery.d.K (impl_copyQuery.F n)⟩),
  (141, ⟨fun _ => impl_KidPut.d.K (impl_KidPut.F n)⟩),
  (142, ⟨fun _ => laws_eqCond.d.K (laws_eqCond.F n)⟩),
  (143, ⟨fun _ => spec_l9Holds.d.K (spec_l9Holds.F n)⟩),
  (144, ⟨fun _ => spec_l9Cell.d.K (spec_l9Cell.F n)⟩),
  (145, ⟨fun _ => laws_toKid.d.K (laws_toKid.F n)⟩),
  (150, ⟨fun _ => impl_holds.d.K (impl_holds.F n)⟩),
  (151, ⟨fun _ => impl_cellOf.d.K (impl_cellOf.F n)⟩),
  (152, ⟨fun _ avs κ => cond (Nat.beq (selClo 1 avs) 153) (slices_IndexFunc_Row_impl_RowAt_f1.d.K (slices_IndexFunc_Row_impl_RowAt_f1.F n) avs κ) (cond (Nat.beq (selClo 1 avs) 175) (slices_IndexFunc_Row_impl_rowPut_f1.d.K (slices_IndexFunc_Row_impl_rowPut_f1.F n) avs κ) (none))⟩),
  (153, ⟨fun _ => impl_RowAt_f1.d.K (impl_RowAt_f1.F n)⟩),
  (154, ⟨fun _ => laws_eqKid.d.K (laws_eqKid.F n)⟩),
  (156, ⟨fun _ => spec_l6Rows.d.K (spec_l6Rows.F n)⟩),
  (163, ⟨fun _ => spec_RowDrop.d.K (spec_RowDrop.F n)⟩),
  (164, ⟨fun _ => spec_l11Put.d.K (spec_l11Put.F n)⟩),
  (165, ⟨fun _ => impl_copyRows.d.K (impl_copyRows.F n)⟩),
  (166, ⟨fun _ => impl_RowDrop.d.K (impl_RowDrop.F n)⟩),
  (167, ⟨fun _ => impl_rowPut.d.K (impl_rowPut.F n)⟩),
  (168, ⟨fun _ => impl_copyRow.d.K (impl_copyRow.F n)⟩),
  (171, ⟨fun _ => slices_Insert_Kid.d.K (slices_Insert_Kid.F n)⟩),
  (172, ⟨fun _ => slices_Delete_Kid.d.K (slices_Delete_Kid.F n)⟩),
  (173, ⟨fun _ => spec_l6Copy.d.K (spec_l6Copy.F n)⟩),
  (174, ⟨fun _ => slices_Delete_Row.d.K (slices_Delete_Row.F n)⟩),
  (175, ⟨fun _ => impl_rowPut_f1.d.K (impl_rowPut_f1.F n)⟩),
  (176, ⟨fun _ => slices_Insert_Row.d.K (slices_Insert_Row.F n)⟩)]
def sigL : List (Nat × List PS) := [
  (5, laws_FnExactSessGo.d.sig),
  (8, laws_szSess.d.sig),
  (11, laws_toSess.d.sig),
  (14, laws_eqSess.d.sig),
  (21, laws_szChangeS.d.sig),
  (22, spec_SessGo.d.sig),
  (23, laws_toChangeS.d.sig),
  (24, impl_SessGo.d.sig),
  (25, laws_eqChangeS.d.sig),
  (26, laws_markSess.d.sig),
  (27, laws_markChangeS.d.sig),
  (28, laws_heldSess.d.sig),
  (30, laws_szQuery.d.sig),
  (33, laws_toQuery.d.sig),
  (36, laws_eqQuery.d.sig),
  (38, laws_markQuery.d.sig),
  (39, laws_szIntS.d.sig),
  (40, laws_szView.d.sig),
  (42, spec_l1In.d.sig),
  (45, laws_toIntS.d.sig),
  (46, laws_toView.d.sig),
  (51, impl_within.d.sig),
  (52, laws_eqIntS.d.sig),
  (53, laws_eqView.d.sig),
  (60, laws_markIntS.d.sig),
  (65, laws_szChange.d.sig),
  (66, spec_l16Copy.d.sig),
  (67, spec_ViewChanges.d.sig),
  (68, laws_toChange.d.sig),
  (69, impl_copySess.d.sig),
  (70, impl_ViewChanges.d.sig),
  (71, laws_eqChange.d.sig),
  (72, laws_markView.d.sig),
  (73, laws_heldView.d.sig),
  (75, laws_szCondS.d.sig),
  (78, laws_toCondS.d.sig),
  (81, laws_eqCondS.d.sig),
  (83, laws_markCondS.d.sig),
  (84, laws_szRowS.d.sig),
  (85, laws_szKidS.d.sig),
  (88, spec_Matches.d.sig),
  (89, spec_RowAt.d.sig),
  (90, spec_Ahead.d.sig),
  (94, laws_toRowS.d.sig),
  (95, laws_toKidS.d.sig),
  (98, impl_Matches.d.sig),
  (99, impl_Ahead.d.sig),
  (100, impl_RowAt.d.sig),
  (106, laws_eqRowS.d.sig),
  (107, laws_eqKidS.d.sig),
  (112, impl_copyInts.d.sig),
  (118, laws_markRowS.d.sig),
  (119, laws_markKidS.d.sig),
  (123, laws_heldCondS.d.sig),
  (124, laws_heldIntS.d.sig),
  (125, laws_heldRowS.d.sig),
  (126, laws_heldKidS.d.sig),
  (127, laws_szRow.d.sig),
  (128, spec_l13Copy.d.sig),
  (129, spec_ViewChange.d.sig),
  (130, laws_toRow.d.sig),
  (131, impl_copyView.d.sig),
  (132, impl_ViewChange.d.sig),
  (133, laws_eqRow.d.sig),
  (134, laws_heldQuery.d.sig),
  (135, spec_l9Copy.d.sig),
  (137, spec_KidPut.d.sig),
  (138, laws_toCond.d.sig),
  (139, impl_copyQuery.d.sig),
  (141, impl_KidPut.d.sig),
  (142, laws_eqCond.d.sig),
  (143, spec_l9Holds.d.sig),
  (144, spec_l9Cell.d.sig),
  (145, laws_toKid.d.sig),
  (150, impl_holds.d.sig),
  (151, impl_cellOf.d.sig),
  (152, slices_IndexFunc_Row_impl_RowAt_f1.d.sig),
  (153, impl_RowAt_f1.d.sig),
  (154, laws_eqKid.d.sig),
  (156, spec_l6Rows.d.sig),
  (163, spec_RowDrop.d.sig),
  (164, spec_l11Put.d.sig),
  (165, impl_copyRows.d.sig),
  (166, impl_RowDrop.d.sig),
  (167, impl_rowPut.d.sig),
  (168, impl_copyRow.d.sig),
  (171, slices_Insert_Kid.d.sig),
  (172, slices_Delete_Kid.d.sig),
  (173, spec_l6Copy.d.sig),
  (174, slices_Delete_Row.d.sig),
  (175, impl_rowPut_f1.d.sig),
  (176, slices_Insert_Row.d.sig)]
def fzL : List Nat := [22, 67, 129, 164]
def cx (n nt : Nat) : Cx := ⟨nt, tt, fun f => look2 sigL f, KH (KL n), fun f => fzL.any (Nat.beq f)⟩
end Go.Pi
end
