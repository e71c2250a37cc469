/- The row of FnExactSessOk: the program's SessOk returns what the reference's returns, for all arguments. No condition. Text 5 of 6. -/
import Derived.Test.YtpifpdljphobdaaPiD
import Derived.ChangeArms
import Derived.DataReads
import Derived.ChangeOld
import Derived.Below
import Derived.IntWalk
section
set_option linter.unusedVariables false
set_option maxRecDepth 100000
namespace Go.Pi
open Go.Proofs
namespace impl_cellOf
abbrev R : Type := Int
noncomputable def body : Code := match Try.f151.body with | some c => c | none => .skip
def ann : Ann := ⟨fun k => look2 [] k, fun k => match look2 [] k with | some l => l | none => [], fun k => match look2 [] k with | some l => l | none => []⟩
def fin (o : List AV) : Option R := uc o fun a1 l2 => getI .i64 a1 fun x3 => un l2 (some (x3 : R))
def inj (r : R) : List AV := [.i .i64 r]
theorem fin_ok (o : List AV) (r : R) (h : fin o = some r) : o = inj r := by
  unfold fin at h
  replace h := uc_ok h; obtain ⟨a1, l2, rfl, h⟩ := h
  replace h := getI_ok h; obtain ⟨x3, rfl, h⟩ := h
  replace h := un_ok h; obtain ⟨rfl, h⟩ := h
  cases h
  rfl
def kr (n : Nat) : St → Option R := retK (cx n 17) [.k] [.v] [.tmp 4] [] fin
def lf (n : Nat) : LF R := fun key κd κe v b => none
theorem cuts (n : Nat) : Cuts (cx n 17) 1 ann (lf n) (kr n) body := by
  intro key κd κe v b r h
  unfold lf at h
  cases h
theorem top (n : Nat) (r : TRow) (col : Int) : entryK 1 [.ag [.i .i64 r.id_, .sl .v .int r.cells], .i .i64 col] (fun v b => match outOfAll [.ag [.v, .v], .v] v with
      | some o => cond (AV.allRoots o []) (run (cx n 17) 1 ann (lf n) (kr n) body 0 (kr n) (fun _ _ => none) (St.ofC (live0 2) v b)) none
      | none => none) = impl_cellOf (n + 1) r col := by kernel_rfl
def Ok (n : Nat) : Prop := ∀ (r : TRow) (col : Int) (res_ : R), impl_cellOf n r col = some res_ → CallOk E 151 [.ag [.i .i64 r.id_, .sl .v .int r.cells], .i .i64 col] (rvOf 1 (inj res_)) ((inj res_).drop 1) [.ag [.v, .v], .v]
theorem ok (n : Nat) (hc : CxOk E (cx n 17)) (hK : KPar (cx n 17)) : Ok (n + 1) := fun r col res_ h_ =>
  fn_sound hc hK mixedOk Try.func151 (by kernel_rfl) (by kernel_rfl) (by kernel_rfl) (by decide) fin_ok (by kernel_rfl) ((top n r col).trans h_) (cuts n)
theorem Kpar (n : Nat) {ω : Type} {avs : List AV} {κ : AV → List AV → Option ω} {q : ω} (h : impl_cellOf.K n avs κ = some q) : ∃ rv outs, κ rv outs = some q ∧ ∀ (ω' : Type) (κ' : AV → List AV → Option ω'), impl_cellOf.K n avs κ' = κ' rv outs := by
  unfold K at h
  generalize hf : fixes [.ag [.k, .sl .v .int], .k] avs = v at h
  replace h := uc_ok h; obtain ⟨a1, l2, rfl, h⟩ := h
  replace h := getAg_ok h; obtain ⟨c3, rfl, h⟩ := h
  replace h := uc_ok h; obtain ⟨a4, l5, rfl, h⟩ := h
  replace h := getI_ok h; obtain ⟨x6, rfl, h⟩ := h
  replace h := uc_ok h; obtain ⟨a7, l8, rfl, h⟩ := h
  replace h := getSl_ok h; obtain ⟨x9, rfl, h⟩ := h
  replace h := un_ok h; obtain ⟨rfl, h⟩ := h
  replace h := uc_ok h; obtain ⟨a10, l11, rfl, h⟩ := h
  replace h := getI_ok h; obtain ⟨x12, rfl, h⟩ := h
  replace h := un_ok h; obtain ⟨rfl, h⟩ := h
  cases hr : impl_cellOf n (TRow.mk x6 x9) x12 with
  | none => rw [hr] at h; cases h
  | some r =>
    rw [hr] at h
    exact ⟨_, _, h, fun ω' κ' => by unfold K; rw [hf]; exact congrArg (fun z : Option R => z.bind _) hr⟩
theorem Kok (n : Nat) (ho : Ok n) {ω : Type} {avs : List AV} {κ : AV → List AV → Option ω} {q : ω} (h : impl_cellOf.K n avs κ = some q) : FnOk E 151 ∧ ∃ ps rv outs, (cx n 0).sig 151 = some ps ∧ κ rv outs = some q ∧ CallOk E 151 avs rv outs ps := by
  unfold K at h
  generalize hf : fixes [.ag [.k, .sl .v .int], .k] avs = v at h
  replace h := uc_ok h; obtain ⟨a1, l2, rfl, h⟩ := h
  replace h := getAg_ok h; obtain ⟨c3, rfl, h⟩ := h
  replace h := uc_ok h; obtain ⟨a4, l5, rfl, h⟩ := h
  replace h := getI_ok h; obtain ⟨x6, rfl, h⟩ := h
  replace h := uc_ok h; obtain ⟨a7, l8, rfl, h⟩ := h
  replace h := getSl_ok h; obtain ⟨x9, rfl, h⟩ := h
  replace h := un_ok h; obtain ⟨rfl, h⟩ := h
  replace h := uc_ok h; obtain ⟨a10, l11, rfl, h⟩ := h
  replace h := getI_ok h; obtain ⟨x12, rfl, h⟩ := h
  replace h := un_ok h; obtain ⟨rfl, h⟩ := h
  cases hr : impl_cellOf n (TRow.mk x6 x9) x12 with
  | none => rw [hr] at h; cases h
  | some r =>
    rw [hr] at h
    exact ⟨⟨_, body, Try.func151, by decide +kernel, by kernel_rfl⟩, [.ag [.v, .v], .v], _, _, by kernel_rfl, h, CallOk.fix (ss := [.ag [.k, .sl .v .int], .k]) (by rw [hf]; exact ho (TRow.mk x6 x9) x12 r hr)⟩
end impl_cellOf
namespace impl_Ahead
abbrev R : Type := Bool
noncomputable def body : Code := match Try.f99.body with | some c => c | none => .skip
def ann : Ann := ⟨fun k => look2 [] k, fun k => match look2 [] k with | some l => l | none => [], fun k => match look2 [] k with | some l => l | none => []⟩
def fin (o : List AV) : Option R := uc o fun a1 l2 => getB a1 fun x3 => un l2 (some (x3 : R))
def inj (r : R) : List AV := [.b r]
theorem fin_ok (o : List AV) (r : R) (h : fin o = some r) : o = inj r := by
  unfold fin at h
  replace h := uc_ok h; obtain ⟨a1, l2, rfl, h⟩ := h
  replace h := getB_ok h; obtain ⟨x3, rfl, h⟩ := h
  replace h := un_ok h; obtain ⟨rfl, h⟩ := h
  cases h
  rfl
def kr (n : Nat) : St → Option R := retK (cx n 45) [.k] [.v] [.tmp 6] [] fin
def lf (n : Nat) : LF R := fun key κd κe v b => none
theorem cuts (n : Nat) : Cuts (cx n 45) 1 ann (lf n) (kr n) body := by
  intro key κd κe v b r h
  unfold lf at h
  cases h
theorem top (n : Nat) (q : TQuery) (a : TRow) (b : TRow) : entryK 1 [.ag [.i .i64 q.table, .sl .v .iCond q.where_, .i .i64 q.order, .b q.down, .i .i64 q.first, .sl .v .int q.show_, .b q.kids, .i .i64 q.kidTable, .i .i64 q.kidCol], .ag [.i .i64 a.id_, .sl .v .int a.cells], .ag [.i .i64 b.id_, .sl .v .int b.cells]] (fun v b => match outOfAll [.ag [.v, .v, .v, .v, .v, .v, .v, .v, .v], .ag [.v, .v], .ag [.v, .v]] v with
      | some o => cond (AV.allRoots o []) (run (cx n 45) 1 ann (lf n) (kr n) body 0 (kr n) (fun _ _ => none) (St.ofC (live0 3) v b)) none
      | none => none) = impl_Ahead (n + 1) q a b := by kernel_rfl
def Ok (n : Nat) : Prop := ∀ (q : TQuery) (a : TRow) (b : TRow) (res_ : R), impl_Ahead n q a b = some res_ → CallOk E 99 [.ag [.i .i64 q.table, .sl .v .iCond q.where_, .i .i64 q.order, .b q.down, .i .i64 q.first, .sl .v .int q.show_, .b q.kids, .i .i64 q.kidTable, .i .i64 q.kidCol], .ag [.i .i64 a.id_, .sl .v .int a.cells], .ag [.i .i64 b.id_, .sl .v .int b.cells]] (rvOf 1 (inj res_)) ((inj res_).drop 1) [.ag [.v, .v, .v, .v, .v, .v, .v, .v, .v], .ag [.v, .v], .ag [.v, .v]]
theorem ok (n : Nat) (hc : CxOk E (cx n 45)) (hK : KPar (cx n 45)) : Ok (n + 1) := fun q a b res_ h_ =>
  fn_sound hc hK mixedOk Try.func99 (by kernel_rfl) (by kernel_rfl) (by kernel_rfl) (by decide) fin_ok (by kernel_rfl) ((top n q a b).trans h_) (cuts n)
theorem Kpar (n : Nat) {ω : Type} {avs : List AV} {κ : AV → List AV → Option ω} {q : ω} (h : impl_Ahead.K n avs κ = some q) : ∃ rv outs, κ rv outs = some q ∧ ∀ (ω' : Type) (κ' : AV → List AV → Option ω'), impl_Ahead.K n avs κ' = κ' rv outs := by
  unfold K at h
  generalize hf : fixes [.ag [.k, .sl .v .iCond, .k, .k, .k, .sl .v .int, .k, .k, .k], .ag [.k, .sl .v .int], .ag [.k, .sl .v .int]] avs = v at h
  replace h := uc_ok h; obtain ⟨a1, l2, rfl, h⟩ := h
  replace h := getAg_ok h; obtain ⟨c3, rfl, h⟩ := h
  replace h := uc_ok h; obtain ⟨a4, l5, rfl, h⟩ := h
  replace h := getI_ok h; obtain ⟨x6, rfl, h⟩ := h
  replace h := uc_ok h; obtain ⟨a7, l8, rfl, h⟩ := h
  replace h := getSl_ok h; obtain ⟨x9, rfl, h⟩ := h
  replace h := uc_ok h; obtain ⟨a10, l11, rfl, h⟩ := h
  replace h := getI_ok h; obtain ⟨x12, rfl, h⟩ := h
  replace h := uc_ok h; obtain ⟨a13, l14, rfl, h⟩ := h
  replace h := getB_ok h; obtain ⟨x15, rfl, h⟩ := h
  replace h := uc_ok h; obtain ⟨a16, l17, rfl, h⟩ := h
  replace h := getI_ok h; obtain ⟨x18, rfl, h⟩ := h
  replace h := uc_ok h; obtain ⟨a19, l20, rfl, h⟩ := h
  replace h := getSl_ok h; obtain ⟨x21, rfl, h⟩ := h
  replace h := uc_ok h; obtain ⟨a22, l23, rfl, h⟩ := h
  replace h := getB_ok h; obtain ⟨x24, rfl, h⟩ := h
  replace h := uc_ok h; obtain ⟨a25, l26, rfl, h⟩ := h
  replace h := getI_ok h; obtain ⟨x27, rfl, h⟩ := h
  replace h := uc_ok h; obtain ⟨a28, l29, rfl, h⟩ := h
  replace h := getI_ok h; obtain ⟨x30, rfl, h⟩ := h
  replace h := un_ok h; obtain ⟨rfl, h⟩ := h
  replace h := uc_ok h; obtain ⟨a31, l32, rfl, h⟩ := h
  replace h := getAg_ok h; obtain ⟨c33, rfl, h⟩ := h
  replace h := uc_ok h; obtain ⟨a34, l35, rfl, h⟩ := h
  replace h := getI_ok h; obtain ⟨x36, rfl, h⟩ := h
  replace h := uc_ok h; obtain ⟨a37, l38, rfl, h⟩ := h
  replace h := getSl_ok h; obtain ⟨x39, rfl, h⟩ := h
  replace h := un_ok h; obtain ⟨rfl, h⟩ := h
  replace h := uc_ok h; obtain ⟨a40, l41, rfl, h⟩ := h
  replace h := getAg_ok h; obtain ⟨c42, rfl, h⟩ := h
  replace h := uc_ok h; obtain ⟨a43, l44, rfl, h⟩ := h
  replace h := getI_ok h; obtain ⟨x45, rfl, h⟩ := h
  replace h := uc_ok h; obtain ⟨a46, l47, rfl, h⟩ := h
  replace h := getSl_ok h; obtain ⟨x48, rfl, h⟩ := h
  replace h := un_ok h; obtain ⟨rfl, h⟩ := h
  replace h := un_ok h; obtain ⟨rfl, h⟩ := h
  cases hr : impl_Ahead n (TQuery.mk x6 x9 x12 x15 x18 x21 x24 x27 x30) (TRow.mk x36 x39) (TRow.mk x45 x48) with
  | none => rw [hr] at h; cases h
  | some r =>
    rw [hr] at h
    exact ⟨_, _, h, fun ω' κ' => by unfold K; rw [hf]; exact congrArg (fun z : Option R => z.bind _) hr⟩
theorem Kok (n : Nat) (ho : Ok n) {ω : Type} {avs : List AV} {κ : AV → List AV → Option ω} {q : ω} (h : impl_Ahead.K n avs κ = some q) : FnOk E 99 ∧ ∃ ps rv outs, (cx n 0).sig 99 = some ps ∧ κ rv outs = some q ∧ CallOk E 99 avs rv outs ps := by
  unfold K at h
  generalize hf : fixes [.ag [.k, .sl .v .iCond, .k, .k, .k, .sl .v .int, .k, .k, .k], .ag [.k, .sl .v .int], .ag [.k, .sl .v .int]] avs = v at h
  replace h := uc_ok h; obtain ⟨a1, l2, rfl, h⟩ := h
  replace h := getAg_ok h; obtain ⟨c3, rfl, h⟩ := h
  replace h := uc_ok h; obtain ⟨a4, l5, rfl, h⟩ := h
  replace h := getI_ok h; obtain ⟨x6, rfl, h⟩ := h
  replace h := uc_ok h; obtain ⟨a7, l8, rfl, h⟩ := h
  replace h := getSl_ok h; obtain ⟨x9, rfl, h⟩ := h
  replace h := uc_ok h; obtain ⟨a10, l11, rfl, h⟩ := h
  replace h := getI_ok h; obtain ⟨x12, rfl, h⟩ := h
  replace h := uc_ok h; obtain ⟨a13, l14, rfl, h⟩ := h
  replace h := getB_ok h; obtain ⟨x15, rfl, h⟩ := h
  replace h := uc_ok h; obtain ⟨a16, l17, rfl, h⟩ := h
  replace h := getI_ok h; obtain ⟨x18, rfl, h⟩ := h
  replace h := uc_ok h; obtain ⟨a19, l20, rfl, h⟩ := h
  replace h := getSl_ok h; obtain ⟨x21, rfl, h⟩ := h
  replace h := uc_ok h; obtain ⟨a22, l23, rfl, h⟩ := h
  replace h := getB_ok h; obtain ⟨x24, rfl, h⟩ := h
  replace h := uc_ok h; obtain ⟨a25, l26, rfl, h⟩ := h
  replace h := getI_ok h; obtain ⟨x27, rfl, h⟩ := h
  replace h := uc_ok h; obtain ⟨a28, l29, rfl, h⟩ := h
  replace h := getI_ok h; obtain ⟨x30, rfl, h⟩ := h
  replace h := un_ok h; obtain ⟨rfl, h⟩ := h
  replace h := uc_ok h; obtain ⟨a31, l32, rfl, h⟩ := h
  replace h := getAg_ok h; obtain ⟨c33, rfl, h⟩ := h
  replace h := uc_ok h; obtain ⟨a34, l35, rfl, h⟩ := h
  replace h := getI_ok h; obtain ⟨x36, rfl, h⟩ := h
  replace h := uc_ok h; obtain ⟨a37, l38, rfl, h⟩ := h
  replace h := getSl_ok h; obtain ⟨x39, rfl, h⟩ := h
  replace h := un_ok h; obtain ⟨rfl, h⟩ := h
  replace h := uc_ok h; obtain ⟨a40, l41, rfl, h⟩ := h
  replace h := getAg_ok h; obtain ⟨c42, rfl, h⟩ := h
  replace h := uc_ok h; obtain ⟨a43, l44, rfl, h⟩ := h
  replace h := getI_ok h; obtain ⟨x45, rfl, h⟩ := h
  replace h := uc_ok h; obtain ⟨a46, l47, rfl, h⟩ := h
  replace h := getSl_ok h; obtain ⟨x48, rfl, h⟩ := h
  replace h := un_ok h; obtain ⟨rfl, h⟩ := h
  replace h := un_ok h; obtain ⟨rfl, h⟩ := h
  cases hr : impl_Ahead n (TQuery.mk x6 x9 x12 x15 x18 x21 x24 x27 x30) (TRow.mk x36 x39) (TRow.mk x45 x48) with
  | none => rw [hr] at h; cases h
  | some r =>
    rw [hr] at h
    exact ⟨⟨_, body, Try.func99, by decide +kernel, by kernel_rfl⟩, [.ag [.v, .v, .v, .v, .v, .v, .v, .v, .v], .ag [.v, .v], .ag [.v, .v]], _, _, by kernel_rfl, h, CallOk.fix (ss := [.ag [.k, .sl .v .iCond, .k, .k, .k, .sl .v .int, .k, .k, .k], .ag [.k, .sl .v .int], .ag [.k, .sl .v .int]]) (by rw [hf]; exact ho (TQuery.mk x6 x9 x12 x15 x18 x21 x24 x27 x30) (TRow.mk x36 x39) (TRow.mk x45 x48) r hr)⟩
end impl_Ahead
namespace impl_RowAt_f1
abbrev R : Type := Bool
noncomputable def body : Code := match Try.f153.body with | some c => c | none => .skip
def ann : Ann := ⟨fun k => look2 [] k, fun k => match look2 [] k with | some l => l | none => [], fun k => match look2 [] k with | some l => l | none => []⟩
def fin (o : List AV) : Option R := uc o fun a1 l2 => getB a1 fun x3 => un l2 (some (x3 : R))
def inj (r : R) : List AV := [.b r]
theorem fin_ok (o : List AV) (r : R) (h : fin o = some r) : o = inj r := by
  unfold fin at h
  replace h := uc_ok h; obtain ⟨a1, l2, rfl, h⟩ := h
  replace h := getB_ok h; obtain ⟨x3, rfl, h⟩ := h
  replace h := un_ok h; obtain ⟨rfl, h⟩ := h
  cases h
  rfl
def kr (n : Nat) : St → Option R := retK (cx n 8) [.k] [.v] [.tmp 3] [] fin
def lf (n : Nat) : LF R := fun key κd κe v b => none
theorem cuts (n : Nat) : Cuts (cx n 8) 1 ann (lf n) (kr n) body := by
  intro key κd κe v b r h
  unfold lf at h
  cases h
theorem top (n : Nat) (r : TRow) (c : Int) : entryK 1 [.ag [.i .i64 r.id_, .sl .v .int r.cells], .pc [.i .i64 c] 0] (fun v b => match outOfAll [.ag [.v, .v], .v] v with
      | some o => cond (AV.allRoots o []) (run (cx n 8) 1 ann (lf n) (kr n) body 0 (kr n) (fun _ _ => none) (St.ofC (live0 2) v b)) none
      | none => none) = impl_RowAt_f1 (n + 1) r c := by kernel_rfl
def Ok (n : Nat) : Prop := ∀ (r : TRow) (c : Int) (res_ : R), impl_RowAt_f1 n r c = some res_ → CallOk E 153 [.ag [.i .i64 r.id_, .sl .v .int r.cells], .pc [.i .i64 c] 0] (rvOf 1 (inj res_)) ((inj res_).drop 1) [.ag [.v, .v], .v]
theorem ok (n : Nat) (hc : CxOk E (cx n 8)) (hK : KPar (cx n 8)) : Ok (n + 1) := fun r c res_ h_ =>
  fn_sound hc hK mixedOk Try.func153 (by kernel_rfl) (by kernel_rfl) (by kernel_rfl) (by decide) fin_ok (by kernel_rfl) ((top n r c).trans h_) (cuts n)
theorem Kpar (n : Nat) {ω : Type} {avs : List AV} {κ : AV → List AV → Option ω} {q : ω} (h : impl_RowAt_f1.K n avs κ = some q) : ∃ rv outs, κ rv outs = some q ∧ ∀ (ω' : Type) (κ' : AV → List AV → Option ω'), impl_RowAt_f1.K n avs κ' = κ' rv outs := by
  unfold K at h
  generalize hf : fixes [.ag [.k, .sl .v .int], .k] avs = v at h
  replace h := uc_ok h; obtain ⟨a1, l2, rfl, h⟩ := h
  replace h := getAg_ok h; obtain ⟨c3, rfl, h⟩ := h
  replace h := uc_ok h; obtain ⟨a4, l5, rfl, h⟩ := h
  replace h := getI_ok h; obtain ⟨x6, rfl, h⟩ := h
  replace h := uc_ok h; obtain ⟨a7, l8, rfl, h⟩ := h
  replace h := getSl_ok h; obtain ⟨x9, rfl, h⟩ := h
  replace h := un_ok h; obtain ⟨rfl, h⟩ := h
  replace h := uc_ok h; obtain ⟨a10, l11, rfl, h⟩ := h
  replace h := getPc_ok h; obtain ⟨c12, rfl, h⟩ := h
  replace h := uc_ok h; obtain ⟨a13, l14, rfl, h⟩ := h
  replace h := getI_ok h; obtain ⟨x15, rfl, h⟩ := h
  replace h := un_ok h; obtain ⟨rfl, h⟩ := h
  replace h := un_ok h; obtain ⟨rfl, h⟩ := h
  cases hr : impl_RowAt_f1 n (TRow.mk x6 x9) x15 with
  | none => rw [hr] at h; cases h
  | some r =>
    rw [hr] at h
    exact ⟨_, _, h, fun ω' κ' => by unfold K; rw [hf]; exact congrArg (fun z : Option R => z.bind _) hr⟩
theorem Kok (n : Nat) (ho : Ok n) {ω : Type} {avs : List AV} {κ : AV → List AV → Option ω} {q : ω} (h : impl_RowAt_f1.K n avs κ = some q) : FnOk E 153 ∧ ∃ ps rv outs, (cx n 0).sig 153 = some ps ∧ κ rv outs = some q ∧ CallOk E 153 avs rv outs ps := by
  unfold K at h
  generalize hf : fixes [.ag [.k, .sl .v .int], .k] avs = v at h
  replace h := uc_ok h; obtain ⟨a1, l2, rfl, h⟩ := h
  replace h := getAg_ok h; obtain ⟨c3, rfl, h⟩ := h
  replace h := uc_ok h; obtain ⟨a4, l5, rfl, h⟩ := h
  replace h := getI_ok h; obtain ⟨x6, rfl, h⟩ := h
  replace h := uc_ok h; obtain ⟨a7, l8, rfl, h⟩ := h
  replace h := getSl_ok h; obtain ⟨x9, rfl, h⟩ := h
  replace h := un_ok h; obtain ⟨rfl, h⟩ := h
  replace h := uc_ok h; obtain ⟨a10, l11, rfl, h⟩ := h
  replace h := getPc_ok h; obtain ⟨c12, rfl, h⟩ := h
  replace h := uc_ok h; obtain ⟨a13, l14, rfl, h⟩ := h
  replace h := getI_ok h; obtain ⟨x15, rfl, h⟩ := h
  replace h := un_ok h; obtain ⟨rfl, h⟩ := h
  replace h := un_ok h; obtain ⟨rfl, h⟩ := h
  cases hr : impl_RowAt_f1 n (TRow.mk x6 x9) x15 with
  | none => rw [hr] at h; cases h
  | some r =>
    rw [hr] at h
    exact ⟨⟨_, body, Try.func153, by decide +kernel, by kernel_rfl⟩, [.ag [.v, .v], .v], _, _, by kernel_rfl, h, CallOk.fix (ss := [.ag [.k, .sl .v .int], .k]) (by rw [hf]; exact ho (TRow.mk x6 x9) x15 r hr)⟩
end impl_RowAt_f1
namespace slices_IndexFunc_Row_c153
abbrev R : Type := Int
noncomputable def body : Code := match Try.f152.body with | some c => c | none => .skip
def ann : Ann := ⟨fun k => look2 [(3, [(0, .view .iRow), (1, .k), (7, .k), (8, .k)])] k, fun k => match look2 [] k with | some l => l | none => [], fun k => match look2 [(0, [])] k with | some l => l | none => []⟩
def fin (o : List AV) : Option R := uc o fun a1 l2 => getI .i64 a1 fun x3 => un l2 (some (x3 : R))
def inj (r : R) : List AV := [.i .i64 r]
theorem fin_ok (o : List AV) (r : R) (h : fin o = some r) : o = inj r := by
  unfold fin at h
  replace h := uc_ok h; obtain ⟨a1, l2, rfl, h⟩ := h
  replace h := getI_ok h; obtain ⟨x3, rfl, h⟩ := h
  replace h := un_ok h; obtain ⟨rfl, h⟩ := h
  cases h
  rfl
def kr (n : Nat) : St → Option R := retK (cx n 19) [.k] [.v] [.tmp 4] [] fin
def lf (n : Nat) : LF R := fun key κd κe v b => cond (Nat.beq key 3)
    (uc v fun a1 l2 => getSl .v .iRow a1 fun x3 => uc l2 fun a4 l5 => getClo 153 a4 fun c6 => uc c6 fun a7 l8 => getPc 0 a7 fun c9 => uc c9 fun a10 l11 => getI .i64 a10 fun x12 => un l11 (un l8 (uc l5 fun a13 l14 => getI .i64 a13 fun x15 => uc l14 fun a16 l17 => getI .i64 a16 fun x18 => un l17 (uc b fun a19 l20 => isExt a19 (un l20 (slices_IndexFunc_Row_c153.loop3 n (fun (_ : Unit) => κe 0 [] [some .ext]) n x3 x12 x15 x18))))))
    (none)
noncomputable def A3 : Code := match pieceAt ann body 0 3 with | some (.loop a _) => a | _ => .skip
theorem round3 (n : Nat) (B : D R) (κe : Nat → D R) (s : List TRow) (f00 : Int) (t7 : Int) (t8 : Int) : run (cx n 19) 1 ann (lf n) (kr n) A3 4 (fun s => cutK 1 [(0, .view .iRow), (1, .k), (7, .k), (8, .k)] s B) (fun j s => cutK 1 (ann.out j) s (κe j)) (St.ofC [(0, .view .iRow), (1, .k), (7, .k), (8, .k)] [.sl .v .iRow s, .clo 153 [.pc [.i .i64 f00] 0], .i .i64 t7, .i .i64 t8] [some .ext]) =
    slices_IndexFunc_Row_c153.step3 n (fun (_ : Unit) => κe 0 [] [some .ext]) (fun (z0 : List TRow) (z1 : Int) (z2 : Int) (z3 : Int) => B [.sl .v .iRow z0, .clo 153 [.pc [.i .i64 z1] 0], .i .i64 z2, .i .i64 z3] [some .ext]) s f00 t7 t8 := by kernel_rfl
theorem rounds3 (n : Nat) (κe : Nat → D R) : ∀ (N : Nat) (s : List TRow) (f00 : Int) (t7 : Int) (t8 : Int), rounds (cx n 19) 1 ann (lf n) (kr n) A3 4 [(0, .view .iRow), (1, .k), (7, .k), (8, .k)] κe N [.sl .v .iRow s, .clo 153 [.pc [.i .i64 f00] 0], .i .i64 t7, .i .i64 t8] [some .ext] = slices_IndexFunc_Row_c153.loop3 n (fun (_ : Unit) => κe 0 [] [some .ext]) N s f00 t7 t8
  | 0, _, _, _, _ => rfl
  | N + 1, s, f00, t7, t8 => (round3 n (rounds (cx n 19) 1 ann (lf n) (kr n) A3 4 [(0, .view .iRow), (1, .k), (7, .k), (8, .k)] κe N) κe s f00 t7 t8).trans (congrArg (fun back => slices_IndexFunc_Row_c153.step3 n (fun (_ : Unit) => κe 0 [] [some .ext]) back s f00 t7 t8) (funext fun z0 => funext fun z1 => funext fun z2 => funext fun z3 => rounds3 n κe N z0 z1 z2 z3))
theorem cuts (n : Nat) : Cuts (cx n 19) 1 ann (lf n) (kr n) body := by
  intro key κd κe v b r h
  unfold lf at h
  cases hk3 : Nat.beq key 3 with
  | true =>
    replace h := cond_t hk3 h
    have := beq_iff.1 hk3
    subst this
    replace h := uc_ok h; obtain ⟨a1, l2, rfl, h⟩ := h
    replace h := getSl_ok h; obtain ⟨x3, rfl, h⟩ := h
    replace h := uc_ok h; obtain ⟨a4, l5, rfl, h⟩ := h
    replace h := getClo_ok h; obtain ⟨c6, rfl, h⟩ := h
    replace h := uc_ok h; obtain ⟨a7, l8, rfl, h⟩ := h
    replace h := getPc_ok h; obtain ⟨c9, rfl, h⟩ := h
    replace h := uc_ok h; obtain ⟨a10, l11, rfl, h⟩ := h
    replace h := getI_ok h; obtain ⟨x12, rfl, h⟩ := h
    replace h := un_ok h; obtain ⟨rfl, h⟩ := h
    replace h := un_ok h; obtain ⟨rfl, h⟩ := h
    replace h := uc_ok h; obtain ⟨a13, l14, rfl, h⟩ := h
    replace h := getI_ok h; obtain ⟨x15, rfl, h⟩ := h
    replace h := uc_ok h; obtain ⟨a16, l17, rfl, h⟩ := h
    replace h := getI_ok h; obtain ⟨x18, rfl, h⟩ := h
    replace h := un_ok h; obtain ⟨rfl, h⟩ := h
    replace h := uc_ok h; obtain ⟨a19, l20, rfl, h⟩ := h
    replace h := isExt_ok h; obtain ⟨rfl, h⟩ := h
    replace h := un_ok h; obtain ⟨rfl, h⟩ := h
    exact ⟨[(0, .view .iRow), (1, .k), (7, .k), (8, .k)], .loop A3 4, by kernel_rfl, by kernel_rfl, ⟨n, (rounds3 n κe n x3 x12 x15 x18).trans h⟩⟩
  | false =>
    replace h := cond_f hk3 h
    cases h
theorem top (n : Nat) (s : List TRow) (c : Int) : entryK 1 [.sl .v .iRow s, .clo 153 [.pc [.i .i64 c] 0]] (fun v b => match outOfAll [.v, .v] v with
      | some o => cond (AV.allRoots o []) (run (cx n 19) 1 ann (lf n) (kr n) body 0 (kr n) (fun _ _ => none) (St.ofC (live0 2) v b)) none
      | none => none) = slices_IndexFunc_Row_c153 (n + 1) s c := by kernel_rfl
def Ok (n : Nat) : Prop := ∀ (s : List TRow) (c : Int) (res_ : R), slices_IndexFunc_Row_c153 n s c = some res_ → CallOk E 152 [.sl .v .iRow s, .clo 153 [.pc [.i .i64 c] 0]] (rvOf 1 (inj res_)) ((inj res_).drop 1) [.v, .v]
theorem ok (n : Nat) (hc : CxOk E (cx n 19)) (hK : KPar (cx n 19)) : Ok (n + 1) := fun s c res_ h_ =>
  fn_sound hc hK mixedOk Try.func152 (by kernel_rfl) (by kernel_rfl) (by kernel_rfl) (by decide) fin_ok (by kernel_rfl) ((top n s c).trans h_) (cuts n)
theorem Kpar (n : Nat) {ω : Type} {avs : List AV} {κ : AV → List AV → Option ω} {q : ω} (h : slices_IndexFunc_Row_c153.K n avs κ = some q) : ∃ rv outs, κ rv outs = some q ∧ ∀ (ω' : Type) (κ' : AV → List AV → Option ω'), slices_IndexFunc_Row_c153.K n avs κ' = κ' rv outs := by
  unfold K at h
  generalize hf : fixes [.sl .v .iRow, .k] avs = v at h
  replace h := uc_ok h; obtain ⟨a1, l2, rfl, h⟩ := h
  replace h := getSl_ok h; obtain ⟨x3, rfl, h⟩ := h
  replace h := uc_ok h; obtain ⟨a4, l5, rfl, h⟩ := h
  replace h := getClo_ok h; obtain ⟨c6, rfl, h⟩ := h
  replace h := uc_ok h; obtain ⟨a7, l8, rfl, h⟩ := h
  replace h := getPc_ok h; obtain ⟨c9, rfl, h⟩ := h
  replace h := uc_ok h; obtain ⟨a10, l11, rfl, h⟩ := h
  replace h := getI_ok h; obtain ⟨x12, rfl, h⟩ := h
  replace h := un_ok h; obtain ⟨rfl, h⟩ := h
  replace h := un_ok h; obtain ⟨rfl, h⟩ := h
  replace h := un_ok h; obtain ⟨rfl, h⟩ := h
  cases hr : slices_IndexFunc_Row_c153 n x3 x12 with
  | none => rw [hr] at h; cases h
  | some r =>
    rw [hr] at h
    exact ⟨_, _, h, fun ω' κ' => by unfold K; rw [hf]; exact congrArg (fun z : Option R => z.bind _) hr⟩
theorem Kok (n : Nat) (ho : Ok n) {ω : Type} {avs : List AV} {κ : AV → List AV → Option ω} {q : ω} (h : slices_IndexFunc_Row_c153.K n avs κ = some q) : FnOk E 152 ∧ ∃ ps rv outs, (cx n 0).sig 152 = some ps ∧ κ rv outs = some q ∧ CallOk E 152 avs rv outs ps := by
  unfold K at h
  generalize hf : fixes [.sl .v .iRow, .k] avs = v at h
  replace h := uc_ok h; obtain ⟨a1, l2, rfl, h⟩ := h
  replace h := getSl_ok h; obtain ⟨x3, rfl, h⟩ := h
  replace h := uc_ok h; obtain ⟨a4, l5, rfl, h⟩ := h
  replace h := getClo_ok h; obtain ⟨c6, rfl, h⟩ := h
  replace h := uc_ok h; obtain ⟨a7, l8, rfl, h⟩ := h
  replace h := getPc_ok h; obtain ⟨c9, rfl, h⟩ := h
  replace h := uc_ok h; obtain ⟨a10, l11, rfl, h⟩ := h
  replace h := getI_ok h; obtain ⟨x12, rfl, h⟩ := h
  replace h := un_ok h; obtain ⟨rfl, h⟩ := h
  replace h := un_ok h; obtain ⟨rfl, h⟩ := h
  replace h := un_ok h; obtain ⟨rfl, h⟩ := h
  cases hr : slices_IndexFunc_Row_c153 n x3 x12 with
  | none => rw [hr] at h; cases h
  | some r =>
    rw [hr] at h
    exact ⟨⟨_, body, Try.func152, by decide +kernel, by kernel_rfl⟩, [.v, .v], _, _, by kernel_rfl, h, CallOk.fix (ss := [.sl .v .iRow, .k]) (by rw [hf]; exact ho x3 x12 r hr)⟩
end slices_IndexFunc_Row_c153
namespace impl_RowAt
abbrev R : Type := Int
noncomputable def body : Code := match Try.f100.body with | some c => c | none => .skip
def ann : Ann := ⟨fun k => look2 [] k, fun k => match look2 [] k with | some l => l | none => [], fun k => match look2 [] k with | some l => l | none => []⟩
def fin (o : List AV) : Option R := uc o fun a1 l2 => getI .i64 a1 fun x3 => un l2 (some (x3 : R))
def inj (r : R) : List AV := [.i .i64 r]
theorem fin_ok (o : List AV) (r : R) (h : fin o = some r) : o = inj r := by
  unfold fin at h
  replace h := uc_ok h; obtain ⟨a1, l2, rfl, h⟩ := h
  replace h := getI_ok h; obtain ⟨x3, rfl, h⟩ := h
  replace h := un_ok h; obtain ⟨rfl, h⟩ := h
  cases h
  rfl
def kr (n : Nat) : St → Option R := retK (cx n 8) [.k] [.v] [.tmp 4] [] fin
def lf (n : Nat) : LF R := fun key κd κe v b => none
theorem cuts (n : Nat) : Cuts (cx n 8) 1 ann (lf n) (kr n) body := by
  intro key κd κe v b r h
  unfold lf at h
  cases h
theorem top (n : Nat) (rows : List TRow) (id1 : Int) : entryK 1 [.sl .v .iRow rows, .i .i64 id1] (fun v b => match outOfAll [.v, .v] v with
      | some o => cond (AV.allRoots o []) (run (cx n 8) 1 ann (lf n) (kr n) body 0 (kr n) (fun _ _ => none) (St.ofC (live0 2) v b)) none
      | none => none) = impl_RowAt (n + 1) rows id1 := by kernel_rfl
def Ok (n : Nat) : Prop := ∀ (rows : List TRow) (id1 : Int) (res_ : R), impl_RowAt n rows id1 = some res_ → CallOk E 100 [.sl .v .iRow rows, .i .i64 id1] (rvOf 1 (inj res_)) ((inj res_).drop 1) [.v, .v]
theorem ok (n : Nat) (hc : CxOk E (cx n 8)) (hK : KPar (cx n 8)) : Ok (n + 1) := fun rows id1 res_ h_ =>
  fn_sound hc hK mixedOk Try.func100 (by kernel_rfl) (by kernel_rfl) (by kernel_rfl) (by decide) fin_ok (by kernel_rfl) ((top n rows id1).trans h_) (cuts n)
theorem Kpar (n : Nat) {ω : Type} {avs : List AV} {κ : AV → List AV → Option ω} {q : ω} (h : impl_RowAt.K n avs κ = some q) : ∃ rv outs, κ rv outs = some q ∧ ∀ (ω' : Type) (κ' : AV → List AV → Option ω'), impl_RowAt.K n avs κ' = κ' rv outs := by
  unfold K at h
  generalize hf : fixes [.sl .v .iRow, .k] avs = v at h
  replace h := uc_ok h; obtain ⟨a1, l2, rfl, h⟩ := h
  replace h := getSl_ok h; obtain ⟨x3, rfl, h⟩ := h
  replace h := uc_ok h; obtain ⟨a4, l5, rfl, h⟩ := h
  replace h := getI_ok h; obtain ⟨x6, rfl, h⟩ := h
  replace h := un_ok h; obtain ⟨rfl, h⟩ := h
  cases hr : impl_RowAt n x3 x6 with
  | none => rw [hr] at h; cases h
  | some r =>
    rw [hr] at h
    exact ⟨_, _, h, fun ω' κ' => by unfold K; rw [hf]; exact congrArg (fun z : Option R => z.bind _) hr⟩
theorem Kok (n : Nat) (ho : Ok n) {ω : Type} {avs : List AV} {κ : AV → List AV → Option ω} {q : ω} (h : impl_RowAt.K n avs κ = some q) : FnOk E 100 ∧ ∃ ps rv outs, (cx n 0).sig 100 = some ps ∧ κ rv outs = some q ∧ CallOk E 100 avs rv outs ps := by
  unfold K at h
  generalize hf : fixes [.sl .v .iRow, .k] avs = v at h
  replace h := uc_ok h; obtain ⟨a1, l2, rfl, h⟩ := h
  replace h := getSl_ok h; obtain ⟨x3, rfl, h⟩ := h
  replace h := uc_ok h; obtain ⟨a4, l5, rfl, h⟩ := h
  replace h := getI_ok h; obtain ⟨x6, rfl, h⟩ := h
  replace h := un_ok h; obtain ⟨rfl, h⟩ := h
  cases hr : impl_RowAt n x3 x6 with
  | none => rw [hr] at h; cases h
  | some r =>
    rw [hr] at h
    exact ⟨⟨_, body, Try.func100, by decide +kernel, by kernel_rfl⟩, [.v, .v], _, _, by kernel_rfl, h, CallOk.fix (ss := [.sl .v .iRow, .k]) (by rw [hf]; exact ho x3 x6 r hr)⟩
end impl_RowAt
namespace impl_ViewOk
abbrev R : Type := Bool
noncomputable def body : Code := match Try.f47.body with | some c => c | none => .skip
def ann : Ann := ⟨fun k => look2 [(6, [(2, .box [.view .int]), (3, .box [.k, .view .iCond, .k, .k, .k, .view .int, .k, .k, .k, .view .iRow, .view .iKid]), (33, .view .iRow), (34, .k), (35, .k)]), (15, [(3, .box [.k, .view .iCond, .k, .k, .k, .view .int, .k, .k, .k, .view .iRow, .view .iKid]), (82, .view .iKid), (83, .k), (84, .k)])] k, fun k => match look2 [] k with | some l => l | none => [], fun k => match look2 [(0, [(3, .box [.k, .view .iCond, .k, .k, .k, .view .int, .k, .k, .k, .view .iRow, .view .iKid])]), (2, [])] k with | some l => l | none => []⟩
def fin (o : List AV) : Option R := uc o fun a1 l2 => getB a1 fun x3 => un l2 (some (x3 : R))
def inj (r : R) : List AV := [.b r]
theorem fin_ok (o : List AV) (r : R) (h : fin o = some r) : o = inj r := by
  unfold fin at h
  replace h := uc_ok h; obtain ⟨a1, l2, rfl, h⟩ := h
  replace h := getB_ok h; obtain ⟨x3, rfl, h⟩ := h
  replace h := un_ok h; obtain ⟨rfl, h⟩ := h
  cases h
  rfl
def kr (n : Nat) : St → Option R := retK (cx n 110) [.k] [.v] [.tmp 4] [] fin
def lf (n : Nat) : LF R := fun key κd κe v b => cond (Nat.beq key 6)
    (uc v fun a1 l2 => isPb 1 0 a1 (uc l2 fun a3 l4 => isPb 2 0 a3 (uc l4 fun a5 l6 => getSl .v .iRow a5 fun x7 => uc l6 fun a8 l9 => getI .i64 a8 fun x10 => uc l9 fun a11 l12 => getI .i64 a11 fun x13 => un l12 (uc b fun a14 l15 => isExt a14 (uc l15 fun a16 l17 => getBox a16 fun c18 => uc c18 fun a19 l20 => getSl .v .int a19 fun x21 => un l20 (uc l17 fun a22 l23 => getBox a22 fun c24 => uc c24 fun a25 l26 => getI .i64 a25 fun x27 => uc l26 fun a28 l29 => getSl .v .iCond a28 fun x30 => uc l29 fun a31 l32 => getI .i64 a31 fun x33 => uc l32 fun a34 l35 => getB a34 fun x36 => uc l35 fun a37 l38 => getI .i64 a37 fun x39 => uc l38 fun a40 l41 => getSl .v .int a40 fun x42 => uc l41 fun a43 l44 => getB a43 fun x45 => uc l44 fun a46 l47 => getI .i64 a46 fun x48 => uc l47 fun a49 l50 => getI .i64 a49 fun x51 => uc l50 fun a52 l53 => getSl .v .iRow a52 fun x54 => uc l53 fun a55 l56 => getSl .v .iKid a55 fun x57 => un l56 (un l23 (impl_ViewOk.loop6 n (fun (y0 : Int) (y1 : List TCond) (y2 : Int) (y3 : Bool) (y4 : Int) (y5 : List Int) (y6 : Bool) (y7 : Int) (y8 : Int) (y9 : List TRow) (y10 : List TKid) => κe 0 [.pb 1 0] [some .ext, some (.box [.i .i64 y0, .sl .v .iCond y1, .i .i64 y2, .b y3, .i .i64 y4, .sl .v .int y5, .b y6, .i .i64 y7, .i .i64 y8, .sl .v .iRow y9, .sl .v .iKid y10])]) n x7 x10 x13 x21 x27 x30 x33 x36 x39 x42 x45 x48 x51 x54 x57))))))))
    (cond (Nat.beq key 15)
    (uc v fun a1 l2 => isPb 1 0 a1 (uc l2 fun a3 l4 => getSl .v .iKid a3 fun x5 => uc l4 fun a6 l7 => getI .i64 a6 fun x8 => uc l7 fun a9 l10 => getI .i64 a9 fun x11 => un l10 (uc b fun a12 l13 => isExt a12 (uc l13 fun a14 l15 => getBox a14 fun c16 => uc c16 fun a17 l18 => getI .i64 a17 fun x19 => uc l18 fun a20 l21 => getSl .v .iCond a20 fun x22 => uc l21 fun a23 l24 => getI .i64 a23 fun x25 => uc l24 fun a26 l27 => getB a26 fun x28 => uc l27 fun a29 l30 => getI .i64 a29 fun x31 => uc l30 fun a32 l33 => getSl .v .int a32 fun x34 => uc l33 fun a35 l36 => getB a35 fun x37 => uc l36 fun a38 l39 => getI .i64 a38 fun x40 => uc l39 fun a41 l42 => getI .i64 a41 fun x43 => uc l42 fun a44 l45 => getSl .v .iRow a44 fun x46 => uc l45 fun a47 l48 => getSl .v .iKid a47 fun x49 => un l48 (un l15 (impl_ViewOk.loop15 n (fun (_ : Unit) => κe 2 [] [some .ext]) n x5 x8 x11 x19 x22 x25 x28 x31 x34 x37 x40 x43 x46 x49))))))
    (none))
noncomputable def A6 : Code := match pieceAt ann body 0 6 with | some (.loop a _) => a | _ => .skip
theorem round6 (n : Nat) (B : D R) (κe : Nat → D R) (t33 : List TRow) (t34 : Int) (t35 : Int) (t20 : List Int) (t30 : Int) (t31 : List TCond) (t32 : Int) (t33_1 : Bool) (t34_1 : Int) (t35_1 : List Int) (t36 : Bool) (t37 : Int) (t38 : Int) (t39 : List TRow) (t310 : List TKid) : run (cx n 110) 1 ann (lf n) (kr n) A6 7 (fun s => cutK 1 [(2, .box [.view .int]), (3, .box [.k, .view .iCond, .k, .k, .k, .view .int, .k, .k, .k, .view .iRow, .view .iKid]), (33, .view .iRow), (34, .k), (35, .k)] s B) (fun j s => cutK 1 (ann.out j) s (κe j)) (St.ofC [(2, .box [.view .int]), (3, .box [.k, .view .iCond, .k, .k, .k, .view .int, .k, .k, .k, .view .iRow, .view .iKid]), (33, .view .iRow), (34, .k), (35, .k)] [.pb 1 0, .pb 2 0, .sl .v .iRow t33, .i .i64 t34, .i .i64 t35] [some .ext, some (.box [.sl .v .int t20]), some (.box [.i .i64 t30, .sl .v .iCond t31, .i .i64 t32, .b t33_1, .i .i64 t34_1, .sl .v .int t35_1, .b t36, .i .i64 t37, .i .i64 t38, .sl .v .iRow t39, .sl .v .iKid t310])]) =
    impl_ViewOk.step6 n (fun (y0 : Int) (y1 : List TCond) (y2 : Int) (y3 : Bool) (y4 : Int) (y5 : List Int) (y6 : Bool) (y7 : Int) (y8 : Int) (y9 : List TRow) (y10 : List TKid) => κe 0 [.pb 1 0] [some .ext, some (.box [.i .i64 y0, .sl .v .iCond y1, .i .i64 y2, .b y3, .i .i64 y4, .sl .v .int y5, .b y6, .i .i64 y7, .i .i64 y8, .sl .v .iRow y9, .sl .v .iKid y10])]) (fun (z0 : List TRow) (z1 : Int) (z2 : Int) (z3 : List Int) (z4 : Int) (z5 : List TCond) (z6 : Int) (z7 : Bool) (z8 : Int) (z9 : List Int) (z10 : Bool) (z11 : Int) (z12 : Int) (z13 : List TRow) (z14 : List TKid) => B [.pb 1 0, .pb 2 0, .sl .v .iRow z0, .i .i64 z1, .i .i64 z2] [some .ext, some (.box [.sl .v .int z3]), some (.box [.i .i64 z4, .sl .v .iCond z5, .i .i64 z6, .b z7, .i .i64 z8, .sl .v .int z9, .b z10, .i .i64 z11, .i .i64 z12, .sl .v .iRow z13, .sl .v .iKid z14])]) t33 t34 t35 t20 t30 t31 t32 t33_1 t34_1 t35_1 t36 t37 t38 t39 t310 := by kernel_rfl
theorem rounds6 (n : Nat) (κe : Nat → D R) : ∀ (N : Nat) (t33 : List TRow) (t34 : Int) (t35 : Int) (t20 : List Int) (t30 : Int) (t31 : List TCond) (t32 : Int) (t33_1 : Bool) (t34_1 : Int) (t35_1 : List Int) (t36 : Bool) (t37 : Int) (t38 : Int) (t39 : List TRow) (t310 : List TKid), rounds (cx n 110) 1 ann (lf n) (kr n) A6 7 [(2, .box [.view .int]), (3, .box [.k, .view .iCond, .k, .k, .k, .view .int, .k, .k, .k, .view .iRow, .view .iKid]), (33, .view .iRow), (34, .k), (35, .k)] κe N [.pb 1 0, .pb 2 0, .sl .v .iRow t33, .i .i64 t34, .i .i64 t35] [some .ext, some (.box [.sl .v .int t20]), some (.box [.i .i64 t30, .sl .v .iCond t31, .i .i64 t32, .b t33_1, .i .i64 t34_1, .sl .v .int t35_1, .b t36, .i .i64 t37, .i .i64 t38, .sl .v .iRow t39, .sl .v .iKid t310])] = impl_ViewOk.loop6 n (fun (y0 : Int) (y1 : List TCond) (y2 : Int) (y3 : Bool) (y4 : Int) (y5 : List Int) (y6 : Bool) (y7 : Int) (y8 : Int) (y9 : List TRow) (y10 : List TKid) => κe 0 [.pb 1 0] [some .ext, some (.box [.i .i64 y0, .sl .v .iCond y1, .i .i64 y2, .b y3, .i .i64 y4, .sl .v .int y5, .b y6, .i .i64 y7, .i .i64 y8, .sl .v .iRow y9, .sl .v .iKid y10])]) N t33 t34 t35 t20 t30 t31 t32 t33_1 t34_1 t35_1 t36 t37 t38 t39 t310
  | 0, _, _, _, _, _, _, _, _, _, _, _, _, _, _, _ => rfl
  | N + 1, t33, t34, t35, t20, t30, t31, t32, t33_1, t34_1, t35_1, t36, t37, t38, t39, t310 => (round6 n (rounds (cx n 110) 1 ann (lf n) (kr n) A6 7 [(2, .box [.view .int]), (3, .box [.k, .view .iCond, .k, .k, .k, .view .int, .k, .k, .k, .view .iRow, .view .iKid]), (33, .view .iRow), (34, .k), (35, .k)] κe N) κe t33 t34 t35 t20 t30 t31 t32 t33_1 t34_1 t35_1 t36 t37 t38 t39 t310).trans (congrArg (fun back => impl_ViewOk.step6 n (fun (y0 : Int) (y1 : List TCond) (y2 : Int) (y3 : Bool) (y4 : Int) (y5 : List Int) (y6 : Bool) (y7 : Int) (y8 : Int) (y9 : List TRow) (y10 : List TKid) => κe 0 [.pb 1 0] [some .ext, some (.box [.i .i64 y0, .sl .v .iCond y1, .i .i64 y2, .b y3, .i .i64 y4, .sl .v .int y5, .b y6, .i .i64 y7, .i .i64 y8, .sl .v .iRow y9, .sl .v .iKid y10])]) back t33 t34 t35 t20 t30 t31 t32 t33_1 t34_1 t35_1 t36 t37 t38 t39 t310) (funext fun z0 => funext fun z1 => funext fun z2 => funext fun z3 => funext fun z4 => funext fun z5 => funext fun z6 => funext fun z7 => funext fun z8 => funext fun z9 => funext fun z10 => funext fun z11 => funext fun z12 => funext fun z13 => funext fun z14 => rounds6 n κe N z0 z1 z2 z3 z4 z5 z6 z7 z8 z9 z10 z11 z12 z13 z14))
noncomputable def A15 : Code := match pieceAt ann body 0 15 with | some (.loop a _) => a | _ => .skip
theorem round15 (n : Nat) (B : D R) (κe : Nat → D R) (t82 : List TKid) (t83 : Int) (t84 : Int) (t30 : Int) (t31 : List TCond) (t32 : Int) (t33 : Bool) (t34 : Int) (t35 : List Int) (t36 : Bool) (t37 : Int) (t38 : Int) (t39 : List TRow) (t310 : List TKid) : run (cx n 110) 1 ann (lf n) (kr n) A15 16 (fun s => cutK 1 [(3, .box [.k, .view .iCond, .k, .k, .k, .view .int, .k, .k, .k, .view .iRow, .view .iKid]), (82, .view .iKid), (83, .k), (84, .k)] s B) (fun j s => cutK 1 (ann.out j) s (κe j)) (St.ofC [(3, .box [.k, .view .iCond, .k, .k, .k, .view .int, .k, .k, .k, .view .iRow, .view .iKid]), (82, .view .iKid), (83, .k), (84, .k)] [.pb 1 0, .sl .v .iKid t82, .i .i64 t83, .i .i64 t84] [some .ext, some (.box [.i .i64 t30, .sl .v .iCond t31, .i .i64 t32, .b t33, .i .i64 t34, .sl .v .int t35, .b t36, .i .i64 t37, .i .i64 t38, .sl .v .iRow t39, .sl .v .iKid t310])]) =
    impl_ViewOk.step15 n (fun (_ : Unit) => κe 2 [] [some .ext]) (fun (z0 : List TKid) (z1 : Int) (z2 : Int) (z3 : Int) (z4 : List TCond) (z5 : Int) (z6 : Bool) (z7 : Int) (z8 : List Int) (z9 : Bool) (z10 : Int) (z11 : Int) (z12 : List TRow) (z13 : List TKid) => B [.pb 1 0, .sl .v .iKid z0, .i .i64 z1, .i .i64 z2] [some .ext, some (.box [.i .i64 z3, .sl .v .iCond z4, .i .i64 z5, .b z6, .i .i64 z7, .sl .v .int z8, .b z9, .i .i64 z10, .i .i64 z11, .sl .v .iRow z12, .sl .v .iKid z13])]) t82 t83 t84 t30 t31 t32 t33 t34 t35 t36 t37 t38 t39 t310 := by kernel_rfl
theorem rounds15 (n : Nat) (κe : Nat → D R) : ∀ (N : Nat) (t82 : List TKid) (t83 : Int) (t84 : Int) (t30 : Int) (t31 : List TCond) (t32 : Int) (t33 : Bool) (t34 : Int) (t35 : List Int) (t36 : Bool) (t37 : Int) (t38 : Int) (t39 : List TRow) (t310 : List TKid), rounds (cx n 110) 1 ann (lf n) (kr n) A15 16 [(3, .box [.k, .view .iCond, .k, .k, .k, .view .int, .k, .k, .k, .view .iRow, .view .iKid]), (82, .view .iKid), (83, .k), (84, .k)] κe N [.pb 1 0, .sl .v .iKid t82, .i .i64 t83, .i .i64 t84] [some .ext, some (.box [.i .i64 t30, .sl .v .iCond t31, .i .i64 t32, .b t33, .i .i64 t34, .sl .v .int t35, .b t36, .i .i64 t37, .i .i64 t38, .sl .v .iRow t39, .sl .v .iKid t310])] = impl_ViewOk.loop15 n (fun (_ : Unit) => κe 2 [] [some .ext]) N t82 t83 t84 t30 t31 t32 t33 t34 t35 t36 t37 t38 t39 t310
  | 0, _, _, _, _, _, _, _, _, _, _, _, _, _, _ => rfl
  | N + 1, t82, t83, t84, t30, t31, t32, t33, t34, t35, t36, t37, t38, t39, t310 => (round15 n (rounds (cx n 110) 1 ann (lf n) (kr n) A15 16 [(3, .box [.k, .view .iCond, .k, .k, .k, .view .int, .k, .k, .k, .view .iRow, .view .iKid]), (82, .view .iKid), (83, .k), (84, .k)] κe N) κe t82 t83 t84 t30 t31 t32 t33 t34 t35 t36 t37 t38 t39 t310).trans (congrArg (fun back => impl_ViewOk.step15 n (fun (_ : Unit) => κe 2 [] [some .ext]) back t82 t83 t84 t30 t31 t32 t33 t34 t35 t36 t37 t38 t39 t310) (funext fun z0 => funext fun z1 => funext fun z2 => funext fun z3 => funext fun z4 => funext fun z5 => funext fun z6 => funext fun z7 => funext fun z8 => funext fun z9 => funext fun z10 => funext fun z11 => funext fun z12 => funext fun z13 => rounds15 n κe N z0 z1 z2 z3 z4 z5 z6 z7 z8 z9 z10 z11 z12 z13))
theorem cuts (n : Nat) : Cuts (cx n 110) 1 ann (lf n) (kr n) body := by
  intro key κd κe v b r h
  unfold lf at h
  cases hk6 : Nat.beq key 6 with
  | true =>
    replace h := cond_t hk6 h
    have := beq_iff.1 hk6
    subst this
    replace h := uc_ok h; obtain ⟨a1, l2, rfl, h⟩ := h
    replace h := isPb_ok h; obtain ⟨rfl, h⟩ := h
    replace h := uc_ok h; obtain ⟨a3, l4, rfl, h⟩ := h
    replace h := isPb_ok h; obtain ⟨rfl, h⟩ := h
    replace h := uc_ok h; obtain ⟨a5, l6, rfl, h⟩ := h
    replace h := getSl_ok h; obtain ⟨x7, rfl, h⟩ := h
    replace h := uc_ok h; obtain ⟨a8, l9, rfl, h⟩ := h
    replace h := getI_ok h; obtain ⟨x10, rfl, h⟩ := h
    replace h := uc_ok h; obtain ⟨a11, l12, rfl, h⟩ := h
    replace h := getI_ok h; obtain ⟨x13, rfl, h⟩ := h
    replace h := un_ok h; obtain ⟨rfl, h⟩ := h
    replace h := uc_ok h; obtain ⟨a14, l15, rfl, h⟩ := h
    replace h := isExt_ok h; obtain ⟨rfl, h⟩ := h
    replace h := uc_ok h; obtain ⟨a16, l17, rfl, h⟩ := h
    replace h := getBox_ok h; obtain ⟨c18, rfl, h⟩ := h
    replace h := uc_ok h; obtain ⟨a19, l20, rfl, h⟩ := h
    replace h := getSl_ok h; obtain ⟨x21, rfl, h⟩ := h
    replace h := un_ok h; obtain ⟨rfl, h⟩ := h
    replace h := uc_ok h; obtain ⟨a22, l23, rfl, h⟩ := h
    replace h := getBox_ok h; obtain ⟨c24, rfl, h⟩ := h
    replace h := uc_ok h; obtain ⟨a25, l26, rfl, h⟩ := h
    replace h := getI_ok h; obtain ⟨x27, rfl, h⟩ := h
    replace h := uc_ok h; obtain ⟨a28, l29, rfl, h⟩ := h
    replace h := getSl_ok h; obtain ⟨x30, rfl, h⟩ := h
    replace h := uc_ok h; obtain ⟨a31, l32, rfl, h⟩ := h
    replace h := getI_ok h; obtain ⟨x33, rfl, h⟩ := h
    replace h := uc_ok h; obtain ⟨a34, l35, rfl, h⟩ := h
    replace h := getB_ok h; obtain ⟨x36, rfl, h⟩ := h
    replace h := uc_ok h; obtain ⟨a37, l38, rfl, h⟩ := h
    replace h := getI_ok h; obtain ⟨x39, rfl, h⟩ := h
    replace h := uc_ok h; obtain ⟨a40, l41, rfl, h⟩ := h
    replace h := getSl_ok h; obtain ⟨x42, rfl, h⟩ := h
    replace h := uc_ok h; obtain ⟨a43, l44, rfl, h⟩ := h
    replace h := getB_ok h; obtain ⟨x45, rfl, h⟩ := h
    replace h := uc_ok h; obtain ⟨a46, l47, rfl, h⟩ := h
    replace h := getI_ok h; obtain ⟨x48, rfl, h⟩ := h
    replace h := uc_ok h; obtain ⟨a49, l50, rfl, h⟩ := h
    replace h := getI_ok h; obtain ⟨x51, rfl, h⟩ := h
    replace h := uc_ok h; obtain ⟨a52, l53, rfl, h⟩ := h
    replace h := getSl_ok h; obtain ⟨x54, rfl, h⟩ := h
    replace h := uc_ok h; obtain ⟨a55, l56, rfl, h⟩ := h
    replace h := getSl_ok h; obtain ⟨x57, rfl, h⟩ := h
    replace h := un_ok h; obtain ⟨rfl, h⟩ := h
    replace h := un_ok h; obtain ⟨rfl, h⟩ := h
    exact ⟨[(2, .box [.view .int]), (3, .box [.k, .view .iCond, .k, .k, .k, .view .int, .k, .k, .k, .view .iRow, .view .iKid]), (33, .view .iRow), (34, .k), (35, .k)], .loop A6 7, by kernel_rfl, by kernel_rfl, ⟨n, (rounds6 n κe n x7 x10 x13 x21 x27 x30 x33 x36 x39 x42 x45 x48 x51 x54 x57).trans h⟩⟩
  | false =>
    replace h := cond_f hk6 h
    cases hk15 : Nat.beq key 15 with
    | true =>
      replace h := cond_t hk15 h
      have := beq_iff.1 hk15
      subst this
      replace h := uc_ok h; obtain ⟨a1, l2, rfl, h⟩ := h
      replace h := isPb_ok h; obtain ⟨rfl, h⟩ := h
      replace h := uc_ok h; obtain ⟨a3, l4, rfl, h⟩ := h
      replace h := getSl_ok h; obtain ⟨x5, rfl, h⟩ := h
      replace h := uc_ok h; obtain ⟨a6, l7, rfl, h⟩ := h
      replace h := getI_ok h; obtain ⟨x8, rfl, h⟩ := h
      replace h := uc_ok h; obtain ⟨a9, l10, rfl, h⟩ := h
      replace h := getI_ok h; obtain ⟨x11, rfl, h⟩ := h
      replace h := un_ok h; obtain ⟨rfl, h⟩ := h
      replace h := uc_ok h; obtain ⟨a12, l13, rfl, h⟩ := h
      replace h := isExt_ok h; obtain ⟨rfl, h⟩ := h
      replace h := uc_ok h; obtain ⟨a14, l15, rfl, h⟩ := h
      replace h := getBox_ok h; obtain ⟨c16, rfl, h⟩ := h
      replace h := uc_ok h; obtain ⟨a17, l18, rfl, h⟩ := h
      replace h := getI_ok h; obtain ⟨x19, rfl, h⟩ := h
      replace h := uc_ok h; obtain ⟨a20, l21, rfl, h⟩ := h
      replace h := getSl_ok h; obtain ⟨x22, rfl, h⟩ := h
      replace h := uc_ok h; obtain ⟨a23, l24, rfl, h⟩ := h
      replace h := getI_ok h; obtain ⟨x25, rfl, h⟩ := h
      replace h := uc_ok h; obtain ⟨a26, l27, rfl, h⟩ := h
      replace h := getB_ok h; obtain ⟨x28, rfl, h⟩ := h
      replace h := uc_ok h; obtain ⟨a29, l30, rfl, h⟩ := h
      replace h := getI_ok h; obtain ⟨x31, rfl, h⟩ := h
      replace h := uc_ok h; obtain ⟨a32, l33, rfl, h⟩ := h
      replace h := getSl_ok h; obtain ⟨x34, rfl, h⟩ := h
      replace h := uc_ok h; obtain ⟨a35, l36, rfl, h⟩ := h
      replace h := getB_ok h; obtain ⟨x37, rfl, h⟩ := h
      replace h := uc_ok h; obtain ⟨a38, l39, rfl, h⟩ := h
      replace h := getI_ok h; obtain ⟨x40, rfl, h⟩ := h
      replace h := uc_ok h; obtain ⟨a41, l42, rfl, h⟩ := h
      replace h := getI_ok h; obtain ⟨x43, rfl, h⟩ := h
      replace h := uc_ok h; obtain ⟨a44, l45, rfl, h⟩ := h
      replace h := getSl_ok h; obtain ⟨x46, rfl, h⟩ := h
      replace h := uc_ok h; obtain ⟨a47, l48, rfl, h⟩ := h
      replace h := getSl_ok h; obtain ⟨x49, rfl, h⟩ := h
      replace h := un_ok h; obtain ⟨rfl, h⟩ := h
      replace h := un_ok h; obtain ⟨rfl, h⟩ := h
      exact ⟨[(3, .box [.k, .view .iCond, .k, .k, .k, .view .int, .k, .k, .k, .view .iRow, .view .iKid]), (82, .view .iKid), (83, .k), (84, .k)], .loop A15 16, by kernel_rfl, by kernel_rfl, ⟨n, (rounds15 n κe n x5 x8 x11 x19 x22 x25 x28 x31 x34 x37 x40 x43 x46 x49).trans h⟩⟩
    | false =>
      replace h := cond_f hk15 h
      cases h
theorem top (n : Nat) (o : TSchema) (append : TView) : entryK 1 [.ag [.sl .v .int o.cols], .ag [.i .i64 append.q.table, .sl .v .iCond append.q.where_, .i .i64 append.q.order, .b append.q.down, .i .i64 append.q.first, .sl .v .int append.q.show_, .b append.q.kids, .i .i64 append.q.kidTable, .i .i64 append.q.kidCol, .sl .v .iRow append.rows, .sl .v .iKid append.kids]] (fun v b => match outOfAll [.ag [.v], .ag [.v, .v, .v, .v, .v, .v, .v, .v, .v, .v, .v]] v with
      | some o => cond (AV.allRoots o []) (run (cx n 110) 1 ann (lf n) (kr n) body 0 (kr n) (fun _ _ => none) (St.ofC (live0 2) v b)) none
      | none => none) = impl_ViewOk (n + 1) o append := by kernel_rfl
def Ok (n : Nat) : Prop := ∀ (o : TSchema) (append : TView) (res_ : R), impl_ViewOk n o append = some res_ → CallOk E 47 [.ag [.sl .v .int o.cols], .ag [.i .i64 append.q.table, .sl .v .iCond append.q.where_, .i .i64 append.q.order, .b append.q.down, .i .i64 append.q.first, .sl .v .int append.q.show_, .b append.q.kids, .i .i64 append.q.kidTable, .i .i64 append.q.kidCol, .sl .v .iRow append.rows, .sl .v .iKid append.kids]] (rvOf 1 (inj res_)) ((inj res_).drop 1) [.ag [.v], .ag [.v, .v, .v, .v, .v, .v, .v, .v, .v, .v, .v]]
theorem ok (n : Nat) (hc : CxOk E (cx n 110)) (hK : KPar (cx n 110)) : Ok (n + 1) := fun o append res_ h_ =>
  fn_sound hc hK mixedOk Try.func47 (by kernel_rfl) (by kernel_rfl) (by kernel_rfl) (by decide) fin_ok (by kernel_rfl) ((top n o append).trans h_) (cuts n)
theorem Kpar (n : Nat) {ω : Type} {avs : List AV} {κ : AV → List AV → Option ω} {q : ω} (h : impl_ViewOk.K n avs κ = some q) : ∃ rv outs, κ rv outs = some q ∧ ∀ (ω' : Type) (κ' : AV → List AV → Option ω'), impl_ViewOk.K n avs κ' = κ' rv outs := by
  unfold K at h
  generalize hf : fixes [.ag [.sl .v .int], .ag [.k, .sl .v .iCond, .k, .k, .k, .sl .v .int, .k, .k, .k, .sl .v .iRow, .sl .v .iKid]] avs = v at h
  replace h := uc_ok h; obtain ⟨a1, l2, rfl, h⟩ := h
  replace h := getAg_ok h; obtain ⟨c3, rfl, h⟩ := h
  replace h := uc_ok h; obtain ⟨a4, l5, rfl, h⟩ := h
  replace h := getSl_ok h; obtain ⟨x6, rfl, h⟩ := h
  replace h := un_ok h; obtain ⟨rfl, h⟩ := h
  replace h := uc_ok h; obtain ⟨a7, l8, rfl, h⟩ := h
  replace h := getAg_ok h; obtain ⟨c9, rfl, h⟩ := h
  replace h := uc_ok h; obtain ⟨a10, l11, rfl, h⟩ := h
  replace h := getI_ok h; obtain ⟨x12, rfl, h⟩ := h
  replace h := uc_ok h; obtain ⟨a13, l14, rfl, h⟩ := h
  replace h := getSl_ok h; obtain ⟨x15, rfl, h⟩ := h
  replace h := uc_ok h; obtain ⟨a16, l17, rfl, h⟩ := h
  replace h := getI_ok h; obtain ⟨x18, rfl, h⟩ := h
  replace h := uc_ok h; obtain ⟨a19, l20, rfl, h⟩ := h
  replace h := getB_ok h; obtain ⟨x21, rfl, h⟩ := h
  replace h := uc_ok h; obtain ⟨a22, l23, rfl, h⟩ := h
  replace h := getI_ok h; obtain ⟨x24, rfl, h⟩ := h
  replace h := uc_ok h; obtain ⟨a25, l26, rfl, h⟩ := h
  replace h := getSl_ok h; obtain ⟨x27, rfl, h⟩ := h
  replace h := uc_ok h; obtain ⟨a28, l29, rfl, h⟩ := h
  replace h := getB_ok h; obtain ⟨x30, rfl, h⟩ := h
  replace h := uc_ok h; obtain ⟨a31, l32, rfl, h⟩ := h
  replace h := getI_ok h; obtain ⟨x33, rfl, h⟩ := h
  replace h := uc_ok h; obtain ⟨a34, l35, rfl, h⟩ := h
  replace h := getI_ok h; obtain ⟨x36, rfl, h⟩ := h
  replace h := uc_ok h; obtain ⟨a37, l38, rfl, h⟩ := h
  replace h := getSl_ok h; obtain ⟨x39, rfl, h⟩ := h
  replace h := uc_ok h; obtain ⟨a40, l41, rfl, h⟩ := h
  replace h := getSl_ok h; obtain ⟨x42, rfl, h⟩ := h
  replace h := un_ok h; obtain ⟨rfl, h⟩ := h
  replace h := un_ok h; obtain ⟨rfl, h⟩ := h
  cases hr : impl_ViewOk n (TSchema.mk x6) (TView.mk (TQuery.mk x12 x15 x18 x21 x24 x27 x30 x33 x36) x39 x42) with
  | none => rw [hr] at h; cases h
  | some r =>
    rw [hr] at h
    exact ⟨_, _, h, fun ω' κ' => by unfold K; rw [hf]; exact congrArg (fun z : Option R => z.bind _) hr⟩
theorem Kok (n : Nat) (ho : Ok n) {ω : Type} {avs : List AV} {κ : AV → List AV → Option ω} {q : ω} (h : impl_ViewOk.K n avs κ = some q) : FnOk E 47 ∧ ∃ ps rv outs, (cx n 0).sig 47 = some ps ∧ κ rv outs = some q ∧ CallOk E 47 avs rv outs ps := by
  unfold K at h
  generalize hf : fixes [.ag [.sl .v .int], .ag [.k, .sl .v .iCond, .k, .k, .k, .sl .v .int, .k, .k, .k, .sl .v .iRow, .sl .v .iKid]] avs = v at h
  replace h := uc_ok h; obtain ⟨a1, l2, rfl, h⟩ := h
  replace h := getAg_ok h; obtain ⟨c3, rfl, h⟩ := h
  replace h := uc_ok h; obtain ⟨a4, l5, rfl, h⟩ := h
  replace h := getSl_ok h; obtain ⟨x6, rfl, h⟩ := h
  replace h := un_ok h; obtain ⟨rfl, h⟩ := h
  replace h := uc_ok h; obtain ⟨a7, l8, rfl, h⟩ := h
  replace h := getAg_ok h; obtain ⟨c9, rfl, h⟩ := h
  replace h := uc_ok h; obtain ⟨a10, l11, rfl, h⟩ := h
  replace h := getI_ok h; obtain ⟨x12, rfl, h⟩ := h
  replace h := uc_ok h; obtain ⟨a13, l14, rfl, h⟩ := h
  replace h := getSl_ok h; obtain ⟨x15, rfl, h⟩ := h
  replace h := uc_ok h; obtain ⟨a16, l17, rfl, h⟩ := h
  replace h := getI_ok h; obtain ⟨x18, rfl, h⟩ := h
  replace h := uc_ok h; obtain ⟨a19, l20, rfl, h⟩ := h
  replace h := getB_ok h; obtain ⟨x21, rfl, h⟩ := h
  replace h := uc_ok h; obtain ⟨a22, l23, rfl, h⟩ := h
  replace h := getI_ok h; obtain ⟨x24, rfl, h⟩ := h
  replace h := uc_ok h; obtain ⟨a25, l26, rfl, h⟩ := h
  replace h := getSl_ok h; obtain ⟨x27, rfl, h⟩ := h
  replace h := uc_ok h; obtain ⟨a28, l29, rfl, h⟩ := h
  replace h := getB_ok h; obtain ⟨x30, rfl, h⟩ := h
  replace h := uc_ok h; obtain ⟨a31, l32, rfl, h⟩ := h
  replace h := getI_ok h; obtain ⟨x33, rfl, h⟩ := h
  replace h := uc_ok h; obtain ⟨a34, l35, rfl, h⟩ := h
  replace h := getI_ok h; obtain ⟨x36, rfl, h⟩ := h
  replace h := uc_ok h; obtain ⟨a37, l38, rfl, h⟩ := h
  replace h := getSl_ok h; obtain ⟨x39, rfl, h⟩ := h
  replace h := uc_ok h; obtain ⟨a40, l41, rfl, h⟩ := h
  replace h := getSl_ok h; obtain ⟨x42, rfl, h⟩ := h
  replace h := un_ok h; obtain ⟨rfl, h⟩ := h
  replace h := un_ok h; obtain ⟨rfl, h⟩ := h
  cases hr : impl_ViewOk n (TSchema.mk x6) (TView.mk (TQuery.mk x12 x15 x18 x21 x24 x27 x30 x33 x36) x39 x42) with
  | none => rw [hr] at h; cases h
  | some r =>
    rw [hr] at h
    exact ⟨⟨_, body, Try.func47, by decide +kernel, by kernel_rfl⟩, [.ag [.v], .ag [.v, .v, .v, .v, .v, .v, .v, .v, .v, .v, .v]], _, _, by kernel_rfl, h, CallOk.fix (ss := [.ag [.sl .v .int], .ag [.k, .sl .v .iCond, .k, .k, .k, .sl .v .int, .k, .k, .k, .sl .v .iRow, .sl .v .iKid]]) (by rw [hf]; exact ho (TSchema.mk x6) (TView.mk (TQuery.mk x12 x15 x18 x21 x24 x27 x30 x33 x36) x39 x42) r hr)⟩
end impl_ViewOk
namespace impl_isVersion
abbrev R : Type := Bool
noncomputable def body : Code := match Try.f48.body with | some c => c | none => .skip
def ann : Ann := ⟨fun k => look2 [] k, fun k => match look2 [] k with | some l => l | none => [], fun k => match look2 [] k with | some l => l | none => []⟩
def fin (o : List AV) : Option R := uc o fun a1 l2 => getB a1 fun x3 => un l2 (some (x3 : R))
def inj (r : R) : List AV := [.b r]
theorem fin_ok (o : List AV) (r : R) (h : fin o = some r) : o = inj r := by
  unfold fin at h
  replace h := uc_ok h; obtain ⟨a1, l2, rfl, h⟩ := h
  replace h := getB_ok h; obtain ⟨x3, rfl, h⟩ := h
  replace h := un_ok h; obtain ⟨rfl, h⟩ := h
  cases h
  rfl
def kr (n : Nat) : St → Option R := retK (cx n 5) [.k] [.v] [.tmp 2] [] fin
def lf (n : Nat) : LF R := fun key κd κe v b => none
theorem cuts (n : Nat) : Cuts (cx n 5) 1 ann (lf n) (kr n) body := by
  intro key κd κe v b r h
  unfold lf at h
  cases h
theorem top (n : Nat) (n1 : Int) : entryK 1 [.i .i64 n1] (fun v b => match outOfAll [.v] v with
      | some o => cond (AV.allRoots o []) (run (cx n 5) 1 ann (lf n) (kr n) body 0 (kr n) (fun _ _ => none) (St.ofC (live0 1) v b)) none
      | none => none) = impl_isVersion (n + 1) n1 := by kernel_rfl
def Ok (n : Nat) : Prop := ∀ (n1 : Int) (res_ : R), impl_isVersion n n1 = some res_ → CallOk E 48 [.i .i64 n1] (rvOf 1 (inj res_)) ((inj res_).drop 1) [.v]
theorem ok (n : Nat) (hc : CxOk E (cx n 5)) (hK : KPar (cx n 5)) : Ok (n + 1) := fun n1 res_ h_ =>
  fn_sound hc hK mixedOk Try.func48 (by kernel_rfl) (by kernel_rfl) (by kernel_rfl) (by decide) fin_ok (by kernel_rfl) ((top n n1).trans h_) (cuts n)
theorem Kpar (n : Nat) {ω : Type} {avs : List AV} {κ : AV → List AV → Option ω} {q : ω} (h : impl_isVersion.K n avs κ = some q) : ∃ rv outs, κ rv outs = some q ∧ ∀ (ω' : Type) (κ' : AV → List AV → Option ω'), impl_isVersion.K n avs κ' = κ' rv outs := by
  unfold K at h
  generalize hf : fixes [.k] avs = v at h
  replace h := uc_ok h; obtain ⟨a1, l2, rfl, h⟩ := h
  replace h := getI_ok h; obtain ⟨x3, rfl, h⟩ := h
  replace h := un_ok h; obtain ⟨rfl, h⟩ := h
  cases hr : impl_isVersion n x3 with
  | none => rw [hr] at h; cases h
  | some r =>
    rw [hr] at h
    exact ⟨_, _, h, fun ω' κ' => by unfold K; rw [hf]; exact congrArg (fun z : Option R => z.bind _) hr⟩
theorem Kok (n : Nat) (ho : Ok n) {ω : Type} {avs : List AV} {κ : AV → List AV → Option ω} {q : ω} (h : impl_isVersion.K n avs κ = some q) : FnOk E 48 ∧ ∃ ps rv outs, (cx n 0).sig 48 = some ps ∧ κ rv outs = some q ∧ CallOk E 48 avs rv outs ps := by
  unfold K at h
  generalize hf : fixes [.k] avs = v at h
  replace h := uc_ok h; obtain ⟨a1, l2, rfl, h⟩ := h
  replace h := getI_ok h; obtain ⟨x3, rfl, h⟩ := h
  replace h := un_ok h; obtain ⟨rfl, h⟩ := h
  cases hr : impl_isVersion n x3 with
  | none => rw [hr] at h; cases h
  | some r =>
    rw [hr] at h
    exact ⟨⟨_, body, Try.func48, by decide +kernel, by kernel_rfl⟩, [.v], _, _, by kernel_rfl, h, CallOk.fix (ss := [.k]) (by rw [hf]; exact ho x3 r hr)⟩
end impl_isVersion
namespace slices_Equal_Cond
abbrev R : Type := Bool
noncomputable def body : Code := match Try.f104.body with | some c => c | none => .skip
def ann : Ann := ⟨fun k => look2 [(6, [(0, .view .iCond), (1, .view .iCond), (12, .k), (13, .k)])] k, fun k => match look2 [] k with | some l => l | none => [], fun k => match look2 [(0, [])] k with | some l => l | none => []⟩
def fin (o : List AV) : Option R := uc o fun a1 l2 => getB a1 fun x3 => un l2 (some (x3 : R))
def inj (r : R) : List AV := [.b r]
theorem fin_ok (o : List AV) (r : R) (h : fin o = some r) : o = inj r := by
  unfold fin at h
  replace h := uc_ok h; obtain ⟨a1, l2, rfl, h⟩ := h
  replace h := getB_ok h; obtain ⟨x3, rfl, h⟩ := h
  replace h := un_ok h; obtain ⟨rfl, h⟩ := h
  cases h
  rfl
def kr (n : Nat) : St → Option R := retK (cx n 26) [.k] [.v] [.tmp 4] [] fin
def lf (n : Nat) : LF R := fun key κd κe v b => cond (Nat.beq key 6)
    (uc v fun a1 l2 => getSl .v .iCond a1 fun x3 => uc l2 fun a4 l5 => getSl .v .iCond a4 fun x6 => uc l5 fun a7 l8 => getI .i64 a7 fun x9 => uc l8 fun a10 l11 => getI .i64 a10 fun x12 => un l11 (uc b fun a13 l14 => isExt a13 (un l14 (slices_Equal_Cond.loop6 n (fun (_ : Unit) => κe 0 [] [some .ext]) n x3 x6 x9 x12))))
    (none)
noncomputable def A6 : Code := match pieceAt ann body 0 6 with | some (.loop a _) => a | _ => .skip
theorem round6 (n : Nat) (B : D R) (κe : Nat → D R) (s1 : List TCond) (s2 : List TCond) (t12 : Int) (t13 : Int) : run (cx n 26) 1 ann (lf n) (kr n) A6 7 (fun s => cutK 1 [(0, .view .iCond), (1, .view .iCond), (12, .k), (13, .k)] s B) (fun j s => cutK 1 (ann.out j) s (κe j)) (St.ofC [(0, .view .iCond), (1, .view .iCond), (12, .k), (13, .k)] [.sl .v .iCond s1, .sl .v .iCond s2, .i .i64 t12, .i .i64 t13] [some .ext]) =
    slices_Equal_Cond.step6 n (fun (_ : Unit) => κe 0 [] [some .ext]) (fun (z0 : List TCond) (z1 : List TCond) (z2 : Int) (z3 : Int) => B [.sl .v .iCond z0, .sl .v .iCond z1, .i .i64 z2, .i .i64 z3] [some .ext]) s1 s2 t12 t13 := by kernel_rfl
theorem rounds6 (n : Nat) (κe : Nat → D R) : ∀ (N : Nat) (s1 : List TCond) (s2 : List TCond) (t12 : Int) (t13 : Int), rounds (cx n 26) 1 ann (lf n) (kr n) A6 7 [(0, .view .iCond), (1, .view .iCond), (12, .k), (13, .k)] κe N [.sl .v .iCond s1, .sl .v .iCond s2, .i .i64 t12, .i .i64 t13] [some .ext] = slices_Equal_Cond.loop6 n (fun (_ : Unit) => κe 0 [] [some .ext]) N s1 s2 t12 t13
  | 0, _, _, _, _ => rfl
  | N + 1, s1, s2, t12, t13 => (round6 n (rounds (cx n 26) 1 ann (lf n) (kr n) A6 7 [(0, .view .iCond), (1, .view .iCond), (12, .k), (13, .k)] κe N) κe s1 s2 t12 t13).trans (congrArg (fun back => slices_Equal_Cond.step6 n (fun (_ : Unit) => κe 0 [] [some .ext]) back s1 s2 t12 t13) (funext fun z0 => funext fun z1 => funext fun z2 => funext fun z3 => rounds6 n κe N z0 z1 z2 z3))
theorem cuts (n : Nat) : Cuts (cx n 26) 1 ann (lf n) (kr n) body := by
  intro key κd κe v b r h
  unfold lf at h
  cases hk6 : Nat.beq key 6 with
  | true =>
    replace h := cond_t hk6 h
    have := beq_iff.1 hk6
    subst this
    replace h := uc_ok h; obtain ⟨a1, l2, rfl, h⟩ := h
    replace h := getSl_ok h; obtain ⟨x3, rfl, h⟩ := h
    replace h := uc_ok h; obtain ⟨a4, l5, rfl, h⟩ := h
    replace h := getSl_ok h; obtain ⟨x6, rfl, h⟩ := h
    replace h := uc_ok h; obtain ⟨a7, l8, rfl, h⟩ := h
    replace h := getI_ok h; obtain ⟨x9, rfl, h⟩ := h
    replace h := uc_ok h; obtain ⟨a10, l11, rfl, h⟩ := h
    replace h := getI_ok h; obtain ⟨x12, rfl, h⟩ := h
    replace h := un_ok h; obtain ⟨rfl, h⟩ := h
    replace h := uc_ok h; obtain ⟨a13, l14, rfl, h⟩ := h
    replace h := isExt_ok h; obtain ⟨rfl, h⟩ := h
    replace h := un_ok h; obtain ⟨rfl, h⟩ := h
    exact ⟨[(0, .view .iCond), (1, .view .iCond), (12, .k), (13, .k)], .loop A6 7, by kernel_rfl, by kernel_rfl, ⟨n, (rounds6 n κe n x3 x6 x9 x12).trans h⟩⟩
  | false =>
    replace h := cond_f hk6 h
    cases h
theorem top (n : Nat) (s1 : List TCond) (s2 : List TCond) : entryK 1 [.sl .v .iCond s1, .sl .v .iCond s2] (fun v b => match outOfAll [.v, .v] v with
      | some o => cond (AV.allRoots o []) (run (cx n 26) 1 ann (lf n) (kr n) body 0 (kr n) (fun _ _ => none) (St.ofC (live0 2) v b)) none
      | none => none) = slices_Equal_Cond (n + 1) s1 s2 := by kernel_rfl
def Ok (n : Nat) : Prop := ∀ (s1 : List TCond) (s2 : List TCond) (res_ : R), slices_Equal_Cond n s1 s2 = some res_ → CallOk E 104 [.sl .v .iCond s1, .sl .v .iCond s2] (rvOf 1 (inj res_)) ((inj res_).drop 1) [.v, .v]
theorem ok (n : Nat) (hc : CxOk E (cx n 26)) (hK : KPar (cx n 26)) : Ok (n + 1) := fun s1 s2 res_ h_ =>
  fn_sound hc hK mixedOk Try.func104 (by kernel_rfl) (by kernel_rfl) (by kernel_rfl) (by decide) fin_ok (by kernel_rfl) ((top n s1 s2).trans h_) (cuts n)
theorem Kpar (n : Nat) {ω : Type} {avs : List AV} {κ : AV → List AV → Option ω} {q : ω} (h : slices_Equal_Cond.K n avs κ = some q) : ∃ rv outs, κ rv outs = some q ∧ ∀ (ω' : Type) (κ' : AV → List AV → Option ω'), slices_Equal_Cond.K n avs κ' = κ' rv outs := by
  unfold K at h
  generalize hf : fixes [.sl .v .iCond, .sl .v .iCond] avs = v at h
  replace h := uc_ok h; obtain ⟨a1, l2, rfl, h⟩ := h
  replace h := getSl_ok h; obtain ⟨x3, rfl, h⟩ := h
  replace h := uc_ok h; obtain ⟨a4, l5, rfl, h⟩ := h
  replace h := getSl_ok h; obtain ⟨x6, rfl, h⟩ := h
  replace h := un_ok h; obtain ⟨rfl, h⟩ := h
  cases hr : slices_Equal_Cond n x3 x6 with
  | none => rw [hr] at h; cases h
  | some r =>
    rw [hr] at h
    exact ⟨_, _, h, fun ω' κ' => by unfold K; rw [hf]; exact congrArg (fun z : Option R => z.bind _) hr⟩
theorem Kok (n : Nat) (ho : Ok n) {ω : Type} {avs : List AV} {κ : AV → List AV → Option ω} {q : ω} (h : slices_Equal_Cond.K n avs κ = some q) : FnOk E 104 ∧ ∃ ps rv outs, (cx n 0).sig 104 = some ps ∧ κ rv outs = some q ∧ CallOk E 104 avs rv outs ps := by
  unfold K at h
  generalize hf : fixes [.sl .v .iCond, .sl .v .iCond] avs = v at h
  replace h := uc_ok h; obtain ⟨a1, l2, rfl, h⟩ := h
  replace h := getSl_ok h; obtain ⟨x3, rfl, h⟩ := h
  replace h := uc_ok h; obtain ⟨a4, l5, rfl, h⟩ := h
  replace h := getSl_ok h; obtain ⟨x6, rfl, h⟩ := h
  replace h := un_ok h; obtain ⟨rfl, h⟩ := h
  cases hr : slices_Equal_Cond n x3 x6 with
  | none => rw [hr] at h; cases h
  | some r =>
    rw [hr] at h
    exact ⟨⟨_, body, Try.func104, by decide +kernel, by kernel_rfl⟩, [.v, .v], _, _, by kernel_rfl, h, CallOk.fix (ss := [.sl .v .iCond, .sl .v .iCond]) (by rw [hf]; exact ho x3 x6 r hr)⟩
end slices_Equal_Cond
end Go.Pi
end
section
set_option linter.unusedVariables false
set_option maxRecDepth 100000
namespace Go.Pi
open Go.Proofs
namespace slices_Equal_int
abbrev R : Type := Bool
noncomputable def body : Code := match Try.f105.body with | some c => c | none => .skip
def ann : Ann := ⟨fun k => look2 [(6, [(0, .view .int), (1, .view .int), (12, .k), (13, .k)])] k, fun k => match look2 [] k with | some l => l | none => [], fun k => match look2 [(0, [])] k with | some l => l | none => []⟩
def fin (o : List AV) : Option R := uc o fun a1 l2 => getB a1 fun x3 => un l2 (some (x3 : R))
def inj (r : R) : List AV := [.b r]
theorem fin_ok (o : List AV) (r : R) (h : fin o = some r) : o = inj r := by
  unfold fin at h
  replace h := uc_ok h; obtain ⟨a1, l2, rfl, h⟩ := h
  replace h := getB_ok h; obtain ⟨x3, rfl, h⟩ := h
  replace h := un_ok h; obtain ⟨rfl, h⟩ := h
  cases h
  rfl
def kr (n : Nat) : St → Option R := retK (cx n 26) [.k] [.v] [.tmp 4] [] fin
def lf (n : Nat) : LF R := fun key κd κe v b => cond (Nat.beq key 6)
    (uc v fun a1 l2 => getSl .v .int a1 fun x3 => uc l2 fun a4 l5 => getSl .v .int a4 fun x6 => uc l5 fun a7 l8 => getI .i64 a7 fun x9 => uc l8 fun a10 l11 => getI .i64 a10 fun x12 => un l11 (uc b fun a13 l14 => isExt a13 (un l14 (slices_Equal_int.loop6 n (fun (_ : Unit) => κe 0 [] [some .ext]) n x3 x6 x9 x12))))
    (none)
noncomputable def A6 : Code := match pieceAt ann body 0 6 with | some (.loop a _) => a | _ => .skip
theorem round6 (n : Nat) (B : D R) (κe : Nat → D R) (s1 : List Int) (s2 : List Int) (t12 : Int) (t13 : Int) : run (cx n 26) 1 ann (lf n) (kr n) A6 7 (fun s => cutK 1 [(0, .view .int), (1, .view .int), (12, .k), (13, .k)] s B) (fun j s => cutK 1 (ann.out j) s (κe j)) (St.ofC [(0, .view .int), (1, .view .int), (12, .k), (13, .k)] [.sl .v .int s1, .sl .v .int s2, .i .i64 t12, .i .i64 t13] [some .ext]) =
    slices_Equal_int.step6 n (fun (_ : Unit) => κe 0 [] [some .ext]) (fun (z0 : List Int) (z1 : List Int) (z2 : Int) (z3 : Int) => B [.sl .v .int z0, .sl .v .int z1, .i .i64 z2, .i .i64 z3] [some .ext]) s1 s2 t12 t13 := by kernel_rfl
theorem rounds6 (n : Nat) (κe : Nat → D R) : ∀ (N : Nat) (s1 : List Int) (s2 : List Int) (t12 : Int) (t13 : Int), rounds (cx n 26) 1 ann (lf n) (kr n) A6 7 [(0, .view .int), (1, .view .int), (12, .k), (13, .k)] κe N [.sl .v .int s1, .sl .v .int s2, .i .i64 t12, .i .i64 t13] [some .ext] = slices_Equal_int.loop6 n (fun (_ : Unit) => κe 0 [] [some .ext]) N s1 s2 t12 t13
  | 0, _, _, _, _ => rfl
  | N + 1, s1, s2, t12, t13 => (round6 n (rounds (cx n 26) 1 ann (lf n) (kr n) A6 7 [(0, .view .int), (1, .view .int), (12, .k), (13, .k)] κe N) κe s1 s2 t12 t13).trans (congrArg (fun back => slices_Equal_int.step6 n (fun (_ : Unit) => κe 0 [] [some .ext]) back s1 s2 t12 t13) (funext fun z0 => funext fun z1 => funext fun z2 => funext fun z3 => rounds6 n κe N z0 z1 z2 z3))
theorem cuts (n : Nat) : Cuts (cx n 26) 1 ann (lf n) (kr n) body := by
  intro key κd κe v b r h
  unfold lf at h
  cases hk6 : Nat.beq key 6 with
  | true =>
    replace h := cond_t hk6 h
    have := beq_iff.1 hk6
    subst this
    replace h := uc_ok h; obtain ⟨a1, l2, rfl, h⟩ := h
    replace h := getSl_ok h; obtain ⟨x3, rfl, h⟩ := h
    replace h := uc_ok h; obtain ⟨a4, l5, rfl, h⟩ := h
    replace h := getSl_ok h; obtain ⟨x6, rfl, h⟩ := h
    replace h := uc_ok h; obtain ⟨a7, l8, rfl, h⟩ := h
    replace h := getI_ok h; obtain ⟨x9, rfl, h⟩ := h
    replace h := uc_ok h; obtain ⟨a10, l11, rfl, h⟩ := h
    replace h := getI_ok h; obtain ⟨x12, rfl, h⟩ := h
    replace h := un_ok h; obtain ⟨rfl, h⟩ := h
    replace h := uc_ok h; obtain ⟨a13, l14, rfl, h⟩ := h
    replace h := isExt_ok h; obtain ⟨rfl, h⟩ := h
    replace h := un_ok h; obtain ⟨rfl, h⟩ := h
    exact ⟨[(0, .view .int), (1, .view .int), (12, .k), (13, .k)], .loop A6 7, by kernel_rfl, by kernel_rfl, ⟨n, (rounds6 n κe n x3 x6 x9 x12).trans h⟩⟩
  | false =>
    replace h := cond_f hk6 h
    cases h
theorem top (n : Nat) (s1 : List Int) (s2 : List Int) : entryK 1 [.sl .v .int s1, .sl .v .int s2] (fun v b => match outOfAll [.v, .v] v with
      | some o => cond (AV.allRoots o []) (run (cx n 26) 1 ann (lf n) (kr n) body 0 (kr n) (fun _ _ => none) (St.ofC (live0 2) v b)) none
      | none => none) = slices_Equal_int (n + 1) s1 s2 := by kernel_rfl
def Ok (n : Nat) : Prop := ∀ (s1 : List Int) (s2 : List Int) (res_ : R), slices_Equal_int n s1 s2 = some res_ → CallOk E 105 [.sl .v .int s1, .sl .v .int s2] (rvOf 1 (inj res_)) ((inj res_).drop 1) [.v, .v]
theorem ok (n : Nat) (hc : CxOk E (cx n 26)) (hK : KPar (cx n 26)) : Ok (n + 1) := fun s1 s2 res_ h_ =>
  fn_sound hc hK mixedOk Try.func105 (by kernel_rfl) (by kernel_rfl) (by kernel_rfl) (by decide) fin_ok (by kernel_rfl) ((top n s1 s2).trans h_) (cuts n)
theorem Kpar (n : Nat) {ω : Type} {avs : List AV} {κ : AV → List AV → Option ω} {q : ω} (h : slices_Equal_int.K n avs κ = some q) : ∃ rv outs, κ rv outs = some q ∧ ∀ (ω' : Type) (κ' : AV → List AV → Option ω'), slices_Equal_int.K n avs κ' = κ' rv outs := by
  unfold K at h
  generalize hf : fixes [.sl .v .int, .sl .v .int] avs = v at h
  replace h := uc_ok h; obtain ⟨a1, l2, rfl, h⟩ := h
  replace h := getSl_ok h; obtain ⟨x3, rfl, h⟩ := h
  replace h := uc_ok h; obtain ⟨a4, l5, rfl, h⟩ := h
  replace h := getSl_ok h; obtain ⟨x6, rfl, h⟩ := h
  replace h := un_ok h; obtain ⟨rfl, h⟩ := h
  cases hr : slices_Equal_int n x3 x6 with
  | none => rw [hr] at h; cases h
  | some r =>
    rw [hr] at h
    exact ⟨_, _, h, fun ω' κ' => by unfold K; rw [hf]; exact congrArg (fun z : Option R => z.bind _) hr⟩
theorem Kok (n : Nat) (ho : Ok n) {ω : Type} {avs : List AV} {κ : AV → List AV → Option ω} {q : ω} (h : slices_Equal_int.K n avs κ = some q) : FnOk E 105 ∧ ∃ ps rv outs, (cx n 0).sig 105 = some ps ∧ κ rv outs = some q ∧ CallOk E 105 avs rv outs ps := by
  unfold K at h
  generalize hf : fixes [.sl .v .int, .sl .v .int] avs = v at h
  replace h := uc_ok h; obtain ⟨a1, l2, rfl, h⟩ := h
  replace h := getSl_ok h; obtain ⟨x3, rfl, h⟩ := h
  replace h := uc_ok h; obtain ⟨a4, l5, rfl, h⟩ := h
  replace h := getSl_ok h; obtain ⟨x6, rfl, h⟩ := h
  replace h := un_ok h; obtain ⟨rfl, h⟩ := h
  cases hr : slices_Equal_int n x3 x6 with
  | none => rw [hr] at h; cases h
  | some r =>
    rw [hr] at h
    exact ⟨⟨_, body, Try.func105, by decide +kernel, by kernel_rfl⟩, [.v, .v], _, _, by kernel_rfl, h, CallOk.fix (ss := [.sl .v .int, .sl .v .int]) (by rw [hf]; exact ho x3 x6 r hr)⟩
end slices_Equal_int
namespace impl_QuerySame
abbrev R : Type := Bool
noncomputable def body : Code := match Try.f50.body with | some c => c | none => .skip
def ann : Ann := ⟨fun k => look2 [] k, fun k => match look2 [] k with | some l => l | none => [], fun k => match look2 [] k with | some l => l | none => []⟩
def fin (o : List AV) : Option R := uc o fun a1 l2 => getB a1 fun x3 => un l2 (some (x3 : R))
def inj (r : R) : List AV := [.b r]
theorem fin_ok (o : List AV) (r : R) (h : fin o = some r) : o = inj r := by
  unfold fin at h
  replace h := uc_ok h; obtain ⟨a1, l2, rfl, h⟩ := h
  replace h := getB_ok h; obtain ⟨x3, rfl, h⟩ := h
  replace h := un_ok h; obtain ⟨rfl, h⟩ := h
  cases h
  rfl
def kr (n : Nat) : St → Option R := retK (cx n 70) [.k] [.v] [.tmp 4] [] fin
def lf (n : Nat) : LF R := fun key κd κe v b => none
theorem cuts (n : Nat) : Cuts (cx n 70) 1 ann (lf n) (kr n) body := by
  intro key κd κe v b r h
  unfold lf at h
  cases h
theorem top (n : Nat) (o : TQuery) (append : TQuery) : entryK 1 [.ag [.i .i64 o.table, .sl .v .iCond o.where_, .i .i64 o.order, .b o.down, .i .i64 o.first, .sl .v .int o.show_, .b o.kids, .i .i64 o.kidTable, .i .i64 o.kidCol], .ag [.i .i64 append.table, .sl .v .iCond append.where_, .i .i64 append.order, .b append.down, .i .i64 append.first, .sl .v .int append.show_, .b append.kids, .i .i64 append.kidTable, .i .i64 append.kidCol]] (fun v b => match outOfAll [.ag [.v, .v, .v, .v, .v, .v, .v, .v, .v], .ag [.v, .v, .v, .v, .v, .v, .v, .v, .v]] v with
      | some o => cond (AV.allRoots o []) (run (cx n 70) 1 ann (lf n) (kr n) body 0 (kr n) (fun _ _ => none) (St.ofC (live0 2) v b)) none
      | none => none) = impl_QuerySame (n + 1) o append := by kernel_rfl
def Ok (n : Nat) : Prop := ∀ (o : TQuery) (append : TQuery) (res_ : R), impl_QuerySame n o append = some res_ → CallOk E 50 [.ag [.i .i64 o.table, .sl .v .iCond o.where_, .i .i64 o.order, .b o.down, .i .i64 o.first, .sl .v .int o.show_, .b o.kids, .i .i64 o.kidTable, .i .i64 o.kidCol], .ag [.i .i64 append.table, .sl .v .iCond append.where_, .i .i64 append.order, .b append.down, .i .i64 append.first, .sl .v .int append.show_, .b append.kids, .i .i64 append.kidTable, .i .i64 append.kidCol]] (rvOf 1 (inj res_)) ((inj res_).drop 1) [.ag [.v, .v, .v, .v, .v, .v, .v, .v, .v], .ag [.v, .v, .v, .v, .v, .v, .v, .v, .v]]
theorem ok (n : Nat) (hc : CxOk E (cx n 70)) (hK : KPar (cx n 70)) : Ok (n + 1) := fun o append res_ h_ =>
  fn_sound hc hK mixedOk Try.func50 (by kernel_rfl) (by kernel_rfl) (by kernel_rfl) (by decide) fin_ok (by kernel_rfl) ((top n o append).trans h_) (cuts n)
theorem Kpar (n : Nat) {ω : Type} {avs : List AV} {κ : AV → List AV → Option ω} {q : ω} (h : impl_QuerySame.K n avs κ = some q) : ∃ rv outs, κ rv outs = some q ∧ ∀ (ω' : Type) (κ' : AV → List AV → Option ω'), impl_QuerySame.K n avs κ' = κ' rv outs := by
  unfold K at h
  generalize hf : fixes [.ag [.k, .sl .v .iCond, .k, .k, .k, .sl .v .int, .k, .k, .k], .ag [.k, .sl .v .iCond, .k, .k, .k, .sl .v .int, .k, .k, .k]] avs = v at h
  replace h := uc_ok h; obtain ⟨a1, l2, rfl, h⟩ := h
  replace h := getAg_ok h; obtain ⟨c3, rfl, h⟩ := h
  replace h := uc_ok h; obtain ⟨a4, l5, rfl, h⟩ := h
  replace h := getI_ok h; obtain ⟨x6, rfl, h⟩ := h
  replace h := uc_ok h; obtain ⟨a7, l8, rfl, h⟩ := h
  replace h := getSl_ok h; obtain ⟨x9, rfl, h⟩ := h
  replace h := uc_ok h; obtain ⟨a10, l11, rfl, h⟩ := h
  replace h := getI_ok h; obtain ⟨x12, rfl, h⟩ := h
  replace h := uc_ok h; obtain ⟨a13, l14, rfl, h⟩ := h
  replace h := getB_ok h; obtain ⟨x15, rfl, h⟩ := h
  replace h := uc_ok h; obtain ⟨a16, l17, rfl, h⟩ := h
  replace h := getI_ok h; obtain ⟨x18, rfl, h⟩ := h
  replace h := uc_ok h; obtain ⟨a19, l20, rfl, h⟩ := h
  replace h := getSl_ok h; obtain ⟨x21, rfl, h⟩ := h
  replace h := uc_ok h; obtain ⟨a22, l23, rfl, h⟩ := h
  replace h := getB_ok h; obtain ⟨x24, rfl, h⟩ := h
  replace h := uc_ok h; obtain ⟨a25, l26, rfl, h⟩ := h
  replace h := getI_ok h; obtain ⟨x27, rfl, h⟩ := h
  replace h := uc_ok h; obtain ⟨a28, l29, rfl, h⟩ := h
  replace h := getI_ok h; obtain ⟨x30, rfl, h⟩ := h
  replace h := un_ok h; obtain ⟨rfl, h⟩ := h
  replace h := uc_ok h; obtain ⟨a31, l32, rfl, h⟩ := h
  replace h := getAg_ok h; obtain ⟨c33, rfl, h⟩ := h
  replace h := uc_ok h; obtain ⟨a34, l35, rfl, h⟩ := h
  replace h := getI_ok h; obtain ⟨x36, rfl, h⟩ := h
  replace h := uc_ok h; obtain ⟨a37, l38, rfl, h⟩ := h
  replace h := getSl_ok h; obtain ⟨x39, rfl, h⟩ := h
  replace h := uc_ok h; obtain ⟨a40, l41, rfl, h⟩ := h
  replace h := getI_ok h; obtain ⟨x42, rfl, h⟩ := h
  replace h := uc_ok h; obtain ⟨a43, l44, rfl, h⟩ := h
  replace h := getB_ok h; obtain ⟨x45, rfl, h⟩ := h
  replace h := uc_ok h; obtain ⟨a46, l47, rfl, h⟩ := h
  replace h := getI_ok h; obtain ⟨x48, rfl, h⟩ := h
  replace h := uc_ok h; obtain ⟨a49, l50, rfl, h⟩ := h
  replace h := getSl_ok h; obtain ⟨x51, rfl, h⟩ := h
  replace h := uc_ok h; obtain ⟨a52, l53, rfl, h⟩ := h
  replace h := getB_ok h; obtain ⟨x54, rfl, h⟩ := h
  replace h := uc_ok h; obtain ⟨a55, l56, rfl, h⟩ := h
  replace h := getI_ok h; obtain ⟨x57, rfl, h⟩ := h
  replace h := uc_ok h; obtain ⟨a58, l59, rfl, h⟩ := h
  replace h := getI_ok h; obtain ⟨x60, rfl, h⟩ := h
  replace h := un_ok h; obtain ⟨rfl, h⟩ := h
  replace h := un_ok h; obtain ⟨rfl, h⟩ := h
  cases hr : impl_QuerySame n (TQuery.mk x6 x9 x12 x15 x18 x21 x24 x27 x30) (TQuery.mk x36 x39 x42 x45 x48 x51 x54 x57 x60) with
  | none => rw [hr] at h; cases h
  | some r =>
    rw [hr] at h
    exact ⟨_, _, h, fun ω' κ' => by unfold K; rw [hf]; exact congrArg (fun z : Option R => z.bind _) hr⟩
theorem Kok (n : Nat) (ho : Ok n) {ω : Type} {avs : List AV} {κ : AV → List AV → Option ω} {q : ω} (h : impl_QuerySame.K n avs κ = some q) : FnOk E 50 ∧ ∃ ps rv outs, (cx n 0).sig 50 = some ps ∧ κ rv outs = some q ∧ CallOk E 50 avs rv outs ps := by
  unfold K at h
  generalize hf : fixes [.ag [.k, .sl .v .iCond, .k, .k, .k, .sl .v .int, .k, .k, .k], .ag [.k, .sl .v .iCond, .k, .k, .k, .sl .v .int, .k, .k, .k]] avs = v at h
  replace h := uc_ok h; obtain ⟨a1, l2, rfl, h⟩ := h
  replace h := getAg_ok h; obtain ⟨c3, rfl, h⟩ := h
  replace h := uc_ok h; obtain ⟨a4, l5, rfl, h⟩ := h
  replace h := getI_ok h; obtain ⟨x6, rfl, h⟩ := h
  replace h := uc_ok h; obtain ⟨a7, l8, rfl, h⟩ := h
  replace h := getSl_ok h; obtain ⟨x9, rfl, h⟩ := h
  replace h := uc_ok h; obtain ⟨a10, l11, rfl, h⟩ := h
  replace h := getI_ok h; obtain ⟨x12, rfl, h⟩ := h
  replace h := uc_ok h; obtain ⟨a13, l14, rfl, h⟩ := h
  replace h := getB_ok h; obtain ⟨x15, rfl, h⟩ := h
  replace h := uc_ok h; obtain ⟨a16, l17, rfl, h⟩ := h
  replace h := getI_ok h; obtain ⟨x18, rfl, h⟩ := h
  replace h := uc_ok h; obtain ⟨a19, l20, rfl, h⟩ := h
  replace h := getSl_ok h; obtain ⟨x21, rfl, h⟩ := h
  replace h := uc_ok h; obtain ⟨a22, l23, rfl, h⟩ := h
  replace h := getB_ok h; obtain ⟨x24, rfl, h⟩ := h
  replace h := uc_ok h; obtain ⟨a25, l26, rfl, h⟩ := h
  replace h := getI_ok h; obtain ⟨x27, rfl, h⟩ := h
  replace h := uc_ok h; obtain ⟨a28, l29, rfl, h⟩ := h
  replace h := getI_ok h; obtain ⟨x30, rfl, h⟩ := h
  replace h := un_ok h; obtain ⟨rfl, h⟩ := h
  replace h := uc_ok h; obtain ⟨a31, l32, rfl, h⟩ := h
  replace h := getAg_ok h; obtain ⟨c33, rfl, h⟩ := h
  replace h := uc_ok h; obtain ⟨a34, l35, rfl, h⟩ := h
  replace h := getI_ok h; obtain ⟨x36, rfl, h⟩ := h
  replace h := uc_ok h; obtain ⟨a37, l38, rfl, h⟩ := h
  replace h := getSl_ok h; obtain ⟨x39, rfl, h⟩ := h
  replace h := uc_ok h; obtain ⟨a40, l41, rfl, h⟩ := h
  replace h := getI_ok h; obtain ⟨x42, rfl, h⟩ := h
  replace h := uc_ok h; obtain ⟨a43, l44, rfl, h⟩ := h
  replace h := getB_ok h; obtain ⟨x45, rfl, h⟩ := h
  replace h := uc_ok h; obtain ⟨a46, l47, rfl, h⟩ := h
  replace h := getI_ok h; obtain ⟨x48, rfl, h⟩ := h
  replace h := uc_ok h; obtain ⟨a49, l50, rfl, h⟩ := h
  replace h := getSl_ok h; obtain ⟨x51, rfl, h⟩ := h
  replace h := uc_ok h; obtain ⟨a52, l53, rfl, h⟩ := h
  replace h := getB_ok h; obtain ⟨x54, rfl, h⟩ := h
  replace h := uc_ok h; obtain ⟨a55, l56, rfl, h⟩ := h
  replace h := getI_ok h; obtain ⟨x57, rfl, h⟩ := h
  replace h := uc_ok h; obtain ⟨a58, l59, rfl, h⟩ := h
  replace h := getI_ok h; obtain ⟨x60, rfl, h⟩ := h
  replace h := un_ok h; obtain ⟨rfl, h⟩ := h
  replace h := un_ok h; obtain ⟨rfl, h⟩ := h
  cases hr : impl_QuerySame n (TQuery.mk x6 x9 x12 x15 x18 x21 x24 x27 x30) (TQuery.mk x36 x39 x42 x45 x48 x51 x54 x57 x60) with
  | none => rw [hr] at h; cases h
  | some r =>
    rw [hr] at h
    exact ⟨⟨_, body, Try.func50, by decide +kernel, by kernel_rfl⟩, [.ag [.v, .v, .v, .v, .v, .v, .v, .v, .v], .ag [.v, .v, .v, .v, .v, .v, .v, .v, .v]], _, _, by kernel_rfl, h, CallOk.fix (ss := [.ag [.k, .sl .v .iCond, .k, .k, .k, .sl .v .int, .k, .k, .k], .ag [.k, .sl .v .iCond, .k, .k, .k, .sl .v .int, .k, .k, .k]]) (by rw [hf]; exact ho (TQuery.mk x6 x9 x12 x15 x18 x21 x24 x27 x30) (TQuery.mk x36 x39 x42 x45 x48 x51 x54 x57 x60) r hr)⟩
end impl_QuerySame
namespace impl_RowSame
abbrev R : Type := Bool
noncomputable def body : Code := match Try.f102.body with | some c => c | none => .skip
def ann : Ann := ⟨fun k => look2 [] k, fun k => match look2 [] k with | some l => l | none => [], fun k => match look2 [] k with | some l => l | none => []⟩
def fin (o : List AV) : Option R := uc o fun a1 l2 => getB a1 fun x3 => un l2 (some (x3 : R))
def inj (r : R) : List AV := [.b r]
theorem fin_ok (o : List AV) (r : R) (h : fin o = some r) : o = inj r := by
  unfold fin at h
  replace h := uc_ok h; obtain ⟨a1, l2, rfl, h⟩ := h
  replace h := getB_ok h; obtain ⟨x3, rfl, h⟩ := h
  replace h := un_ok h; obtain ⟨rfl, h⟩ := h
  cases h
  rfl
def kr (n : Nat) : St → Option R := retK (cx n 17) [.k] [.v] [.tmp 4] [] fin
def lf (n : Nat) : LF R := fun key κd κe v b => none
theorem cuts (n : Nat) : Cuts (cx n 17) 1 ann (lf n) (kr n) body := by
  intro key κd κe v b r h
  unfold lf at h
  cases h
theorem top (n : Nat) (a : TRow) (b : TRow) : entryK 1 [.ag [.i .i64 a.id_, .sl .v .int a.cells], .ag [.i .i64 b.id_, .sl .v .int b.cells]] (fun v b => match outOfAll [.ag [.v, .v], .ag [.v, .v]] v with
      | some o => cond (AV.allRoots o []) (run (cx n 17) 1 ann (lf n) (kr n) body 0 (kr n) (fun _ _ => none) (St.ofC (live0 2) v b)) none
      | none => none) = impl_RowSame (n + 1) a b := by kernel_rfl
def Ok (n : Nat) : Prop := ∀ (a : TRow) (b : TRow) (res_ : R), impl_RowSame n a b = some res_ → CallOk E 102 [.ag [.i .i64 a.id_, .sl .v .int a.cells], .ag [.i .i64 b.id_, .sl .v .int b.cells]] (rvOf 1 (inj res_)) ((inj res_).drop 1) [.ag [.v, .v], .ag [.v, .v]]
theorem ok (n : Nat) (hc : CxOk E (cx n 17)) (hK : KPar (cx n 17)) : Ok (n + 1) := fun a b res_ h_ =>
  fn_sound hc hK mixedOk Try.func102 (by kernel_rfl) (by kernel_rfl) (by kernel_rfl) (by decide) fin_ok (by kernel_rfl) ((top n a b).trans h_) (cuts n)
theorem Kpar (n : Nat) {ω : Type} {avs : List AV} {κ : AV → List AV → Option ω} {q : ω} (h : impl_RowSame.K n avs κ = some q) : ∃ rv outs, κ rv outs = some q ∧ ∀ (ω' : Type) (κ' : AV → List AV → Option ω'), impl_RowSame.K n avs κ' = κ' rv outs := by
  unfold K at h
  generalize hf : fixes [.ag [.k, .sl .v .int], .ag [.k, .sl .v .int]] avs = v at h
  replace h := uc_ok h; obtain ⟨a1, l2, rfl, h⟩ := h
  replace h := getAg_ok h; obtain ⟨c3, rfl, h⟩ := h
  replace h := uc_ok h; obtain ⟨a4, l5, rfl, h⟩ := h
  replace h := getI_ok h; obtain ⟨x6, rfl, h⟩ := h
  replace h := uc_ok h; obtain ⟨a7, l8, rfl, h⟩ := h
  replace h := getSl_ok h; obtain ⟨x9, rfl, h⟩ := h
  replace h := un_ok h; obtain ⟨rfl, h⟩ := h
  replace h := uc_ok h; obtain ⟨a10, l11, rfl, h⟩ := h
  replace h := getAg_ok h; obtain ⟨c12, rfl, h⟩ := h
  replace h := uc_ok h; obtain ⟨a13, l14, rfl, h⟩ := h
  replace h := getI_ok h; obtain ⟨x15, rfl, h⟩ := h
  replace h := uc_ok h; obtain ⟨a16, l17, rfl, h⟩ := h
  replace h := getSl_ok h; obtain ⟨x18, rfl, h⟩ := h
  replace h := un_ok h; obtain ⟨rfl, h⟩ := h
  replace h := un_ok h; obtain ⟨rfl, h⟩ := h
  cases hr : impl_RowSame n (TRow.mk x6 x9) (TRow.mk x15 x18) with
  | none => rw [hr] at h; cases h
  | some r =>
    rw [hr] at h
    exact ⟨_, _, h, fun ω' κ' => by unfold K; rw [hf]; exact congrArg (fun z : Option R => z.bind _) hr⟩
theorem Kok (n : Nat) (ho : Ok n) {ω : Type} {avs : List AV} {κ : AV → List AV → Option ω} {q : ω} (h : impl_RowSame.K n avs κ = some q) : FnOk E 102 ∧ ∃ ps rv outs, (cx n 0).sig 102 = some ps ∧ κ rv outs = some q ∧ CallOk E 102 avs rv outs ps := by
  unfold K at h
  generalize hf : fixes [.ag [.k, .sl .v .int], .ag [.k, .sl .v .int]] avs = v at h
  replace h := uc_ok h; obtain ⟨a1, l2, rfl, h⟩ := h
  replace h := getAg_ok h; obtain ⟨c3, rfl, h⟩ := h
  replace h := uc_ok h; obtain ⟨a4, l5, rfl, h⟩ := h
  replace h := getI_ok h; obtain ⟨x6, rfl, h⟩ := h
  replace h := uc_ok h; obtain ⟨a7, l8, rfl, h⟩ := h
  replace h := getSl_ok h; obtain ⟨x9, rfl, h⟩ := h
  replace h := un_ok h; obtain ⟨rfl, h⟩ := h
  replace h := uc_ok h; obtain ⟨a10, l11, rfl, h⟩ := h
  replace h := getAg_ok h; obtain ⟨c12, rfl, h⟩ := h
  replace h := uc_ok h; obtain ⟨a13, l14, rfl, h⟩ := h
  replace h := getI_ok h; obtain ⟨x15, rfl, h⟩ := h
  replace h := uc_ok h; obtain ⟨a16, l17, rfl, h⟩ := h
  replace h := getSl_ok h; obtain ⟨x18, rfl, h⟩ := h
  replace h := un_ok h; obtain ⟨rfl, h⟩ := h
  replace h := un_ok h; obtain ⟨rfl, h⟩ := h
  cases hr : impl_RowSame n (TRow.mk x6 x9) (TRow.mk x15 x18) with
  | none => rw [hr] at h; cases h
  | some r =>
    rw [hr] at h
    exact ⟨⟨_, body, Try.func102, by decide +kernel, by kernel_rfl⟩, [.ag [.v, .v], .ag [.v, .v]], _, _, by kernel_rfl, h, CallOk.fix (ss := [.ag [.k, .sl .v .int], .ag [.k, .sl .v .int]]) (by rw [hf]; exact ho (TRow.mk x6 x9) (TRow.mk x15 x18) r hr)⟩
end impl_RowSame
namespace slices_EqualFunc_Row_c102
abbrev R : Type := Bool
noncomputable def body : Code := match Try.f101.body with | some c => c | none => .skip
def ann : Ann := ⟨fun k => look2 [(6, [(1, .view .iRow), (2, .k), (15, .view .iRow), (16, .k), (17, .k)])] k, fun k => match look2 [] k with | some l => l | none => [], fun k => match look2 [(0, [])] k with | some l => l | none => []⟩
def fin (o : List AV) : Option R := uc o fun a1 l2 => getB a1 fun x3 => un l2 (some (x3 : R))
def inj (r : R) : List AV := [.b r]
theorem fin_ok (o : List AV) (r : R) (h : fin o = some r) : o = inj r := by
  unfold fin at h
  replace h := uc_ok h; obtain ⟨a1, l2, rfl, h⟩ := h
  replace h := getB_ok h; obtain ⟨x3, rfl, h⟩ := h
  replace h := un_ok h; obtain ⟨rfl, h⟩ := h
  cases h
  rfl
def kr (n : Nat) : St → Option R := retK (cx n 32) [.k] [.v] [.tmp 6] [] fin
def lf (n : Nat) : LF R := fun key κd κe v b => cond (Nat.beq key 6)
    (uc v fun a1 l2 => getSl .v .iRow a1 fun x3 => uc l2 fun a4 l5 => getClo 102 a4 fun c6 => un c6 (uc l5 fun a7 l8 => getSl .v .iRow a7 fun x9 => uc l8 fun a10 l11 => getI .i64 a10 fun x12 => uc l11 fun a13 l14 => getI .i64 a13 fun x15 => un l14 (uc b fun a16 l17 => isExt a16 (un l17 (slices_EqualFunc_Row_c102.loop6 n (fun (_ : Unit) => κe 0 [] [some .ext]) n x3 x9 x12 x15)))))
    (none)
noncomputable def A6 : Code := match pieceAt ann body 0 6 with | some (.loop a _) => a | _ => .skip
theorem round6 (n : Nat) (B : D R) (κe : Nat → D R) (s2 : List TRow) (t15 : List TRow) (t16 : Int) (t17 : Int) : run (cx n 32) 1 ann (lf n) (kr n) A6 7 (fun s => cutK 1 [(1, .view .iRow), (2, .k), (15, .view .iRow), (16, .k), (17, .k)] s B) (fun j s => cutK 1 (ann.out j) s (κe j)) (St.ofC [(1, .view .iRow), (2, .k), (15, .view .iRow), (16, .k), (17, .k)] [.sl .v .iRow s2, .clo 102 [], .sl .v .iRow t15, .i .i64 t16, .i .i64 t17] [some .ext]) =
    slices_EqualFunc_Row_c102.step6 n (fun (_ : Unit) => κe 0 [] [some .ext]) (fun (z0 : List TRow) (z1 : List TRow) (z2 : Int) (z3 : Int) => B [.sl .v .iRow z0, .clo 102 [], .sl .v .iRow z1, .i .i64 z2, .i .i64 z3] [some .ext]) s2 t15 t16 t17 := by kernel_rfl
theorem rounds6 (n : Nat) (κe : Nat → D R) : ∀ (N : Nat) (s2 : List TRow) (t15 : List TRow) (t16 : Int) (t17 : Int), rounds (cx n 32) 1 ann (lf n) (kr n) A6 7 [(1, .view .iRow), (2, .k), (15, .view .iRow), (16, .k), (17, .k)] κe N [.sl .v .iRow s2, .clo 102 [], .sl .v .iRow t15, .i .i64 t16, .i .i64 t17] [some .ext] = slices_EqualFunc_Row_c102.loop6 n (fun (_ : Unit) => κe 0 [] [some .ext]) N s2 t15 t16 t17
  | 0, _, _, _, _ => rfl
  | N + 1, s2, t15, t16, t17 => (round6 n (rounds (cx n 32) 1 ann (lf n) (kr n) A6 7 [(1, .view .iRow), (2, .k), (15, .view .iRow), (16, .k), (17, .k)] κe N) κe s2 t15 t16 t17).trans (congrArg (fun back => slices_EqualFunc_Row_c102.step6 n (fun (_ : Unit) => κe 0 [] [some .ext]) back s2 t15 t16 t17) (funext fun z0 => funext fun z1 => funext fun z2 => funext fun z3 => rounds6 n κe N z0 z1 z2 z3))
theorem cuts (n : Nat) : Cuts (cx n 32) 1 ann (lf n) (kr n) body := by
  intro key κd κe v b r h
  unfold lf at h
  cases hk6 : Nat.beq key 6 with
  | true =>
    replace h := cond_t hk6 h
    have := beq_iff.1 hk6
    subst this
    replace h := uc_ok h; obtain ⟨a1, l2, rfl, h⟩ := h
    replace h := getSl_ok h; obtain ⟨x3, rfl, h⟩ := h
    replace h := uc_ok h; obtain ⟨a4, l5, rfl, h⟩ := h
    replace h := getClo_ok h; obtain ⟨c6, rfl, h⟩ := h
    replace h := un_ok h; obtain ⟨rfl, h⟩ := h
    replace h := uc_ok h; obtain ⟨a7, l8, rfl, h⟩ := h
    replace h := getSl_ok h; obtain ⟨x9, rfl, h⟩ := h
    replace h := uc_ok h; obtain ⟨a10, l11, rfl, h⟩ := h
    replace h := getI_ok h; obtain ⟨x12, rfl, h⟩ := h
    replace h := uc_ok h; obtain ⟨a13, l14, rfl, h⟩ := h
    replace h := getI_ok h; obtain ⟨x15, rfl, h⟩ := h
    replace h := un_ok h; obtain ⟨rfl, h⟩ := h
    replace h := uc_ok h; obtain ⟨a16, l17, rfl, h⟩ := h
    replace h := isExt_ok h; obtain ⟨rfl, h⟩ := h
    replace h := un_ok h; obtain ⟨rfl, h⟩ := h
    exact ⟨[(1, .view .iRow), (2, .k), (15, .view .iRow), (16, .k), (17, .k)], .loop A6 7, by kernel_rfl, by kernel_rfl, ⟨n, (rounds6 n κe n x3 x9 x12 x15).trans h⟩⟩
  | false =>
    replace h := cond_f hk6 h
    cases h
theorem top (n : Nat) (s1 : List TRow) (s2 : List TRow) : entryK 1 [.sl .v .iRow s1, .sl .v .iRow s2, .clo 102 []] (fun v b => match outOfAll [.v, .v, .v] v with
      | some o => cond (AV.allRoots o []) (run (cx n 32) 1 ann (lf n) (kr n) body 0 (kr n) (fun _ _ => none) (St.ofC (live0 3) v b)) none
      | none => none) = slices_EqualFunc_Row_c102 (n + 1) s1 s2 := by kernel_rfl
def Ok (n : Nat) : Prop := ∀ (s1 : List TRow) (s2 : List TRow) (res_ : R), slices_EqualFunc_Row_c102 n s1 s2 = some res_ → CallOk E 101 [.sl .v .iRow s1, .sl .v .iRow s2, .clo 102 []] (rvOf 1 (inj res_)) ((inj res_).drop 1) [.v, .v, .v]
theorem ok (n : Nat) (hc : CxOk E (cx n 32)) (hK : KPar (cx n 32)) : Ok (n + 1) := fun s1 s2 res_ h_ =>
  fn_sound hc hK mixedOk Try.func101 (by kernel_rfl) (by kernel_rfl) (by kernel_rfl) (by decide) fin_ok (by kernel_rfl) ((top n s1 s2).trans h_) (cuts n)
theorem Kpar (n : Nat) {ω : Type} {avs : List AV} {κ : AV → List AV → Option ω} {q : ω} (h : slices_EqualFunc_Row_c102.K n avs κ = some q) : ∃ rv outs, κ rv outs = some q ∧ ∀ (ω' : Type) (κ' : AV → List AV → Option ω'), slices_EqualFunc_Row_c102.K n avs κ' = κ' rv outs := by
  unfold K at h
  generalize hf : fixes [.sl .v .iRow, .sl .v .iRow, .k] avs = v at h
  replace h := uc_ok h; obtain ⟨a1, l2, rfl, h⟩ := h
  replace h := getSl_ok h; obtain ⟨x3, rfl, h⟩ := h
  replace h := uc_ok h; obtain ⟨a4, l5, rfl, h⟩ := h
  replace h := getSl_ok h; obtain ⟨x6, rfl, h⟩ := h
  replace h := uc_ok h; obtain ⟨a7, l8, rfl, h⟩ := h
  replace h := getClo_ok h; obtain ⟨c9, rfl, h⟩ := h
  replace h := un_ok h; obtain ⟨rfl, h⟩ := h
  replace h := un_ok h; obtain ⟨rfl, h⟩ := h
  cases hr : slices_EqualFunc_Row_c102 n x3 x6 with
  | none => rw [hr] at h; cases h
  | some r =>
    rw [hr] at h
    exact ⟨_, _, h, fun ω' κ' => by unfold K; rw [hf]; exact congrArg (fun z : Option R => z.bind _) hr⟩
theorem Kok (n : Nat) (ho : Ok n) {ω : Type} {avs : List AV} {κ : AV → List AV → Option ω} {q : ω} (h : slices_EqualFunc_Row_c102.K n avs κ = some q) : FnOk E 101 ∧ ∃ ps rv outs, (cx n 0).sig 101 = some ps ∧ κ rv outs = some q ∧ CallOk E 101 avs rv outs ps := by
  unfold K at h
  generalize hf : fixes [.sl .v .iRow, .sl .v .iRow, .k] avs = v at h
  replace h := uc_ok h; obtain ⟨a1, l2, rfl, h⟩ := h
  replace h := getSl_ok h; obtain ⟨x3, rfl, h⟩ := h
  replace h := uc_ok h; obtain ⟨a4, l5, rfl, h⟩ := h
  replace h := getSl_ok h; obtain ⟨x6, rfl, h⟩ := h
  replace h := uc_ok h; obtain ⟨a7, l8, rfl, h⟩ := h
  replace h := getClo_ok h; obtain ⟨c9, rfl, h⟩ := h
  replace h := un_ok h; obtain ⟨rfl, h⟩ := h
  replace h := un_ok h; obtain ⟨rfl, h⟩ := h
  cases hr : slices_EqualFunc_Row_c102 n x3 x6 with
  | none => rw [hr] at h; cases h
  | some r =>
    rw [hr] at h
    exact ⟨⟨_, body, Try.func101, by decide +kernel, by kernel_rfl⟩, [.v, .v, .v], _, _, by kernel_rfl, h, CallOk.fix (ss := [.sl .v .iRow, .sl .v .iRow, .k]) (by rw [hf]; exact ho x3 x6 r hr)⟩
end slices_EqualFunc_Row_c102
namespace slices_Equal_Kid
abbrev R : Type := Bool
noncomputable def body : Code := match Try.f103.body with | some c => c | none => .skip
def ann : Ann := ⟨fun k => look2 [(6, [(0, .view .iKid), (1, .view .iKid), (12, .k), (13, .k)])] k, fun k => match look2 [] k with | some l => l | none => [], fun k => match look2 [(0, [])] k with | some l => l | none => []⟩
def fin (o : List AV) : Option R := uc o fun a1 l2 => getB a1 fun x3 => un l2 (some (x3 : R))
def inj (r : R) : List AV := [.b r]
theorem fin_ok (o : List AV) (r : R) (h : fin o = some r) : o = inj r := by
  unfold fin at h
  replace h := uc_ok h; obtain ⟨a1, l2, rfl, h⟩ := h
  replace h := getB_ok h; obtain ⟨x3, rfl, h⟩ := h
  replace h := un_ok h; obtain ⟨rfl, h⟩ := h
  cases h
  rfl
def kr (n : Nat) : St → Option R := retK (cx n 26) [.k] [.v] [.tmp 4] [] fin
def lf (n : Nat) : LF R := fun key κd κe v b => cond (Nat.beq key 6)
    (uc v fun a1 l2 => getSl .v .iKid a1 fun x3 => uc l2 fun a4 l5 => getSl .v .iKid a4 fun x6 => uc l5 fun a7 l8 => getI .i64 a7 fun x9 => uc l8 fun a10 l11 => getI .i64 a10 fun x12 => un l11 (uc b fun a13 l14 => isExt a13 (un l14 (slices_Equal_Kid.loop6 n (fun (_ : Unit) => κe 0 [] [some .ext]) n x3 x6 x9 x12))))
    (none)
noncomputable def A6 : Code := match pieceAt ann body 0 6 with | some (.loop a _) => a | _ => .skip
theorem round6 (n : Nat) (B : D R) (κe : Nat → D R) (s1 : List TKid) (s2 : List TKid) (t12 : Int) (t13 : Int) : run (cx n 26) 1 ann (lf n) (kr n) A6 7 (fun s => cutK 1 [(0, .view .iKid), (1, .view .iKid), (12, .k), (13, .k)] s B) (fun j s => cutK 1 (ann.out j) s (κe j)) (St.ofC [(0, .view .iKid), (1, .view .iKid), (12, .k), (13, .k)] [.sl .v .iKid s1, .sl .v .iKid s2, .i .i64 t12, .i .i64 t13] [some .ext]) =
    slices_Equal_Kid.step6 n (fun (_ : Unit) => κe 0 [] [some .ext]) (fun (z0 : List TKid) (z1 : List TKid) (z2 : Int) (z3 : Int) => B [.sl .v .iKid z0, .sl .v .iKid z1, .i .i64 z2, .i .i64 z3] [some .ext]) s1 s2 t12 t13 := by kernel_rfl
theorem rounds6 (n : Nat) (κe : Nat → D R) : ∀ (N : Nat) (s1 : List TKid) (s2 : List TKid) (t12 : Int) (t13 : Int), rounds (cx n 26) 1 ann (lf n) (kr n) A6 7 [(0, .view .iKid), (1, .view .iKid), (12, .k), (13, .k)] κe N [.sl .v .iKid s1, .sl .v .iKid s2, .i .i64 t12, .i .i64 t13] [some .ext] = slices_Equal_Kid.loop6 n (fun (_ : Unit) => κe 0 [] [some .ext]) N s1 s2 t12 t13
  | 0, _, _, _, _ => rfl
  | N + 1, s1, s2, t12, t13 => (round6 n (rounds (cx n 26) 1 ann (lf n) (kr n) A6 7 [(0, .view .iKid), (1, .view .iKid), (12, .k), (13, .k)] κe N) κe s1 s2 t12 t13).trans (congrArg (fun back => slices_Equal_Kid.step6 n (fun (_ : Unit) => κe 0 [] [some .ext]) back s1 s2 t12 t13) (funext fun z0 => funext fun z1 => funext fun z2 => funext fun z3 => rounds6 n κe N z0 z1 z2 z3))
theorem cuts (n : Nat) : Cuts (cx n 26) 1 ann (lf n) (kr n) body := by
  intro key κd κe v b r h
  unfold lf at h
  cases hk6 : Nat.beq key 6 with
  | true =>
    replace h := cond_t hk6 h
    have := beq_iff.1 hk6
    subst this
    replace h := uc_ok h; obtain ⟨a1, l2, rfl, h⟩ := h
    replace h := getSl_ok h; obtain ⟨x3, rfl, h⟩ := h
    replace h := uc_ok h; obtain ⟨a4, l5, rfl, h⟩ := h
    replace h := getSl_ok h; obtain ⟨x6, rfl, h⟩ := h
    replace h := uc_ok h; obtain ⟨a7, l8, rfl, h⟩ := h
    replace h := getI_ok h; obtain ⟨x9, rfl, h⟩ := h
    replace h := uc_ok h; obtain ⟨a10, l11, rfl, h⟩ := h
    replace h := getI_ok h; obtain ⟨x12, rfl, h⟩ := h
    replace h := un_ok h; obtain ⟨rfl, h⟩ := h
    replace h := uc_ok h; obtain ⟨a13, l14, rfl, h⟩ := h
    replace h := isExt_ok h; obtain ⟨rfl, h⟩ := h
    replace h := un_ok h; obtain ⟨rfl, h⟩ := h
    exact ⟨[(0, .view .iKid), (1, .view .iKid), (12, .k), (13, .k)], .loop A6 7, by kernel_rfl, by kernel_rfl, ⟨n, (rounds6 n κe n x3 x6 x9 x12).trans h⟩⟩
  | false =>
    replace h := cond_f hk6 h
    cases h
theorem top (n : Nat) (s1 : List TKid) (s2 : List TKid) : entryK 1 [.sl .v .iKid s1, .sl .v .iKid s2] (fun v b => match outOfAll [.v, .v] v with
      | some o => cond (AV.allRoots o []) (run (cx n 26) 1 ann (lf n) (kr n) body 0 (kr n) (fun _ _ => none) (St.ofC (live0 2) v b)) none
      | none => none) = slices_Equal_Kid (n + 1) s1 s2 := by kernel_rfl
def Ok (n : Nat) : Prop := ∀ (s1 : List TKid) (s2 : List TKid) (res_ : R), slices_Equal_Kid n s1 s2 = some res_ → CallOk E 103 [.sl .v .iKid s1, .sl .v .iKid s2] (rvOf 1 (inj res_)) ((inj res_).drop 1) [.v, .v]
theorem ok (n : Nat) (hc : CxOk E (cx n 26)) (hK : KPar (cx n 26)) : Ok (n + 1) := fun s1 s2 res_ h_ =>
  fn_sound hc hK mixedOk Try.func103 (by kernel_rfl) (by kernel_rfl) (by kernel_rfl) (by decide) fin_ok (by kernel_rfl) ((top n s1 s2).trans h_) (cuts n)
theorem Kpar (n : Nat) {ω : Type} {avs : List AV} {κ : AV → List AV → Option ω} {q : ω} (h : slices_Equal_Kid.K n avs κ = some q) : ∃ rv outs, κ rv outs = some q ∧ ∀ (ω' : Type) (κ' : AV → List AV → Option ω'), slices_Equal_Kid.K n avs κ' = κ' rv outs := by
  unfold K at h
  generalize hf : fixes [.sl .v .iKid, .sl .v .iKid] avs = v at h
  replace h := uc_ok h; obtain ⟨a1, l2, rfl, h⟩ := h
  replace h := getSl_ok h; obtain ⟨x3, rfl, h⟩ := h
  replace h := uc_ok h; obtain ⟨a4, l5, rfl, h⟩ := h
  replace h := getSl_ok h; obtain ⟨x6, rfl, h⟩ := h
  replace h := un_ok h; obtain ⟨rfl, h⟩ := h
  cases hr : slices_Equal_Kid n x3 x6 with
  | none => rw [hr] at h; cases h
  | some r =>
    rw [hr] at h
    exact ⟨_, _, h, fun ω' κ' => by unfold K; rw [hf]; exact congrArg (fun z : Option R => z.bind _) hr⟩
theorem Kok (n : Nat) (ho : Ok n) {ω : Type} {avs : List AV} {κ : AV → List AV → Option ω} {q : ω} (h : slices_Equal_Kid.K n avs κ = some q) : FnOk E 103 ∧ ∃ ps rv outs, (cx n 0).sig 103 = some ps ∧ κ rv outs = some q ∧ CallOk E 103 avs rv outs ps := by
  unfold K at h
  generalize hf : fixes [.sl .v .iKid, .sl .v .iKid] avs = v at h
  replace h := uc_ok h; obtain ⟨a1, l2, rfl, h⟩ := h
  replace h := getSl_ok h; obtain ⟨x3, rfl, h⟩ := h
  replace h := uc_ok h; obtain ⟨a4, l5, rfl, h⟩ := h
  replace h := getSl_ok h; obtain ⟨x6, rfl, h⟩ := h
  replace h := un_ok h; obtain ⟨rfl, h⟩ := h
  cases hr : slices_Equal_Kid n x3 x6 with
  | none => rw [hr] at h; cases h
  | some r =>
    rw [hr] at h
    exact ⟨⟨_, body, Try.func103, by decide +kernel, by kernel_rfl⟩, [.v, .v], _, _, by kernel_rfl, h, CallOk.fix (ss := [.sl .v .iKid, .sl .v .iKid]) (by rw [hf]; exact ho x3 x6 r hr)⟩
end slices_Equal_Kid
namespace impl_ViewSame
abbrev R : Type := Bool
noncomputable def body : Code := match Try.f49.body with | some c => c | none => .skip
def ann : Ann := ⟨fun k => look2 [] k, fun k => match look2 [] k with | some l => l | none => [], fun k => match look2 [] k with | some l => l | none => []⟩
def fin (o : List AV) : Option R := uc o fun a1 l2 => getB a1 fun x3 => un l2 (some (x3 : R))
def inj (r : R) : List AV := [.b r]
theorem fin_ok (o : List AV) (r : R) (h : fin o = some r) : o = inj r := by
  unfold fin at h
  replace h := uc_ok h; obtain ⟨a1, l2, rfl, h⟩ := h
  replace h := getB_ok h; obtain ⟨x3, rfl, h⟩ := h
  replace h := un_ok h; obtain ⟨rfl, h⟩ := h
  cases h
  rfl
def kr (n : Nat) : St → Option R := retK (cx n 24) [.k] [.v] [.tmp 4] [] fin
def lf (n : Nat) : LF R := fun key κd κe v b => none
theorem cuts (n : Nat) : Cuts (cx n 24) 1 ann (lf n) (kr n) body := by
  intro key κd κe v b r h
  unfold lf at h
  cases h
theorem top (n : Nat) (a : TView) (b : TView) : entryK 1 [.ag [.i .i64 a.q.table, .sl .v .iCond a.q.where_, .i .i64 a.q.order, .b a.q.down, .i .i64 a.q.first, .sl .v .int a.q.show_, .b a.q.kids, .i .i64 a.q.kidTable, .i .i64 a.q.kidCol, .sl .v .iRow a.rows, .sl .v .iKid a.kids], .ag [.i .i64 b.q.table, .sl .v .iCond b.q.where_, .i .i64 b.q.order, .b b.q.down, .i .i64 b.q.first, .sl .v .int b.q.show_, .b b.q.kids, .i .i64 b.q.kidTable, .i .i64 b.q.kidCol, .sl .v .iRow b.rows, .sl .v .iKid b.kids]] (fun v b => match outOfAll [.ag [.v, .v, .v, .v, .v, .v, .v, .v, .v, .v, .v], .ag [.v, .v, .v, .v, .v, .v, .v, .v, .v, .v, .v]] v with
      | some o => cond (AV.allRoots o []) (run (cx n 24) 1 ann (lf n) (kr n) body 0 (kr n) (fun _ _ => none) (St.ofC (live0 2) v b)) none
      | none => none) = impl_ViewSame (n + 1) a b := by kernel_rfl
def Ok (n : Nat) : Prop := ∀ (a : TView) (b : TView) (res_ : R), impl_ViewSame n a b = some res_ → CallOk E 49 [.ag [.i .i64 a.q.table, .sl .v .iCond a.q.where_, .i .i64 a.q.order, .b a.q.down, .i .i64 a.q.first, .sl .v .int a.q.show_, .b a.q.kids, .i .i64 a.q.kidTable, .i .i64 a.q.kidCol, .sl .v .iRow a.rows, .sl .v .iKid a.kids], .ag [.i .i64 b.q.table, .sl .v .iCond b.q.where_, .i .i64 b.q.order, .b b.q.down, .i .i64 b.q.first, .sl .v .int b.q.show_, .b b.q.kids, .i .i64 b.q.kidTable, .i .i64 b.q.kidCol, .sl .v .iRow b.rows, .sl .v .iKid b.kids]] (rvOf 1 (inj res_)) ((inj res_).drop 1) [.ag [.v, .v, .v, .v, .v, .v, .v, .v, .v, .v, .v], .ag [.v, .v, .v, .v, .v, .v, .v, .v, .v, .v, .v]]
theorem ok (n : Nat) (hc : CxOk E (cx n 24)) (hK : KPar (cx n 24)) : Ok (n + 1) := fun a b res_ h_ =>
  fn_sound hc hK mixedOk Try.func49 (by kernel_rfl) (by kernel_rfl) (by kernel_rfl) (by decide) fin_ok (by kernel_rfl) ((top n a b).trans h_) (cuts n)
theorem Kpar (n : Nat) {ω : Type} {avs : List AV} {κ : AV → List AV → Option ω} {q : ω} (h : impl_ViewSame.K n avs κ = some q) : ∃ rv outs, κ rv outs = some q ∧ ∀ (ω' : Type) (κ' : AV → List AV → Option ω'), impl_ViewSame.K n avs κ' = κ' rv outs := by
  unfold K at h
  generalize hf : fixes [.ag [.k, .sl .v .iCond, .k, .k, .k, .sl .v .int, .k, .k, .k, .sl .v .iRow, .sl .v .iKid], .ag [.k, .sl .v .iCond, .k, .k, .k, .sl .v .int, .k, .k, .k, .sl .v .iRow, .sl .v .iKid]] avs = v at h
  replace h := uc_ok h; obtain ⟨a1, l2, rfl, h⟩ := h
  replace h := getAg_ok h; obtain ⟨c3, rfl, h⟩ := h
  replace h := uc_ok h; obtain ⟨a4, l5, rfl, h⟩ := h
  replace h := getI_ok h; obtain ⟨x6, rfl, h⟩ := h
  replace h := uc_ok h; obtain ⟨a7, l8, rfl, h⟩ := h
  replace h := getSl_ok h; obtain ⟨x9, rfl, h⟩ := h
  replace h := uc_ok h; obtain ⟨a10, l11, rfl, h⟩ := h
  replace h := getI_ok h; obtain ⟨x12, rfl, h⟩ := h
  replace h := uc_ok h; obtain ⟨a13, l14, rfl, h⟩ := h
  replace h := getB_ok h; obtain ⟨x15, rfl, h⟩ := h
  replace h := uc_ok h; obtain ⟨a16, l17, rfl, h⟩ := h
  replace h := getI_ok h; obtain ⟨x18, rfl, h⟩ := h
  replace h := uc_ok h; obtain ⟨a19, l20, rfl, h⟩ := h
  replace h := getSl_ok h; obtain ⟨x21, rfl, h⟩ := h
  replace h := uc_ok h; obtain ⟨a22, l23, rfl, h⟩ := h
  replace h := getB_ok h; obtain ⟨x24, rfl, h⟩ := h
  replace h := uc_ok h; obtain ⟨a25, l26, rfl, h⟩ := h
  replace h := getI_ok h; obtain ⟨x27, rfl, h⟩ := h
  replace h := uc_ok h; obtain ⟨a28, l29, rfl, h⟩ := h
  replace h := getI_ok h; obtain ⟨x30, rfl, h⟩ := h
  replace h := uc_ok h; obtain ⟨a31, l32, rfl, h⟩ := h
  replace h := getSl_ok h; obtain ⟨x33, rfl, h⟩ := h
  replace h := uc_ok h; obtain ⟨a34, l35, rfl, h⟩ := h
  replace h := getSl_ok h; obtain ⟨x36, rfl, h⟩ := h
  replace h := un_ok h; obtain ⟨rfl, h⟩ := h
  replace h := uc_ok h; obtain ⟨a37, l38, rfl, h⟩ := h
  replace h := getAg_ok h; obtain ⟨c39, rfl, h⟩ := h
  replace h := uc_ok h; obtain ⟨a40, l41, rfl, h⟩ := h
  replace h := getI_ok h; obtain ⟨x42, rfl, h⟩ := h
  replace h := uc_ok h; obtain ⟨a43, l44, rfl, h⟩ := h
  replace h := getSl_ok h; obtain ⟨x45, rfl, h⟩ := h
  replace h := uc_ok h; obtain ⟨a46, l47, rfl, h⟩ := h
  replace h := getI_ok h; obtain ⟨x48, rfl, h⟩ := h
  replace h := uc_ok h; obtain ⟨a49, l50, rfl, h⟩ := h
  replace h := getB_ok h; obtain ⟨x51, rfl, h⟩ := h
  replace h := uc_ok h; obtain ⟨a52, l53, rfl, h⟩ := h
  replace h := getI_ok h; obtain ⟨x54, rfl, h⟩ := h
  replace h := uc_ok h; obtain ⟨a55, l56, rfl, h⟩ := h
  replace h := getSl_ok h; obtain ⟨x57, rfl, h⟩ := h
  replace h := uc_ok h; obtain ⟨a58, l59, rfl, h⟩ := h
  replace h := getB_ok h; obtain ⟨x60, rfl, h⟩ := h
  replace h := uc_ok h; obtain ⟨a61, l62, rfl, h⟩ := h
  replace h := getI_ok h; obtain ⟨x63, rfl, h⟩ := h
  replace h := uc_ok h; obtain ⟨a64, l65, rfl, h⟩ := h
  replace h := getI_ok h; obtain ⟨x66, rfl, h⟩ := h
  replace h := uc_ok h; obtain ⟨a67, l68, rfl, h⟩ := h
  replace h := getSl_ok h; obtain ⟨x69, rfl, h⟩ := h
  replace h := uc_ok h; obtain ⟨a70, l71, rfl, h⟩ := h
  replace h := getSl_ok h; obtain ⟨x72, rfl, h⟩ := h
  replace h := un_ok h; obtain ⟨rfl, h⟩ := h
  replace h := un_ok h; obtain ⟨rfl, h⟩ := h
  cases hr : impl_ViewSame n (TView.mk (TQuery.mk x6 x9 x12 x15 x18 x21 x24 x27 x30) x33 x36) (TView.mk (TQuery.mk x42 x45 x48 x51 x54 x57 x60 x63 x66) x69 x72) with
  | none => rw [hr] at h; cases h
  | some r =>
    rw [hr] at h
    exact ⟨_, _, h, fun ω' κ' => by unfold K; rw [hf]; exact congrArg (fun z : Option R => z.bind _) hr⟩
theorem Kok (n : Nat) (ho : Ok n) {ω : Type} {avs : List AV} {κ : AV → List AV → Option ω} {q : ω} (h : impl_ViewSame.K n avs κ = some q) : FnOk E 49 ∧ ∃ ps rv outs, (cx n 0).sig 49 = some ps ∧ κ rv outs = some q ∧ CallOk E 49 avs rv outs ps := by
  unfold K at h
  generalize hf : fixes [.ag [.k, .sl .v .iCond, .k, .k, .k, .sl .v .int, .k, .k, .k, .sl .v .iRow, .sl .v .iKid], .ag [.k, .sl .v .iCond, .k, .k, .k, .sl .v .int, .k, .k, .k, .sl .v .iRow, .sl .v .iKid]] avs = v at h
  replace h := uc_ok h; obtain ⟨a1, l2, rfl, h⟩ := h
  replace h := getAg_ok h; obtain ⟨c3, rfl, h⟩ := h
  replace h := uc_ok h; obtain ⟨a4, l5, rfl, h⟩ := h
  replace h := getI_ok h; obtain ⟨x6, rfl, h⟩ := h
  replace h := uc_ok h; obtain ⟨a7, l8, rfl, h⟩ := h
  replace h := getSl_ok h; obtain ⟨x9, rfl, h⟩ := h
  replace h := uc_ok h; obtain ⟨a10, l11, rfl, h⟩ := h
  replace h := getI_ok h; obtain ⟨x12, rfl, h⟩ := h
  replace h := uc_ok h; obtain ⟨a13, l14, rfl, h⟩ := h
  replace h := getB_ok h; obtain ⟨x15, rfl, h⟩ := h
  replace h := uc_ok h; obtain ⟨a16, l17, rfl, h⟩ := h
  replace h := getI_ok h; obtain ⟨x18, rfl, h⟩ := h
  replace h := uc_ok h; obtain ⟨a19, l20, rfl, h⟩ := h
  replace h := getSl_ok h; obtain ⟨x21, rfl, h⟩ := h
  replace h := uc_ok h; obtain ⟨a22, l23, rfl, h⟩ := h
  replace h := getB_ok h; obtain ⟨x24, rfl, h⟩ := h
  replace h := uc_ok h; obtain ⟨a25, l26, rfl, h⟩ := h
  replace h := getI_ok h; obtain ⟨x27, rfl, h⟩ := h
  replace h := uc_ok h; obtain ⟨a28, l29, rfl, h⟩ := h
  replace h := getI_ok h; obtain ⟨x30, rfl, h⟩ := h
  replace h := uc_ok h; obtain ⟨a31, l32, rfl, h⟩ := h
  replace h := getSl_ok h; obtain ⟨x33, rfl, h⟩ := h
  replace h := uc_ok h; obtain ⟨a34, l35, rfl, h⟩ := h
  replace h := getSl_ok h; obtain ⟨x36, rfl, h⟩ := h
  replace h := un_ok h; obtain ⟨rfl, h⟩ := h
  replace h := uc_ok h; obtain ⟨a37, l38, rfl, h⟩ := h
  replace h := getAg_ok h; obtain ⟨c39, rfl, h⟩ := h
  replace h := uc_ok h; obtain ⟨a40, l41, rfl, h⟩ := h
  replace h := getI_ok h; obtain ⟨x42, rfl, h⟩ := h
  replace h := uc_ok h; obtain ⟨a43, l44, rfl, h⟩ := h
  replace h := getSl_ok h; obtain ⟨x45, rfl, h⟩ := h
  replace h := uc_ok h; obtain ⟨a46, l47, rfl, h⟩ := h
  replace h := getI_ok h; obtain ⟨x48, rfl, h⟩ := h
  replace h := uc_ok h; obtain ⟨a49, l50, rfl, h⟩ := h
  replace h := getB_ok h; obtain ⟨x51, rfl, h⟩ := h
  replace h := uc_ok h; obtain ⟨a52, l53, rfl, h⟩ := h
  replace h := getI_ok h; obtain ⟨x54, rfl, h⟩ := h
  replace h := uc_ok h; obtain ⟨a55, l56, rfl, h⟩ := h
  replace h := getSl_ok h; obtain ⟨x57, rfl, h⟩ := h
  replace h := uc_ok h; obtain ⟨a58, l59, rfl, h⟩ := h
  replace h := getB_ok h; obtain ⟨x60, rfl, h⟩ := h
  replace h := uc_ok h; obtain ⟨a61, l62, rfl, h⟩ := h
  replace h := getI_ok h; obtain ⟨x63, rfl, h⟩ := h
  replace h := uc_ok h; obtain ⟨a64, l65, rfl, h⟩ := h
  replace h := getI_ok h; obtain ⟨x66, rfl, h⟩ := h
  replace h := uc_ok h; obtain ⟨a67, l68, rfl, h⟩ := h
  replace h := getSl_ok h; obtain ⟨x69, rfl, h⟩ := h
  replace h := uc_ok h; obtain ⟨a70, l71, rfl, h⟩ := h
  replace h := getSl_ok h; obtain ⟨x72, rfl, h⟩ := h
  replace h := un_ok h; obtain ⟨rfl, h⟩ := h
  replace h := un_ok h; obtain ⟨rfl, h⟩ := h
  cases hr : impl_ViewSame n (TView.mk (TQuery.mk x6 x9 x12 x15 x18 x21 x24 x27 x30) x33 x36) (TView.mk (TQuery.mk x42 x45 x48 x51 x54 x57 x60 x63 x66) x69 x72) with
  | none => rw [hr] at h; cases h
  | some r =>
    rw [hr] at h
    exact ⟨⟨_, body, Try.func49, by decide +kernel, by kernel_rfl⟩, [.ag [.v, .v, .v, .v, .v, .v, .v, .v, .v, .v, .v], .ag [.v, .v, .v, .v, .v, .v, .v, .v, .v, .v, .v]], _, _, by kernel_rfl, h, CallOk.fix (ss := [.ag [.k, .sl .v .iCond, .k, .k, .k, .sl .v .int, .k, .k, .k, .sl .v .iRow, .sl .v .iKid], .ag [.k, .sl .v .iCond, .k, .k, .k, .sl .v .int, .k, .k, .k, .sl .v .iRow, .sl .v .iKid]]) (by rw [hf]; exact ho (TView.mk (TQuery.mk x6 x9 x12 x15 x18 x21 x24 x27 x30) x33 x36) (TView.mk (TQuery.mk x42 x45 x48 x51 x54 x57 x60 x63 x66) x69 x72) r hr)⟩
end impl_ViewSame
namespace impl_SessOk
abbrev R : Type := Bool
noncomputable def body : Code := match Try.f12.body with | some c => c | none => .skip
def ann : Ann := ⟨fun k => look2 [] k, fun k => match look2 [] k with | some l => l | none => [], fun k => match look2 [] k with | some l => l | none => []⟩
def fin (o : List AV) : Option R := uc o fun a1 l2 => getB a1 fun x3 => un l2 (some (x3 : R))
def inj (r : R) : List AV := [.b r]
theorem fin_ok (o : List AV) (r : R) (h : fin o = some r) : o = inj r := by
  unfold fin at h
  replace h := uc_ok h; obtain ⟨a1, l2, rfl, h⟩ := h
  replace h := getB_ok h; obtain ⟨x3, rfl, h⟩ := h
  replace h := un_ok h; obtain ⟨rfl, h⟩ := h
  cases h
  rfl
def kr (n : Nat) : St → Option R := retK (cx n 48) [.k] [.v] [.tmp 4] [] fin
def lf (n : Nat) : LF R := fun key κd κe v b => none
theorem cuts (n : Nat) : Cuts (cx n 48) 1 ann (lf n) (kr n) body := by
  intro key κd κe v b r h
  unfold lf at h
  cases h
theorem top (n : Nat) (s : TSchema) (x : TSess) : entryK 1 [.ag [.sl .v .int s.cols], .ag [.i .i64 x.view.q.table, .sl .v .iCond x.view.q.where_, .i .i64 x.view.q.order, .b x.view.q.down, .i .i64 x.view.q.first, .sl .v .int x.view.q.show_, .b x.view.q.kids, .i .i64 x.view.q.kidTable, .i .i64 x.view.q.kidCol, .sl .v .iRow x.view.rows, .sl .v .iKid x.view.kids, .i .i64 x.version, .i .i64 x.last.q.table, .sl .v .iCond x.last.q.where_, .i .i64 x.last.q.order, .b x.last.q.down, .i .i64 x.last.q.first, .sl .v .int x.last.q.show_, .b x.last.q.kids, .i .i64 x.last.q.kidTable, .i .i64 x.last.q.kidCol, .sl .v .iRow x.last.rows, .sl .v .iKid x.last.kids, .i .i64 x.lastVersion, .b x.began]] (fun v b => match outOfAll [.ag [.v], .ag [.v, .v, .v, .v, .v, .v, .v, .v, .v, .v, .v, .v, .v, .v, .v, .v, .v, .v, .v, .v, .v, .v, .v, .v, .v]] v with
      | some o => cond (AV.allRoots o []) (run (cx n 48) 1 ann (lf n) (kr n) body 0 (kr n) (fun _ _ => none) (St.ofC (live0 2) v b)) none
      | none => none) = impl_SessOk (n + 1) s x := by kernel_rfl
def Ok (n : Nat) : Prop := ∀ (s : TSchema) (x : TSess) (res_ : R), impl_SessOk n s x = some res_ → CallOk E 12 [.ag [.sl .v .int s.cols], .ag [.i .i64 x.view.q.table, .sl .v .iCond x.view.q.where_, .i .i64 x.view.q.order, .b x.view.q.down, .i .i64 x.view.q.first, .sl .v .int x.view.q.show_, .b x.view.q.kids, .i .i64 x.view.q.kidTable, .i .i64 x.view.q.kidCol, .sl .v .iRow x.view.rows, .sl .v .iKid x.view.kids, .i .i64 x.version, .i .i64 x.last.q.table, .sl .v .iCond x.last.q.where_, .i .i64 x.last.q.order, .b x.last.q.down, .i .i64 x.last.q.first, .sl .v .int x.last.q.show_, .b x.last.q.kids, .i .i64 x.last.q.kidTable, .i .i64 x.last.q.kidCol, .sl .v .iRow x.last.rows, .sl .v .iKid x.last.kids, .i .i64 x.lastVersion, .b x.began]] (rvOf 1 (inj res_)) ((inj res_).drop 1) [.ag [.v], .ag [.v, .v, .v, .v, .v, .v, .v, .v, .v, .v, .v, .v, .v, .v, .v, .v, .v, .v, .v, .v, .v, .v, .v, .v, .v]]
theorem ok (n : Nat) (hc : CxOk E (cx n 48)) (hK : KPar (cx n 48)) : Ok (n + 1) := fun s x res_ h_ =>
  fn_sound hc hK mixedOk Try.func12 (by kernel_rfl) (by kernel_rfl) (by kernel_rfl) (by decide) fin_ok (by kernel_rfl) ((top n s x).trans h_) (cuts n)
theorem Kpar (n : Nat) {ω : Type} {avs : List AV} {κ : AV → List AV → Option ω} {q : ω} (h : impl_SessOk.K n avs κ = some q) : ∃ rv outs, κ rv outs = some q ∧ ∀ (ω' : Type) (κ' : AV → List AV → Option ω'), impl_SessOk.K n avs κ' = κ' rv outs := by
  unfold K at h
  generalize hf : fixes [.ag [.sl .v .int], .ag [.k, .sl .v .iCond, .k, .k, .k, .sl .v .int, .k, .k, .k, .sl .v .iRow, .sl .v .iKid, .k, .k, .sl .v .iCond, .k, .k, .k, .sl .v .int, .k, .k, .k, .sl .v .iRow, .sl .v .iKid, .k, .k]] avs = v at h
  replace h := uc_ok h; obtain ⟨a1, l2, rfl, h⟩ := h
  replace h := getAg_ok h; obtain ⟨c3, rfl, h⟩ := h
  replace h := uc_ok h; obtain ⟨a4, l5, rfl, h⟩ := h
  replace h := getSl_ok h; obtain ⟨x6, rfl, h⟩ := h
  replace h := un_ok h; obtain ⟨rfl, h⟩ := h
  replace h := uc_ok h; obtain ⟨a7, l8, rfl, h⟩ := h
  replace h := getAg_ok h; obtain ⟨c9, rfl, h⟩ := h
  replace h := uc_ok h; obtain ⟨a10, l11, rfl, h⟩ := h
  replace h := getI_ok h; obtain ⟨x12, rfl, h⟩ := h
  replace h := uc_ok h; obtain ⟨a13, l14, rfl, h⟩ := h
  replace h := getSl_ok h; obtain ⟨x15, rfl, h⟩ := h
  replace h := uc_ok h; obtain ⟨a16, l17, rfl, h⟩ := h
  replace h := getI_ok h; obtain ⟨x18, rfl, h⟩ := h
  replace h := uc_ok h; obtain ⟨a19, l20, rfl, h⟩ := h
  replace h := getB_ok h; obtain ⟨x21, rfl, h⟩ := h
  replace h := uc_ok h; obtain ⟨a22, l23, rfl, h⟩ := h
  replace h := getI_ok h; obtain ⟨x24, rfl, h⟩ := h
  replace h := uc_ok h; obtain ⟨a25, l26, rfl, h⟩ := h
  replace h := getSl_ok h; obtain ⟨x27, rfl, h⟩ := h
  replace h := uc_ok h; obtain ⟨a28, l29, rfl, h⟩ := h
  replace h := getB_ok h; obtain ⟨x30, rfl, h⟩ := h
  replace h := uc_ok h; obtain ⟨a31, l32, rfl, h⟩ := h
  replace h := getI_ok h; obtain ⟨x33, rfl, h⟩ := h
  replace h := uc_ok h; obtain ⟨a34, l35, rfl, h⟩ := h
  replace h := getI_ok h; obtain ⟨x36, rfl, h⟩ := h
  replace h := uc_ok h; obtain ⟨a37, l38, rfl, h⟩ := h
  replace h := getSl_ok h; obtain ⟨x39, rfl, h⟩ := h
  replace h := uc_ok h; obtain ⟨a40, l41, rfl, h⟩ := h
  replace h := getSl_ok h; obtain ⟨x42, rfl, h⟩ := h
  replace h := uc_ok h; obtain ⟨a43, l44, rfl, h⟩ := h
  replace h := getI_ok h; obtain ⟨x45, rfl, h⟩ := h
  replace h := uc_ok h; obtain ⟨a46, l47, rfl, h⟩ := h
  replace h := getI_ok h; obtain ⟨x48, rfl, h⟩ := h
  replace h := uc_ok h; obtain ⟨a49, l50, rfl, h⟩ := h
  replace h := getSl_ok h; obtain ⟨x51, rfl, h⟩ := h
  replace h := uc_ok h; obtain ⟨a52, l53, rfl, h⟩ := h
  replace h := getI_ok h; obtain ⟨x54, rfl, h⟩ := h
  replace h := uc_ok h; obtain ⟨a55, l56, rfl, h⟩ := h
  replace h := getB_ok h; obtain ⟨x57, rfl, h⟩ := h
  replace h := uc_ok h; obtain ⟨a58, l59, rfl, h⟩ := h
  replace h := getI_ok h; obtain ⟨x60, rfl, h⟩ := h
  replace h := uc_ok h; obtain ⟨a61, l62, rfl, h⟩ := h
  replace h := getSl_ok h; obtain ⟨x63, rfl, h⟩ := h
  replace h := uc_ok h; obtain ⟨a64, l65, rfl, h⟩ := h
  replace h := getB_ok h; obtain ⟨x66, rfl, h⟩ := h
  replace h := uc_ok h; obtain ⟨a67, l68, rfl, h⟩ := h
  replace h := getI_ok h; obtain ⟨x69, rfl, h⟩ := h
  replace h := uc_ok h; obtain ⟨a70, l71, rfl, h⟩ := h
  replace h := getI_ok h; obtain ⟨x72, rfl, h⟩ := h
  replace h := uc_ok h; obtain ⟨a73, l74, rfl, h⟩ := h
  replace h := getSl_ok h; obtain ⟨x75, rfl, h⟩ := h
  replace h := uc_ok h; obtain ⟨a76, l77, rfl, h⟩ := h
  replace h := getSl_ok h; obtain ⟨x78, rfl, h⟩ := h
  replace h := uc_ok h; obtain ⟨a79, l80, rfl, h⟩ := h
  replace h := getI_ok h; obtain ⟨x81, rfl, h⟩ := h
  replace h := uc_ok h; obtain ⟨a82, l83, rfl, h⟩ := h
  replace h := getB_ok h; obtain ⟨x84, rfl, h⟩ := h
  replace h := un_ok h; obtain ⟨rfl, h⟩ := h
  replace h := un_ok h; obtain ⟨rfl, h⟩ := h
  cases hr : impl_SessOk n (TSchema.mk x6) (TSess.mk (TView.mk (TQuery.mk x12 x15 x18 x21 x24 x27 x30 x33 x36) x39 x42) x45 (TView.mk (TQuery.mk x48 x51 x54 x57 x60 x63 x66 x69 x72) x75 x78) x81 x84) with
  | none => rw [hr] at h; cases h
  | some r =>
    rw [hr] at h
    exact ⟨_, _, h, fun ω' κ' => by unfold K; rw [hf]; exact congrArg (fun z : Option R => z.bind _) hr⟩
theorem Kok (n : Nat) (ho : Ok n) {ω : Type} {avs : List AV} {κ : AV → List AV → Option ω} {q : ω} (h : impl_SessOk.K n avs κ = some q) : FnOk E 12 ∧ ∃ ps rv outs, (cx n 0).sig 12 = some ps ∧ κ rv outs = some q ∧ CallOk E 12 avs rv outs ps := by
  unfold K at h
  generalize hf : fixes [.ag [.sl .v .int], .ag [.k, .sl .v .iCond, .k, .k, .k, .sl .v .int, .k, .k, .k, .sl .v .iRow, .sl .v .iKid, .k, .k, .sl .v .iCond, .k, .k, .k, .sl .v .int, .k, .k, .k, .sl .v .iRow, .sl .v .iKid, .k, .k]] avs = v at h
  replace h := uc_ok h; obtain ⟨a1, l2, rfl, h⟩ := h
  replace h := getAg_ok h; obtain ⟨c3, rfl, h⟩ := h
  replace h := uc_ok h; obtain ⟨a4, l5, rfl, h⟩ := h
  replace h := getSl_ok h; obtain ⟨x6, rfl, h⟩ := h
  replace h := un_ok h; obtain ⟨rfl, h⟩ := h
  replace h := uc_ok h; obtain ⟨a7, l8, rfl, h⟩ := h
  replace h := getAg_ok h; obtain ⟨c9, rfl, h⟩ := h
  replace h := uc_ok h; obtain ⟨a10, l11, rfl, h⟩ := h
  replace h := getI_ok h; obtain ⟨x12, rfl, h⟩ := h
  replace h := uc_ok h; obtain ⟨a13, l14, rfl, h⟩ := h
  replace h := getSl_ok h; obtain ⟨x15, rfl, h⟩ := h
  replace h := uc_ok h; obtain ⟨a16, l17, rfl, h⟩ := h
  replace h := getI_ok h; obtain ⟨x18, rfl, h⟩ := h
  replace h := uc_ok h; obtain ⟨a19, l20, rfl, h⟩ := h
  replace h := getB_ok h; obtain ⟨x21, rfl, h⟩ := h
  replace h := uc_ok h; obtain ⟨a22, l23, rfl, h⟩ := h
  replace h := getI_ok h; obtain ⟨x24, rfl, h⟩ := h
  replace h := uc_ok h; obtain ⟨a25, l26, rfl, h⟩ := h
  replace h := getSl_ok h; obtain ⟨x27, rfl, h⟩ := h
  replace h := uc_ok h; obtain ⟨a28, l29, rfl, h⟩ := h
  replace h := getB_ok h; obtain ⟨x30, rfl, h⟩ := h
  replace h := uc_ok h; obtain ⟨a31, l32, rfl, h⟩ := h
  replace h := getI_ok h; obtain ⟨x33, rfl, h⟩ := h
  replace h := uc_ok h; obtain ⟨a34, l35, rfl, h⟩ := h
  replace h := getI_ok h; obtain ⟨x36, rfl, h⟩ := h
  replace h := uc_ok h; obtain ⟨a37, l38, rfl, h⟩ := h
  replace h := getSl_ok h; obtain ⟨x39, rfl, h⟩ := h
  replace h := uc_ok h; obtain ⟨a40, l41, rfl, h⟩ := h
  replace h := getSl_ok h; obtain ⟨x42, rfl, h⟩ := h
  replace h := uc_ok h; obtain ⟨a43, l44, rfl, h⟩ := h
  replace h := getI_ok h; obtain ⟨x45, rfl, h⟩ := h
  replace h := uc_ok h; obtain ⟨a46, l47, rfl, h⟩ := h
  replace h := getI_ok h; obtain ⟨x48, rfl, h⟩ := h
  replace h := uc_ok h; obtain ⟨a49, l50, rfl, h⟩ := h
  replace h := getSl_ok h; obtain ⟨x51, rfl, h⟩ := h
  replace h := uc_ok h; obtain ⟨a52, l53, rfl, h⟩ := h
  replace h := getI_ok h; obtain ⟨x54, rfl, h⟩ := h
  replace h := uc_ok h; obtain ⟨a55, l56, rfl, h⟩ := h
  replace h := getB_ok h; obtain ⟨x57, rfl, h⟩ := h
  replace h := uc_ok h; obtain ⟨a58, l59, rfl, h⟩ := h
  replace h := getI_ok h; obtain ⟨x60, rfl, h⟩ := h
  replace h := uc_ok h; obtain ⟨a61, l62, rfl, h⟩ := h
  replace h := getSl_ok h; obtain ⟨x63, rfl, h⟩ := h
  replace h := uc_ok h; obtain ⟨a64, l65, rfl, h⟩ := h
  replace h := getB_ok h; obtain ⟨x66, rfl, h⟩ := h
  replace h := uc_ok h; obtain ⟨a67, l68, rfl, h⟩ := h
  replace h := getI_ok h; obtain ⟨x69, rfl, h⟩ := h
  replace h := uc_ok h; obtain ⟨a70, l71, rfl, h⟩ := h
  replace h := getI_ok h; obtain ⟨x72, rfl, h⟩ := h
  replace h := uc_ok h; obtain ⟨a73, l74, rfl, h⟩ := h
  replace h := getSl_ok h; obtain ⟨x75, rfl, h⟩ := h
  replace h := uc_ok h; obtain ⟨a76, l77, rfl, h⟩ := h
  replace h := getSl_ok h; obtain ⟨x78, rfl, h⟩ := h
  replace h := uc_ok h; obtain ⟨a79, l80, rfl, h⟩ := h
  replace h := getI_ok h; obtain ⟨x81, rfl, h⟩ := h
  replace h := uc_ok h; obtain ⟨a82, l83, rfl, h⟩ := h
  replace h := getB_ok h; obtain ⟨x84, rfl, h⟩ := h
  replace h := un_ok h; obtain ⟨rfl, h⟩ := h
  replace h := un_ok h; obtain ⟨rfl, h⟩ := h
  cases hr : impl_SessOk n (TSchema.mk x6) (TSess.mk (TView.mk (TQuery.mk x12 x15 x18 x21 x24 x27 x30 x33 x36) x39 x42) x45 (TView.mk (TQuery.mk x48 x51 x54 x57 x60 x63 x66 x69 x72) x75 x78) x81 x84) with
  | none => rw [hr] at h; cases h
  | some r =>
    rw [hr] at h
    exact ⟨⟨_, body, Try.func12, by decide +kernel, by kernel_rfl⟩, [.ag [.v], .ag [.v, .v, .v, .v, .v, .v, .v, .v, .v, .v, .v, .v, .v, .v, .v, .v, .v, .v, .v, .v, .v, .v, .v, .v, .v]], _, _, by kernel_rfl, h, CallOk.fix (ss := [.ag [.sl .v .int], .ag [.k, .sl .v .iCond, .k, .k, .k, .sl .v .int, .k, .k, .k, .sl .v .iRow, .sl .v .iKid, .k, .k, .sl .v .iCond, .k, .k, .k, .sl .v .int, .k, .k, .k, .sl .v .iRow, .sl .v .iKid, .k, .k]]) (by rw [hf]; exact ho (TSchema.mk x6) (TSess.mk (TView.mk (TQuery.mk x12 x15 x18 x21 x24 x27 x30 x33 x36) x39 x42) x45 (TView.mk (TQuery.mk x48 x51 x54 x57 x60 x63 x66 x69 x72) x75 x78) x81 x84) r hr)⟩
end impl_SessOk
end Go.Pi
end
section
set_option linter.unusedVariables false
set_option maxRecDepth 100000
namespace Go.Pi
open Go.Proofs
namespace laws_eqIntS
abbrev R : Type := Bool
noncomputable def body : Code := match Try.f52.body with | some c => c | none => .skip
def ann : Ann := ⟨fun k => look2 [(6, [(0, .view .int), (1, .view .int), (5, .k)])] k, fun k => match look2 [] k with | some l => l | none => [], fun k => match look2 [(0, [])] k with | some l => l | none => []⟩
def fin (o : List AV) : Option R := uc o fun a1 l2 => getB a1 fun x3 => un l2 (some (x3 : R))
def inj (r : R) : List AV := [.b r]
theorem fin_ok (o : List AV) (r : R) (h : fin o = some r) : o = inj r := by
  unfold fin at h
  replace h := uc_ok h; obtain ⟨a1, l2, rfl, h⟩ := h
  replace h := getB_ok h; obtain ⟨x3, rfl, h⟩ := h
  replace h := un_ok h; obtain ⟨rfl, h⟩ := h
  cases h
  rfl
def kr (n : Nat) : St → Option R := retK (cx n 26) [.k] [.v] [.tmp 4] [] fin
def lf (n : Nat) : LF R := fun key κd κe v b => cond (Nat.beq key 6)
    (uc v fun a1 l2 => getSl .v .int a1 fun x3 => uc l2 fun a4 l5 => getSl .v .int a4 fun x6 => uc l5 fun a7 l8 => getI .i64 a7 fun x9 => un l8 (uc b fun a10 l11 => isExt a10 (un l11 (laws_eqIntS.loop6 n (fun (_ : Unit) => κe 0 [] [some .ext]) n x3 x6 x9))))
    (none)
noncomputable def A6 : Code := match pieceAt ann body 0 6 with | some (.loop a _) => a | _ => .skip
theorem round6 (n : Nat) (B : D R) (κe : Nat → D R) (a : List Int) (b : List Int) (i : Int) : run (cx n 26) 1 ann (lf n) (kr n) A6 7 (fun s => cutK 1 [(0, .view .int), (1, .view .int), (5, .k)] s B) (fun j s => cutK 1 (ann.out j) s (κe j)) (St.ofC [(0, .view .int), (1, .view .int), (5, .k)] [.sl .v .int a, .sl .v .int b, .i .i64 i] [some .ext]) =
    laws_eqIntS.step6 n (fun (_ : Unit) => κe 0 [] [some .ext]) (fun (z0 : List Int) (z1 : List Int) (z2 : Int) => B [.sl .v .int z0, .sl .v .int z1, .i .i64 z2] [some .ext]) a b i := by kernel_rfl
theorem rounds6 (n : Nat) (κe : Nat → D R) : ∀ (N : Nat) (a : List Int) (b : List Int) (i : Int), rounds (cx n 26) 1 ann (lf n) (kr n) A6 7 [(0, .view .int), (1, .view .int), (5, .k)] κe N [.sl .v .int a, .sl .v .int b, .i .i64 i] [some .ext] = laws_eqIntS.loop6 n (fun (_ : Unit) => κe 0 [] [some .ext]) N a b i
  | 0, _, _, _ => rfl
  | N + 1, a, b, i => (round6 n (rounds (cx n 26) 1 ann (lf n) (kr n) A6 7 [(0, .view .int), (1, .view .int), (5, .k)] κe N) κe a b i).trans (congrArg (fun back => laws_eqIntS.step6 n (fun (_ : Unit) => κe 0 [] [some .ext]) back a b i) (funext fun z0 => funext fun z1 => funext fun z2 => rounds6 n κe N z0 z1 z2))
theorem cuts (n : Nat) : Cuts (cx n 26) 1 ann (lf n) (kr n) body := by
  intro key κd κe v b r h
  unfold lf at h
  cases hk6 : Nat.beq key 6 with
  | true =>
    replace h := cond_t hk6 h
    have := beq_iff.1 hk6
    subst this
    replace h := uc_ok h; obtain ⟨a1, l2, rfl, h⟩ := h
    replace h := getSl_ok h; obtain ⟨x3, rfl, h⟩ := h
    replace h := uc_ok h; obtain ⟨a4, l5, rfl, h⟩ := h
    replace h := getSl_ok h; obtain ⟨x6, rfl, h⟩ := h
    replace h := uc_ok h; obtain ⟨a7, l8, rfl, h⟩ := h
    replace h := getI_ok h; obtain ⟨x9, rfl, h⟩ := h
    replace h := un_ok h; obtain ⟨rfl, h⟩ := h
    replace h := uc_ok h; obtain ⟨a10, l11, rfl, h⟩ := h
    replace h := isExt_ok h; obtain ⟨rfl, h⟩ := h
    replace h := un_ok h; obtain ⟨rfl, h⟩ := h
    exact ⟨[(0, .view .int), (1, .view .int), (5, .k)], .loop A6 7, by kernel_rfl, by kernel_rfl, ⟨n, (rounds6 n κe n x3 x6 x9).trans h⟩⟩
  | false =>
    replace h := cond_f hk6 h
    cases h
theorem top (n : Nat) (a : List Int) (b : List Int) : entryK 1 [.sl .v .int a, .sl .v .int b] (fun v b => match outOfAll [.v, .v] v with
      | some o => cond (AV.allRoots o []) (run (cx n 26) 1 ann (lf n) (kr n) body 0 (kr n) (fun _ _ => none) (St.ofC (live0 2) v b)) none
      | none => none) = laws_eqIntS (n + 1) a b := by kernel_rfl
def Ok (n : Nat) : Prop := ∀ (a : List Int) (b : List Int) (res_ : R), laws_eqIntS n a b = some res_ → CallOk E 52 [.sl .v .int a, .sl .v .int b] (rvOf 1 (inj res_)) ((inj res_).drop 1) [.v, .v]
theorem ok (n : Nat) (hc : CxOk E (cx n 26)) (hK : KPar (cx n 26)) : Ok (n + 1) := fun a b res_ h_ =>
  fn_sound hc hK mixedOk Try.func52 (by kernel_rfl) (by kernel_rfl) (by kernel_rfl) (by decide) fin_ok (by kernel_rfl) ((top n a b).trans h_) (cuts n)
theorem Kpar (n : Nat) {ω : Type} {avs : List AV} {κ : AV → List AV → Option ω} {q : ω} (h : laws_eqIntS.K n avs κ = some q) : ∃ rv outs, κ rv outs = some q ∧ ∀ (ω' : Type) (κ' : AV → List AV → Option ω'), laws_eqIntS.K n avs κ' = κ' rv outs := by
  unfold K at h
  generalize hf : fixes [.sl .v .int, .sl .v .int] avs = v at h
  replace h := uc_ok h; obtain ⟨a1, l2, rfl, h⟩ := h
  replace h := getSl_ok h; obtain ⟨x3, rfl, h⟩ := h
  replace h := uc_ok h; obtain ⟨a4, l5, rfl, h⟩ := h
  replace h := getSl_ok h; obtain ⟨x6, rfl, h⟩ := h
  replace h := un_ok h; obtain ⟨rfl, h⟩ := h
  cases hr : laws_eqIntS n x3 x6 with
  | none => rw [hr] at h; cases h
  | some r =>
    rw [hr] at h
    exact ⟨_, _, h, fun ω' κ' => by unfold K; rw [hf]; exact congrArg (fun z : Option R => z.bind _) hr⟩
theorem Kok (n : Nat) (ho : Ok n) {ω : Type} {avs : List AV} {κ : AV → List AV → Option ω} {q : ω} (h : laws_eqIntS.K n avs κ = some q) : FnOk E 52 ∧ ∃ ps rv outs, (cx n 0).sig 52 = some ps ∧ κ rv outs = some q ∧ CallOk E 52 avs rv outs ps := by
  unfold K at h
  generalize hf : fixes [.sl .v .int, .sl .v .int] avs = v at h
  replace h := uc_ok h; obtain ⟨a1, l2, rfl, h⟩ := h
  replace h := getSl_ok h; obtain ⟨x3, rfl, h⟩ := h
  replace h := uc_ok h; obtain ⟨a4, l5, rfl, h⟩ := h
  replace h := getSl_ok h; obtain ⟨x6, rfl, h⟩ := h
  replace h := un_ok h; obtain ⟨rfl, h⟩ := h
  cases hr : laws_eqIntS n x3 x6 with
  | none => rw [hr] at h; cases h
  | some r =>
    rw [hr] at h
    exact ⟨⟨_, body, Try.func52, by decide +kernel, by kernel_rfl⟩, [.v, .v], _, _, by kernel_rfl, h, CallOk.fix (ss := [.sl .v .int, .sl .v .int]) (by rw [hf]; exact ho x3 x6 r hr)⟩
end laws_eqIntS
namespace laws_eqSchema
abbrev R : Type := Bool
noncomputable def body : Code := match Try.f13.body with | some c => c | none => .skip
def ann : Ann := ⟨fun k => look2 [] k, fun k => match look2 [] k with | some l => l | none => [], fun k => match look2 [] k with | some l => l | none => []⟩
def fin (o : List AV) : Option R := uc o fun a1 l2 => getB a1 fun x3 => un l2 (some (x3 : R))
def inj (r : R) : List AV := [.b r]
theorem fin_ok (o : List AV) (r : R) (h : fin o = some r) : o = inj r := by
  unfold fin at h
  replace h := uc_ok h; obtain ⟨a1, l2, rfl, h⟩ := h
  replace h := getB_ok h; obtain ⟨x3, rfl, h⟩ := h
  replace h := un_ok h; obtain ⟨rfl, h⟩ := h
  cases h
  rfl
def kr (n : Nat) : St → Option R := retK (cx n 11) [.k] [.v] [.tmp 4] [] fin
def lf (n : Nat) : LF R := fun key κd κe v b => none
theorem cuts (n : Nat) : Cuts (cx n 11) 1 ann (lf n) (kr n) body := by
  intro key κd κe v b r h
  unfold lf at h
  cases h
theorem top (n : Nat) (a : TSchema) (b : TSchema) : entryK 1 [.ag [.sl .v .int a.cols], .ag [.sl .v .int b.cols]] (fun v b => match outOfAll [.ag [.v], .ag [.v]] v with
      | some o => cond (AV.allRoots o []) (run (cx n 11) 1 ann (lf n) (kr n) body 0 (kr n) (fun _ _ => none) (St.ofC (live0 2) v b)) none
      | none => none) = laws_eqSchema (n + 1) a b := by kernel_rfl
def Ok (n : Nat) : Prop := ∀ (a : TSchema) (b : TSchema) (res_ : R), laws_eqSchema n a b = some res_ → CallOk E 13 [.ag [.sl .v .int a.cols], .ag [.sl .v .int b.cols]] (rvOf 1 (inj res_)) ((inj res_).drop 1) [.ag [.v], .ag [.v]]
theorem ok (n : Nat) (hc : CxOk E (cx n 11)) (hK : KPar (cx n 11)) : Ok (n + 1) := fun a b res_ h_ =>
  fn_sound hc hK mixedOk Try.func13 (by kernel_rfl) (by kernel_rfl) (by kernel_rfl) (by decide) fin_ok (by kernel_rfl) ((top n a b).trans h_) (cuts n)
theorem Kpar (n : Nat) {ω : Type} {avs : List AV} {κ : AV → List AV → Option ω} {q : ω} (h : laws_eqSchema.K n avs κ = some q) : ∃ rv outs, κ rv outs = some q ∧ ∀ (ω' : Type) (κ' : AV → List AV → Option ω'), laws_eqSchema.K n avs κ' = κ' rv outs := by
  unfold K at h
  generalize hf : fixes [.ag [.sl .v .int], .ag [.sl .v .int]] avs = v at h
  replace h := uc_ok h; obtain ⟨a1, l2, rfl, h⟩ := h
  replace h := getAg_ok h; obtain ⟨c3, rfl, h⟩ := h
  replace h := uc_ok h; obtain ⟨a4, l5, rfl, h⟩ := h
  replace h := getSl_ok h; obtain ⟨x6, rfl, h⟩ := h
  replace h := un_ok h; obtain ⟨rfl, h⟩ := h
  replace h := uc_ok h; obtain ⟨a7, l8, rfl, h⟩ := h
  replace h := getAg_ok h; obtain ⟨c9, rfl, h⟩ := h
  replace h := uc_ok h; obtain ⟨a10, l11, rfl, h⟩ := h
  replace h := getSl_ok h; obtain ⟨x12, rfl, h⟩ := h
  replace h := un_ok h; obtain ⟨rfl, h⟩ := h
  replace h := un_ok h; obtain ⟨rfl, h⟩ := h
  cases hr : laws_eqSchema n (TSchema.mk x6) (TSchema.mk x12) with
  | none => rw [hr] at h; cases h
  | some r =>
    rw [hr] at h
    exact ⟨_, _, h, fun ω' κ' => by unfold K; rw [hf]; exact congrArg (fun z : Option R => z.bind _) hr⟩
theorem Kok (n : Nat) (ho : Ok n) {ω : Type} {avs : List AV} {κ : AV → List AV → Option ω} {q : ω} (h : laws_eqSchema.K n avs κ = some q) : FnOk E 13 ∧ ∃ ps rv outs, (cx n 0).sig 13 = some ps ∧ κ rv outs = some q ∧ CallOk E 13 avs rv outs ps := by
  unfold K at h
  generalize hf : fixes [.ag [.sl .v .int], .ag [.sl .v .int]] avs = v at h
  replace h := uc_ok h; obtain ⟨a1, l2, rfl, h⟩ := h
  replace h := getAg_ok h; obtain ⟨c3, rfl, h⟩ := h
  replace h := uc_ok h; obtain ⟨a4, l5, rfl, h⟩ := h
  replace h := getSl_ok h; obtain ⟨x6, rfl, h⟩ := h
  replace h := un_ok h; obtain ⟨rfl, h⟩ := h
  replace h := uc_ok h; obtain ⟨a7, l8, rfl, h⟩ := h
  replace h := getAg_ok h; obtain ⟨c9, rfl, h⟩ := h
  replace h := uc_ok h; obtain ⟨a10, l11, rfl, h⟩ := h
  replace h := getSl_ok h; obtain ⟨x12, rfl, h⟩ := h
  replace h := un_ok h; obtain ⟨rfl, h⟩ := h
  replace h := un_ok h; obtain ⟨rfl, h⟩ := h
  cases hr : laws_eqSchema n (TSchema.mk x6) (TSchema.mk x12) with
  | none => rw [hr] at h; cases h
  | some r =>
    rw [hr] at h
    exact ⟨⟨_, body, Try.func13, by decide +kernel, by kernel_rfl⟩, [.ag [.v], .ag [.v]], _, _, by kernel_rfl, h, CallOk.fix (ss := [.ag [.sl .v .int], .ag [.sl .v .int]]) (by rw [hf]; exact ho (TSchema.mk x6) (TSchema.mk x12) r hr)⟩
end laws_eqSchema
namespace laws_eqCond
abbrev R : Type := Bool
noncomputable def body : Code := match Try.f142.body with | some c => c | none => .skip
def ann : Ann := ⟨fun k => look2 [] k, fun k => match look2 [] k with | some l => l | none => [], fun k => match look2 [] k with | some l => l | none => []⟩
def fin (o : List AV) : Option R := uc o fun a1 l2 => getB a1 fun x3 => un l2 (some (x3 : R))
def inj (r : R) : List AV := [.b r]
theorem fin_ok (o : List AV) (r : R) (h : fin o = some r) : o = inj r := by
  unfold fin at h
  replace h := uc_ok h; obtain ⟨a1, l2, rfl, h⟩ := h
  replace h := getB_ok h; obtain ⟨x3, rfl, h⟩ := h
  replace h := un_ok h; obtain ⟨rfl, h⟩ := h
  cases h
  rfl
def kr (n : Nat) : St → Option R := retK (cx n 20) [.k] [.v] [.tmp 4] [] fin
def lf (n : Nat) : LF R := fun key κd κe v b => none
theorem cuts (n : Nat) : Cuts (cx n 20) 1 ann (lf n) (kr n) body := by
  intro key κd κe v b r h
  unfold lf at h
  cases h
theorem top (n : Nat) (a : TCond) (b : TCond) : entryK 1 [.ag [.i .i64 a.col, .i .i64 a.op, .i .i64 a.v], .ag [.i .i64 b.col, .i .i64 b.op, .i .i64 b.v]] (fun v b => match outOfAll [.ag [.v, .v, .v], .ag [.v, .v, .v]] v with
      | some o => cond (AV.allRoots o []) (run (cx n 20) 1 ann (lf n) (kr n) body 0 (kr n) (fun _ _ => none) (St.ofC (live0 2) v b)) none
      | none => none) = laws_eqCond (n + 1) a b := by kernel_rfl
def Ok (n : Nat) : Prop := ∀ (a : TCond) (b : TCond) (res_ : R), laws_eqCond n a b = some res_ → CallOk E 142 [.ag [.i .i64 a.col, .i .i64 a.op, .i .i64 a.v], .ag [.i .i64 b.col, .i .i64 b.op, .i .i64 b.v]] (rvOf 1 (inj res_)) ((inj res_).drop 1) [.ag [.v, .v, .v], .ag [.v, .v, .v]]
theorem ok (n : Nat) (hc : CxOk E (cx n 20)) (hK : KPar (cx n 20)) : Ok (n + 1) := fun a b res_ h_ =>
  fn_sound hc hK mixedOk Try.func142 (by kernel_rfl) (by kernel_rfl) (by kernel_rfl) (by decide) fin_ok (by kernel_rfl) ((top n a b).trans h_) (cuts n)
theorem Kpar (n : Nat) {ω : Type} {avs : List AV} {κ : AV → List AV → Option ω} {q : ω} (h : laws_eqCond.K n avs κ = some q) : ∃ rv outs, κ rv outs = some q ∧ ∀ (ω' : Type) (κ' : AV → List AV → Option ω'), laws_eqCond.K n avs κ' = κ' rv outs := by
  unfold K at h
  generalize hf : fixes [.ag [.k, .k, .k], .ag [.k, .k, .k]] avs = v at h
  replace h := uc_ok h; obtain ⟨a1, l2, rfl, h⟩ := h
  replace h := getAg_ok h; obtain ⟨c3, rfl, h⟩ := h
  replace h := uc_ok h; obtain ⟨a4, l5, rfl, h⟩ := h
  replace h := getI_ok h; obtain ⟨x6, rfl, h⟩ := h
  replace h := uc_ok h; obtain ⟨a7, l8, rfl, h⟩ := h
  replace h := getI_ok h; obtain ⟨x9, rfl, h⟩ := h
  replace h := uc_ok h; obtain ⟨a10, l11, rfl, h⟩ := h
  replace h := getI_ok h; obtain ⟨x12, rfl, h⟩ := h
  replace h := un_ok h; obtain ⟨rfl, h⟩ := h
  replace h := uc_ok h; obtain ⟨a13, l14, rfl, h⟩ := h
  replace h := getAg_ok h; obtain ⟨c15, rfl, h⟩ := h
  replace h := uc_ok h; obtain ⟨a16, l17, rfl, h⟩ := h
  replace h := getI_ok h; obtain ⟨x18, rfl, h⟩ := h
  replace h := uc_ok h; obtain ⟨a19, l20, rfl, h⟩ := h
  replace h := getI_ok h; obtain ⟨x21, rfl, h⟩ := h
  replace h := uc_ok h; obtain ⟨a22, l23, rfl, h⟩ := h
  replace h := getI_ok h; obtain ⟨x24, rfl, h⟩ := h
  replace h := un_ok h; obtain ⟨rfl, h⟩ := h
  replace h := un_ok h; obtain ⟨rfl, h⟩ := h
  cases hr : laws_eqCond n (TCond.mk x6 x9 x12) (TCond.mk x18 x21 x24) with
  | none => rw [hr] at h; cases h
  | some r =>
    rw [hr] at h
    exact ⟨_, _, h, fun ω' κ' => by unfold K; rw [hf]; exact congrArg (fun z : Option R => z.bind _) hr⟩
theorem Kok (n : Nat) (ho : Ok n) {ω : Type} {avs : List AV} {κ : AV → List AV → Option ω} {q : ω} (h : laws_eqCond.K n avs κ = some q) : FnOk E 142 ∧ ∃ ps rv outs, (cx n 0).sig 142 = some ps ∧ κ rv outs = some q ∧ CallOk E 142 avs rv outs ps := by
  unfold K at h
  generalize hf : fixes [.ag [.k, .k, .k], .ag [.k, .k, .k]] avs = v at h
  replace h := uc_ok h; obtain ⟨a1, l2, rfl, h⟩ := h
  replace h := getAg_ok h; obtain ⟨c3, rfl, h⟩ := h
  replace h := uc_ok h; obtain ⟨a4, l5, rfl, h⟩ := h
  replace h := getI_ok h; obtain ⟨x6, rfl, h⟩ := h
  replace h := uc_ok h; obtain ⟨a7, l8, rfl, h⟩ := h
  replace h := getI_ok h; obtain ⟨x9, rfl, h⟩ := h
  replace h := uc_ok h; obtain ⟨a10, l11, rfl, h⟩ := h
  replace h := getI_ok h; obtain ⟨x12, rfl, h⟩ := h
  replace h := un_ok h; obtain ⟨rfl, h⟩ := h
  replace h := uc_ok h; obtain ⟨a13, l14, rfl, h⟩ := h
  replace h := getAg_ok h; obtain ⟨c15, rfl, h⟩ := h
  replace h := uc_ok h; obtain ⟨a16, l17, rfl, h⟩ := h
  replace h := getI_ok h; obtain ⟨x18, rfl, h⟩ := h
  replace h := uc_ok h; obtain ⟨a19, l20, rfl, h⟩ := h
  replace h := getI_ok h; obtain ⟨x21, rfl, h⟩ := h
  replace h := uc_ok h; obtain ⟨a22, l23, rfl, h⟩ := h
  replace h := getI_ok h; obtain ⟨x24, rfl, h⟩ := h
  replace h := un_ok h; obtain ⟨rfl, h⟩ := h
  replace h := un_ok h; obtain ⟨rfl, h⟩ := h
  cases hr : laws_eqCond n (TCond.mk x6 x9 x12) (TCond.mk x18 x21 x24) with
  | none => rw [hr] at h; cases h
  | some r =>
    rw [hr] at h
    exact ⟨⟨_, body, Try.func142, by decide +kernel, by kernel_rfl⟩, [.ag [.v, .v, .v], .ag [.v, .v, .v]], _, _, by kernel_rfl, h, CallOk.fix (ss := [.ag [.k, .k, .k], .ag [.k, .k, .k]]) (by rw [hf]; exact ho (TCond.mk x6 x9 x12) (TCond.mk x18 x21 x24) r hr)⟩
end laws_eqCond
namespace laws_eqCondS
abbrev R : Type := Bool
noncomputable def body : Code := match Try.f81.body with | some c => c | none => .skip
def ann : Ann := ⟨fun k => look2 [(6, [(0, .view .iCond), (1, .view .iCond), (5, .k)])] k, fun k => match look2 [] k with | some l => l | none => [], fun k => match look2 [(0, [])] k with | some l => l | none => []⟩
def fin (o : List AV) : Option R := uc o fun a1 l2 => getB a1 fun x3 => un l2 (some (x3 : R))
def inj (r : R) : List AV := [.b r]
theorem fin_ok (o : List AV) (r : R) (h : fin o = some r) : o = inj r := by
  unfold fin at h
  replace h := uc_ok h; obtain ⟨a1, l2, rfl, h⟩ := h
  replace h := getB_ok h; obtain ⟨x3, rfl, h⟩ := h
  replace h := un_ok h; obtain ⟨rfl, h⟩ := h
  cases h
  rfl
def kr (n : Nat) : St → Option R := retK (cx n 27) [.k] [.v] [.tmp 4] [] fin
def lf (n : Nat) : LF R := fun key κd κe v b => cond (Nat.beq key 6)
    (uc v fun a1 l2 => getSl .v .iCond a1 fun x3 => uc l2 fun a4 l5 => getSl .v .iCond a4 fun x6 => uc l5 fun a7 l8 => getI .i64 a7 fun x9 => un l8 (uc b fun a10 l11 => isExt a10 (un l11 (laws_eqCondS.loop6 n (fun (_ : Unit) => κe 0 [] [some .ext]) n x3 x6 x9))))
    (none)
noncomputable def A6 : Code := match pieceAt ann body 0 6 with | some (.loop a _) => a | _ => .skip
theorem round6 (n : Nat) (B : D R) (κe : Nat → D R) (a : List TCond) (b : List TCond) (i : Int) : run (cx n 27) 1 ann (lf n) (kr n) A6 7 (fun s => cutK 1 [(0, .view .iCond), (1, .view .iCond), (5, .k)] s B) (fun j s => cutK 1 (ann.out j) s (κe j)) (St.ofC [(0, .view .iCond), (1, .view .iCond), (5, .k)] [.sl .v .iCond a, .sl .v .iCond b, .i .i64 i] [some .ext]) =
    laws_eqCondS.step6 n (fun (_ : Unit) => κe 0 [] [some .ext]) (fun (z0 : List TCond) (z1 : List TCond) (z2 : Int) => B [.sl .v .iCond z0, .sl .v .iCond z1, .i .i64 z2] [some .ext]) a b i := by kernel_rfl
theorem rounds6 (n : Nat) (κe : Nat → D R) : ∀ (N : Nat) (a : List TCond) (b : List TCond) (i : Int), rounds (cx n 27) 1 ann (lf n) (kr n) A6 7 [(0, .view .iCond), (1, .view .iCond), (5, .k)] κe N [.sl .v .iCond a, .sl .v .iCond b, .i .i64 i] [some .ext] = laws_eqCondS.loop6 n (fun (_ : Unit) => κe 0 [] [some .ext]) N a b i
  | 0, _, _, _ => rfl
  | N + 1, a, b, i => (round6 n (rounds (cx n 27) 1 ann (lf n) (kr n) A6 7 [(0, .view .iCond), (1, .view .iCond), (5, .k)] κe N) κe a b i).trans (congrArg (fun back => laws_eqCondS.step6 n (fun (_ : Unit) => κe 0 [] [some .ext]) back a b i) (funext fun z0 => funext fun z1 => funext fun z2 => rounds6 n κe N z0 z1 z2))
theorem cuts (n : Nat) : Cuts (cx n 27) 1 ann (lf n) (kr n) body := by
  intro key κd κe v b r h
  unfold lf at h
  cases hk6 : Nat.beq key 6 with
  | true =>
    replace h := cond_t hk6 h
    have := beq_iff.1 hk6
    subst this
    replace h := uc_ok h; obtain ⟨a1, l2, rfl, h⟩ := h
    replace h := getSl_ok h; obtain ⟨x3, rfl, h⟩ := h
    replace h := uc_ok h; obtain ⟨a4, l5, rfl, h⟩ := h
    replace h := getSl_ok h; obtain ⟨x6, rfl, h⟩ := h
    replace h := uc_ok h; obtain ⟨a7, l8, rfl, h⟩ := h
    replace h := getI_ok h; obtain ⟨x9, rfl, h⟩ := h
    replace h := un_ok h; obtain ⟨rfl, h⟩ := h
    replace h := uc_ok h; obtain ⟨a10, l11, rfl, h⟩ := h
    replace h := isExt_ok h; obtain ⟨rfl, h⟩ := h
    replace h := un_ok h; obtain ⟨rfl, h⟩ := h
    exact ⟨[(0, .view .iCond), (1, .view .iCond), (5, .k)], .loop A6 7, by kernel_rfl, by kernel_rfl, ⟨n, (rounds6 n κe n x3 x6 x9).trans h⟩⟩
  | false =>
    replace h := cond_f hk6 h
    cases h
theorem top (n : Nat) (a : List TCond) (b : List TCond) : entryK 1 [.sl .v .iCond a, .sl .v .iCond b] (fun v b => match outOfAll [.v, .v] v with
      | some o => cond (AV.allRoots o []) (run (cx n 27) 1 ann (lf n) (kr n) body 0 (kr n) (fun _ _ => none) (St.ofC (live0 2) v b)) none
      | none => none) = laws_eqCondS (n + 1) a b := by kernel_rfl
def Ok (n : Nat) : Prop := ∀ (a : List TCond) (b : List TCond) (res_ : R), laws_eqCondS n a b = some res_ → CallOk E 81 [.sl .v .iCond a, .sl .v .iCond b] (rvOf 1 (inj res_)) ((inj res_).drop 1) [.v, .v]
theorem ok (n : Nat) (hc : CxOk E (cx n 27)) (hK : KPar (cx n 27)) : Ok (n + 1) := fun a b res_ h_ =>
  fn_sound hc hK mixedOk Try.func81 (by kernel_rfl) (by kernel_rfl) (by kernel_rfl) (by decide) fin_ok (by kernel_rfl) ((top n a b).trans h_) (cuts n)
theorem Kpar (n : Nat) {ω : Type} {avs : List AV} {κ : AV → List AV → Option ω} {q : ω} (h : laws_eqCondS.K n avs κ = some q) : ∃ rv outs, κ rv outs = some q ∧ ∀ (ω' : Type) (κ' : AV → List AV → Option ω'), laws_eqCondS.K n avs κ' = κ' rv outs := by
  unfold K at h
  generalize hf : fixes [.sl .v .iCond, .sl .v .iCond] avs = v at h
  replace h := uc_ok h; obtain ⟨a1, l2, rfl, h⟩ := h
  replace h := getSl_ok h; obtain ⟨x3, rfl, h⟩ := h
  replace h := uc_ok h; obtain ⟨a4, l5, rfl, h⟩ := h
  replace h := getSl_ok h; obtain ⟨x6, rfl, h⟩ := h
  replace h := un_ok h; obtain ⟨rfl, h⟩ := h
  cases hr : laws_eqCondS n x3 x6 with
  | none => rw [hr] at h; cases h
  | some r =>
    rw [hr] at h
    exact ⟨_, _, h, fun ω' κ' => by unfold K; rw [hf]; exact congrArg (fun z : Option R => z.bind _) hr⟩
theorem Kok (n : Nat) (ho : Ok n) {ω : Type} {avs : List AV} {κ : AV → List AV → Option ω} {q : ω} (h : laws_eqCondS.K n avs κ = some q) : FnOk E 81 ∧ ∃ ps rv outs, (cx n 0).sig 81 = some ps ∧ κ rv outs = some q ∧ CallOk E 81 avs rv outs ps := by
  unfold K at h
  generalize hf : fixes [.sl .v .iCond, .sl .v .iCond] avs = v at h
  replace h := uc_ok h; obtain ⟨a1, l2, rfl, h⟩ := h
  replace h := getSl_ok h; obtain ⟨x3, rfl, h⟩ := h
  replace h := uc_ok h; obtain ⟨a4, l5, rfl, h⟩ := h
  replace h := getSl_ok h; obtain ⟨x6, rfl, h⟩ := h
  replace h := un_ok h; obtain ⟨rfl, h⟩ := h
  cases hr : laws_eqCondS n x3 x6 with
  | none => rw [hr] at h; cases h
  | some r =>
    rw [hr] at h
    exact ⟨⟨_, body, Try.func81, by decide +kernel, by kernel_rfl⟩, [.v, .v], _, _, by kernel_rfl, h, CallOk.fix (ss := [.sl .v .iCond, .sl .v .iCond]) (by rw [hf]; exact ho x3 x6 r hr)⟩
end laws_eqCondS
namespace laws_eqQuery
abbrev R : Type := Bool
noncomputable def body : Code := match Try.f36.body with | some c => c | none => .skip
def ann : Ann := ⟨fun k => look2 [] k, fun k => match look2 [] k with | some l => l | none => [], fun k => match look2 [] k with | some l => l | none => []⟩
def fin (o : List AV) : Option R := uc o fun a1 l2 => getB a1 fun x3 => un l2 (some (x3 : R))
def inj (r : R) : List AV := [.b r]
theorem fin_ok (o : List AV) (r : R) (h : fin o = some r) : o = inj r := by
  unfold fin at h
  replace h := uc_ok h; obtain ⟨a1, l2, rfl, h⟩ := h
  replace h := getB_ok h; obtain ⟨x3, rfl, h⟩ := h
  replace h := un_ok h; obtain ⟨rfl, h⟩ := h
  cases h
  rfl
def kr (n : Nat) : St → Option R := retK (cx n 52) [.k] [.v] [.tmp 4] [] fin
def lf (n : Nat) : LF R := fun key κd κe v b => none
theorem cuts (n : Nat) : Cuts (cx n 52) 1 ann (lf n) (kr n) body := by
  intro key κd κe v b r h
  unfold lf at h
  cases h
theorem top (n : Nat) (a : TQuery) (b : TQuery) : entryK 1 [.ag [.i .i64 a.table, .sl .v .iCond a.where_, .i .i64 a.order, .b a.down, .i .i64 a.first, .sl .v .int a.show_, .b a.kids, .i .i64 a.kidTable, .i .i64 a.kidCol], .ag [.i .i64 b.table, .sl .v .iCond b.where_, .i .i64 b.order, .b b.down, .i .i64 b.first, .sl .v .int b.show_, .b b.kids, .i .i64 b.kidTable, .i .i64 b.kidCol]] (fun v b => match outOfAll [.ag [.v, .v, .v, .v, .v, .v, .v, .v, .v], .ag [.v, .v, .v, .v, .v, .v, .v, .v, .v]] v with
      | some o => cond (AV.allRoots o []) (run (cx n 52) 1 ann (lf n) (kr n) body 0 (kr n) (fun _ _ => none) (St.ofC (live0 2) v b)) none
      | none => none) = laws_eqQuery (n + 1) a b := by kernel_rfl
def Ok (n : Nat) : Prop := ∀ (a : TQuery) (b : TQuery) (res_ : R), laws_eqQuery n a b = some res_ → CallOk E 36 [.ag [.i .i64 a.table, .sl .v .iCond a.where_, .i .i64 a.order, .b a.down, .i .i64 a.first, .sl .v .int a.show_, .b a.kids, .i .i64 a.kidTable, .i .i64 a.kidCol], .ag [.i .i64 b.table, .sl .v .iCond b.where_, .i .i64 b.order, .b b.down, .i .i64 b.first, .sl .v .int b.show_, .b b.kids, .i .i64 b.kidTable, .i .i64 b.kidCol]] (rvOf 1 (inj res_)) ((inj res_).drop 1) [.ag [.v, .v, .v, .v, .v, .v, .v, .v, .v], .ag [.v, .v, .v, .v, .v, .v, .v, .v, .v]]
theorem ok (n : Nat) (hc : CxOk E (cx n 52)) (hK : KPar (cx n 52)) : Ok (n + 1) := fun a b res_ h_ =>
  fn_sound hc hK mixedOk Try.func36 (by kernel_rfl) (by kernel_rfl) (by kernel_rfl) (by decide) fin_ok (by kernel_rfl) ((top n a b).trans h_) (cuts n)
theorem Kpar (n : Nat) {ω : Type} {avs : List AV} {κ : AV → List AV → Option ω} {q : ω} (h : laws_eqQuery.K n avs κ = some q) : ∃ rv outs, κ rv outs = some q ∧ ∀ (ω' : Type) (κ' : AV → List AV → Option ω'), laws_eqQuery.K n avs κ' = κ' rv outs := by
  unfold K at h
  generalize hf : fixes [.ag [.k, .sl .v .iCond, .k, .k, .k, .sl .v .int, .k, .k, .k], .ag [.k, .sl .v .iCond, .k, .k, .k, .sl .v .int, .k, .k, .k]] avs = v at h
  replace h := uc_ok h; obtain ⟨a1, l2, rfl, h⟩ := h
  replace h := getAg_ok h; obtain ⟨c3, rfl, h⟩ := h
  replace h := uc_ok h; obtain ⟨a4, l5, rfl, h⟩ := h
  replace h := getI_ok h; obtain ⟨x6, rfl, h⟩ := h
  replace h := uc_ok h; obtain ⟨a7, l8, rfl, h⟩ := h
  replace h := getSl_ok h; obtain ⟨x9, rfl, h⟩ := h
  replace h := uc_ok h; obtain ⟨a10, l11, rfl, h⟩ := h
  replace h := getI_ok h; obtain ⟨x12, rfl, h⟩ := h
  replace h := uc_ok h; obtain ⟨a13, l14, rfl, h⟩ := h
  replace h := getB_ok h; obtain ⟨x15, rfl, h⟩ := h
  replace h := uc_ok h; obtain ⟨a16, l17, rfl, h⟩ := h
  replace h := getI_ok h; obtain ⟨x18, rfl, h⟩ := h
  replace h := uc_ok h; obtain ⟨a19, l20, rfl, h⟩ := h
  replace h := getSl_ok h; obtain ⟨x21, rfl, h⟩ := h
  replace h := uc_ok h; obtain ⟨a22, l23, rfl, h⟩ := h
  replace h := getB_ok h; obtain ⟨x24, rfl, h⟩ := h
  replace h := uc_ok h; obtain ⟨a25, l26, rfl, h⟩ := h
  replace h := getI_ok h; obtain ⟨x27, rfl, h⟩ := h
  replace h := uc_ok h; obtain ⟨a28, l29, rfl, h⟩ := h
  replace h := getI_ok h; obtain ⟨x30, rfl, h⟩ := h
  replace h := un_ok h; obtain ⟨rfl, h⟩ := h
  replace h := uc_ok h; obtain ⟨a31, l32, rfl, h⟩ := h
  replace h := getAg_ok h; obtain ⟨c33, rfl, h⟩ := h
  replace h := uc_ok h; obtain ⟨a34, l35, rfl, h⟩ := h
  replace h := getI_ok h; obtain ⟨x36, rfl, h⟩ := h
  replace h := uc_ok h; obtain ⟨a37, l38, rfl, h⟩ := h
  replace h := getSl_ok h; obtain ⟨x39, rfl, h⟩ := h
  replace h := uc_ok h; obtain ⟨a40, l41, rfl, h⟩ := h
  replace h := getI_ok h; obtain ⟨x42, rfl, h⟩ := h
  replace h := uc_ok h; obtain ⟨a43, l44, rfl, h⟩ := h
  replace h := getB_ok h; obtain ⟨x45, rfl, h⟩ := h
  replace h := uc_ok h; obtain ⟨a46, l47, rfl, h⟩ := h
  replace h := getI_ok h; obtain ⟨x48, rfl, h⟩ := h
  replace h := uc_ok h; obtain ⟨a49, l50, rfl, h⟩ := h
  replace h := getSl_ok h; obtain ⟨x51, rfl, h⟩ := h
  replace h := uc_ok h; obtain ⟨a52, l53, rfl, h⟩ := h
  replace h := getB_ok h; obtain ⟨x54, rfl, h⟩ := h
  replace h := uc_ok h; obtain ⟨a55, l56, rfl, h⟩ := h
  replace h := getI_ok h; obtain ⟨x57, rfl, h⟩ := h
  replace h := uc_ok h; obtain ⟨a58, l59, rfl, h⟩ := h
  replace h := getI_ok h; obtain ⟨x60, rfl, h⟩ := h
  replace h := un_ok h; obtain ⟨rfl, h⟩ := h
  replace h := un_ok h; obtain ⟨rfl, h⟩ := h
  cases hr : laws_eqQuery n (TQuery.mk x6 x9 x12 x15 x18 x21 x24 x27 x30) (TQuery.mk x36 x39 x42 x45 x48 x51 x54 x57 x60) with
  | none => rw [hr] at h; cases h
  | some r =>
    rw [hr] at h
    exact ⟨_, _, h, fun ω' κ' => by unfold K; rw [hf]; exact congrArg (fun z : Option R => z.bind _) hr⟩
theorem Kok (n : Nat) (ho : Ok n) {ω : Type} {avs : List AV} {κ : AV → List AV → Option ω} {q : ω} (h : laws_eqQuery.K n avs κ = some q) : FnOk E 36 ∧ ∃ ps rv outs, (cx n 0).sig 36 = some ps ∧ κ rv outs = some q ∧ CallOk E 36 avs rv outs ps := by
  unfold K at h
  generalize hf : fixes [.ag [.k, .sl .v .iCond, .k, .k, .k, .sl .v .int, .k, .k, .k], .ag [.k, .sl .v .iCond, .k, .k, .k, .sl .v .int, .k, .k, .k]] avs = v at h
  replace h := uc_ok h; obtain ⟨a1, l2, rfl, h⟩ := h
  replace h := getAg_ok h; obtain ⟨c3, rfl, h⟩ := h
  replace h := uc_ok h; obtain ⟨a4, l5, rfl, h⟩ := h
  replace h := getI_ok h; obtain ⟨x6, rfl, h⟩ := h
  replace h := uc_ok h; obtain ⟨a7, l8, rfl, h⟩ := h
  replace h := getSl_ok h; obtain ⟨x9, rfl, h⟩ := h
  replace h := uc_ok h; obtain ⟨a10, l11, rfl, h⟩ := h
  replace h := getI_ok h; obtain ⟨x12, rfl, h⟩ := h
  replace h := uc_ok h; obtain ⟨a13, l14, rfl, h⟩ := h
  replace h := getB_ok h; obtain ⟨x15, rfl, h⟩ := h
  replace h := uc_ok h; obtain ⟨a16, l17, rfl, h⟩ := h
  replace h := getI_ok h; obtain ⟨x18, rfl, h⟩ := h
  replace h := uc_ok h; obtain ⟨a19, l20, rfl, h⟩ := h
  replace h := getSl_ok h; obtain ⟨x21, rfl, h⟩ := h
  replace h := uc_ok h; obtain ⟨a22, l23, rfl, h⟩ := h
  replace h := getB_ok h; obtain ⟨x24, rfl, h⟩ := h
  replace h := uc_ok h; obtain ⟨a25, l26, rfl, h⟩ := h
  replace h := getI_ok h; obtain ⟨x27, rfl, h⟩ := h
  replace h := uc_ok h; obtain ⟨a28, l29, rfl, h⟩ := h
  replace h := getI_ok h; obtain ⟨x30, rfl, h⟩ := h
  replace h := un_ok h; obtain ⟨rfl, h⟩ := h
  replace h := uc_ok h; obtain ⟨a31, l32, rfl, h⟩ := h
  replace h := getAg_ok h; obtain ⟨c33, rfl, h⟩ := h
  replace h := uc_ok h; obtain ⟨a34, l35, rfl, h⟩ := h
  replace h := getI_ok h; obtain ⟨x36, rfl, h⟩ := h
  replace h := uc_ok h; obtain ⟨a37, l38, rfl, h⟩ := h
  replace h := getSl_ok h; obtain ⟨x39, rfl, h⟩ := h
  replace h := uc_ok h; obtain ⟨a40, l41, rfl, h⟩ := h
  replace h := getI_ok h; obtain ⟨x42, rfl, h⟩ := h
  replace h := uc_ok h; obtain ⟨a43, l44, rfl, h⟩ := h
  replace h := getB_ok h; obtain ⟨x45, rfl, h⟩ := h
  replace h := uc_ok h; obtain ⟨a46, l47, rfl, h⟩ := h
  replace h := getI_ok h; obtain ⟨x48, rfl, h⟩ := h
  replace h := uc_ok h; obtain ⟨a49, l50, rfl, h⟩ := h
  replace h := getSl_ok h; obtain ⟨x51, rfl, h⟩ := h
  replace h := uc_ok h; obtain ⟨a52, l53, rfl, h⟩ := h
  replace h := getB_ok h; obtain ⟨x54, rfl, h⟩ := h
  replace h := uc_ok h; obtain ⟨a55, l56, rfl, h⟩ := h
  replace h := getI_ok h; obtain ⟨x57, rfl, h⟩ := h
  replace h := uc_ok h; obtain ⟨a58, l59, rfl, h⟩ := h
  replace h := getI_ok h; obtain ⟨x60, rfl, h⟩ := h
  replace h := un_ok h; obtain ⟨rfl, h⟩ := h
  replace h := un_ok h; obtain ⟨rfl, h⟩ := h
  cases hr : laws_eqQuery n (TQuery.mk x6 x9 x12 x15 x18 x21 x24 x27 x30) (TQuery.mk x36 x39 x42 x45 x48 x51 x54 x57 x60) with
  | none => rw [hr] at h; cases h
  | some r =>
    rw [hr] at h
    exact ⟨⟨_, body, Try.func36, by decide +kernel, by kernel_rfl⟩, [.ag [.v, .v, .v, .v, .v, .v, .v, .v, .v], .ag [.v, .v, .v, .v, .v, .v, .v, .v, .v]], _, _, by kernel_rfl, h, CallOk.fix (ss := [.ag [.k, .sl .v .iCond, .k, .k, .k, .sl .v .int, .k, .k, .k], .ag [.k, .sl .v .iCond, .k, .k, .k, .sl .v .int, .k, .k, .k]]) (by rw [hf]; exact ho (TQuery.mk x6 x9 x12 x15 x18 x21 x24 x27 x30) (TQuery.mk x36 x39 x42 x45 x48 x51 x54 x57 x60) r hr)⟩
end laws_eqQuery
namespace laws_eqRow
abbrev R : Type := Bool
noncomputable def body : Code := match Try.f133.body with | some c => c | none => .skip
def ann : Ann := ⟨fun k => look2 [] k, fun k => match look2 [] k with | some l => l | none => [], fun k => match look2 [] k with | some l => l | none => []⟩
def fin (o : List AV) : Option R := uc o fun a1 l2 => getB a1 fun x3 => un l2 (some (x3 : R))
def inj (r : R) : List AV := [.b r]
theorem fin_ok (o : List AV) (r : R) (h : fin o = some r) : o = inj r := by
  unfold fin at h
  replace h := uc_ok h; obtain ⟨a1, l2, rfl, h⟩ := h
  replace h := getB_ok h; obtain ⟨x3, rfl, h⟩ := h
  replace h := un_ok h; obtain ⟨rfl, h⟩ := h
  cases h
  rfl
def kr (n : Nat) : St → Option R := retK (cx n 16) [.k] [.v] [.tmp 4] [] fin
def lf (n : Nat) : LF R := fun key κd κe v b => none
theorem cuts (n : Nat) : Cuts (cx n 16) 1 ann (lf n) (kr n) body := by
  intro key κd κe v b r h
  unfold lf at h
  cases h
theorem top (n : Nat) (a : TRow) (b : TRow) : entryK 1 [.ag [.i .i64 a.id_, .sl .v .int a.cells], .ag [.i .i64 b.id_, .sl .v .int b.cells]] (fun v b => match outOfAll [.ag [.v, .v], .ag [.v, .v]] v with
      | some o => cond (AV.allRoots o []) (run (cx n 16) 1 ann (lf n) (kr n) body 0 (kr n) (fun _ _ => none) (St.ofC (live0 2) v b)) none
      | none => none) = laws_eqRow (n + 1) a b := by kernel_rfl
def Ok (n : Nat) : Prop := ∀ (a : TRow) (b : TRow) (res_ : R), laws_eqRow n a b = some res_ → CallOk E 133 [.ag [.i .i64 a.id_, .sl .v .int a.cells], .ag [.i .i64 b.id_, .sl .v .int b.cells]] (rvOf 1 (inj res_)) ((inj res_).drop 1) [.ag [.v, .v], .ag [.v, .v]]
theorem ok (n : Nat) (hc : CxOk E (cx n 16)) (hK : KPar (cx n 16)) : Ok (n + 1) := fun a b res_ h_ =>
  fn_sound hc hK mixedOk Try.func133 (by kernel_rfl) (by kernel_rfl) (by kernel_rfl) (by decide) fin_ok (by kernel_rfl) ((top n a b).trans h_) (cuts n)
theorem Kpar (n : Nat) {ω : Type} {avs : List AV} {κ : AV → List AV → Option ω} {q : ω} (h : laws_eqRow.K n avs κ = some q) : ∃ rv outs, κ rv outs = some q ∧ ∀ (ω' : Type) (κ' : AV → List AV → Option ω'), laws_eqRow.K n avs κ' = κ' rv outs := by
  unfold K at h
  generalize hf : fixes [.ag [.k, .sl .v .int], .ag [.k, .sl .v .int]] avs = v at h
  replace h := uc_ok h; obtain ⟨a1, l2, rfl, h⟩ := h
  replace h := getAg_ok h; obtain ⟨c3, rfl, h⟩ := h
  replace h := uc_ok h; obtain ⟨a4, l5, rfl, h⟩ := h
  replace h := getI_ok h; obtain ⟨x6, rfl, h⟩ := h
  replace h := uc_ok h; obtain ⟨a7, l8, rfl, h⟩ := h
  replace h := getSl_ok h; obtain ⟨x9, rfl, h⟩ := h
  replace h := un_ok h; obtain ⟨rfl, h⟩ := h
  replace h := uc_ok h; obtain ⟨a10, l11, rfl, h⟩ := h
  replace h := getAg_ok h; obtain ⟨c12, rfl, h⟩ := h
  replace h := uc_ok h; obtain ⟨a13, l14, rfl, h⟩ := h
  replace h := getI_ok h; obtain ⟨x15, rfl, h⟩ := h
  replace h := uc_ok h; obtain ⟨a16, l17, rfl, h⟩ := h
  replace h := getSl_ok h; obtain ⟨x18, rfl, h⟩ := h
  replace h := un_ok h; obtain ⟨rfl, h⟩ := h
  replace h := un_ok h; obtain ⟨rfl, h⟩ := h
  cases hr : laws_eqRow n (TRow.mk x6 x9) (TRow.mk x15 x18) with
  | none => rw [hr] at h; cases h
  | some r =>
    rw [hr] at h
    exact ⟨_, _, h, fun ω' κ' => by unfold K; rw [hf]; exact congrArg (fun z : Option R => z.bind _) hr⟩
theorem Kok (n : Nat) (ho : Ok n) {ω : Type} {avs : List AV} {κ : AV → List AV → Option ω} {q : ω} (h : laws_eqRow.K n avs κ = some q) : FnOk E 133 ∧ ∃ ps rv outs, (cx n 0).sig 133 = some ps ∧ κ rv outs = some q ∧ CallOk E 133 avs rv outs ps := by
  unfold K at h
  generalize hf : fixes [.ag [.k, .sl .v .int], .ag [.k, .sl .v .int]] avs = v at h
  replace h := uc_ok h; obtain ⟨a1, l2, rfl, h⟩ := h
  replace h := getAg_ok h; obtain ⟨c3, rfl, h⟩ := h
  replace h := uc_ok h; obtain ⟨a4, l5, rfl, h⟩ := h
  replace h := getI_ok h; obtain ⟨x6, rfl, h⟩ := h
  replace h := uc_ok h; obtain ⟨a7, l8, rfl, h⟩ := h
  replace h := getSl_ok h; obtain ⟨x9, rfl, h⟩ := h
  replace h := un_ok h; obtain ⟨rfl, h⟩ := h
  replace h := uc_ok h; obtain ⟨a10, l11, rfl, h⟩ := h
  replace h := getAg_ok h; obtain ⟨c12, rfl, h⟩ := h
  replace h := uc_ok h; obtain ⟨a13, l14, rfl, h⟩ := h
  replace h := getI_ok h; obtain ⟨x15, rfl, h⟩ := h
  replace h := uc_ok h; obtain ⟨a16, l17, rfl, h⟩ := h
  replace h := getSl_ok h; obtain ⟨x18, rfl, h⟩ := h
  replace h := un_ok h; obtain ⟨rfl, h⟩ := h
  replace h := un_ok h; obtain ⟨rfl, h⟩ := h
  cases hr : laws_eqRow n (TRow.mk x6 x9) (TRow.mk x15 x18) with
  | none => rw [hr] at h; cases h
  | some r =>
    rw [hr] at h
    exact ⟨⟨_, body, Try.func133, by decide +kernel, by kernel_rfl⟩, [.ag [.v, .v], .ag [.v, .v]], _, _, by kernel_rfl, h, CallOk.fix (ss := [.ag [.k, .sl .v .int], .ag [.k, .sl .v .int]]) (by rw [hf]; exact ho (TRow.mk x6 x9) (TRow.mk x15 x18) r hr)⟩
end laws_eqRow
namespace laws_eqRowS
abbrev R : Type := Bool
noncomputable def body : Code := match Try.f106.body with | some c => c | none => .skip
def ann : Ann := ⟨fun k => look2 [(6, [(0, .view .iRow), (1, .view .iRow), (5, .k)])] k, fun k => match look2 [] k with | some l => l | none => [], fun k => match look2 [(0, [])] k with | some l => l | none => []⟩
def fin (o : List AV) : Option R := uc o fun a1 l2 => getB a1 fun x3 => un l2 (some (x3 : R))
def inj (r : R) : List AV := [.b r]
theorem fin_ok (o : List AV) (r : R) (h : fin o = some r) : o = inj r := by
  unfold fin at h
  replace h := uc_ok h; obtain ⟨a1, l2, rfl, h⟩ := h
  replace h := getB_ok h; obtain ⟨x3, rfl, h⟩ := h
  replace h := un_ok h; obtain ⟨rfl, h⟩ := h
  cases h
  rfl
def kr (n : Nat) : St → Option R := retK (cx n 27) [.k] [.v] [.tmp 4] [] fin
def lf (n : Nat) : LF R := fun key κd κe v b => cond (Nat.beq key 6)
    (uc v fun a1 l2 => getSl .v .iRow a1 fun x3 => uc l2 fun a4 l5 => getSl .v .iRow a4 fun x6 => uc l5 fun a7 l8 => getI .i64 a7 fun x9 => un l8 (uc b fun a10 l11 => isExt a10 (un l11 (laws_eqRowS.loop6 n (fun (_ : Unit) => κe 0 [] [some .ext]) n x3 x6 x9))))
    (none)
noncomputable def A6 : Code := match pieceAt ann body 0 6 with | some (.loop a _) => a | _ => .skip
theorem round6 (n : Nat) (B : D R) (κe : Nat → D R) (a : List TRow) (b : List TRow) (i : Int) : run (cx n 27) 1 ann (lf n) (kr n) A6 7 (fun s => cutK 1 [(0, .view .iRow), (1, .view .iRow), (5, .k)] s B) (fun j s => cutK 1 (ann.out j) s (κe j)) (St.ofC [(0, .view .iRow), (1, .view .iRow), (5, .k)] [.sl .v .iRow a, .sl .v .iRow b, .i .i64 i] [some .ext]) =
    laws_eqRowS.step6 n (fun (_ : Unit) => κe 0 [] [some .ext]) (fun (z0 : List TRow) (z1 : List TRow) (z2 : Int) => B [.sl .v .iRow z0, .sl .v .iRow z1, .i .i64 z2] [some .ext]) a b i := by kernel_rfl
theorem rounds6 (n : Nat) (κe : Nat → D R) : ∀ (N : Nat) (a : List TRow) (b : List TRow) (i : Int), rounds (cx n 27) 1 ann (lf n) (kr n) A6 7 [(0, .view .iRow), (1, .view .iRow), (5, .k)] κe N [.sl .v .iRow a, .sl .v .iRow b, .i .i64 i] [some .ext] = laws_eqRowS.loop6 n (fun (_ : Unit) => κe 0 [] [some .ext]) N a b i
  | 0, _, _, _ => rfl
  | N + 1, a, b, i => (round6 n (rounds (cx n 27) 1 ann (lf n) (kr n) A6 7 [(0, .view .iRow), (1, .view .iRow), (5, .k)] κe N) κe a b i).trans (congrArg (fun back => laws_eqRowS.step6 n (fun (_ : Unit) => κe 0 [] [some .ext]) back a b i) (funext fun z0 => funext fun z1 => funext fun z2 => rounds6 n κe N z0 z1 z2))
theorem cuts (n : Nat) : Cuts (cx n 27) 1 ann (lf n) (kr n) body := by
  intro key κd κe v b r h
  unfold lf at h
  cases hk6 : Nat.beq key 6 with
  | true =>
    replace h := cond_t hk6 h
    have := beq_iff.1 hk6
    subst this
    replace h := uc_ok h; obtain ⟨a1, l2, rfl, h⟩ := h
    replace h := getSl_ok h; obtain ⟨x3, rfl, h⟩ := h
    replace h := uc_ok h; obtain ⟨a4, l5, rfl, h⟩ := h
    replace h := getSl_ok h; obtain ⟨x6, rfl, h⟩ := h
    replace h := uc_ok h; obtain ⟨a7, l8, rfl, h⟩ := h
    replace h := getI_ok h; obtain ⟨x9, rfl, h⟩ := h
    replace h := un_ok h; obtain ⟨rfl, h⟩ := h
    replace h := uc_ok h; obtain ⟨a10, l11, rfl, h⟩ := h
    replace h := isExt_ok h; obtain ⟨rfl, h⟩ := h
    replace h := un_ok h; obtain ⟨rfl, h⟩ := h
    exact ⟨[(0, .view .iRow), (1, .view .iRow), (5, .k)], .loop A6 7, by kernel_rfl, by kernel_rfl, ⟨n, (rounds6 n κe n x3 x6 x9).trans h⟩⟩
  | false =>
    replace h := cond_f hk6 h
    cases h
theorem top (n : Nat) (a : List TRow) (b : List TRow) : entryK 1 [.sl .v .iRow a, .sl .v .iRow b] (fun v b => match outOfAll [.v, .v] v with
      | some o => cond (AV.allRoots o []) (run (cx n 27) 1 ann (lf n) (kr n) body 0 (kr n) (fun _ _ => none) (St.ofC (live0 2) v b)) none
      | none => none) = laws_eqRowS (n + 1) a b := by kernel_rfl
def Ok (n : Nat) : Prop := ∀ (a : List TRow) (b : List TRow) (res_ : R), laws_eqRowS n a b = some res_ → CallOk E 106 [.sl .v .iRow a, .sl .v .iRow b] (rvOf 1 (inj res_)) ((inj res_).drop 1) [.v, .v]
theorem ok (n : Nat) (hc : CxOk E (cx n 27)) (hK : KPar (cx n 27)) : Ok (n + 1) := fun a b res_ h_ =>
  fn_sound hc hK mixedOk Try.func106 (by kernel_rfl) (by kernel_rfl) (by kernel_rfl) (by decide) fin_ok (by kernel_rfl) ((top n a b).trans h_) (cuts n)
theorem Kpar (n : Nat) {ω : Type} {avs : List AV} {κ : AV → List AV → Option ω} {q : ω} (h : laws_eqRowS.K n avs κ = some q) : ∃ rv outs, κ rv outs = some q ∧ ∀ (ω' : Type) (κ' : AV → List AV → Option ω'), laws_eqRowS.K n avs κ' = κ' rv outs := by
  unfold K at h
  generalize hf : fixes [.sl .v .iRow, .sl .v .iRow] avs = v at h
  replace h := uc_ok h; obtain ⟨a1, l2, rfl, h⟩ := h
  replace h := getSl_ok h; obtain ⟨x3, rfl, h⟩ := h
  replace h := uc_ok h; obtain ⟨a4, l5, rfl, h⟩ := h
  replace h := getSl_ok h; obtain ⟨x6, rfl, h⟩ := h
  replace h := un_ok h; obtain ⟨rfl, h⟩ := h
  cases hr : laws_eqRowS n x3 x6 with
  | none => rw [hr] at h; cases h
  | some r =>
    rw [hr] at h
    exact ⟨_, _, h, fun ω' κ' => by unfold K; rw [hf]; exact congrArg (fun z : Option R => z.bind _) hr⟩
theorem Kok (n : Nat) (ho : Ok n) {ω : Type} {avs : List AV} {κ : AV → List AV → Option ω} {q : ω} (h : laws_eqRowS.K n avs κ = some q) : FnOk E 106 ∧ ∃ ps rv outs, (cx n 0).sig 106 = some ps ∧ κ rv outs = some q ∧ CallOk E 106 avs rv outs ps := by
  unfold K at h
  generalize hf : fixes [.sl .v .iRow, .sl .v .iRow] avs = v at h
  replace h := uc_ok h; obtain ⟨a1, l2, rfl, h⟩ := h
  replace h := getSl_ok h; obtain ⟨x3, rfl, h⟩ := h
  replace h := uc_ok h; obtain ⟨a4, l5, rfl, h⟩ := h
  replace h := getSl_ok h; obtain ⟨x6, rfl, h⟩ := h
  replace h := un_ok h; obtain ⟨rfl, h⟩ := h
  cases hr : laws_eqRowS n x3 x6 with
  | none => rw [hr] at h; cases h
  | some r =>
    rw [hr] at h
    exact ⟨⟨_, body, Try.func106, by decide +kernel, by kernel_rfl⟩, [.v, .v], _, _, by kernel_rfl, h, CallOk.fix (ss := [.sl .v .iRow, .sl .v .iRow]) (by rw [hf]; exact ho x3 x6 r hr)⟩
end laws_eqRowS
namespace laws_eqKid
abbrev R : Type := Bool
noncomputable def body : Code := match Try.f154.body with | some c => c | none => .skip
def ann : Ann := ⟨fun k => look2 [] k, fun k => match look2 [] k with | some l => l | none => [], fun k => match look2 [] k with | some l => l | none => []⟩
def fin (o : List AV) : Option R := uc o fun a1 l2 => getB a1 fun x3 => un l2 (some (x3 : R))
def inj (r : R) : List AV := [.b r]
theorem fin_ok (o : List AV) (r : R) (h : fin o = some r) : o = inj r := by
  unfold fin at h
  replace h := uc_ok h; obtain ⟨a1, l2, rfl, h⟩ := h
  replace h := getB_ok h; obtain ⟨x3, rfl, h⟩ := h
  replace h := un_ok h; obtain ⟨rfl, h⟩ := h
  cases h
  rfl
def kr (n : Nat) : St → Option R := retK (cx n 15) [.k] [.v] [.tmp 4] [] fin
def lf (n : Nat) : LF R := fun key κd κe v b => none
theorem cuts (n : Nat) : Cuts (cx n 15) 1 ann (lf n) (kr n) body := by
  intro key κd κe v b r h
  unfold lf at h
  cases h
theorem top (n : Nat) (a : TKid) (b : TKid) : entryK 1 [.ag [.i .i64 a.id_, .i .i64 a.n_], .ag [.i .i64 b.id_, .i .i64 b.n_]] (fun v b => match outOfAll [.ag [.v, .v], .ag [.v, .v]] v with
      | some o => cond (AV.allRoots o []) (run (cx n 15) 1 ann (lf n) (kr n) body 0 (kr n) (fun _ _ => none) (St.ofC (live0 2) v b)) none
      | none => none) = laws_eqKid (n + 1) a b := by kernel_rfl
def Ok (n : Nat) : Prop := ∀ (a : TKid) (b : TKid) (res_ : R), laws_eqKid n a b = some res_ → CallOk E 154 [.ag [.i .i64 a.id_, .i .i64 a.n_], .ag [.i .i64 b.id_, .i .i64 b.n_]] (rvOf 1 (inj res_)) ((inj res_).drop 1) [.ag [.v, .v], .ag [.v, .v]]
theorem ok (n : Nat) (hc : CxOk E (cx n 15)) (hK : KPar (cx n 15)) : Ok (n + 1) := fun a b res_ h_ =>
  fn_sound hc hK mixedOk Try.func154 (by kernel_rfl) (by kernel_rfl) (by kernel_rfl) (by decide) fin_ok (by kernel_rfl) ((top n a b).trans h_) (cuts n)
theorem Kpar (n : Nat) {ω : Type} {avs : List AV} {κ : AV → List AV → Option ω} {q : ω} (h : laws_eqKid.K n avs κ = some q) : ∃ rv outs, κ rv outs = some q ∧ ∀ (ω' : Type) (κ' : AV → List AV → Option ω'), laws_eqKid.K n avs κ' = κ' rv outs := by
  unfold K at h
  generalize hf : fixes [.ag [.k, .k], .ag [.k, .k]] avs = v at h
  replace h := uc_ok h; obtain ⟨a1, l2, rfl, h⟩ := h
  replace h := getAg_ok h; obtain ⟨c3, rfl, h⟩ := h
  replace h := uc_ok h; obtain ⟨a4, l5, rfl, h⟩ := h
  replace h := getI_ok h; obtain ⟨x6, rfl, h⟩ := h
  replace h := uc_ok h; obtain ⟨a7, l8, rfl, h⟩ := h
  replace h := getI_ok h; obtain ⟨x9, rfl, h⟩ := h
  replace h := un_ok h; obtain ⟨rfl, h⟩ := h
  replace h := uc_ok h; obtain ⟨a10, l11, rfl, h⟩ := h
  replace h := getAg_ok h; obtain ⟨c12, rfl, h⟩ := h
  replace h := uc_ok h; obtain ⟨a13, l14, rfl, h⟩ := h
  replace h := getI_ok h; obtain ⟨x15, rfl, h⟩ := h
  replace h := uc_ok h; obtain ⟨a16, l17, rfl, h⟩ := h
  replace h := getI_ok h; obtain ⟨x18, rfl, h⟩ := h
  replace h := un_ok h; obtain ⟨rfl, h⟩ := h
  replace h := un_ok h; obtain ⟨rfl, h⟩ := h
  cases hr : laws_eqKid n (TKid.mk x6 x9) (TKid.mk x15 x18) with
  | none => rw [hr] at h; cases h
  | some r =>
    rw [hr] at h
    exact ⟨_, _, h, fun ω' κ' => by unfold K; rw [hf]; exact congrArg (fun z : Option R => z.bind _) hr⟩
theorem Kok (n : Nat) (ho : Ok n) {ω : Type} {avs : List AV} {κ : AV → List AV → Option ω} {q : ω} (h : laws_eqKid.K n avs κ = some q) : FnOk E 154 ∧ ∃ ps rv outs, (cx n 0).sig 154 = some ps ∧ κ rv outs = some q ∧ CallOk E 154 avs rv outs ps := by
  unfold K at h
  generalize hf : fixes [.ag [.k, .k], .ag [.k, .k]] avs = v at h
  replace h := uc_ok h; obtain ⟨a1, l2, rfl, h⟩ := h
  replace h := getAg_ok h; obtain ⟨c3, rfl, h⟩ := h
  replace h := uc_ok h; obtain ⟨a4, l5, rfl, h⟩ := h
  replace h := getI_ok h; obtain ⟨x6, rfl, h⟩ := h
  replace h := uc_ok h; obtain ⟨a7, l8, rfl, h⟩ := h
  replace h := getI_ok h; obtain ⟨x9, rfl, h⟩ := h
  replace h := un_ok h; obtain ⟨rfl, h⟩ := h
  replace h := uc_ok h; obtain ⟨a10, l11, rfl, h⟩ := h
  replace h := getAg_ok h; obtain ⟨c12, rfl, h⟩ := h
  replace h := uc_ok h; obtain ⟨a13, l14, rfl, h⟩ := h
  replace h := getI_ok h; obtain ⟨x15, rfl, h⟩ := h
  replace h := uc_ok h; obtain ⟨a16, l17, rfl, h⟩ := h
  replace h := getI_ok h; obtain ⟨x18, rfl, h⟩ := h
  replace h := un_ok h; obtain ⟨rfl, h⟩ := h
  replace h := un_ok h; obtain ⟨rfl, h⟩ := h
  cases hr : laws_eqKid n (TKid.mk x6 x9) (TKid.mk x15 x18) with
  | none => rw [hr] at h; cases h
  | some r =>
    rw [hr] at h
    exact ⟨⟨_, body, Try.func154, by decide +kernel, by kernel_rfl⟩, [.ag [.v, .v], .ag [.v, .v]], _, _, by kernel_rfl, h, CallOk.fix (ss := [.ag [.k, .k], .ag [.k, .k]]) (by rw [hf]; exact ho (TKid.mk x6 x9) (TKid.mk x15 x18) r hr)⟩
end laws_eqKid
namespace laws_eqKidS
abbrev R : Type := Bool
noncomputable def body : Code := match Try.f107.body with | some c => c | none => .skip
def ann : Ann := ⟨fun k => look2 [(6, [(0, .view .iKid), (1, .view .iKid), (5, .k)])] k, fun k => match look2 [] k with | some l => l | none => [], fun k => match look2 [(0, [])] k with | some l => l | none => []⟩
def fin (o : List AV) : Option R := uc o fun a1 l2 => getB a1 fun x3 => un l2 (some (x3 : R))
def inj (r : R) : List AV := [.b r]
theorem fin_ok (o : List AV) (r : R) (h : fin o = some r) : o = inj r := by
  unfold fin at h
  replace h := uc_ok h; obtain ⟨a1, l2, rfl, h⟩ := h
  replace h := getB_ok h; obtain ⟨x3, rfl, h⟩ := h
  replace h := un_ok h; obtain ⟨rfl, h⟩ := h
  cases h
  rfl
def kr (n : Nat) : St → Option R := retK (cx n 27) [.k] [.v] [.tmp 4] [] fin
def lf (n : Nat) : LF R := fun key κd κe v b => cond (Nat.beq key 6)
    (uc v fun a1 l2 => getSl .v .iKid a1 fun x3 => uc l2 fun a4 l5 => getSl .v .iKid a4 fun x6 => uc l5 fun a7 l8 => getI .i64 a7 fun x9 => un l8 (uc b fun a10 l11 => isExt a10 (un l11 (laws_eqKidS.loop6 n (fun (_ : Unit) => κe 0 [] [some .ext]) n x3 x6 x9))))
    (none)
noncomputable def A6 : Code := match pieceAt ann body 0 6 with | some (.loop a _) => a | _ => .skip
theorem round6 (n : Nat) (B : D R) (κe : Nat → D R) (a : List TKid) (b : List TKid) (i : Int) : run (cx n 27) 1 ann (lf n) (kr n) A6 7 (fun s => cutK 1 [(0, .view .iKid), (1, .view .iKid), (5, .k)] s B) (fun j s => cutK 1 (ann.out j) s (κe j)) (St.ofC [(0, .view .iKid), (1, .view .iKid), (5, .k)] [.sl .v .iKid a, .sl .v .iKid b, .i .i64 i] [some .ext]) =
    laws_eqKidS.step6 n (fun (_ : Unit) => κe 0 [] [some .ext]) (fun (z0 : List TKid) (z1 : List TKid) (z2 : Int) => B [.sl .v .iKid z0, .sl .v .iKid z1, .i .i64 z2] [some .ext]) a b i := by kernel_rfl
theorem rounds6 (n : Nat) (κe : Nat → D R) : ∀ (N : Nat) (a : List TKid) (b : List TKid) (i : Int), rounds (cx n 27) 1 ann (lf n) (kr n) A6 7 [(0, .view .iKid), (1, .view .iKid), (5, .k)] κe N [.sl .v .iKid a, .sl .v .iKid b, .i .i64 i] [some .ext] = laws_eqKidS.loop6 n (fun (_ : Unit) => κe 0 [] [some .ext]) N a b i
  | 0, _, _, _ => rfl
  | N + 1, a, b, i => (round6 n (rounds (cx n 27) 1 ann (lf n) (kr n) A6 7 [(0, .view .iKid), (1, .view .iKid), (5, .k)] κe N) κe a b i).trans (congrArg (fun back => laws_eqKidS.step6 n (fun (_ : Unit) => κe 0 [] [some .ext]) back a b i) (funext fun z0 => funext fun z1 => funext fun z2 => rounds6 n κe N z0 z1 z2))
theorem cuts (n : Nat) : Cuts (cx n 27) 1 ann (lf n) (kr n) body := by
  intro key κd κe v b r h
  unfold lf at h
  cases hk6 : Nat.beq key 6 with
  | true =>
    replace h := cond_t hk6 h
    have := beq_iff.1 hk6
    subst this
    replace h := uc_ok h; obtain ⟨a1, l2, rfl, h⟩ := h
    replace h := getSl_ok h; obtain ⟨x3, rfl, h⟩ := h
    replace h := uc_ok h; obtain ⟨a4, l5, rfl, h⟩ := h
    replace h := getSl_ok h; obtain ⟨x6, rfl, h⟩ := h
    replace h := uc_ok h; obtain ⟨a7, l8, rfl, h⟩ := h
    replace h := getI_ok h; obtain ⟨x9, rfl, h⟩ := h
    replace h := un_ok h; obtain ⟨rfl, h⟩ := h
    replace h := uc_ok h; obtain ⟨a10, l11, rfl, h⟩ := h
    replace h := isExt_ok h; obtain ⟨rfl, h⟩ := h
    replace h := un_ok h; obtain ⟨rfl, h⟩ := h
    exact ⟨[(0, .view .iKid), (1, .view .iKid), (5, .k)], .loop A6 7, by kernel_rfl, by kernel_rfl, ⟨n, (rounds6 n κe n x3 x6 x9).trans h⟩⟩
  | false =>
    replace h := cond_f hk6 h
    cases h
theorem top (n : Nat) (a : List TKid) (b : List TKid) : entryK 1 [.sl .v .iKid a, .sl .v .iKid b] (fun v b => match outOfAll [.v, .v] v with
      | some o => cond (AV.allRoots o []) (run (cx n 27) 1 ann (lf n) (kr n) body 0 (kr n) (fun _ _ => none) (St.ofC (live0 2) v b)) none
      | none => none) = laws_eqKidS (n + 1) a b := by kernel_rfl
def Ok (n : Nat) : Prop := ∀ (a : List TKid) (b : List TKid) (res_ : R), laws_eqKidS n a b = some res_ → CallOk E 107 [.sl .v .iKid a, .sl .v .iKid b] (rvOf 1 (inj res_)) ((inj res_).drop 1) [.v, .v]
theorem ok (n : Nat) (hc : CxOk E (cx n 27)) (hK : KPar (cx n 27)) : Ok (n + 1) := fun a b res_ h_ =>
  fn_sound hc hK mixedOk Try.func107 (by kernel_rfl) (by kernel_rfl) (by kernel_rfl) (by decide) fin_ok (by kernel_rfl) ((top n a b).trans h_) (cuts n)
theorem Kpar (n : Nat) {ω : Type} {avs : List AV} {κ : AV → List AV → Option ω} {q : ω} (h : laws_eqKidS.K n avs κ = some q) : ∃ rv outs, κ rv outs = some q ∧ ∀ (ω' : Type) (κ' : AV → List AV → Option ω'), laws_eqKidS.K n avs κ' = κ' rv outs := by
  unfold K at h
  generalize hf : fixes [.sl .v .iKid, .sl .v .iKid] avs = v at h
  replace h := uc_ok h; obtain ⟨a1, l2, rfl, h⟩ := h
  replace h := getSl_ok h; obtain ⟨x3, rfl, h⟩ := h
  replace h := uc_ok h; obtain ⟨a4, l5, rfl, h⟩ := h
  replace h := getSl_ok h; obtain ⟨x6, rfl, h⟩ := h
  replace h := un_ok h; obtain ⟨rfl, h⟩ := h
  cases hr : laws_eqKidS n x3 x6 with
  | none => rw [hr] at h; cases h
  | some r =>
    rw [hr] at h
    exact ⟨_, _, h, fun ω' κ' => by unfold K; rw [hf]; exact congrArg (fun z : Option R => z.bind _) hr⟩
theorem Kok (n : Nat) (ho : Ok n) {ω : Type} {avs : List AV} {κ : AV → List AV → Option ω} {q : ω} (h : laws_eqKidS.K n avs κ = some q) : FnOk E 107 ∧ ∃ ps rv outs, (cx n 0).sig 107 = some ps ∧ κ rv outs = some q ∧ CallOk E 107 avs rv outs ps := by
  unfold K at h
  generalize hf : fixes [.sl .v .iKid, .sl .v .iKid] avs = v at h
  replace h := uc_ok h; obtain ⟨a1, l2, rfl, h⟩ := h
  replace h := getSl_ok h; obtain ⟨x3, rfl, h⟩ := h
  replace h := uc_ok h; obtain ⟨a4, l5, rfl, h⟩ := h
  replace h := getSl_ok h; obtain ⟨x6, rfl, h⟩ := h
  replace h := un_ok h; obtain ⟨rfl, h⟩ := h
  cases hr : laws_eqKidS n x3 x6 with
  | none => rw [hr] at h; cases h
  | some r =>
    rw [hr] at h
    exact ⟨⟨_, body, Try.func107, by decide +kernel, by kernel_rfl⟩, [.v, .v], _, _, by kernel_rfl, h, CallOk.fix (ss := [.sl .v .iKid, .sl .v .iKid]) (by rw [hf]; exact ho x3 x6 r hr)⟩
end laws_eqKidS
end Go.Pi
end
section
set_option linter.unusedVariables false
set_option maxRecDepth 100000
namespace Go.Pi
open Go.Proofs
namespace laws_eqView
abbrev R : Type := Bool
noncomputable def body : Code := match Try.f53.body with | some c => c | none => .skip
def ann : Ann := ⟨fun k => look2 [] k, fun k => match look2 [] k with | some l => l | none => [], fun k => match look2 [] k with | some l => l | none => []⟩
def fin (o : List AV) : Option R := uc o fun a1 l2 => getB a1 fun x3 => un l2 (some (x3 : R))
def inj (r : R) : List AV := [.b r]
theorem fin_ok (o : List AV) (r : R) (h : fin o = some r) : o = inj r := by
  unfold fin at h
  replace h := uc_ok h; obtain ⟨a1, l2, rfl, h⟩ := h
  replace h := getB_ok h; obtain ⟨x3, rfl, h⟩ := h
  replace h := un_ok h; obtain ⟨rfl, h⟩ := h
  cases h
  rfl
def kr (n : Nat) : St → Option R := retK (cx n 23) [.k] [.v] [.tmp 4] [] fin
def lf (n : Nat) : LF R := fun key κd κe v b => none
theorem cuts (n : Nat) : Cuts (cx n 23) 1 ann (lf n) (kr n) body := by
  intro key κd κe v b r h
  unfold lf at h
  cases h
theorem top (n : Nat) (a : TView) (b : TView) : entryK 1 [.ag [.i .i64 a.q.table, .sl .v .iCond a.q.where_, .i .i64 a.q.order, .b a.q.down, .i .i64 a.q.first, .sl .v .int a.q.show_, .b a.q.kids, .i .i64 a.q.kidTable, .i .i64 a.q.kidCol, .sl .v .iRow a.rows, .sl .v .iKid a.kids], .ag [.i .i64 b.q.table, .sl .v .iCond b.q.where_, .i .i64 b.q.order, .b b.q.down, .i .i64 b.q.first, .sl .v .int b.q.show_, .b b.q.kids, .i .i64 b.q.kidTable, .i .i64 b.q.kidCol, .sl .v .iRow b.rows, .sl .v .iKid b.kids]] (fun v b => match outOfAll [.ag [.v, .v, .v, .v, .v, .v, .v, .v, .v, .v, .v], .ag [.v, .v, .v, .v, .v, .v, .v, .v, .v, .v, .v]] v with
      | some o => cond (AV.allRoots o []) (run (cx n 23) 1 ann (lf n) (kr n) body 0 (kr n) (fun _ _ => none) (St.ofC (live0 2) v b)) none
      | none => none) = laws_eqView (n + 1) a b := by kernel_rfl
def Ok (n : Nat) : Prop := ∀ (a : TView) (b : TView) (res_ : R), laws_eqView n a b = some res_ → CallOk E 53 [.ag [.i .i64 a.q.table, .sl .v .iCond a.q.where_, .i .i64 a.q.order, .b a.q.down, .i .i64 a.q.first, .sl .v .int a.q.show_, .b a.q.kids, .i .i64 a.q.kidTable, .i .i64 a.q.kidCol, .sl .v .iRow a.rows, .sl .v .iKid a.kids], .ag [.i .i64 b.q.table, .sl .v .iCond b.q.where_, .i .i64 b.q.order, .b b.q.down, .i .i64 b.q.first, .sl .v .int b.q.show_, .b b.q.kids, .i .i64 b.q.kidTable, .i .i64 b.q.kidCol, .sl .v .iRow b.rows, .sl .v .iKid b.kids]] (rvOf 1 (inj res_)) ((inj res_).drop 1) [.ag [.v, .v, .v, .v, .v, .v, .v, .v, .v, .v, .v], .ag [.v, .v, .v, .v, .v, .v, .v, .v, .v, .v, .v]]
theorem ok (n : Nat) (hc : CxOk E (cx n 23)) (hK : KPar (cx n 23)) : Ok (n + 1) := fun a b res_ h_ =>
  fn_sound hc hK mixedOk Try.func53 (by kernel_rfl) (by kernel_rfl) (by kernel_rfl) (by decide) fin_ok (by kernel_rfl) ((top n a b).trans h_) (cuts n)
theorem Kpar (n : Nat) {ω : Type} {avs : List AV} {κ : AV → List AV → Option ω} {q : ω} (h : laws_eqView.K n avs κ = some q) : ∃ rv outs, κ rv outs = some q ∧ ∀ (ω' : Type) (κ' : AV → List AV → Option ω'), laws_eqView.K n avs κ' = κ' rv outs := by
  unfold K at h
  generalize hf : fixes [.ag [.k, .sl .v .iCond, .k, .k, .k, .sl .v .int, .k, .k, .k, .sl .v .iRow, .sl .v .iKid], .ag [.k, .sl .v .iCond, .k, .k, .k, .sl .v .int, .k, .k, .k, .sl .v .iRow, .sl .v .iKid]] avs = v at h
  replace h := uc_ok h; obtain ⟨a1, l2, rfl, h⟩ := h
  replace h := getAg_ok h; obtain ⟨c3, rfl, h⟩ := h
  replace h := uc_ok h; obtain ⟨a4, l5, rfl, h⟩ := h
  replace h := getI_ok h; obtain ⟨x6, rfl, h⟩ := h
  replace h := uc_ok h; obtain ⟨a7, l8, rfl, h⟩ := h
  replace h := getSl_ok h; obtain ⟨x9, rfl, h⟩ := h
  replace h := uc_ok h; obtain ⟨a10, l11, rfl, h⟩ := h
  replace h := getI_ok h; obtain ⟨x12, rfl, h⟩ := h
  replace h := uc_ok h; obtain ⟨a13, l14, rfl, h⟩ := h
  replace h := getB_ok h; obtain ⟨x15, rfl, h⟩ := h
  replace h := uc_ok h; obtain ⟨a16, l17, rfl, h⟩ := h
  replace h := getI_ok h; obtain ⟨x18, rfl, h⟩ := h
  replace h := uc_ok h; obtain ⟨a19, l20, rfl, h⟩ := h
  replace h := getSl_ok h; obtain ⟨x21, rfl, h⟩ := h
  replace h := uc_ok h; obtain ⟨a22, l23, rfl, h⟩ := h
  replace h := getB_ok h; obtain ⟨x24, rfl, h⟩ := h
  replace h := uc_ok h; obtain ⟨a25, l26, rfl, h⟩ := h
  replace h := getI_ok h; obtain ⟨x27, rfl, h⟩ := h
  replace h := uc_ok h; obtain ⟨a28, l29, rfl, h⟩ := h
  replace h := getI_ok h; obtain ⟨x30, rfl, h⟩ := h
  replace h := uc_ok h; obtain ⟨a31, l32, rfl, h⟩ := h
  replace h := getSl_ok h; obtain ⟨x33, rfl, h⟩ := h
  replace h := uc_ok h; obtain ⟨a34, l35, rfl, h⟩ := h
  replace h := getSl_ok h; obtain ⟨x36, rfl, h⟩ := h
  replace h := un_ok h; obtain ⟨rfl, h⟩ := h
  replace h := uc_ok h; obtain ⟨a37, l38, rfl, h⟩ := h
  replace h := getAg_ok h; obtain ⟨c39, rfl, h⟩ := h
  replace h := uc_ok h; obtain ⟨a40, l41, rfl, h⟩ := h
  replace h := getI_ok h; obtain ⟨x42, rfl, h⟩ := h
  replace h := uc_ok h; obtain ⟨a43, l44, rfl, h⟩ := h
  replace h := getSl_ok h; obtain ⟨x45, rfl, h⟩ := h
  replace h := uc_ok h; obtain ⟨a46, l47, rfl, h⟩ := h
  replace h := getI_ok h; obtain ⟨x48, rfl, h⟩ := h
  replace h := uc_ok h; obtain ⟨a49, l50, rfl, h⟩ := h
  replace h := getB_ok h; obtain ⟨x51, rfl, h⟩ := h
  replace h := uc_ok h; obtain ⟨a52, l53, rfl, h⟩ := h
  replace h := getI_ok h; obtain ⟨x54, rfl, h⟩ := h
  replace h := uc_ok h; obtain ⟨a55, l56, rfl, h⟩ := h
  replace h := getSl_ok h; obtain ⟨x57, rfl, h⟩ := h
  replace h := uc_ok h; obtain ⟨a58, l59, rfl, h⟩ := h
  replace h := getB_ok h; obtain ⟨x60, rfl, h⟩ := h
  replace h := uc_ok h; obtain ⟨a61, l62, rfl, h⟩ := h
  replace h := getI_ok h; obtain ⟨x63, rfl, h⟩ := h
  replace h := uc_ok h; obtain ⟨a64, l65, rfl, h⟩ := h
  replace h := getI_ok h; obtain ⟨x66, rfl, h⟩ := h
  replace h := uc_ok h; obtain ⟨a67, l68, rfl, h⟩ := h
  replace h := getSl_ok h; obtain ⟨x69, rfl, h⟩ := h
  replace h := uc_ok h; obtain ⟨a70, l71, rfl, h⟩ := h
  replace h := getSl_ok h; obtain ⟨x72, rfl, h⟩ := h
  replace h := un_ok h; obtain ⟨rfl, h⟩ := h
  replace h := un_ok h; obtain ⟨rfl, h⟩ := h
  cases hr : laws_eqView n (TView.mk (TQuery.mk x6 x9 x12 x15 x18 x21 x24 x27 x30) x33 x36) (TView.mk (TQuery.mk x42 x45 x48 x51 x54 x57 x60 x63 x66) x69 x72) with
  | none => rw [hr] at h; cases h
  | some r =>
    rw [hr] at h
    exact ⟨_, _, h, fun ω' κ' => by unfold K; rw [hf]; exact congrArg (fun z : Option R => z.bind _) hr⟩
theorem Kok (n : Nat) (ho : Ok n) {ω : Type} {avs : List AV} {κ : AV → List AV → Option ω} {q : ω} (h : laws_eqView.K n avs κ = some q) : FnOk E 53 ∧ ∃ ps rv outs, (cx n 0).sig 53 = some ps ∧ κ rv outs = some q ∧ CallOk E 53 avs rv outs ps := by
  unfold K at h
  generalize hf : fixes [.ag [.k, .sl .v .iCond, .k, .k, .k, .sl .v .int, .k, .k, .k, .sl .v .iRow, .sl .v .iKid], .ag [.k, .sl .v .iCond, .k, .k, .k, .sl .v .int, .k, .k, .k, .sl .v .iRow, .sl .v .iKid]] avs = v at h
  replace h := uc_ok h; obtain ⟨a1, l2, rfl, h⟩ := h
  replace h := getAg_ok h; obtain ⟨c3, rfl, h⟩ := h
  replace h := uc_ok h; obtain ⟨a4, l5, rfl, h⟩ := h
  replace h := getI_ok h; obtain ⟨x6, rfl, h⟩ := h
  replace h := uc_ok h; obtain ⟨a7, l8, rfl, h⟩ := h
  replace h := getSl_ok h; obtain ⟨x9, rfl, h⟩ := h
  replace h := uc_ok h; obtain ⟨a10, l11, rfl, h⟩ := h
  replace h := getI_ok h; obtain ⟨x12, rfl, h⟩ := h
  replace h := uc_ok h; obtain ⟨a13, l14, rfl, h⟩ := h
  replace h := getB_ok h; obtain ⟨x15, rfl, h⟩ := h
  replace h := uc_ok h; obtain ⟨a16, l17, rfl, h⟩ := h
  replace h := getI_ok h; obtain ⟨x18, rfl, h⟩ := h
  replace h := uc_ok h; obtain ⟨a19, l20, rfl, h⟩ := h
  replace h := getSl_ok h; obtain ⟨x21, rfl, h⟩ := h
  replace h := uc_ok h; obtain ⟨a22, l23, rfl, h⟩ := h
  replace h := getB_ok h; obtain ⟨x24, rfl, h⟩ := h
  replace h := uc_ok h; obtain ⟨a25, l26, rfl, h⟩ := h
  replace h := getI_ok h; obtain ⟨x27, rfl, h⟩ := h
  replace h := uc_ok h; obtain ⟨a28, l29, rfl, h⟩ := h
  replace h := getI_ok h; obtain ⟨x30, rfl, h⟩ := h
  replace h := uc_ok h; obtain ⟨a31, l32, rfl, h⟩ := h
  replace h := getSl_ok h; obtain ⟨x33, rfl, h⟩ := h
  replace h := uc_ok h; obtain ⟨a34, l35, rfl, h⟩ := h
  replace h := getSl_ok h; obtain ⟨x36, rfl, h⟩ := h
  replace h := un_ok h; obtain ⟨rfl, h⟩ := h
  replace h := uc_ok h; obtain ⟨a37, l38, rfl, h⟩ := h
  replace h := getAg_ok h; obtain ⟨c39, rfl, h⟩ := h
  replace h := uc_ok h; obtain ⟨a40, l41, rfl, h⟩ := h
  replace h := getI_ok h; obtain ⟨x42, rfl, h⟩ := h
  replace h := uc_ok h; obtain ⟨a43, l44, rfl, h⟩ := h
  replace h := getSl_ok h; obtain ⟨x45, rfl, h⟩ := h
  replace h := uc_ok h; obtain ⟨a46, l47, rfl, h⟩ := h
  replace h := getI_ok h; obtain ⟨x48, rfl, h⟩ := h
  replace h := uc_ok h; obtain ⟨a49, l50, rfl, h⟩ := h
  replace h := getB_ok h; obtain ⟨x51, rfl, h⟩ := h
  replace h := uc_ok h; obtain ⟨a52, l53, rfl, h⟩ := h
  replace h := getI_ok h; obtain ⟨x54, rfl, h⟩ := h
  replace h := uc_ok h; obtain ⟨a55, l56, rfl, h⟩ := h
  replace h := getSl_ok h; obtain ⟨x57, rfl, h⟩ := h
  replace h := uc_ok h; obtain ⟨a58, l59, rfl, h⟩ := h
  replace h := getB_ok h; obtain ⟨x60, rfl, h⟩ := h
  replace h := uc_ok h; obtain ⟨a61, l62, rfl, h⟩ := h
  replace h := getI_ok h; obtain ⟨x63, rfl, h⟩ := h
  replace h := uc_ok h; obtain ⟨a64, l65, rfl, h⟩ := h
  replace h := getI_ok h; obtain ⟨x66, rfl, h⟩ := h
  replace h := uc_ok h; obtain ⟨a67, l68, rfl, h⟩ := h
  replace h := getSl_ok h; obtain ⟨x69, rfl, h⟩ := h
  replace h := uc_ok h; obtain ⟨a70, l71, rfl, h⟩ := h
  replace h := getSl_ok h; obtain ⟨x72, rfl, h⟩ := h
  replace h := un_ok h; obtain ⟨rfl, h⟩ := h
  replace h := un_ok h; obtain ⟨rfl, h⟩ := h
  cases hr : laws_eqView n (TView.mk (TQuery.mk x6 x9 x12 x15 x18 x21 x24 x27 x30) x33 x36) (TView.mk (TQuery.mk x42 x45 x48 x51 x54 x57 x60 x63 x66) x69 x72) with
  | none => rw [hr] at h; cases h
  | some r =>
    rw [hr] at h
    exact ⟨⟨_, body, Try.func53, by decide +kernel, by kernel_rfl⟩, [.ag [.v, .v, .v, .v, .v, .v, .v, .v, .v, .v, .v], .ag [.v, .v, .v, .v, .v, .v, .v, .v, .v, .v, .v]], _, _, by kernel_rfl, h, CallOk.fix (ss := [.ag [.k, .sl .v .iCond, .k, .k, .k, .sl .v .int, .k, .k, .k, .sl .v .iRow, .sl .v .iKid], .ag [.k, .sl .v .iCond, .k, .k, .k, .sl .v .int, .k, .k, .k, .sl .v .iRow, .sl .v .iKid]]) (by rw [hf]; exact ho (TView.mk (TQuery.mk x6 x9 x12 x15 x18 x21 x24 x27 x30) x33 x36) (TView.mk (TQuery.mk x42 x45 x48 x51 x54 x57 x60 x63 x66) x69 x72) r hr)⟩
end laws_eqView
namespace laws_eqSess
abbrev R : Type := Bool
noncomputable def body : Code := match Try.f14.body with | some c => c | none => .skip
def ann : Ann := ⟨fun k => look2 [] k, fun k => match look2 [] k with | some l => l | none => [], fun k => match look2 [] k with | some l => l | none => []⟩
def fin (o : List AV) : Option R := uc o fun a1 l2 => getB a1 fun x3 => un l2 (some (x3 : R))
def inj (r : R) : List AV := [.b r]
theorem fin_ok (o : List AV) (r : R) (h : fin o = some r) : o = inj r := by
  unfold fin at h
  replace h := uc_ok h; obtain ⟨a1, l2, rfl, h⟩ := h
  replace h := getB_ok h; obtain ⟨x3, rfl, h⟩ := h
  replace h := un_ok h; obtain ⟨rfl, h⟩ := h
  cases h
  rfl
def kr (n : Nat) : St → Option R := retK (cx n 32) [.k] [.v] [.tmp 4] [] fin
def lf (n : Nat) : LF R := fun key κd κe v b => none
theorem cuts (n : Nat) : Cuts (cx n 32) 1 ann (lf n) (kr n) body := by
  intro key κd κe v b r h
  unfold lf at h
  cases h
theorem top (n : Nat) (a : TSess) (b : TSess) : entryK 1 [.ag [.i .i64 a.view.q.table, .sl .v .iCond a.view.q.where_, .i .i64 a.view.q.order, .b a.view.q.down, .i .i64 a.view.q.first, .sl .v .int a.view.q.show_, .b a.view.q.kids, .i .i64 a.view.q.kidTable, .i .i64 a.view.q.kidCol, .sl .v .iRow a.view.rows, .sl .v .iKid a.view.kids, .i .i64 a.version, .i .i64 a.last.q.table, .sl .v .iCond a.last.q.where_, .i .i64 a.last.q.order, .b a.last.q.down, .i .i64 a.last.q.first, .sl .v .int a.last.q.show_, .b a.last.q.kids, .i .i64 a.last.q.kidTable, .i .i64 a.last.q.kidCol, .sl .v .iRow a.last.rows, .sl .v .iKid a.last.kids, .i .i64 a.lastVersion, .b a.began], .ag [.i .i64 b.view.q.table, .sl .v .iCond b.view.q.where_, .i .i64 b.view.q.order, .b b.view.q.down, .i .i64 b.view.q.first, .sl .v .int b.view.q.show_, .b b.view.q.kids, .i .i64 b.view.q.kidTable, .i .i64 b.view.q.kidCol, .sl .v .iRow b.view.rows, .sl .v .iKid b.view.kids, .i .i64 b.version, .i .i64 b.last.q.table, .sl .v .iCond b.last.q.where_, .i .i64 b.last.q.order, .b b.last.q.down, .i .i64 b.last.q.first, .sl .v .int b.last.q.show_, .b b.last.q.kids, .i .i64 b.last.q.kidTable, .i .i64 b.last.q.kidCol, .sl .v .iRow b.last.rows, .sl .v .iKid b.last.kids, .i .i64 b.lastVersion, .b b.began]] (fun v b => match outOfAll [.ag [.v, .v, .v, .v, .v, .v, .v, .v, .v, .v, .v, .v, .v, .v, .v, .v, .v, .v, .v, .v, .v, .v, .v, .v, .v], .ag [.v, .v, .v, .v, .v, .v, .v, .v, .v, .v, .v, .v, .v, .v, .v, .v, .v, .v, .v, .v, .v, .v, .v, .v, .v]] v with
      | some o => cond (AV.allRoots o []) (run (cx n 32) 1 ann (lf n) (kr n) body 0 (kr n) (fun _ _ => none) (St.ofC (live0 2) v b)) none
      | none => none) = laws_eqSess (n + 1) a b := by kernel_rfl
def Ok (n : Nat) : Prop := ∀ (a : TSess) (b : TSess) (res_ : R), laws_eqSess n a b = some res_ → CallOk E 14 [.ag [.i .i64 a.view.q.table, .sl .v .iCond a.view.q.where_, .i .i64 a.view.q.order, .b a.view.q.down, .i .i64 a.view.q.first, .sl .v .int a.view.q.show_, .b a.view.q.kids, .i .i64 a.view.q.kidTable, .i .i64 a.view.q.kidCol, .sl .v .iRow a.view.rows, .sl .v .iKid a.view.kids, .i .i64 a.version, .i .i64 a.last.q.table, .sl .v .iCond a.last.q.where_, .i .i64 a.last.q.order, .b a.last.q.down, .i .i64 a.last.q.first, .sl .v .int a.last.q.show_, .b a.last.q.kids, .i .i64 a.last.q.kidTable, .i .i64 a.last.q.kidCol, .sl .v .iRow a.last.rows, .sl .v .iKid a.last.kids, .i .i64 a.lastVersion, .b a.began], .ag [.i .i64 b.view.q.table, .sl .v .iCond b.view.q.where_, .i .i64 b.view.q.order, .b b.view.q.down, .i .i64 b.view.q.first, .sl .v .int b.view.q.show_, .b b.view.q.kids, .i .i64 b.view.q.kidTable, .i .i64 b.view.q.kidCol, .sl .v .iRow b.view.rows, .sl .v .iKid b.view.kids, .i .i64 b.version, .i .i64 b.last.q.table, .sl .v .iCond b.last.q.where_, .i .i64 b.last.q.order, .b b.last.q.down, .i .i64 b.last.q.first, .sl .v .int b.last.q.show_, .b b.last.q.kids, .i .i64 b.last.q.kidTable, .i .i64 b.last.q.kidCol, .sl .v .iRow b.last.rows, .sl .v .iKid b.last.kids, .i .i64 b.lastVersion, .b b.began]] (rvOf 1 (inj res_)) ((inj res_).drop 1) [.ag [.v, .v, .v, .v, .v, .v, .v, .v, .v, .v, .v, .v, .v, .v, .v, .v, .v, .v, .v, .v, .v, .v, .v, .v, .v], .ag [.v, .v, .v, .v, .v, .v, .v, .v, .v, .v, .v, .v, .v, .v, .v, .v, .v, .v, .v, .v, .v, .v, .v, .v, .v]]
theorem ok (n : Nat) (hc : CxOk E (cx n 32)) (hK : KPar (cx n 32)) : Ok (n + 1) := fun a b res_ h_ =>
  fn_sound hc hK mixedOk Try.func14 (by kernel_rfl) (by kernel_rfl) (by kernel_rfl) (by decide) fin_ok (by kernel_rfl) ((top n a b).trans h_) (cuts n)
theorem Kpar (n : Nat) {ω : Type} {avs : List AV} {κ : AV → List AV → Option ω} {q : ω} (h : laws_eqSess.K n avs κ = some q) : ∃ rv outs, κ rv outs = some q ∧ ∀ (ω' : Type) (κ' : AV → List AV → Option ω'), laws_eqSess.K n avs κ' = κ' rv outs := by
  unfold K at h
  generalize hf : fixes [.ag [.k, .sl .v .iCond, .k, .k, .k, .sl .v .int, .k, .k, .k, .sl .v .iRow, .sl .v .iKid, .k, .k, .sl .v .iCond, .k, .k, .k, .sl .v .int, .k, .k, .k, .sl .v .iRow, .sl .v .iKid, .k, .k], .ag [.k, .sl .v .iCond, .k, .k, .k, .sl .v .int, .k, .k, .k, .sl .v .iRow, .sl .v .iKid, .k, .k, .sl .v .iCond, .k, .k, .k, .sl .v .int, .k, .k, .k, .sl .v .iRow, .sl .v .iKid, .k, .k]] avs = v at h
  replace h := uc_ok h; obtain ⟨a1, l2, rfl, h⟩ := h
  replace h := getAg_ok h; obtain ⟨c3, rfl, h⟩ := h
  replace h := uc_ok h; obtain ⟨a4, l5, rfl, h⟩ := h
  replace h := getI_ok h; obtain ⟨x6, rfl, h⟩ := h
  replace h := uc_ok h; obtain ⟨a7, l8, rfl, h⟩ := h
  replace h := getSl_ok h; obtain ⟨x9, rfl, h⟩ := h
  replace h := uc_ok h; obtain ⟨a10, l11, rfl, h⟩ := h
  replace h := getI_ok h; obtain ⟨x12, rfl, h⟩ := h
  replace h := uc_ok h; obtain ⟨a13, l14, rfl, h⟩ := h
  replace h := getB_ok h; obtain ⟨x15, rfl, h⟩ := h
  replace h := uc_ok h; obtain ⟨a16, l17, rfl, h⟩ := h
  replace h := getI_ok h; obtain ⟨x18, rfl, h⟩ := h
  replace h := uc_ok h; obtain ⟨a19, l20, rfl, h⟩ := h
  replace h := getSl_ok h; obtain ⟨x21, rfl, h⟩ := h
  replace h := uc_ok h; obtain ⟨a22, l23, rfl, h⟩ := h
  replace h := getB_ok h; obtain ⟨x24, rfl, h⟩ := h
  replace h := uc_ok h; obtain ⟨a25, l26, rfl, h⟩ := h
  replace h := getI_ok h; obtain ⟨x27, rfl, h⟩ := h
  replace h := uc_ok h; obtain ⟨a28, l29, rfl, h⟩ := h
  replace h := getI_ok h; obtain ⟨x30, rfl, h⟩ := h
  replace h := uc_ok h; obtain ⟨a31, l32, rfl, h⟩ := h
  replace h := getSl_ok h; obtain ⟨x33, rfl, h⟩ := h
  replace h := uc_ok h; obtain ⟨a34, l35, rfl, h⟩ := h
  replace h := getSl_ok h; obtain ⟨x36, rfl, h⟩ := h
  replace h := uc_ok h; obtain ⟨a37, l38, rfl, h⟩ := h
  replace h := getI_ok h; obtain ⟨x39, rfl, h⟩ := h
  replace h := uc_ok h; obtain ⟨a40, l41, rfl, h⟩ := h
  replace h := getI_ok h; obtain ⟨x42, rfl, h⟩ := h
  replace h := uc_ok h; obtain ⟨a43, l44, rfl, h⟩ := h
  replace h := getSl_ok h; obtain ⟨x45, rfl, h⟩ := h
  replace h := uc_ok h; obtain ⟨a46, l47, rfl, h⟩ := h
  replace h := getI_ok h; obtain ⟨x48, rfl, h⟩ := h
  replace h := uc_ok h; obtain ⟨a49, l50, rfl, h⟩ := h
  replace h := getB_ok h; obtain ⟨x51, rfl, h⟩ := h
  replace h := uc_ok h; obtain ⟨a52, l53, rfl, h⟩ := h
  replace h := getI_ok h; obtain ⟨x54, rfl, h⟩ := h
  replace h := uc_ok h; obtain ⟨a55, l56, rfl, h⟩ := h
  replace h := getSl_ok h; obtain ⟨x57, rfl, h⟩ := h
  replace h := uc_ok h; obtain ⟨a58, l59, rfl, h⟩ := h
  replace h := getB_ok h; obtain ⟨x60, rfl, h⟩ := h
  replace h := uc_ok h; obtain ⟨a61, l62, rfl, h⟩ := h
  replace h := getI_ok h; obtain ⟨x63, rfl, h⟩ := h
  replace h := uc_ok h; obtain ⟨a64, l65, rfl, h⟩ := h
  replace h := getI_ok h; obtain ⟨x66, rfl, h⟩ := h
  replace h := uc_ok h; obtain ⟨a67, l68, rfl, h⟩ := h
  replace h := getSl_ok h; obtain ⟨x69, rfl, h⟩ := h
  replace h := uc_ok h; obtain ⟨a70, l71, rfl, h⟩ := h
  replace h := getSl_ok h; obtain ⟨x72, rfl, h⟩ := h
  replace h := uc_ok h; obtain ⟨a73, l74, rfl, h⟩ := h
  replace h := getI_ok h; obtain ⟨x75, rfl, h⟩ := h
  replace h := uc_ok h; obtain ⟨a76, l77, rfl, h⟩ := h
  replace h := getB_ok h; obtain ⟨x78, rfl, h⟩ := h
  replace h := un_ok h; obtain ⟨rfl, h⟩ := h
  replace h := uc_ok h; obtain ⟨a79, l80, rfl, h⟩ := h
  replace h := getAg_ok h; obtain ⟨c81, rfl, h⟩ := h
  replace h := uc_ok h; obtain ⟨a82, l83, rfl, h⟩ := h
  replace h := getI_ok h; obtain ⟨x84, rfl, h⟩ := h
  replace h := uc_ok h; obtain ⟨a85, l86, rfl, h⟩ := h
  replace h := getSl_ok h; obtain ⟨x87, rfl, h⟩ := h
  replace h := uc_ok h; obtain ⟨a88, l89, rfl, h⟩ := h
  replace h := getI_ok h; obtain ⟨x90, rfl, h⟩ := h
  replace h := uc_ok h; obtain ⟨a91, l92, rfl, h⟩ := h
  replace h := getB_ok h; obtain ⟨x93, rfl, h⟩ := h
  replace h := uc_ok h; obtain ⟨a94, l95, rfl, h⟩ := h
  replace h := getI_ok h; obtain ⟨x96, rfl, h⟩ := h
  replace h := uc_ok h; obtain ⟨a97, l98, rfl, h⟩ := h
  replace h := getSl_ok h; obtain ⟨x99, rfl, h⟩ := h
  replace h := uc_ok h; obtain ⟨a100, l101, rfl, h⟩ := h
  replace h := getB_ok h; obtain ⟨x102, rfl, h⟩ := h
  replace h := uc_ok h; obtain ⟨a103, l104, rfl, h⟩ := h
  replace h := getI_ok h; obtain ⟨x105, rfl, h⟩ := h
  replace h := uc_ok h; obtain ⟨a106, l107, rfl, h⟩ := h
  replace h := getI_ok h; obtain ⟨x108, rfl, h⟩ := h
  replace h := uc_ok h; obtain ⟨a109, l110, rfl, h⟩ := h
  replace h := getSl_ok h; obtain ⟨x111, rfl, h⟩ := h
  replace h := uc_ok h; obtain ⟨a112, l113, rfl, h⟩ := h
  replace h := getSl_ok h; obtain ⟨x114, rfl, h⟩ := h
  replace h := uc_ok h; obtain ⟨a115, l116, rfl, h⟩ := h
  replace h := getI_ok h; obtain ⟨x117, rfl, h⟩ := h
  replace h := uc_ok h; obtain ⟨a118, l119, rfl, h⟩ := h
  replace h := getI_ok h; obtain ⟨x120, rfl, h⟩ := h
  replace h := uc_ok h; obtain ⟨a121, l122, rfl, h⟩ := h
  replace h := getSl_ok h; obtain ⟨x123, rfl, h⟩ := h
  replace h := uc_ok h; obtain ⟨a124, l125, rfl, h⟩ := h
  replace h := getI_ok h; obtain ⟨x126, rfl, h⟩ := h
  replace h := uc_ok h; obtain ⟨a127, l128, rfl, h⟩ := h
  replace h := getB_ok h; obtain ⟨x129, rfl, h⟩ := h
  replace h := uc_ok h; obtain ⟨a130, l131, rfl, h⟩ := h
  replace h := getI_ok h; obtain ⟨x132, rfl, h⟩ := h
  replace h := uc_ok h; obtain ⟨a133, l134, rfl, h⟩ := h
  replace h := getSl_ok h; obtain ⟨x135, rfl, h⟩ := h
  replace h := uc_ok h; obtain ⟨a136, l137, rfl, h⟩ := h
  replace h := getB_ok h; obtain ⟨x138, rfl, h⟩ := h
  replace h := uc_ok h; obtain ⟨a139, l140, rfl, h⟩ := h
  replace h := getI_ok h; obtain ⟨x141, rfl, h⟩ := h
  replace h := uc_ok h; obtain ⟨a142, l143, rfl, h⟩ := h
  replace h := getI_ok h; obtain ⟨x144, rfl, h⟩ := h
  replace h := uc_ok h; obtain ⟨a145, l146, rfl, h⟩ := h
  replace h := getSl_ok h; obtain ⟨x147, rfl, h⟩ := h
  replace h := uc_ok h; obtain ⟨a148, l149, rfl, h⟩ := h
  replace h := getSl_ok h; obtain ⟨x150, rfl, h⟩ := h
  replace h := uc_ok h; obtain ⟨a151, l152, rfl, h⟩ := h
  replace h := getI_ok h; obtain ⟨x153, rfl, h⟩ := h
  replace h := uc_ok h; obtain ⟨a154, l155, rfl, h⟩ := h
  replace h := getB_ok h; obtain ⟨x156, rfl, h⟩ := h
  replace h := un_ok h; obtain ⟨rfl, h⟩ := h
  replace h := un_ok h; obtain ⟨rfl, h⟩ := h
  cases hr : laws_eqSess n (TSess.mk (TView.mk (TQuery.mk x6 x9 x12 x15 x18 x21 x24 x27 x30) x33 x36) x39 (TView.mk (TQuery.mk x42 x45 x48 x51 x54 x57 x60 x63 x66) x69 x72) x75 x78) (TSess.mk (TView.mk (TQuery.mk x84 x87 x90 x93 x96 x99 x102 x105 x108) x111 x114) x117 (TView.mk (TQuery.mk x120 x123 x126 x129 x132 x135 x138 x141 x144) x147 x150) x153 x156) with
  | none => rw [hr] at h; cases h
  | some r =>
    rw [hr] at h
    exact ⟨_, _, h, fun ω' κ' => by unfold K; rw [hf]; exact congrArg (fun z : Option R => z.bind _) hr⟩
theorem Kok (n : Nat) (ho : Ok n) {ω : Type} {avs : List AV} {κ : AV → List AV → Option ω} {q : ω} (h : laws_eqSess.K n avs κ = some q) : FnOk E 14 ∧ ∃ ps rv outs, (cx n 0).sig 14 = some ps ∧ κ rv outs = some q ∧ CallOk E 14 avs rv outs ps := by
  unfold K at h
  generalize hf : fixes [.ag [.k, .sl .v .iCond, .k, .k, .k, .sl .v .int, .k, .k, .k, .sl .v .iRow, .sl .v .iKid, .k, .k, .sl .v .iCond, .k, .k, .k, .sl .v .int, .k, .k, .k, .sl .v .iRow, .sl .v .iKid, .k, .k], .ag [.k, .sl .v .iCond, .k, .k, .k, .sl .v .int, .k, .k, .k, .sl .v .iRow, .sl .v .iKid, .k, .k, .sl .v .iCond, .k, .k, .k, .sl .v .int, .k, .k, .k, .sl .v .iRow, .sl .v .iKid, .k, .k]] avs = v at h
  replace h := uc_ok h; obtain ⟨a1, l2, rfl, h⟩ := h
  replace h := getAg_ok h; obtain ⟨c3, rfl, h⟩ := h
  replace h := uc_ok h; obtain ⟨a4, l5, rfl, h⟩ := h
  replace h := getI_ok h; obtain ⟨x6, rfl, h⟩ := h
  replace h := uc_ok h; obtain ⟨a7, l8, rfl, h⟩ := h
  replace h := getSl_ok h; obtain ⟨x9, rfl, h⟩ := h
  replace h := uc_ok h; obtain ⟨a10, l11, rfl, h⟩ := h
  replace h := getI_ok h; obtain ⟨x12, rfl, h⟩ := h
  replace h := uc_ok h; obtain ⟨a13, l14, rfl, h⟩ := h
  replace h := getB_ok h; obtain ⟨x15, rfl, h⟩ := h
  replace h := uc_ok h; obtain ⟨a16, l17, rfl, h⟩ := h
  replace h := getI_ok h; obtain ⟨x18, rfl, h⟩ := h
  replace h := uc_ok h; obtain ⟨a19, l20, rfl, h⟩ := h
  replace h := getSl_ok h; obtain ⟨x21, rfl, h⟩ := h
  replace h := uc_ok h; obtain ⟨a22, l23, rfl, h⟩ := h
  replace h := getB_ok h; obtain ⟨x24, rfl, h⟩ := h
  replace h := uc_ok h; obtain ⟨a25, l26, rfl, h⟩ := h
  replace h := getI_ok h; obtain ⟨x27, rfl, h⟩ := h
  replace h := uc_ok h; obtain ⟨a28, l29, rfl, h⟩ := h
  replace h := getI_ok h; obtain ⟨x30, rfl, h⟩ := h
  replace h := uc_ok h; obtain ⟨a31, l32, rfl, h⟩ := h
  replace h := getSl_ok h; obtain ⟨x33, rfl, h⟩ := h
  replace h := uc_ok h; obtain ⟨a34, l35, rfl, h⟩ := h
  replace h := getSl_ok h; obtain ⟨x36, rfl, h⟩ := h
  replace h := uc_ok h; obtain ⟨a37, l38, rfl, h⟩ := h
  replace h := getI_ok h; obtain ⟨x39, rfl, h⟩ := h
  replace h := uc_ok h; obtain ⟨a40, l41, rfl, h⟩ := h
  replace h := getI_ok h; obtain ⟨x42, rfl, h⟩ := h
  replace h := uc_ok h; obtain ⟨a43, l44, rfl, h⟩ := h
  replace h := getSl_ok h; obtain ⟨x45, rfl, h⟩ := h
  replace h := uc_ok h; obtain ⟨a46, l47, rfl, h⟩ := h
  replace h := getI_ok h; obtain ⟨x48, rfl, h⟩ := h
  replace h := uc_ok h; obtain ⟨a49, l50, rfl, h⟩ := h
  replace h := getB_ok h; obtain ⟨x51, rfl, h⟩ := h
  replace h := uc_ok h; obtain ⟨a52, l53, rfl, h⟩ := h
  replace h := getI_ok h; obtain ⟨x54, rfl, h⟩ := h
  replace h := uc_ok h; obtain ⟨a55, l56, rfl, h⟩ := h
  replace h := getSl_ok h; obtain ⟨x57, rfl, h⟩ := h
  replace h := uc_ok h; obtain ⟨a58, l59, rfl, h⟩ := h
  replace h := getB_ok h; obtain ⟨x60, rfl, h⟩ := h
  replace h := uc_ok h; obtain ⟨a61, l62, rfl, h⟩ := h
  replace h := getI_ok h; obtain ⟨x63, rfl, h⟩ := h
  replace h := uc_ok h; obtain ⟨a64, l65, rfl, h⟩ := h
  replace h := getI_ok h; obtain ⟨x66, rfl, h⟩ := h
  replace h := uc_ok h; obtain ⟨a67, l68, rfl, h⟩ := h
  replace h := getSl_ok h; obtain ⟨x69, rfl, h⟩ := h
  replace h := uc_ok h; obtain ⟨a70, l71, rfl, h⟩ := h
  replace h := getSl_ok h; obtain ⟨x72, rfl, h⟩ := h
  replace h := uc_ok h; obtain ⟨a73, l74, rfl, h⟩ := h
  replace h := getI_ok h; obtain ⟨x75, rfl, h⟩ := h
  replace h := uc_ok h; obtain ⟨a76, l77, rfl, h⟩ := h
  replace h := getB_ok h; obtain ⟨x78, rfl, h⟩ := h
  replace h := un_ok h; obtain ⟨rfl, h⟩ := h
  replace h := uc_ok h; obtain ⟨a79, l80, rfl, h⟩ := h
  replace h := getAg_ok h; obtain ⟨c81, rfl, h⟩ := h
  replace h := uc_ok h; obtain ⟨a82, l83, rfl, h⟩ := h
  replace h := getI_ok h; obtain ⟨x84, rfl, h⟩ := h
  replace h := uc_ok h; obtain ⟨a85, l86, rfl, h⟩ := h
  replace h := getSl_ok h; obtain ⟨x87, rfl, h⟩ := h
  replace h := uc_ok h; obtain ⟨a88, l89, rfl, h⟩ := h
  replace h := getI_ok h; obtain ⟨x90, rfl, h⟩ := h
  replace h := uc_ok h; obtain ⟨a91, l92, rfl, h⟩ := h
  replace h := getB_ok h; obtain ⟨x93, rfl, h⟩ := h
  replace h := uc_ok h; obtain ⟨a94, l95, rfl, h⟩ := h
  replace h := getI_ok h; obtain ⟨x96, rfl, h⟩ := h
  replace h := uc_ok h; obtain ⟨a97, l98, rfl, h⟩ := h
  replace h := getSl_ok h; obtain ⟨x99, rfl, h⟩ := h
  replace h := uc_ok h; obtain ⟨a100, l101, rfl, h⟩ := h
  replace h := getB_ok h; obtain ⟨x102, rfl, h⟩ := h
  replace h := uc_ok h; obtain ⟨a103, l104, rfl, h⟩ := h
  replace h := getI_ok h; obtain ⟨x105, rfl, h⟩ := h
  replace h := uc_ok h; obtain ⟨a106, l107, rfl, h⟩ := h
  replace h := getI_ok h; obtain ⟨x108, rfl, h⟩ := h
  replace h := uc_ok h; obtain ⟨a109, l110, rfl, h⟩ := h
  replace h := getSl_ok h; obtain ⟨x111, rfl, h⟩ := h
  replace h := uc_ok h; obtain ⟨a112, l113, rfl, h⟩ := h
  replace h := getSl_ok h; obtain ⟨x114, rfl, h⟩ := h
  replace h := uc_ok h; obtain ⟨a115, l116, rfl, h⟩ := h
  replace h := getI_ok h; obtain ⟨x117, rfl, h⟩ := h
  replace h := uc_ok h; obtain ⟨a118, l119, rfl, h⟩ := h
  replace h := getI_ok h; obtain ⟨x120, rfl, h⟩ := h
  replace h := uc_ok h; obtain ⟨a121, l122, rfl, h⟩ := h
  replace h := getSl_ok h; obtain ⟨x123, rfl, h⟩ := h
  replace h := uc_ok h; obtain ⟨a124, l125, rfl, h⟩ := h
  replace h := getI_ok h; obtain ⟨x126, rfl, h⟩ := h
  replace h := uc_ok h; obtain ⟨a127, l128, rfl, h⟩ := h
  replace h := getB_ok h; obtain ⟨x129, rfl, h⟩ := h
  replace h := uc_ok h; obtain ⟨a130, l131, rfl, h⟩ := h
  replace h := getI_ok h; obtain ⟨x132, rfl, h⟩ := h
  replace h := uc_ok h; obtain ⟨a133, l134, rfl, h⟩ := h
  replace h := getSl_ok h; obtain ⟨x135, rfl, h⟩ := h
  replace h := uc_ok h; obtain ⟨a136, l137, rfl, h⟩ := h
  replace h := getB_ok h; obtain ⟨x138, rfl, h⟩ := h
  replace h := uc_ok h; obtain ⟨a139, l140, rfl, h⟩ := h
  replace h := getI_ok h; obtain ⟨x141, rfl, h⟩ := h
  replace h := uc_ok h; obtain ⟨a142, l143, rfl, h⟩ := h
  replace h := getI_ok h; obtain ⟨x144, rfl, h⟩ := h
  replace h := uc_ok h; obtain ⟨a145, l146, rfl, h⟩ := h
  replace h := getSl_ok h; obtain ⟨x147, rfl, h⟩ := h
  replace h := uc_ok h; obtain ⟨a148, l149, rfl, h⟩ := h
  replace h := getSl_ok h; obtain ⟨x150, rfl, h⟩ := h
  replace h := uc_ok h; obtain ⟨a151, l152, rfl, h⟩ := h
  replace h := getI_ok h; obtain ⟨x153, rfl, h⟩ := h
  replace h := uc_ok h; obtain ⟨a154, l155, rfl, h⟩ := h
  replace h := getB_ok h; obtain ⟨x156, rfl, h⟩ := h
  replace h := un_ok h; obtain ⟨rfl, h⟩ := h
  replace h := un_ok h; obtain ⟨rfl, h⟩ := h
  cases hr : laws_eqSess n (TSess.mk (TView.mk (TQuery.mk x6 x9 x12 x15 x18 x21 x24 x27 x30) x33 x36) x39 (TView.mk (TQuery.mk x42 x45 x48 x51 x54 x57 x60 x63 x66) x69 x72) x75 x78) (TSess.mk (TView.mk (TQuery.mk x84 x87 x90 x93 x96 x99 x102 x105 x108) x111 x114) x117 (TView.mk (TQuery.mk x120 x123 x126 x129 x132 x135 x138 x141 x144) x147 x150) x153 x156) with
  | none => rw [hr] at h; cases h
  | some r =>
    rw [hr] at h
    exact ⟨⟨_, body, Try.func14, by decide +kernel, by kernel_rfl⟩, [.ag [.v, .v, .v, .v, .v, .v, .v, .v, .v, .v, .v, .v, .v, .v, .v, .v, .v, .v, .v, .v, .v, .v, .v, .v, .v], .ag [.v, .v, .v, .v, .v, .v, .v, .v, .v, .v, .v, .v, .v, .v, .v, .v, .v, .v, .v, .v, .v, .v, .v, .v, .v]], _, _, by kernel_rfl, h, CallOk.fix (ss := [.ag [.k, .sl .v .iCond, .k, .k, .k, .sl .v .int, .k, .k, .k, .sl .v .iRow, .sl .v .iKid, .k, .k, .sl .v .iCond, .k, .k, .k, .sl .v .int, .k, .k, .k, .sl .v .iRow, .sl .v .iKid, .k, .k], .ag [.k, .sl .v .iCond, .k, .k, .k, .sl .v .int, .k, .k, .k, .sl .v .iRow, .sl .v .iKid, .k, .k, .sl .v .iCond, .k, .k, .k, .sl .v .int, .k, .k, .k, .sl .v .iRow, .sl .v .iKid, .k, .k]]) (by rw [hf]; exact ho (TSess.mk (TView.mk (TQuery.mk x6 x9 x12 x15 x18 x21 x24 x27 x30) x33 x36) x39 (TView.mk (TQuery.mk x42 x45 x48 x51 x54 x57 x60 x63 x66) x69 x72) x75 x78) (TSess.mk (TView.mk (TQuery.mk x84 x87 x90 x93 x96 x99 x102 x105 x108) x111 x114) x117 (TView.mk (TQuery.mk x120 x123 x126 x129 x132 x135 x138 x141 x144) x147 x150) x153 x156) r hr)⟩
end laws_eqSess
namespace laws_FnExactSessOk
abbrev R : Type := Bool
noncomputable def body : Code := match Try.f3.body with | some c => c | none => .skip
def ann : Ann := ⟨fun k => look2 [] k, fun k => match look2 [] k with | some l => l | none => [], fun k => match look2 [] k with | some l => l | none => []⟩
def fin (o : List AV) : Option R := uc o fun a1 l2 => getB a1 fun x3 => un l2 (some (x3 : R))
def inj (r : R) : List AV := [.b r]
theorem fin_ok (o : List AV) (r : R) (h : fin o = some r) : o = inj r := by
  unfold fin at h
  replace h := uc_ok h; obtain ⟨a1, l2, rfl, h⟩ := h
  replace h := getB_ok h; obtain ⟨x3, rfl, h⟩ := h
  replace h := un_ok h; obtain ⟨rfl, h⟩ := h
  cases h
  rfl
def kr (n : Nat) : St → Option R := retK (cx n 45) [.k] [.v] [.tmp 4] [] fin
def lf (n : Nat) : LF R := fun key κd κe v b => none
theorem cuts (n : Nat) : Cuts (cx n 45) 1 ann (lf n) (kr n) body := by
  intro key κd κe v b r h
  unfold lf at h
  cases h
theorem top (n : Nat) (aS : TSchema) (aX : TSess) : entryK 1 [.ag [.sl .v .int aS.cols], .ag [.i .i64 aX.view.q.table, .sl .v .lCond aX.view.q.where_, .i .i64 aX.view.q.order, .b aX.view.q.down, .i .i64 aX.view.q.first, .sl .v .int aX.view.q.show_, .b aX.view.q.kids, .i .i64 aX.view.q.kidTable, .i .i64 aX.view.q.kidCol, .sl .v .lRow aX.view.rows, .sl .v .lKid aX.view.kids, .i .i64 aX.version, .i .i64 aX.last.q.table, .sl .v .lCond aX.last.q.where_, .i .i64 aX.last.q.order, .b aX.last.q.down, .i .i64 aX.last.q.first, .sl .v .int aX.last.q.show_, .b aX.last.q.kids, .i .i64 aX.last.q.kidTable, .i .i64 aX.last.q.kidCol, .sl .v .lRow aX.last.rows, .sl .v .lKid aX.last.kids, .i .i64 aX.lastVersion, .b aX.began]] (fun v b => match outOfAll [.ag [.v], .ag [.v, .v, .v, .v, .v, .v, .v, .v, .v, .v, .v, .v, .v, .v, .v, .v, .v, .v, .v, .v, .v, .v, .v, .v, .v]] v with
      | some o => cond (AV.allRoots o []) (run (cx n 45) 1 ann (lf n) (kr n) body 0 (kr n) (fun _ _ => none) (St.ofC (live0 2) v b)) none
      | none => none) = laws_FnExactSessOk (n + 1) aS aX := by kernel_rfl
def Ok (n : Nat) : Prop := ∀ (aS : TSchema) (aX : TSess) (res_ : R), laws_FnExactSessOk n aS aX = some res_ → CallOk E 3 [.ag [.sl .v .int aS.cols], .ag [.i .i64 aX.view.q.table, .sl .v .lCond aX.view.q.where_, .i .i64 aX.view.q.order, .b aX.view.q.down, .i .i64 aX.view.q.first, .sl .v .int aX.view.q.show_, .b aX.view.q.kids, .i .i64 aX.view.q.kidTable, .i .i64 aX.view.q.kidCol, .sl .v .lRow aX.view.rows, .sl .v .lKid aX.view.kids, .i .i64 aX.version, .i .i64 aX.last.q.table, .sl .v .lCond aX.last.q.where_, .i .i64 aX.last.q.order, .b aX.last.q.down, .i .i64 aX.last.q.first, .sl .v .int aX.last.q.show_, .b aX.last.q.kids, .i .i64 aX.last.q.kidTable, .i .i64 aX.last.q.kidCol, .sl .v .lRow aX.last.rows, .sl .v .lKid aX.last.kids, .i .i64 aX.lastVersion, .b aX.began]] (rvOf 1 (inj res_)) ((inj res_).drop 1) [.ag [.v], .ag [.v, .v, .v, .v, .v, .v, .v, .v, .v, .v, .v, .v, .v, .v, .v, .v, .v, .v, .v, .v, .v, .v, .v, .v, .v]]
theorem ok (n : Nat) (hc : CxOk E (cx n 45)) (hK : KPar (cx n 45)) : Ok (n + 1) := fun aS aX res_ h_ =>
  fn_sound hc hK mixedOk Try.func3 (by kernel_rfl) (by kernel_rfl) (by kernel_rfl) (by decide) fin_ok (by kernel_rfl) ((top n aS aX).trans h_) (cuts n)
theorem Kpar (n : Nat) {ω : Type} {avs : List AV} {κ : AV → List AV → Option ω} {q : ω} (h : laws_FnExactSessOk.K n avs κ = some q) : ∃ rv outs, κ rv outs = some q ∧ ∀ (ω' : Type) (κ' : AV → List AV → Option ω'), laws_FnExactSessOk.K n avs κ' = κ' rv outs := by
  unfold K at h
  generalize hf : fixes [.ag [.sl .v .int], .ag [.k, .sl .v .lCond, .k, .k, .k, .sl .v .int, .k, .k, .k, .sl .v .lRow, .sl .v .lKid, .k, .k, .sl .v .lCond, .k, .k, .k, .sl .v .int, .k, .k, .k, .sl .v .lRow, .sl .v .lKid, .k, .k]] avs = v at h
  replace h := uc_ok h; obtain ⟨a1, l2, rfl, h⟩ := h
  replace h := getAg_ok h; obtain ⟨c3, rfl, h⟩ := h
  replace h := uc_ok h; obtain ⟨a4, l5, rfl, h⟩ := h
  replace h := getSl_ok h; obtain ⟨x6, rfl, h⟩ := h
  replace h := un_ok h; obtain ⟨rfl, h⟩ := h
  replace h := uc_ok h; obtain ⟨a7, l8, rfl, h⟩ := h
  replace h := getAg_ok h; obtain ⟨c9, rfl, h⟩ := h
  replace h := uc_ok h; obtain ⟨a10, l11, rfl, h⟩ := h
  replace h := getI_ok h; obtain ⟨x12, rfl, h⟩ := h
  replace h := uc_ok h; obtain ⟨a13, l14, rfl, h⟩ := h
  replace h := getSl_ok h; obtain ⟨x15, rfl, h⟩ := h
  replace h := uc_ok h; obtain ⟨a16, l17, rfl, h⟩ := h
  replace h := getI_ok h; obtain ⟨x18, rfl, h⟩ := h
  replace h := uc_ok h; obtain ⟨a19, l20, rfl, h⟩ := h
  replace h := getB_ok h; obtain ⟨x21, rfl, h⟩ := h
  replace h := uc_ok h; obtain ⟨a22, l23, rfl, h⟩ := h
  replace h := getI_ok h; obtain ⟨x24, rfl, h⟩ := h
  replace h := uc_ok h; obtain ⟨a25, l26, rfl, h⟩ := h
  replace h := getSl_ok h; obtain ⟨x27, rfl, h⟩ := h
  replace h := uc_ok h; obtain ⟨a28, l29, rfl, h⟩ := h
  replace h := getB_ok h; obtain ⟨x30, rfl, h⟩ := h
  replace h := uc_ok h; obtain ⟨a31, l32, rfl, h⟩ := h
  replace h := getI_ok h; obtain ⟨x33, rfl, h⟩ := h
  replace h := uc_ok h; obtain ⟨a34, l35, rfl, h⟩ := h
  replace h := getI_ok h; obtain ⟨x36, rfl, h⟩ := h
  replace h := uc_ok h; obtain ⟨a37, l38, rfl, h⟩ := h
  replace h := getSl_ok h; obtain ⟨x39, rfl, h⟩ := h
  replace h := uc_ok h; obtain ⟨a40, l41, rfl, h⟩ := h
  replace h := getSl_ok h; obtain ⟨x42, rfl, h⟩ := h
  replace h := uc_ok h; obtain ⟨a43, l44, rfl, h⟩ := h
  replace h := getI_ok h; obtain ⟨x45, rfl, h⟩ := h
  replace h := uc_ok h; obtain ⟨a46, l47, rfl, h⟩ := h
  replace h := getI_ok h; obtain ⟨x48, rfl, h⟩ := h
  replace h := uc_ok h; obtain ⟨a49, l50, rfl, h⟩ := h
  replace h := getSl_ok h; obtain ⟨x51, rfl, h⟩ := h
  replace h := uc_ok h; obtain ⟨a52, l53, rfl, h⟩ := h
  replace h := getI_ok h; obtain ⟨x54, rfl, h⟩ := h
  replace h := uc_ok h; obtain ⟨a55, l56, rfl, h⟩ := h
  replace h := getB_ok h; obtain ⟨x57, rfl, h⟩ := h
  replace h := uc_ok h; obtain ⟨a58, l59, rfl, h⟩ := h
  replace h := getI_ok h; obtain ⟨x60, rfl, h⟩ := h
  replace h := uc_ok h; obtain ⟨a61, l62, rfl, h⟩ := h
  replace h := getSl_ok h; obtain ⟨x63, rfl, h⟩ := h
  replace h := uc_ok h; obtain ⟨a64, l65, rfl, h⟩ := h
  replace h := getB_ok h; obtain ⟨x66, rfl, h⟩ := h
  replace h := uc_ok h; obtain ⟨a67, l68, rfl, h⟩ := h
  replace h := getI_ok h; obtain ⟨x69, rfl, h⟩ := h
  replace h := uc_ok h; obtain ⟨a70, l71, rfl, h⟩ := h
  replace h := getI_ok h; obtain ⟨x72, rfl, h⟩ := h
  replace h := uc_ok h; obtain ⟨a73, l74, rfl, h⟩ := h
  replace h := getSl_ok h; obtain ⟨x75, rfl, h⟩ := h
  replace h := uc_ok h; obtain ⟨a76, l77, rfl, h⟩ := h
  replace h := getSl_ok h; obtain ⟨x78, rfl, h⟩ := h
  replace h := uc_ok h; obtain ⟨a79, l80, rfl, h⟩ := h
  replace h := getI_ok h; obtain ⟨x81, rfl, h⟩ := h
  replace h := uc_ok h; obtain ⟨a82, l83, rfl, h⟩ := h
  replace h := getB_ok h; obtain ⟨x84, rfl, h⟩ := h
  replace h := un_ok h; obtain ⟨rfl, h⟩ := h
  replace h := un_ok h; obtain ⟨rfl, h⟩ := h
  cases hr : laws_FnExactSessOk n (TSchema.mk x6) (TSess.mk (TView.mk (TQuery.mk x12 x15 x18 x21 x24 x27 x30 x33 x36) x39 x42) x45 (TView.mk (TQuery.mk x48 x51 x54 x57 x60 x63 x66 x69 x72) x75 x78) x81 x84) with
  | none => rw [hr] at h; cases h
  | some r =>
    rw [hr] at h
    exact ⟨_, _, h, fun ω' κ' => by unfold K; rw [hf]; exact congrArg (fun z : Option R => z.bind _) hr⟩
theorem Kok (n : Nat) (ho : Ok n) {ω : Type} {avs : List AV} {κ : AV → List AV → Option ω} {q : ω} (h : laws_FnExactSessOk.K n avs κ = some q) : FnOk E 3 ∧ ∃ ps rv outs, (cx n 0).sig 3 = some ps ∧ κ rv outs = some q ∧ CallOk E 3 avs rv outs ps := by
  unfold K at h
  generalize hf : fixes [.ag [.sl .v .int], .ag [.k, .sl .v .lCond, .k, .k, .k, .sl .v .int, .k, .k, .k, .sl .v .lRow, .sl .v .lKid, .k, .k, .sl .v .lCond, .k, .k, .k, .sl .v .int, .k, .k, .k, .sl .v .lRow, .sl .v .lKid, .k, .k]] avs = v at h
  replace h := uc_ok h; obtain ⟨a1, l2, rfl, h⟩ := h
  replace h := getAg_ok h; obtain ⟨c3, rfl, h⟩ := h
  replace h := uc_ok h; obtain ⟨a4, l5, rfl, h⟩ := h
  replace h := getSl_ok h; obtain ⟨x6, rfl, h⟩ := h
  replace h := un_ok h; obtain ⟨rfl, h⟩ := h
  replace h := uc_ok h; obtain ⟨a7, l8, rfl, h⟩ := h
  replace h := getAg_ok h; obtain ⟨c9, rfl, h⟩ := h
  replace h := uc_ok h; obtain ⟨a10, l11, rfl, h⟩ := h
  replace h := getI_ok h; obtain ⟨x12, rfl, h⟩ := h
  replace h := uc_ok h; obtain ⟨a13, l14, rfl, h⟩ := h
  replace h := getSl_ok h; obtain ⟨x15, rfl, h⟩ := h
  replace h := uc_ok h; obtain ⟨a16, l17, rfl, h⟩ := h
  replace h := getI_ok h; obtain ⟨x18, rfl, h⟩ := h
  replace h := uc_ok h; obtain ⟨a19, l20, rfl, h⟩ := h
  replace h := getB_ok h; obtain ⟨x21, rfl, h⟩ := h
  replace h := uc_ok h; obtain ⟨a22, l23, rfl, h⟩ := h
  replace h := getI_ok h; obtain ⟨x24, rfl, h⟩ := h
  replace h := uc_ok h; obtain ⟨a25, l26, rfl, h⟩ := h
  replace h := getSl_ok h; obtain ⟨x27, rfl, h⟩ := h
  replace h := uc_ok h; obtain ⟨a28, l29, rfl, h⟩ := h
  replace h := getB_ok h; obtain ⟨x30, rfl, h⟩ := h
  replace h := uc_ok h; obtain ⟨a31, l32, rfl, h⟩ := h
  replace h := getI_ok h; obtain ⟨x33, rfl, h⟩ := h
  replace h := uc_ok h; obtain ⟨a34, l35, rfl, h⟩ := h
  replace h := getI_ok h; obtain ⟨x36, rfl, h⟩ := h
  replace h := uc_ok h; obtain ⟨a37, l38, rfl, h⟩ := h
  replace h := getSl_ok h; obtain ⟨x39, rfl, h⟩ := h
  replace h := uc_ok h; obtain ⟨a40, l41, rfl, h⟩ := h
  replace h := getSl_ok h; obtain ⟨x42, rfl, h⟩ := h
  replace h := uc_ok h; obtain ⟨a43, l44, rfl, h⟩ := h
  replace h := getI_ok h; obtain ⟨x45, rfl, h⟩ := h
  replace h := uc_ok h; obtain ⟨a46, l47, rfl, h⟩ := h
  replace h := getI_ok h; obtain ⟨x48, rfl, h⟩ := h
  replace h := uc_ok h; obtain ⟨a49, l50, rfl, h⟩ := h
  replace h := getSl_ok h; obtain ⟨x51, rfl, h⟩ := h
  replace h := uc_ok h; obtain ⟨a52, l53, rfl, h⟩ := h
  replace h := getI_ok h; obtain ⟨x54, rfl, h⟩ := h
  replace h := uc_ok h; obtain ⟨a55, l56, rfl, h⟩ := h
  replace h := getB_ok h; obtain ⟨x57, rfl, h⟩ := h
  replace h := uc_ok h; obtain ⟨a58, l59, rfl, h⟩ := h
  replace h := getI_ok h; obtain ⟨x60, rfl, h⟩ := h
  replace h := uc_ok h; obtain ⟨a61, l62, rfl, h⟩ := h
  replace h := getSl_ok h; obtain ⟨x63, rfl, h⟩ := h
  replace h := uc_ok h; obtain ⟨a64, l65, rfl, h⟩ := h
  replace h := getB_ok h; obtain ⟨x66, rfl, h⟩ := h
  replace h := uc_ok h; obtain ⟨a67, l68, rfl, h⟩ := h
  replace h := getI_ok h; obtain ⟨x69, rfl, h⟩ := h
  replace h := uc_ok h; obtain ⟨a70, l71, rfl, h⟩ := h
  replace h := getI_ok h; obtain ⟨x72, rfl, h⟩ := h
  replace h := uc_ok h; obtain ⟨a73, l74, rfl, h⟩ := h
  replace h := getSl_ok h; obtain ⟨x75, rfl, h⟩ := h
  replace h := uc_ok h; obtain ⟨a76, l77, rfl, h⟩ := h
  replace h := getSl_ok h; obtain ⟨x78, rfl, h⟩ := h
  replace h := uc_ok h; obtain ⟨a79, l80, rfl, h⟩ := h
  replace h := getI_ok h; obtain ⟨x81, rfl, h⟩ := h
  replace h := uc_ok h; obtain ⟨a82, l83, rfl, h⟩ := h
  replace h := getB_ok h; obtain ⟨x84, rfl, h⟩ := h
  replace h := un_ok h; obtain ⟨rfl, h⟩ := h
  replace h := un_ok h; obtain ⟨rfl, h⟩ := h
  cases hr : laws_FnExactSessOk n (TSchema.mk x6) (TSess.mk (TView.mk (TQuery.mk x12 x15 x18 x21 x24 x27 x30 x33 x36) x39 x42) x45 (TView.mk (TQuery.mk x48 x51 x54 x57 x60 x63 x66 x69 x72) x75 x78) x81 x84) with
  | none => rw [hr] at h; cases h
  | some r =>
    rw [hr] at h
    exact ⟨⟨_, body, Try.func3, by decide +kernel, by kernel_rfl⟩, [.ag [.v], .ag [.v, .v, .v, .v, .v, .v, .v, .v, .v, .v, .v, .v, .v, .v, .v, .v, .v, .v, .v, .v, .v, .v, .v, .v, .v]], _, _, by kernel_rfl, h, CallOk.fix (ss := [.ag [.sl .v .int], .ag [.k, .sl .v .lCond, .k, .k, .k, .sl .v .int, .k, .k, .k, .sl .v .lRow, .sl .v .lKid, .k, .k, .sl .v .lCond, .k, .k, .k, .sl .v .int, .k, .k, .k, .sl .v .lRow, .sl .v .lKid, .k, .k]]) (by rw [hf]; exact ho (TSchema.mk x6) (TSess.mk (TView.mk (TQuery.mk x12 x15 x18 x21 x24 x27 x30 x33 x36) x39 x42) x45 (TView.mk (TQuery.mk x48 x51 x54 x57 x60 x63 x66 x69 x72) x75 x78) x81 x84) r hr)⟩
end laws_FnExactSessOk
end Go.Pi
end
section
set_option linter.unusedVariables false
set_option maxRecDepth 100000
namespace Go.Pi
theorem kpar (n nt : Nat) : KPar (cx n nt) := KH_par (l := KL n) ⟨fun _ _ _ _ h => laws_FnExactSessOk.Kpar n h, fun _ _ _ _ h => laws_szSchema.Kpar n h, fun _ _ _ _ h => laws_szSess.Kpar n h, fun _ _ _ _ h => spec_SessOk.Kpar n h, fun _ _ _ _ h => laws_toSchema.Kpar n h, fun _ _ _ _ h => laws_toSess.Kpar n h, fun _ _ _ _ h => impl_SessOk.Kpar n h, fun _ _ _ _ h => laws_eqSchema.Kpar n h, fun _ _ _ _ h => laws_eqSess.Kpar n h, fun _ _ _ _ h => laws_szQuery.Kpar n h, fun _ _ _ _ h => laws_toQuery.Kpar n h, fun _ _ _ _ h => laws_eqQuery.Kpar n h, fun _ _ _ _ h => laws_szIntS.Kpar n h, fun _ _ _ _ h => laws_szView.Kpar n h, fun _ _ _ _ h => spec_ViewOk.Kpar n h, fun _ _ _ _ h => spec_l1In.Kpar n h, fun _ _ _ _ h => spec_ViewSame.Kpar n h, fun _ _ _ _ h => spec_QuerySame.Kpar n h, fun _ _ _ _ h => laws_toIntS.Kpar n h, fun _ _ _ _ h => laws_toView.Kpar n h, fun _ _ _ _ h => impl_ViewOk.Kpar n h, fun _ _ _ _ h => impl_isVersion.Kpar n h, fun _ _ _ _ h => impl_ViewSame.Kpar n h, fun _ _ _ _ h => impl_QuerySame.Kpar n h, fun _ _ _ _ h => impl_within.Kpar n h, fun _ _ _ _ h => laws_eqIntS.Kpar n h, fun _ _ _ _ h => laws_eqView.Kpar n h, fun _ _ _ _ h => laws_szCondS.Kpar n h, fun _ _ _ _ h => laws_toCondS.Kpar n h, fun _ _ _ _ h => laws_eqCondS.Kpar n h, fun _ _ _ _ h => laws_szRowS.Kpar n h, fun _ _ _ _ h => laws_szKidS.Kpar n h, fun _ _ _ _ h => spec_QueryOk.Kpar n h, fun _ _ _ _ h => spec_RowOk.Kpar n h, fun _ _ _ _ h => spec_Matches.Kpar n h, fun _ _ _ _ h => spec_RowAt.Kpar n h, fun _ _ _ _ h => spec_Ahead.Kpar n h, fun _ _ _ _ h => spec_RowSame.Kpar n h, fun _ _ _ _ h => spec_l9Conds.Kpar n h, fun _ _ _ _ h => spec_l9Ints.Kpar n h, fun _ _ _ _ h => laws_toRowS.Kpar n h, fun _ _ _ _ h => laws_toKidS.Kpar n h, fun _ _ _ _ h => impl_QueryOk.Kpar n h, fun _ _ _ _ h => impl_RowOk.Kpar n h, fun _ _ _ _ h => impl_Matches.Kpar n h, fun _ _ _ _ h => impl_Ahead.Kpar n h, fun _ _ _ _ h => impl_RowAt.Kpar n h, fun _ _ _ _ h => slices_EqualFunc_Row_c102.Kpar n h, fun _ _ _ _ h => impl_RowSame.Kpar n h, fun _ _ _ _ h => slices_Equal_Kid.Kpar n h, fun _ _ _ _ h => slices_Equal_Cond.Kpar n h, fun _ _ _ _ h => slices_Equal_int.Kpar n h, fun _ _ _ _ h => laws_eqRowS.Kpar n h, fun _ _ _ _ h => laws_eqKidS.Kpar n h, fun _ _ _ _ h => spec_SchemaOk.Kpar n h, fun _ _ _ _ h => laws_szRow.Kpar n h, fun _ _ _ _ h => laws_toRow.Kpar n h, fun _ _ _ _ h => laws_eqRow.Kpar n h, fun _ _ _ _ h => laws_toCond.Kpar n h, fun _ _ _ _ h => laws_eqCond.Kpar n h, fun _ _ _ _ h => spec_l9Holds.Kpar n h, fun _ _ _ _ h => spec_l9Cell.Kpar n h, fun _ _ _ _ h => laws_toKid.Kpar n h, fun _ _ _ _ h => impl_SchemaOk.Kpar n h, fun _ _ _ _ h => impl_hasTable.Kpar n h, fun _ _ _ _ h => impl_isNum.Kpar n h, fun _ _ _ _ h => impl_kidsFit.Kpar n h, fun _ _ _ _ h => impl_holds.Kpar n h, fun _ _ _ _ h => impl_cellOf.Kpar n h, fun _ _ _ _ h => slices_IndexFunc_Row_c153.Kpar n h, fun _ _ _ _ h => impl_RowAt_f1.Kpar n h, fun _ _ _ _ h => laws_eqKid.Kpar n h, trivial⟩
structure AllOk (n : Nat) : Prop where
  h0 : laws_szIntS.Ok n
  h1 : laws_szSchema.Ok n
  h2 : laws_szCondS.Ok n
  h3 : laws_szQuery.Ok n
  h4 : laws_szRow.Ok n
  h5 : laws_szRowS.Ok n
  h6 : laws_szKidS.Ok n
  h7 : laws_szView.Ok n
  h8 : laws_szSess.Ok n
  h9 : laws_toIntS.Ok n
  h10 : laws_toSchema.Ok n
  h11 : laws_toCond.Ok n
  h12 : laws_toCondS.Ok n
  h13 : laws_toQuery.Ok n
  h14 : laws_toRow.Ok n
  h15 : laws_toRowS.Ok n
  h16 : laws_toKid.Ok n
  h17 : laws_toKidS.Ok n
  h18 : laws_toView.Ok n
  h19 : laws_toSess.Ok n
  h20 : spec_l1In.Ok n
  h21 : spec_SchemaOk.Ok n
  h22 : spec_QueryOk.Ok n
  h23 : spec_RowOk.Ok n
  h24 : spec_l9Holds.Ok n
  h25 : spec_Matches.Ok n
  h26 : spec_RowAt.Ok n
  h27 : spec_l9Cell.Ok n
  h28 : spec_Ahead.Ok n
  h29 : spec_ViewOk.Ok n
  h30 : spec_l9Conds.Ok n
  h31 : spec_l9Ints.Ok n
  h32 : spec_QuerySame.Ok n
  h33 : spec_RowSame.Ok n
  h34 : spec_ViewSame.Ok n
  h35 : spec_SessOk.Ok n
  h36 : impl_within.Ok n
  h37 : impl_SchemaOk.Ok n
  h38 : impl_hasTable.Ok n
  h39 : impl_isNum.Ok n
  h40 : impl_kidsFit.Ok n
  h41 : impl_QueryOk.Ok n
  h42 : impl_RowOk.Ok n
  h43 : impl_holds.Ok n
  h44 : impl_Matches.Ok n
  h45 : impl_cellOf.Ok n
  h46 : impl_Ahead.Ok n
  h47 : impl_RowAt_f1.Ok n
  h48 : slices_IndexFunc_Row_c153.Ok n
  h49 : impl_RowAt.Ok n
  h50 : impl_ViewOk.Ok n
  h51 : impl_isVersion.Ok n
  h52 : slices_Equal_Cond.Ok n
  h53 : slices_Equal_int.Ok n
  h54 : impl_QuerySame.Ok n
  h55 : impl_RowSame.Ok n
  h56 : slices_EqualFunc_Row_c102.Ok n
  h57 : slices_Equal_Kid.Ok n
  h58 : impl_ViewSame.Ok n
  h59 : impl_SessOk.Ok n
  h60 : laws_eqIntS.Ok n
  h61 : laws_eqSchema.Ok n
  h62 : laws_eqCond.Ok n
  h63 : laws_eqCondS.Ok n
  h64 : laws_eqQuery.Ok n
  h65 : laws_eqRow.Ok n
  h66 : laws_eqRowS.Ok n
  h67 : laws_eqKid.Ok n
  h68 : laws_eqKidS.Ok n
  h69 : laws_eqView.Ok n
  h70 : laws_eqSess.Ok n
  h71 : laws_FnExactSessOk.Ok n
theorem kok (n nt : Nat) (a : AllOk n) : KOk E (cx n nt) := KH_ok (l := KL n) ⟨fun _ _ _ _ h => laws_FnExactSessOk.Kok n a.h71 h, fun _ _ _ _ h => laws_szSchema.Kok n a.h1 h, fun _ _ _ _ h => laws_szSess.Kok n a.h8 h, fun _ _ _ _ h => spec_SessOk.Kok n a.h35 h, fun _ _ _ _ h => laws_toSchema.Kok n a.h10 h, fun _ _ _ _ h => laws_toSess.Kok n a.h19 h, fun _ _ _ _ h => impl_SessOk.Kok n a.h59 h, fun _ _ _ _ h => laws_eqSchema.Kok n a.h61 h, fun _ _ _ _ h => laws_eqSess.Kok n a.h70 h, fun _ _ _ _ h => laws_szQuery.Kok n a.h3 h, fun _ _ _ _ h => laws_toQuery.Kok n a.h13 h, fun _ _ _ _ h => laws_eqQuery.Kok n a.h64 h, fun _ _ _ _ h => laws_szIntS.Kok n a.h0 h, fun _ _ _ _ h => laws_szView.Kok n a.h7 h, fun _ _ _ _ h => spec_ViewOk.Kok n a.h29 h, fun _ _ _ _ h => spec_l1In.Kok n a.h20 h, fun _ _ _ _ h => spec_ViewSame.Kok n a.h34 h, fun _ _ _ _ h => spec_QuerySame.Kok n a.h32 h, fun _ _ _ _ h => laws_toIntS.Kok n a.h9 h, fun _ _ _ _ h => laws_toView.Kok n a.h18 h, fun _ _ _ _ h => impl_ViewOk.Kok n a.h50 h, fun _ _ _ _ h => impl_isVersion.Kok n a.h51 h, fun _ _ _ _ h => impl_ViewSame.Kok n a.h58 h, fun _ _ _ _ h => impl_QuerySame.Kok n a.h54 h, fun _ _ _ _ h => impl_within.Kok n a.h36 h, fun _ _ _ _ h => laws_eqIntS.Kok n a.h60 h, fun _ _ _ _ h => laws_eqView.Kok n a.h69 h, fun _ _ _ _ h => laws_szCondS.Kok n a.h2 h, fun _ _ _ _ h => laws_toCondS.Kok n a.h12 h, fun _ _ _ _ h => laws_eqCondS.Kok n a.h63 h, fun _ _ _ _ h => laws_szRowS.Kok n a.h5 h, fun _ _ _ _ h => laws_szKidS.Kok n a.h6 h, fun _ _ _ _ h => spec_QueryOk.Kok n a.h22 h, fun _ _ _ _ h => spec_RowOk.Kok n a.h23 h, fun _ _ _ _ h => spec_Matches.Kok n a.h25 h, fun _ _ _ _ h => spec_RowAt.Kok n a.h26 h, fun _ _ _ _ h => spec_Ahead.Kok n a.h28 h, fun _ _ _ _ h => spec_RowSame.Kok n a.h33 h, fun _ _ _ _ h => spec_l9Conds.Kok n a.h30 h, fun _ _ _ _ h => spec_l9Ints.Kok n a.h31 h, fun _ _ _ _ h => laws_toRowS.Kok n a.h15 h, fun _ _ _ _ h => laws_toKidS.Kok n a.h17 h, fun _ _ _ _ h => impl_QueryOk.Kok n a.h41 h, fun _ _ _ _ h => impl_RowOk.Kok n a.h42 h, fun _ _ _ _ h => impl_Matches.Kok n a.h44 h, fun _ _ _ _ h => impl_Ahead.Kok n a.h46 h, fun _ _ _ _ h => impl_RowAt.Kok n a.h49 h, fun _ _ _ _ h => slices_EqualFunc_Row_c102.Kok n a.h56 h, fun _ _ _ _ h => impl_RowSame.Kok n a.h55 h, fun _ _ _ _ h => slices_Equal_Kid.Kok n a.h57 h, fun _ _ _ _ h => slices_Equal_Cond.Kok n a.h52 h, fun _ _ _ _ h => slices_Equal_int.Kok n a.h53 h, fun _ _ _ _ h => laws_eqRowS.Kok n a.h66 h, fun _ _ _ _ h => laws_eqKidS.Kok n a.h68 h, fun _ _ _ _ h => spec_SchemaOk.Kok n a.h21 h, fun _ _ _ _ h => laws_szRow.Kok n a.h4 h, fun _ _ _ _ h => laws_toRow.Kok n a.h14 h, fun _ _ _ _ h => laws_eqRow.Kok n a.h65 h, fun _ _ _ _ h => laws_toCond.Kok n a.h11 h, fun _ _ _ _ h => laws_eqCond.Kok n a.h62 h, fun _ _ _ _ h => spec_l9Holds.Kok n a.h24 h, fun _ _ _ _ h => spec_l9Cell.Kok n a.h27 h, fun _ _ _ _ h => laws_toKid.Kok n a.h16 h, fun _ _ _ _ h => impl_SchemaOk.Kok n a.h37 h, fun _ _ _ _ h => impl_hasTable.Kok n a.h38 h, fun _ _ _ _ h => impl_isNum.Kok n a.h39 h, fun _ _ _ _ h => impl_kidsFit.Kok n a.h40 h, fun _ _ _ _ h => impl_holds.Kok n a.h43 h, fun _ _ _ _ h => impl_cellOf.Kok n a.h45 h, fun _ _ _ _ h => slices_IndexFunc_Row_c153.Kok n a.h48 h, fun _ _ _ _ h => impl_RowAt_f1.Kok n a.h47 h, fun _ _ _ _ h => laws_eqKid.Kok n a.h67 h, trivial⟩
theorem cxok (n nt : Nat) (a : AllOk n) : CxOk E (cx n nt) := ⟨ttOk, tcOk, u8Ok, kok n nt a⟩
theorem allOk : ∀ n, AllOk n
  | 0 => ⟨fun _ _ _ h => (by cases h), fun _ _ _ h => (by cases h), fun _ _ _ h => (by cases h), fun _ _ _ h => (by cases h), fun _ _ _ h => (by cases h), fun _ _ _ h => (by cases h), fun _ _ _ h => (by cases h), fun _ _ _ h => (by cases h), fun _ _ _ h => (by cases h), fun _ _ h => (by cases h), fun _ _ h => (by cases h), fun _ _ h => (by cases h), fun _ _ h => (by cases h), fun _ _ h => (by cases h), fun _ _ h => (by cases h), fun _ _ h => (by cases h), fun _ _ h => (by cases h), fun _ _ h => (by cases h), fun _ _ h => (by cases h), fun _ _ h => (by cases h), fun _ _ _ _ h => (by cases h), fun _ _ h => (by cases h), fun _ _ _ h => (by cases h), fun _ _ _ _ h => (by cases h), fun _ _ _ h => (by cases h), fun _ _ _ h => (by cases h), fun _ _ _ h => (by cases h), fun _ _ _ h => (by cases h), fun _ _ _ _ h => (by cases h), fun _ _ _ h => (by cases h), fun _ _ _ h => (by cases h), fun _ _ _ h => (by cases h), fun _ _ _ h => (by cases h), fun _ _ _ h => (by cases h), fun _ _ _ h => (by cases h), fun _ _ _ h => (by cases h), fun _ _ _ _ h => (by cases h), fun _ _ h => (by cases h), fun _ _ _ h => (by cases h), fun _ _ h => (by cases h), fun _ _ _ h => (by cases h), fun _ _ _ h => (by cases h), fun _ _ _ _ h => (by cases h), fun _ _ _ h => (by cases h), fun _ _ _ h => (by cases h), fun _ _ _ h => (by cases h), fun _ _ _ _ h => (by cases h), fun _ _ _ h => (by cases h), fun _ _ _ h => (by cases h), fun _ _ _ h => (by cases h), fun _ _ _ h => (by cases h), fun _ _ h => (by cases h), fun _ _ _ h => (by cases h), fun _ _ _ h => (by cases h), fun _ _ _ h => (by cases h), fun _ _ _ h => (by cases h), fun _ _ _ h => (by cases h), fun _ _ _ h => (by cases h), fun _ _ _ h => (by cases h), fun _ _ _ h => (by cases h), fun _ _ _ h => (by cases h), fun _ _ _ h => (by cases h), fun _ _ _ h => (by cases h), fun _ _ _ h => (by cases h), fun _ _ _ h => (by cases h), fun _ _ _ h => (by cases h), fun _ _ _ h => (by cases h), fun _ _ _ h => (by cases h), fun _ _ _ h => (by cases h), fun _ _ _ h => (by cases h), fun _ _ _ h => (by cases h), fun _ _ _ h => (by cases h)⟩
  | n + 1 => ⟨laws_szIntS.ok n (cxok n 12 (allOk n)) (kpar n 12), laws_szSchema.ok n (cxok n 12 (allOk n)) (kpar n 12), laws_szCondS.ok n (cxok n 12 (allOk n)) (kpar n 12), laws_szQuery.ok n (cxok n 18 (allOk n)) (kpar n 18), laws_szRow.ok n (cxok n 12 (allOk n)) (kpar n 12), laws_szRowS.ok n (cxok n 27 (allOk n)) (kpar n 27), laws_szKidS.ok n (cxok n 12 (allOk n)) (kpar n 12), laws_szView.ok n (cxok n 24 (allOk n)) (kpar n 24), laws_szSess.ok n (cxok n 18 (allOk n)) (kpar n 18), laws_toIntS.ok n (cxok n 22 (allOk n)) (kpar n 22), laws_toSchema.ok n (cxok n 9 (allOk n)) (kpar n 9), laws_toCond.ok n (cxok n 14 (allOk n)) (kpar n 14), laws_toCondS.ok n (cxok n 23 (allOk n)) (kpar n 23), laws_toQuery.ok n (cxok n 34 (allOk n)) (kpar n 34), laws_toRow.ok n (cxok n 12 (allOk n)) (kpar n 12), laws_toRowS.ok n (cxok n 23 (allOk n)) (kpar n 23), laws_toKid.ok n (cxok n 11 (allOk n)) (kpar n 11), laws_toKidS.ok n (cxok n 23 (allOk n)) (kpar n 23), laws_toView.ok n (cxok n 17 (allOk n)) (kpar n 17), laws_toSess.ok n (cxok n 22 (allOk n)) (kpar n 22), spec_l1In.ok n (cxok n 15 (allOk n)) (kpar n 15), spec_SchemaOk.ok n (cxok n 22 (allOk n)) (kpar n 22), spec_QueryOk.ok n (cxok n 148 (allOk n)) (kpar n 148), spec_RowOk.ok n (cxok n 51 (allOk n)) (kpar n 51), spec_l9Holds.ok n (cxok n 46 (allOk n)) (kpar n 46), spec_Matches.ok n (cxok n 21 (allOk n)) (kpar n 21), spec_RowAt.ok n (cxok n 20 (allOk n)) (kpar n 20), spec_l9Cell.ok n (cxok n 17 (allOk n)) (kpar n 17), spec_Ahead.ok n (cxok n 36 (allOk n)) (kpar n 36), spec_ViewOk.ok n (cxok n 115 (allOk n)) (kpar n 115), spec_l9Conds.ok n (cxok n 32 (allOk n)) (kpar n 32), spec_l9Ints.ok n (cxok n 32 (allOk n)) (kpar n 32), spec_QuerySame.ok n (cxok n 66 (allOk n)) (kpar n 66), spec_RowSame.ok n (cxok n 38 (allOk n)) (kpar n 38), spec_ViewSame.ok n (cxok n 68 (allOk n)) (kpar n 68), spec_SessOk.ok n (cxok n 48 (allOk n)) (kpar n 48), impl_within.ok n (cxok n 15 (allOk n)) (kpar n 15), impl_SchemaOk.ok n (cxok n 20 (allOk n)) (kpar n 20), impl_hasTable.ok n (cxok n 11 (allOk n)) (kpar n 11), impl_isNum.ok n (cxok n 5 (allOk n)) (kpar n 5), impl_kidsFit.ok n (cxok n 32 (allOk n)) (kpar n 32), impl_QueryOk.ok n (cxok n 112 (allOk n)) (kpar n 112), impl_RowOk.ok n (cxok n 43 (allOk n)) (kpar n 43), impl_holds.ok n (cxok n 49 (allOk n)) (kpar n 49), impl_Matches.ok n (cxok n 19 (allOk n)) (kpar n 19), impl_cellOf.ok n (cxok n 17 (allOk n)) (kpar n 17), impl_Ahead.ok n (cxok n 45 (allOk n)) (kpar n 45), impl_RowAt_f1.ok n (cxok n 8 (allOk n)) (kpar n 8), slices_IndexFunc_Row_c153.ok n (cxok n 19 (allOk n)) (kpar n 19), impl_RowAt.ok n (cxok n 8 (allOk n)) (kpar n 8), impl_ViewOk.ok n (cxok n 110 (allOk n)) (kpar n 110), impl_isVersion.ok n (cxok n 5 (allOk n)) (kpar n 5), slices_Equal_Cond.ok n (cxok n 26 (allOk n)) (kpar n 26), slices_Equal_int.ok n (cxok n 26 (allOk n)) (kpar n 26), impl_QuerySame.ok n (cxok n 70 (allOk n)) (kpar n 70), impl_RowSame.ok n (cxok n 17 (allOk n)) (kpar n 17), slices_EqualFunc_Row_c102.ok n (cxok n 32 (allOk n)) (kpar n 32), slices_Equal_Kid.ok n (cxok n 26 (allOk n)) (kpar n 26), impl_ViewSame.ok n (cxok n 24 (allOk n)) (kpar n 24), impl_SessOk.ok n (cxok n 48 (allOk n)) (kpar n 48), laws_eqIntS.ok n (cxok n 26 (allOk n)) (kpar n 26), laws_eqSchema.ok n (cxok n 11 (allOk n)) (kpar n 11), laws_eqCond.ok n (cxok n 20 (allOk n)) (kpar n 20), laws_eqCondS.ok n (cxok n 27 (allOk n)) (kpar n 27), laws_eqQuery.ok n (cxok n 52 (allOk n)) (kpar n 52), laws_eqRow.ok n (cxok n 16 (allOk n)) (kpar n 16), laws_eqRowS.ok n (cxok n 27 (allOk n)) (kpar n 27), laws_eqKid.ok n (cxok n 15 (allOk n)) (kpar n 15), laws_eqKidS.ok n (cxok n 27 (allOk n)) (kpar n 27), laws_eqView.ok n (cxok n 23 (allOk n)) (kpar n 23), laws_eqSess.ok n (cxok n 32 (allOk n)) (kpar n 32), laws_FnExactSessOk.ok n (cxok n 45 (allOk n)) (kpar n 45)⟩
end Go.Pi
end
section
set_option linter.unusedVariables false
namespace Go.Pi
/-! ### What a law is handed: data that anybody may read -/
inductive Kd where
  | i (k : IntKind)
  | b
  | s
  | sl (t : TC)
def kdsL (P : Program) (rec_ : TypeId → Option (List Kd)) : List Field → Nat → Option (List Kd)
  | [], _ => some []
  | f :: fs, off => cond (Nat.beq f.offset off) (match rec_ f.type with
    | some ks => cond (Nat.beq (P.cellsOf f.type) ks.length) (match kdsL P rec_ fs (off + ks.length) with
      | some r => some (ks ++ r)
      | none => none) none
    | none => none) none
def kds (P : Program) (code : TypeId → Option TC) : Nat → TypeId → Option (List Kd)
  | 0, _ => none
  | d + 1, T => match P.underlying T with
    | some (.int k) => some [.i k]
    | some .bool => some [.b]
    | some .string => some [.s]
    | some (.slice e) => match code e with
      | some t => some [.sl t]
      | none => none
    | some (.struct fs) => match kdsL P (kds P code d) fs.toList 0 with
      | some ks => cond (Nat.beq (P.cellsOf T) ks.length) (some ks) none
      | none => none
    | _ => none
/-- the lengths and ranges of what is read -/
inductive Good [Coding] : AV → Prop
  | i (k n) : (Lit.int k n).wf = true → Good (.i k n)
  | b (q) : Good (.b q)
  | s (l) : l.length ≤ maxLen → Good (.s l)
  | sl (t xs) : xs.length ≤ maxLen → (∀ x ∈ xs, ∀ c ∈ Coding.enc .v t x, Good c) → Good (.sl .v t xs)
def KindOk : Kd → AV → Prop
  | .i k, a => ∃ n, a = .i k n
  | .b, a => ∃ q, a = .b q
  | .s, a => ∃ l, a = .s l
  | .sl t, a => ∃ xs, a = .sl .v t xs
def Kinded : List Kd → List AV → Prop
  | [], [] => True
  | k :: ks, a :: l => KindOk k a ∧ Kinded ks l
  | _, _ => False
section
variable {H : Type} {enc : TypeId × Value → H} {P : Program} {w : World} {spare : Nat → Bool}
/-- a cell of a kind, whose rows are read with less -/
def CellOk (enc : TypeId × Value → H) (P : Program) (w : World) (spare : Nat → Bool) (eid : TC → TypeId) (F : Nat) : Kd → Value → Prop
  | .i k, v => ∃ n, v = .int k n ∧ (Lit.int k n).wf = true
  | .b, v => ∃ q, v = .bool q
  | .s, v => ∃ s : ByteArray, v = .string s ∧ s.size ≤ maxLen
  | .sl t, v => v = .slice none 0 0 ∨ ∃ (a : Addr) (len cap N : Nat), v = .slice (some a) len cap ∧ len ≤ cap ∧ cap ≤ maxLen ∧ N < F ∧
      ∀ i, i < len → ∃ cs x, w.cells? 0 (a.add (i * P.cellsOf (eid t))) (P.cellsOf (eid t)) = some cs ∧ DataW.trod enc P w 0 spare true N (eid t) cs = some x
def CellsOk (enc : TypeId × Value → H) (P : Program) (w : World) (spare : Nat → Bool) (eid : TC → TypeId) (F : Nat) : List Kd → List Value → Prop
  | [], [] => True
  | k :: ks, v :: vs => CellOk enc P w spare eid F k v ∧ CellsOk enc P w spare eid F ks vs
  | _, _ => False
theorem CellOk.mono {eid : TC → TypeId} {F F' : Nat} (hF : F ≤ F') {k : Kd} {v : Value} (h : CellOk enc P w spare eid F k v) : CellOk enc P w spare eid F' k v := by
  cases k with
  | sl t =>
    rcases h with h | ⟨a, len, cap, N, h1, h2, h3, h4, h5⟩
    · exact .inl h
    · exact .inr ⟨a, len, cap, N, h1, h2, h3, Nat.lt_of_lt_of_le h4 hF, h5⟩
  | _ => exact h
theorem CellsOk.mono {eid : TC → TypeId} {F F' : Nat} (hF : F ≤ F') : ∀ {ks : List Kd} {vs : List Value}, CellsOk enc P w spare eid F ks vs → CellsOk enc P w spare eid F' ks vs
  | [], [], _ => trivial
  | k :: ks, v :: vs, h => ⟨h.1.mono hF, CellsOk.mono hF h.2⟩
  | [], _ :: _, h => h.elim
  | _ :: _, [], h => h.elim
theorem CellsOk.append {eid : TC → TypeId} {F : Nat} : ∀ {ks : List Kd} {vs : List Value} {ks' : List Kd} {vs' : List Value}, CellsOk enc P w spare eid F ks vs → CellsOk enc P w spare eid F ks' vs' → CellsOk enc P w spare eid F (ks ++ ks') (vs ++ vs')
  | [], [], _, _, _, h => h
  | k :: ks, v :: vs, _, _, h, h' => ⟨h.1, CellsOk.append h.2 h'⟩
  | [], _ :: _, _, _, h, _ => h.elim
  | _ :: _, [], _, _, h, _ => h.elim
theorem fields_kds {code : TypeId → Option TC} {eid : TC → TypeId} {n : Nat} {rec_ : TypeId → Option (List Kd)} {cs : List Value} (hrec : ∀ T ks cs x, rec_ T = some ks → DataW.trod enc P w 0 spare true n T cs = some x → CellsOk enc P w spare eid n ks cs) :
    ∀ (fs : List Field) (off : Nat) (ks : List Kd), kdsL P rec_ fs off = some ks → (∀ f ∈ fs, ∃ x, DataW.trod enc P w 0 spare true n f.type ((cs.drop f.offset).take (P.cellsOf f.type)) = some x) → off + ks.length = cs.length → CellsOk enc P w spare eid n ks (cs.drop off)
  | [], off, ks, h, _, hl => by
    simp only [kdsL, Option.some.injEq] at h
    subst h
    rw [List.drop_eq_nil_of_le (by simp at hl; omega)]
    trivial
  | f :: fs, off, ks, h, hx, hl => by
    simp only [kdsL] at h
    obtain ⟨h1, h2⟩ := cond_some h
    have h1 := beq_iff.1 h1
    cases hr : rec_ f.type with
    | none => rw [hr] at h2; cases h2
    | some k1 =>
      rw [hr] at h2
      obtain ⟨h3, h4⟩ := cond_some h2
      have h3 := beq_iff.1 h3
      cases hk : kdsL P rec_ fs (off + k1.length) with
      | none => rw [hk] at h4; cases h4
      | some r =>
        rw [hk] at h4
        simp only [Option.some.injEq] at h4
        subst h4
        obtain ⟨x, hx1⟩ := hx f (List.mem_cons_self ..)
        have h5 := hrec _ _ _ _ hr hx1
        have h6 := fields_kds (code := code) hrec fs (off + k1.length) r hk (fun g hg => hx g (List.mem_cons_of_mem _ hg)) (by simp at hl; omega)
        rw [h1, h3] at h5
        have : cs.drop off = (cs.drop off).take k1.length ++ cs.drop (off + k1.length) := by rw [← List.drop_drop, List.take_append_drop]
        rw [this]
        exact h5.append h6
theorem trod_kds {code : TypeId → Option TC} {eid : TC → TypeId} (hcode : ∀ e t, code e = some t → eid t = e) : ∀ (d F : Nat) (T : TypeId) (ks : List Kd) (cs : List Value) (x : DataW H × List MemPlace), kds P code d T = some ks → DataW.trod enc P w 0 spare true F T cs = some x → CellsOk enc P w spare eid F ks cs
  | 0, F, T, ks, cs, x, hk, h => by cases hk
  | d + 1, F, T, ks, cs, x, hk, h => by
    simp only [kds] at hk
    cases hu : P.underlying T with
    | none => rw [hu] at hk; cases hk
    | some u =>
      rw [hu] at hk
      cases u <;> simp only at hk <;> (try (cases hk; done))
      case bool =>
        cases hk
        obtain ⟨q, rfl, _⟩ := DataW.trod_bool hu h
        exact ⟨⟨q, rfl⟩, trivial⟩
      case int k =>
        cases hk
        obtain ⟨n, rfl, _, hw⟩ := DataW.trod_int hu h
        exact ⟨⟨n, rfl, hw⟩, trivial⟩
      case string =>
        cases hk
        obtain ⟨s, rfl, _, hs⟩ := DataW.trod_string hu h
        exact ⟨⟨s, rfl, hs⟩, trivial⟩
      case slice e =>
        cases hc : code e with
        | none => rw [hc] at hk; cases hk
        | some t =>
          rw [hc] at hk
          cases hk
          have he := hcode e t hc
          rcases DataW.trod_slice hu h with ⟨rfl, _⟩ | ⟨a, len, cap, elems, rest, n, hF, rfl, _, _, hl, hm, hlen, hel, _, _⟩
          · exact ⟨.inl rfl, trivial⟩
          · refine ⟨.inr ⟨a, len, cap, n, rfl, hl, hm, by omega, fun i hi => ?_⟩, trivial⟩
            have h1 := hel i hi
            rw [List.getElem?_eq_getElem (by omega)] at h1
            rw [Option.bind_eq_some_iff] at h1
            obtain ⟨cs, k1, k2⟩ := h1
            exact ⟨cs, _, by rw [he]; exact k1, by rw [he]; exact k2⟩
      case struct fs =>
        obtain ⟨xs, n, hF, _, hcl, hxl, hx⟩ := DataW.trod_struct hu h
        cases hks : kdsL P (kds P code d) fs.toList 0 with
        | none => rw [hks] at hk; cases hk
        | some ks' =>
          rw [hks] at hk
          obtain ⟨h1, h2⟩ := cond_some hk
          have h1 := beq_iff.1 h1
          cases h2
          subst hF
          have := fields_kds (code := code) (eid := eid) (n := n) (cs := cs) (fun T ks cs x k1 k2 => trod_kds hcode d n T ks cs x k1 k2) fs.toList 0 ks hks (fun f hf => by
            obtain ⟨i, hi⟩ := List.getElem?_of_mem hf
            have hi' : fs[i]? = some f := by simpa using hi
            have h3 := hx i f hi'
            have hlt : i < xs.length := by rw [hxl]; exact (Array.getElem?_eq_some_iff.1 hi').1
            rw [List.getElem?_eq_getElem hlt] at h3
            exact ⟨_, h3⟩) (by omega)
          exact (this.mono (Nat.le_succ n))
end
end Go.Pi
end
section
set_option linter.unusedVariables false
namespace Go.Pi
variable [Coding]
open Coding
variable {H : Type} {enc' : TypeId × Value → H} {E : Env} {w : World} {spare : Nat → Bool}
abbrev NoF : Nat → Prop := fun _ => False
omit [Coding] in
theorem sims_kinded : ∀ {ks : List Kd} {l c : List AV}, Kinded ks l → sims .v l c → c = l
  | [], [], [], _, _ => rfl
  | k :: ks, a :: l, b :: c, h, hs => by
    have e := sims_kinded h.2 hs.2
    subst e
    have h1 := h.1
    have h2 := hs.1
    cases k <;> obtain ⟨x, rfl⟩ := h1 <;> simp only [AV.sim] at h2 <;> rw [h2]
  | [], [], _ :: _, _, h => h.elim
  | [], _ :: _, _, h, _ => h.elim
  | _ :: _, [], _, h, _ => h.elim
  | _ :: _, _ :: _, [], _, h => h.elim
/-- what is asked of the table of kinds -/
structure KindsOk (E : Env) (code : TypeId → Option TC) (kinds : TC → List Kd) (d : Nat) : Prop where
  codeOk : ∀ e t, code e = some t → E.eid t = e
  kdsOk : ∀ t, kds E.P code d (E.eid t) = some (kinds t)
  dec : ∀ t l, Kinded (kinds t) l → ∃ y, dec t l = some y
  cells : ∀ t, E.P.cellsOf (E.eid t) = t.width
theorem rows_open [CodingOk] {t : TC} {N : Nat} (hel : ∀ cs x, DataW.trod enc' E.P w 0 spare true N (E.eid t) cs = some x → ∃ y : El t, RL E w NoF (enc .v t y) cs (fun _ => 0) ∧ ∀ c ∈ enc .v t y, Good c) {b o : Nat} (hW : E.P.cellsOf (E.eid t) = t.width) :
    ∀ len, (∀ i, i < len → ∃ cs x, w.cells? 0 ((⟨b, o, none⟩ : Addr).add (i * E.P.cellsOf (E.eid t))) (E.P.cellsOf (E.eid t)) = some cs ∧ DataW.trod enc' E.P w 0 spare true N (E.eid t) cs = some x) →
    ∃ (xs : List (El t)) (vals : List Value), xs.length = len ∧ vals.length = len * t.width ∧ RL E w NoF (encRows .v t xs) vals (fun _ => 0) ∧ w.rangeAt b o vals ∧ ∀ x ∈ xs, ∀ c ∈ enc .v t x, Good c
  | 0, _ => ⟨[], [], rfl, by simp, RL.nil (fun _ => 0) fun _ => rfl, fun j v h => by simp at h, fun x hx => by cases hx⟩
  | len + 1, h => by
    obtain ⟨xs, vals, h1, h2, h3, h4, h5⟩ := rows_open hel hW len fun i hi => h i (by omega)
    obtain ⟨cs, x, k1, k2⟩ := h len (Nat.lt_succ_self _)
    obtain ⟨y, j1, j2⟩ := hel cs x k2
    obtain ⟨_, hl, hc⟩ := World.cells?_some k1
    rw [hW] at hl hc
    refine ⟨xs ++ [y], vals ++ cs, by simp [h1], by rw [List.length_append, h2, hl]; exact (Nat.succ_mul _ _).symm, ?_, fun j v hj => ?_, fun x hx => ?_⟩
    · rw [encRows_append]
      refine RL.append h3 (φ' := fun _ => 0) ?_ (fun b => rfl)
      simpa [encRows] using j1
    · by_cases hlt : j < vals.length
      · rw [List.getElem?_append_left hlt] at hj
        exact h4 j v hj
      · rw [List.getElem?_append_right (by omega)] at hj
        have hjl : j - vals.length < t.width := by rw [← hl]; exact (List.getElem?_eq_some_iff.1 hj).1
        have := hc (j - vals.length) hjl
        rw [Addr.add_mid, Addr.add_mid, hj] at this
        rw [← this]
        congr 2
        omega
    · rcases List.mem_append.1 hx with hx | hx
      · exact h5 x hx
      · rw [List.mem_singleton] at hx; subst hx; exact j2
theorem cell_open [CodingOk] {code : TypeId → Option TC} {kinds : TC → List Kd} {d : Nat} (hk : KindsOk E code kinds d) {F : Nat} (ih : ∀ N, N < F → ∀ t cs x, DataW.trod enc' E.P w 0 spare true N (E.eid t) cs = some x → ∃ y : El t, RL E w NoF (enc .v t y) cs (fun _ => 0) ∧ ∀ c ∈ enc .v t y, Good c) {k : Kd} {v : Value} (h : CellOk enc' E.P w spare E.eid F k v) :
    ∃ a, KindOk k a ∧ RL E w NoF [a] [v] (fun _ => 0) ∧ Good a := by
  cases k with
  | i k => obtain ⟨n, rfl, hw⟩ := h; exact ⟨.i k n, ⟨n, rfl⟩, .scal _ _ _ _ _ rfl (.nil _ fun _ => rfl), .i _ _ hw⟩
  | b => obtain ⟨q, rfl⟩ := h; exact ⟨.b q, ⟨q, rfl⟩, .scal _ _ _ _ _ rfl (.nil _ fun _ => rfl), .b _⟩
  | s =>
    obtain ⟨s, rfl, hs⟩ := h
    refine ⟨.s s.data.toList, ⟨_, rfl⟩, .scal _ _ _ _ _ ?_ (.nil _ fun _ => rfl), .s _ ?_⟩
    · show Value.string s = .string ⟨s.data.toList.toArray⟩
      simp
    · rw [Array.length_toList]; exact hs
  | sl t =>
    rcases h with rfl | ⟨a, len, cap, N, rfl, hl, hm, hN, hel⟩
    · exact ⟨.sl .v t [], ⟨_, rfl⟩, .view t [] none 0 0 [] (fun _ => 0) _ _ _ ⟨rfl, Nat.le_refl _⟩ (.nil _ fun _ => rfl) (fun _ => rfl) (fun hp => by omega) (.nil _ fun _ => rfl), .sl _ _ (Nat.zero_le _) (fun x hx => by cases hx)⟩
    · cases len with
      | zero => exact ⟨.sl .v t [], ⟨_, rfl⟩, .view t [] (some a) 0 cap [] (fun _ => 0) _ _ _ ⟨rfl, hl⟩ (.nil _ fun _ => rfl) (fun _ => rfl) (fun hp => by omega) (.nil _ fun _ => rfl), .sl _ _ (Nat.zero_le _) (fun x hx => by cases hx)⟩
      | succ len =>
        have hW := hk.cells t
        have hpos : 0 < t.width := CodingOk.pos t
        obtain ⟨cs0, x0, k1, _⟩ := hel 0 (Nat.succ_pos _)
        obtain ⟨_, hl0, hc0⟩ := World.cells?_some k1
        have hcell := hc0 0 (by rw [hW]; exact hpos)
        rw [List.getElem?_eq_getElem (by rw [hl0, hW]; exact hpos)] at hcell
        have ha : a.spot = none := by
          have h0 : (a.add (0 * E.P.cellsOf (E.eid t))).add 0 = a := by simp [Addr.add]
          rw [h0] at hcell
          unfold World.cell? at hcell
          split at hcell
          · cases hs : a.spot with
            | none => rfl
            | some q => simp [hs] at hcell
          · cases hcell
        obtain ⟨b, o, sp⟩ := a
        simp only at ha
        subst ha
        have hb : b < w.heap.size := World.cells?_block k1 (by rw [hW]; exact hpos) |> fun h => by simpa [Addr.add] using h
        obtain ⟨xs, vals, e1, e2, e3, e4, e5⟩ := rows_open (ih N hN t) hW (len + 1) hel
        refine ⟨.sl .v t xs, ⟨_, rfl⟩, ?_, .sl _ _ (by omega) e5⟩
        exact .view t xs (some ⟨b, o, none⟩) (len + 1) cap vals (fun _ => 0) _ _ _ ⟨e1.symm, hl⟩ e3 (fun _ => rfl) (fun _ => ⟨b, o, rfl, e4, hb, fun h => h⟩) (.nil _ fun _ => rfl)
theorem cells_open [CodingOk] {code : TypeId → Option TC} {kinds : TC → List Kd} {d : Nat} (hk : KindsOk E code kinds d) {F : Nat} (ih : ∀ N, N < F → ∀ t cs x, DataW.trod enc' E.P w 0 spare true N (E.eid t) cs = some x → ∃ y : El t, RL E w NoF (enc .v t y) cs (fun _ => 0) ∧ ∀ c ∈ enc .v t y, Good c) :
    ∀ {ks : List Kd} {vs : List Value}, CellsOk enc' E.P w spare E.eid F ks vs → ∃ l, Kinded ks l ∧ RL E w NoF l vs (fun _ => 0) ∧ ∀ c ∈ l, Good c
  | [], [], _ => ⟨[], trivial, .nil _ fun _ => rfl, fun c hc => by cases hc⟩
  | k :: ks, v :: vs, h => by
    obtain ⟨a, h1, h2, h3⟩ := cell_open hk ih h.1
    obtain ⟨l, k1, k2, k3⟩ := cells_open hk ih h.2
    refine ⟨a :: l, ⟨h1, k1⟩, RL.cons h2 k2 (fun b => rfl), fun c hc => ?_⟩
    rcases List.mem_cons.1 hc with rfl | hc
    · exact h3
    · exact k3 c hc
  | [], _ :: _, h => h.elim
  | _ :: _, [], h => h.elim
theorem el_open [CodingOk] {code : TypeId → Option TC} {kinds : TC → List Kd} {d : Nat} (hk : KindsOk E code kinds d) : ∀ (F : Nat) (t : TC) (cs : List Value) (x : DataW H × List MemPlace), DataW.trod enc' E.P w 0 spare true F (E.eid t) cs = some x →
    ∃ y : El t, RL E w NoF (enc .v t y) cs (fun _ => 0) ∧ ∀ c ∈ enc .v t y, Good c := by
  intro F
  induction F using Nat.strongRecOn with
  | _ F ih =>
    intro t cs x h
    have h1 := trod_kds hk.codeOk d F _ _ _ _ (hk.kdsOk t) h
    obtain ⟨l, h2, h3, h4⟩ := cells_open hk ih h1
    obtain ⟨y, hy⟩ := hk.dec t l h2
    have h5 := CodingOk.dec .v t l y hy
    have h6 := sims_kinded h2 h5
    exact ⟨y, by rw [h6]; exact h3, by rw [h6]; exact h4⟩
/-- an argument of any of the types -/
theorem arg_open [CodingOk] {code : TypeId → Option TC} {kinds : TC → List Kd} {d : Nat} (hk : KindsOk E code kinds d) {T : TypeId} {ks : List Kd} (hT : kds E.P code d T = some ks) {v : Value} {dd : DataW H} {ps : List MemPlace} (h : DataW.Trod enc' E.P w 0 spare true T v dd ps) :
    ∃ l, Kinded ks l ∧ RL E w NoF l v.cells.toList (fun _ => 0) ∧ ∀ c ∈ l, Good c := by
  obtain ⟨F, hF⟩ := h
  exact cells_open hk (fun N _ => el_open hk N) (trod_kds hk.codeOk d F T ks _ _ hT hF)
end Go.Pi
end
section
set_option linter.unusedVariables false
namespace Go.Pi
open Go.RowKit
variable [Coding]
open Coding
omit [Coding] in
theorem kinded_cons {k : Kd} {ks : List Kd} {l : List AV} (h : Kinded (k :: ks) l) : ∃ a l', l = a :: l' ∧ KindOk k a ∧ Kinded ks l' := by
  cases l with
  | nil => exact h.elim
  | cons a l => exact ⟨a, l, rfl, h.1, h.2⟩
omit [Coding] in
theorem kinded_nil {l : List AV} (h : Kinded [] l) : l = [] := by
  cases l with
  | nil => rfl
  | cons a l => exact h.elim
def codeL (eid : TC → TypeId) : List TC → TypeId → Option TC
  | [], _ => none
  | t :: ts, e => cond (Nat.beq (eid t) e) (some t) (codeL eid ts e)
omit [Coding] in
theorem codeL_ok {eid : TC → TypeId} {e : TypeId} {t : TC} : ∀ ts, codeL eid ts e = some t → eid t = e
  | [], h => by cases h
  | u :: ts, h => by
    simp only [codeL] at h
    cases hb : Nat.beq (eid u) e with
    | true => rw [hb] at h; cases h; exact beq_iff.1 hb
    | false => rw [hb] at h; exact codeL_ok ts h
/-- a law that answers true -/
theorem law_true [CodingOk] {E : Env} {f : FuncId} {avs : List AV} {outs : List AV} {ps : List PS} (h : CallOk E f avs (.b true) outs ps) {w : World} {Vs : List Value} (hr : RL E w NoF avs Vs (fun _ => 0)) :
    Calls E.P f Vs.toArray w fun e W' => e = .returned (.bool true) ∧ Below w.heap.size w W' := by
  refine (h w NoF Vs _ hr (fun _ => Nat.zero_le _) (fun b hb => hb.elim)).mono fun e W' ⟨V, φ', he, h1, _, _, e1, e2, e3, e4, e5⟩ => ⟨?_, e1, e2, e3, e4, fun k hk => e5 k hk rfl⟩
  cases h1 with
  | scal a v l vs φ hs _ => rw [he, show V = .bool true from hs]
theorem ag_open {E : Env} {w : World} {l : List AV} {cs : Array Value} (h : RL E w NoF l (Value.agg cs).cells.toList (fun _ => 0)) {l' : List AV} {vs : List Value} (h' : RL E w NoF l' vs (fun _ => 0)) :
    RL E w NoF (.ag l :: l') (.agg cs :: vs) (fun _ => 0) := by
  have := RL.ag (E := E) (w := w) (F := NoF) l cs.toList (fun _ => 0) l' vs (fun _ => 0) (fun _ => 0) h h' (fun b => rfl)
  simpa using this
end Go.Pi
end
section
set_option linter.unusedVariables false
/-! What the functions compute, for all sizes of fuel that are large enough. -/
namespace Go.Pi
section
variable {α β : Type}
def Ev (f : Nat → Nat → Option α) (v : α) : Prop := ∃ M, ∀ n N, M ≤ n → M ≤ N → f n N = some v
theorem ev_some {v w : α} : Ev (fun _ _ => some v) w ↔ v = w :=
  ⟨fun ⟨M, h⟩ => Option.some.inj (h M M (Nat.le_refl _) (Nat.le_refl _)), fun h => ⟨0, fun _ _ _ _ => by rw [h]⟩⟩
theorem ev_iff {f : Nat → Nat → Option α} {v w : α} (h : Ev f v) : Ev f w ↔ v = w := by
  constructor
  · rintro ⟨M', h'⟩
    obtain ⟨M, h⟩ := h
    have a := h (max M M') (max M M') (by omega) (by omega)
    have b := h' (max M M') (max M M') (by omega) (by omega)
    rw [a] at b
    exact Option.some.inj b
  · rintro rfl; exact h
theorem ev_bind {f : Nat → Nat → Option α} {a : α} (h : Ev f a) {g : Nat → Nat → α → Option β} {v : β} : Ev (fun n N => (f n N).bind (g n N)) v ↔ Ev (fun n N => g n N a) v := by
  obtain ⟨M, h⟩ := h
  constructor
  · rintro ⟨M', h'⟩
    refine ⟨max M M', fun n N h1 h2 => ?_⟩
    have := h' n N (by omega) (by omega)
    simp only [h n N (by omega) (by omega), Option.bind_some] at this
    exact this
  · rintro ⟨M', h'⟩
    refine ⟨max M M', fun n N h1 h2 => ?_⟩
    simp only [h n N (by omega) (by omega), Option.bind_some]
    exact h' n N (by omega) (by omega)
theorem ev_none {v : α} : Ev (fun _ _ => none) v ↔ False := by
  simp only [iff_false]
  rintro ⟨M, h⟩
  cases h M M (Nat.le_refl _) (Nat.le_refl _)
theorem ev_cond {c : Bool} {f g : Nat → Nat → Option α} {v : α} : Ev (fun n N => cond c (f n N) (g n N)) v ↔ (c = true → Ev f v) ∧ (c = false → Ev g v) := by
  cases c <;> simp
theorem ev_inB {i : Int} {len : Nat} {f : Nat → Nat → Option α} {v : α} : Ev (fun n N => inB i len (f n N)) v ↔ (0 ≤ i ∧ i < (len : Int)) ∧ Ev f v := by
  unfold inB
  rw [ev_cond, ev_cond]
  by_cases h1 : 0 ≤ i <;> by_cases h2 : i < (len : Int) <;> simp [h1, h2, ev_none]
theorem ev_succ {f : Nat → Nat → Option α} {v : α} (h : Ev (fun n N => f (n + 1) N) v) : Ev f v := by
  obtain ⟨M, h⟩ := h
  refine ⟨M + 1, fun n N h1 h2 => ?_⟩
  obtain ⟨m, rfl⟩ : ∃ m, n = m + 1 := ⟨n - 1, by omega⟩
  exact h m N (by omega) (by omega)
theorem ev_diag {f : Nat → Nat → Option α} {v : α} (h : Ev f v) : Ev (fun n _ => f n n) v := by
  obtain ⟨M, h⟩ := h
  exact ⟨M, fun n N h1 h2 => h n n h1 h1⟩
theorem ev_round {f : Nat → Nat → Option α} {v : α} (h : Ev (fun n N => f n (N + 1)) v) : Ev f v := by
  obtain ⟨M, h⟩ := h
  refine ⟨M + 1, fun n N h1 h2 => ?_⟩
  obtain ⟨m, rfl⟩ : ∃ m, N = m + 1 := ⟨N - 1, by omega⟩
  exact h n m (by omega) (by omega)
theorem ev_ex {f : Nat → Option α} {v : α} (h : Ev (fun n _ => f n) v) : ∃ n, f n = some v := by
  obtain ⟨M, h⟩ := h
  exact ⟨M, h M M (Nat.le_refl _) (Nat.le_refl _)⟩
/-- a loop that counts up to an end -/
theorem ev_up {σ : Type} (L : Nat → Nat → Nat → σ → Option α) (F : Nat → σ → α) (I : Nat → σ → Prop) (len : Nat)
    (h : ∀ i s, I i s → i ≤ len → (∀ s', I (i + 1) s' → i < len → Ev (fun n N => L n N (i + 1) s') (F (i + 1) s')) → Ev (fun n N => L n (N + 1) i s) (F i s)) :
    ∀ s, I 0 s → Ev (fun n _ => L n n 0 s) (F 0 s) := by
  have key : ∀ d i s, d + i = len → I i s → Ev (fun n N => L n N i s) (F i s) := by
    intro d
    induction d with
    | zero => exact fun i s hd hI => ev_round (h i s hI (by omega) fun s' _ hl => absurd hl (by omega))
    | succ d ih => exact fun i s hd hI => ev_round (h i s hI (by omega) fun s' hI' _ => ih (i + 1) s' (by omega) hI')
  exact fun s hI => ev_diag (f := fun n N => L n N 0 s) (key len 0 s (by omega) hI)
/-- a loop of which only the number moves -/
theorem ev_up1 (L : Nat → Nat → Nat → Option α) (F : Nat → α) (len : Nat)
    (h : ∀ i, i ≤ len → (i < len → Ev (fun n N => L n N (i + 1)) (F (i + 1))) → Ev (fun n N => L n (N + 1) i) (F i)) :
    Ev (fun n _ => L n n 0) (F 0) :=
  ev_up (σ := Unit) (fun n N i _ => L n N i) (fun i _ => F i) (fun _ _ => True) len (fun i s _ hi k => h i hi fun hl => k () trivial hl) () trivial
end
/-- the most that a list holds -/
abbrev topN : Nat := 9223372036854775807
theorem W_id {n : Int} (h : -9223372036854775808 ≤ n) (h' : n < 9223372036854775808) : W n = n := by
  show IntKind.i64.wrap n = n
  rw [IntKind.wrap_i64]; omega
theorem W_up {i : Nat} {len : Nat} (h : i < len) (hl : len ≤ topN) : W ((i : Int) + 1) = ((i + 1 : Nat) : Int) := by
  rw [W_id (by omega) (by simp only [topN] at hl; omega)]; omega
theorem drop_step {α : Type} (d : α) {a : List α} {i : Nat} (h : i < a.length) : a.drop i = a.getD i d :: a.drop (i + 1) := by
  rw [List.drop_eq_getElem_cons h, List.getD_eq_getElem?_getD, List.getElem?_eq_getElem h]; rfl
theorem drop_end {α : Type} {a : List α} {i : Nat} (h : a.length ≤ i) : a.drop i = [] := List.drop_eq_nil_of_le h
theorem getD_mem {α : Type} (d : α) {a : List α} {i : Nat} (h : i < a.length) : a.getD i d ∈ a := by
  rw [List.getD_eq_getElem?_getD, List.getElem?_eq_getElem h]; exact List.getElem_mem h
end Go.Pi
end
section
set_option linter.unusedVariables false
set_option maxRecDepth 100000
namespace Go.Pi
abbrev cap : Nat := 1048576
def lenQ (c : Nat) (q : TQuery) : Prop := q.where_.length ≤ c ∧ q.show_.length ≤ c
def lenR (c : Nat) (r : List TRow) : Prop := r.length ≤ c ∧ ∀ x ∈ r, x.cells.length ≤ c
def lenV (c : Nat) (v : TView) : Prop := lenQ c v.q ∧ lenR c v.rows ∧ v.kids.length ≤ c
def lenS (c : Nat) (s : TSess) : Prop := lenV c s.view ∧ lenV c s.last
/-- what is left of a size -/
def Left (f : Nat → Option Int) (left : Int) (P : Prop) : Prop := ∃ r, Ev (fun n _ => f n) r ∧ r ≤ left ∧ (0 ≤ r → P)
def Sz (left : Int) : Prop := 0 ≤ left ∧ left ≤ 1048576
theorem szIntS_ev {a : List Int} {left : Int} (ha : a.length ≤ topN) (hl : Sz left) : Left (fun n => laws_szIntS n a left) left (a.length ≤ cap) := by
  obtain ⟨h0, h1⟩ := hl
  simp only [topN] at ha
  refine ⟨if left < a.length then -1 else left - a.length, ev_succ ?_, by split <;> omega, by split <;> simp only [cap] <;> omega⟩
  simp only [laws_szIntS]
  rw [W_id (by omega) (by omega)]
  simp only [ev_cond, ev_some, decide_eq_true_eq, decide_eq_false_iff_not]
  constructor <;> intro h <;> split <;> omega
theorem szCondS_ev {a : List TCond} {left : Int} (ha : a.length ≤ topN) (hl : Sz left) : Left (fun n => laws_szCondS n a left) left (a.length ≤ cap) := by
  obtain ⟨h0, h1⟩ := hl
  simp only [topN] at ha
  refine ⟨if left < a.length then -1 else left - a.length, ev_succ ?_, by split <;> omega, by split <;> simp only [cap] <;> omega⟩
  simp only [laws_szCondS]
  rw [W_id (by omega) (by omega)]
  simp only [ev_cond, ev_some, decide_eq_true_eq, decide_eq_false_iff_not]
  constructor <;> intro h <;> split <;> omega
theorem szKidS_ev {a : List TKid} {left : Int} (ha : a.length ≤ topN) (hl : Sz left) : Left (fun n => laws_szKidS n a left) left (a.length ≤ cap) := by
  obtain ⟨h0, h1⟩ := hl
  simp only [topN] at ha
  refine ⟨if left < a.length then -1 else left - a.length, ev_succ ?_, by split <;> omega, by split <;> simp only [cap] <;> omega⟩
  simp only [laws_szKidS]
  rw [W_id (by omega) (by omega)]
  simp only [ev_cond, ev_some, decide_eq_true_eq, decide_eq_false_iff_not]
  constructor <;> intro h <;> split <;> omega
/-- one size behind another -/
theorem Left.bind {f : Nat → Option Int} {g : Nat → Int → Option Int} {left : Int} {P Q : Prop} (h : Left f left P) (hl : Sz left) (k : ∀ r, P → Sz r → Left (fun n => g n r) r Q) :
    Left (fun n => (f n).bind fun x => cond (decide (x < 0)) (some (-1)) (g n x)) left (P ∧ Q) := by
  obtain ⟨r, e, h1, h2⟩ := h
  by_cases hr : r < 0
  · refine ⟨-1, ?_, by have := hl.1; omega, fun h => absurd h (by omega)⟩
    rw [ev_bind e, ev_cond]
    simp [hr, ev_some]
  · obtain ⟨r', e', h1', h2'⟩ := k r (h2 (by omega)) ⟨by omega, by have := hl.2; omega⟩
    refine ⟨r', ?_, by omega, fun h => ⟨h2 (by omega), h2' h⟩⟩
    rw [ev_bind e, ev_cond]
    simp [hr, e']
theorem Left.done {r : Int} : Left (fun _ => some r) r True := ⟨r, ev_some.2 rfl, Int.le_refl _, fun _ => trivial⟩
theorem Left.mono {f : Nat → Option Int} {left : Int} {P Q : Prop} (h : Left f left P) (k : P → Q) : Left f left Q := by
  obtain ⟨r, e, h1, h2⟩ := h
  exact ⟨r, e, h1, fun h => k (h2 h)⟩
theorem Left.succ {f : Nat → Option Int} {left : Int} {P : Prop} (h : Left (fun n => f (n + 1)) left P) : Left f left P := by
  obtain ⟨r, e, h1, h2⟩ := h
  exact ⟨r, ev_succ e, h1, h2⟩
theorem szSchema_ev {a : TSchema} {left : Int} (ha : a.cols.length ≤ topN) (hl : Sz left) : Left (fun n => laws_szSchema n a left) left (a.cols.length ≤ cap) :=
  .succ ((Left.bind (szIntS_ev ha hl) hl fun r _ h => .done).mono fun h => h.1)
theorem szQuery_ev {a : TQuery} {left : Int} (ha : lenQ topN a) (hl : Sz left) : Left (fun n => laws_szQuery n a left) left (lenQ cap a) :=
  .succ ((Left.bind (szCondS_ev ha.1 hl) hl fun r _ h => Left.bind (szIntS_ev ha.2 h) h fun r _ h => .done).mono fun h => ⟨h.1, h.2.1⟩)
theorem szRow_ev {a : TRow} {left : Int} (ha : a.cells.length ≤ topN) (hl : Sz left) : Left (fun n => laws_szRow n a left) left (a.cells.length ≤ cap) :=
  .succ ((Left.bind (szIntS_ev ha hl) hl fun r _ h => .done).mono fun h => h.1)
theorem szRowS_ev {a : List TRow} {left : Int} (ha : lenR topN a) (hl : Sz left) : Left (fun n => laws_szRowS n a left) left (lenR cap a) := by
  obtain ⟨h0, h1⟩ := hl
  obtain ⟨ha1, ha2⟩ := ha
  have hW : W (left - (a.length : Int)) = left - a.length := W_id (by simp only [topN] at ha1; omega) (by omega)
  by_cases hn : left - (a.length : Int) < 0
  · refine ⟨-1, ev_succ ?_, by omega, fun h => absurd h (by omega)⟩
    simp only [laws_szRowS, hW, ev_cond, ev_some]
    simp [hn]
  · suffices hs : ∀ d i (l : Int), d + i = a.length → Sz l → ∃ r, Ev (fun n N => laws_szRowS.loop7 n (fun x => some x) N a l (i : Int)) r ∧ r ≤ l ∧ (0 ≤ r → ∀ j, i ≤ j → j < a.length → (a.getD j TRow.dflt).cells.length ≤ cap) by
      obtain ⟨r, e, k1, k2⟩ := hs a.length 0 (left - a.length) (by omega) ⟨by omega, by omega⟩
      refine ⟨r, ev_succ ?_, by omega, fun h => ⟨by simp only [cap]; omega, fun x hx => ?_⟩⟩
      · simp only [laws_szRowS, hW, ev_cond]
        exact ⟨fun h => absurd (of_decide_eq_true h) hn, fun _ => ev_diag (f := fun n N => laws_szRowS.loop7 n (fun x => some x) N a (left - (a.length : Int)) 0) e⟩
      · obtain ⟨j, hj, rfl⟩ := List.getElem_of_mem hx
        have := k2 h j (Nat.zero_le _) hj
        rwa [List.getD_eq_getElem?_getD, List.getElem?_eq_getElem hj] at this
    intro d
    induction d with
    | zero =>
      intro i l hd hl
      refine ⟨l, ev_round ?_, Int.le_refl _, fun _ j h1 h2 => absurd h2 (by omega)⟩
      show Ev (fun n N => laws_szRowS.step7 n (fun x => some x) (laws_szRowS.loop7 n (fun x => some x) N) a l i) l
      simp only [laws_szRowS.step7, ev_cond, ev_some]
      exact ⟨fun h => absurd (of_decide_eq_true h) (by omega), fun _ => trivial⟩
    | succ d ih =>
      intro i l hd hl
      have hi : i < a.length := by omega
      obtain ⟨r1, e1, b1, c1⟩ := szRow_ev (ha2 _ (getD_mem TRow.dflt hi)) hl
      by_cases hr : r1 < 0
      · refine ⟨-1, ev_round ?_, by have := hl.1; omega, fun h => absurd h (by omega)⟩
        show Ev (fun n N => laws_szRowS.step7 n (fun x => some x) (laws_szRowS.loop7 n (fun x => some x) N) a l i) _
        simp only [laws_szRowS.step7, Int.toNat_natCast, ev_cond, ev_inB, ev_bind e1, ev_some]
        simp [hr]; omega
      · obtain ⟨r2, e2, b2, c2⟩ := ih (i + 1) r1 (by omega) ⟨by omega, by have := hl.2; omega⟩
        refine ⟨r2, ev_round ?_, by omega, fun h j h1 h2 => ?_⟩
        · show Ev (fun n N => laws_szRowS.step7 n (fun x => some x) (laws_szRowS.loop7 n (fun x => some x) N) a l i) _
          simp only [laws_szRowS.step7, Int.toNat_natCast, ev_cond, ev_inB, ev_bind e1, ev_some, W_up hi ha1]
          exact ⟨fun _ => ⟨⟨by omega, by omega⟩, fun h => absurd (of_decide_eq_true h) hr, fun _ => e2⟩, fun h => absurd hi (by simpa using h)⟩
        · by_cases hj : j = i
          · subst hj; exact c1 (by omega)
          · exact c2 h j (by omega) h2
theorem szView_ev {a : TView} {left : Int} (ha : lenV topN a) (hl : Sz left) : Left (fun n => laws_szView n a left) left (lenV cap a) :=
  .succ ((Left.bind (szQuery_ev ha.1 hl) hl fun r _ h => Left.bind (szRowS_ev ha.2.1 h) h fun r _ h => Left.bind (szKidS_ev ha.2.2 h) h fun r _ h => .done).mono fun h => ⟨h.1, h.2.1, h.2.2.1⟩)
theorem szSess_ev {a : TSess} {left : Int} (ha : lenS topN a) (hl : Sz left) : Left (fun n => laws_szSess n a left) left (lenS cap a) :=
  .succ ((Left.bind (szView_ev ha.1 hl) hl fun r _ h => Left.bind (szView_ev ha.2 h) h fun r _ h => .done).mono fun h => ⟨h.1, h.2.1⟩)
end Go.Pi
end
section
set_option linter.unusedVariables false
set_option maxRecDepth 100000
namespace Go.Pi
abbrev laws_szRowS.K7 : Type := Int → Option Int
theorem laws_szRowS.turn7 {n N : Nat} {k : Int → Option Int} {x0 x1 x2} : laws_szRowS.loop7 n k (N + 1) x0 x1 x2 = laws_szRowS.step7 n k (laws_szRowS.loop7 n k N) x0 x1 x2 := rfl
abbrev laws_toIntS.K4 : Type := (List Int) → Option (List Int)
theorem laws_toIntS.turn4 {n N : Nat} {k : (List Int) → Option (List Int)} {x0 x1 x2} : laws_toIntS.loop4 n k (N + 1) x0 x1 x2 = laws_toIntS.step4 n k (laws_toIntS.loop4 n k N) x0 x1 x2 := rfl
abbrev laws_toCondS.K4 : Type := (List TCond) → Option (List TCond)
theorem laws_toCondS.turn4 {n N : Nat} {k : (List TCond) → Option (List TCond)} {x0 x1 x2} : laws_toCondS.loop4 n k (N + 1) x0 x1 x2 = laws_toCondS.step4 n k (laws_toCondS.loop4 n k N) x0 x1 x2 := rfl
abbrev laws_toRowS.K4 : Type := (List TRow) → Option (List TRow)
theorem laws_toRowS.turn4 {n N : Nat} {k : (List TRow) → Option (List TRow)} {x0 x1 x2} : laws_toRowS.loop4 n k (N + 1) x0 x1 x2 = laws_toRowS.step4 n k (laws_toRowS.loop4 n k N) x0 x1 x2 := rfl
abbrev laws_toKidS.K4 : Type := (List TKid) → Option (List TKid)
theorem laws_toKidS.turn4 {n N : Nat} {k : (List TKid) → Option (List TKid)} {x0 x1 x2} : laws_toKidS.loop4 n k (N + 1) x0 x1 x2 = laws_toKidS.step4 n k (laws_toKidS.loop4 n k N) x0 x1 x2 := rfl
abbrev spec_SchemaOk.K3 : Type := (List Int) → Option Bool
theorem spec_SchemaOk.turn3 {n N : Nat} {k : (List Int) → Option Bool} {x0 x1} : spec_SchemaOk.loop3 n k (N + 1) x0 x1 = spec_SchemaOk.step3 n k (spec_SchemaOk.loop3 n k N) x0 x1 := rfl
abbrev spec_QueryOk.K7 : Type := Int → (List Int) → Int → (List TCond) → Int → Bool → Int → (List Int) → Bool → Int → Int → Option Bool
theorem spec_QueryOk.turn7 {n N : Nat} {k : Int → (List Int) → Int → (List TCond) → Int → Bool → Int → (List Int) → Bool → Int → Int → Option Bool} {x0 x1 x2 x3 x4 x5 x6 x7 x8 x9 x10 x11} : spec_QueryOk.loop7 n k (N + 1) x0 x1 x2 x3 x4 x5 x6 x7 x8 x9 x10 x11 = spec_QueryOk.step7 n k (spec_QueryOk.loop7 n k N) x0 x1 x2 x3 x4 x5 x6 x7 x8 x9 x10 x11 := rfl
abbrev spec_QueryOk.K16 : Type := Int → (List Int) → Int → (List TCond) → Int → Bool → Int → (List Int) → Bool → Int → Int → Option Bool
theorem spec_QueryOk.turn16 {n N : Nat} {k : Int → (List Int) → Int → (List TCond) → Int → Bool → Int → (List Int) → Bool → Int → Int → Option Bool} {x0 x1 x2 x3 x4 x5 x6 x7 x8 x9 x10 x11} : spec_QueryOk.loop16 n k (N + 1) x0 x1 x2 x3 x4 x5 x6 x7 x8 x9 x10 x11 = spec_QueryOk.step16 n k (spec_QueryOk.loop16 n k N) x0 x1 x2 x3 x4 x5 x6 x7 x8 x9 x10 x11 := rfl
abbrev spec_RowOk.K6 : Type := Unit → Option Bool
theorem spec_RowOk.turn6 {n N : Nat} {k : Unit → Option Bool} {x0 x1 x2} : spec_RowOk.loop6 n k (N + 1) x0 x1 x2 = spec_RowOk.step6 n k (spec_RowOk.loop6 n k N) x0 x1 x2 := rfl
abbrev spec_Matches.K3 : Type := Unit → Option Bool
theorem spec_Matches.turn3 {n N : Nat} {k : Unit → Option Bool} {x0 x1 x2 x3 x4 x5 x6 x7 x8 x9 x10 x11} : spec_Matches.loop3 n k (N + 1) x0 x1 x2 x3 x4 x5 x6 x7 x8 x9 x10 x11 = spec_Matches.step3 n k (spec_Matches.loop3 n k N) x0 x1 x2 x3 x4 x5 x6 x7 x8 x9 x10 x11 := rfl
abbrev spec_RowAt.K3 : Type := Unit → Option Int
theorem spec_RowAt.turn3 {n N : Nat} {k : Unit → Option Int} {x0 x1 x2} : spec_RowAt.loop3 n k (N + 1) x0 x1 x2 = spec_RowAt.step3 n k (spec_RowAt.loop3 n k N) x0 x1 x2 := rfl
abbrev spec_ViewOk.K6 : Type := Int → (List TCond) → Int → Bool → Int → (List Int) → Bool → Int → Int → (List TRow) → (List TKid) → Option Bool
theorem spec_ViewOk.turn6 {n N : Nat} {k : Int → (List TCond) → Int → Bool → Int → (List Int) → Bool → Int → Int → (List TRow) → (List TKid) → Option Bool} {x0 x1 x2 x3 x4 x5 x6 x7 x8 x9 x10 x11 x12} : spec_ViewOk.loop6 n k (N + 1) x0 x1 x2 x3 x4 x5 x6 x7 x8 x9 x10 x11 x12 = spec_ViewOk.step6 n k (spec_ViewOk.loop6 n k N) x0 x1 x2 x3 x4 x5 x6 x7 x8 x9 x10 x11 x12 := rfl
abbrev spec_ViewOk.K15 : Type := Int → (List TCond) → Int → Bool → Int → (List Int) → Bool → Int → Int → (List TRow) → (List TKid) → Option Bool
theorem spec_ViewOk.turn15 {n N : Nat} {k : Int → (List TCond) → Int → Bool → Int → (List Int) → Bool → Int → Int → (List TRow) → (List TKid) → Option Bool} {x0 x1 x2 x3 x4 x5 x6 x7 x8 x9 x10 x11} : spec_ViewOk.loop15 n k (N + 1) x0 x1 x2 x3 x4 x5 x6 x7 x8 x9 x10 x11 = spec_ViewOk.step15 n k (spec_ViewOk.loop15 n k N) x0 x1 x2 x3 x4 x5 x6 x7 x8 x9 x10 x11 := rfl
abbrev spec_l9Conds.K3 : Type := (List TCond) → (List TCond) → Option Bool
theorem spec_l9Conds.turn3 {n N : Nat} {k : (List TCond) → (List TCond) → Option Bool} {x0 x1 x2} : spec_l9Conds.loop3 n k (N + 1) x0 x1 x2 = spec_l9Conds.step3 n k (spec_l9Conds.loop3 n k N) x0 x1 x2 := rfl
abbrev spec_l9Ints.K3 : Type := (List Int) → (List Int) → Option Bool
theorem spec_l9Ints.turn3 {n N : Nat} {k : (List Int) → (List Int) → Option Bool} {x0 x1 x2} : spec_l9Ints.loop3 n k (N + 1) x0 x1 x2 = spec_l9Ints.step3 n k (spec_l9Ints.loop3 n k N) x0 x1 x2 := rfl
abbrev spec_RowSame.K6 : Type := Unit → Option Bool
theorem spec_RowSame.turn6 {n N : Nat} {k : Unit → Option Bool} {x0 x1 x2 x3 x4} : spec_RowSame.loop6 n k (N + 1) x0 x1 x2 x3 x4 = spec_RowSame.step6 n k (spec_RowSame.loop6 n k N) x0 x1 x2 x3 x4 := rfl
abbrev spec_ViewSame.K6 : Type := Int → (List TCond) → Int → Bool → Int → (List Int) → Bool → Int → Int → (List TRow) → (List TKid) → Int → (List TCond) → Int → Bool → Int → (List Int) → Bool → Int → Int → (List TRow) → (List TKid) → Option Bool
theorem spec_ViewSame.turn6 {n N : Nat} {k : Int → (List TCond) → Int → Bool → Int → (List Int) → Bool → Int → Int → (List TRow) → (List TKid) → Int → (List TCond) → Int → Bool → Int → (List Int) → Bool → Int → Int → (List TRow) → (List TKid) → Option Bool} {x0 x1 x2 x3 x4 x5 x6 x7 x8 x9 x10 x11 x12 x13 x14 x15 x16 x17 x18 x19 x20 x21 x22} : spec_ViewSame.loop6 n k (N + 1) x0 x1 x2 x3 x4 x5 x6 x7 x8 x9 x10 x11 x12 x13 x14 x15 x16 x17 x18 x19 x20 x21 x22 = spec_ViewSame.step6 n k (spec_ViewSame.loop6 n k N) x0 x1 x2 x3 x4 x5 x6 x7 x8 x9 x10 x11 x12 x13 x14 x15 x16 x17 x18 x19 x20 x21 x22 := rfl
abbrev spec_ViewSame.K14 : Type := Unit → Option Bool
theorem spec_ViewSame.turn14 {n N : Nat} {k : Unit → Option Bool} {x0 x1 x2 x3 x4 x5 x6 x7 x8 x9 x10 x11 x12 x13 x14 x15 x16 x17 x18 x19 x20 x21 x22} : spec_ViewSame.loop14 n k (N + 1) x0 x1 x2 x3 x4 x5 x6 x7 x8 x9 x10 x11 x12 x13 x14 x15 x16 x17 x18 x19 x20 x21 x22 = spec_ViewSame.step14 n k (spec_ViewSame.loop14 n k N) x0 x1 x2 x3 x4 x5 x6 x7 x8 x9 x10 x11 x12 x13 x14 x15 x16 x17 x18 x19 x20 x21 x22 := rfl
abbrev impl_SchemaOk.K3 : Type := (List Int) → Option Bool
theorem impl_SchemaOk.turn3 {n N : Nat} {k : (List Int) → Option Bool} {x0 x1 x2 x3} : impl_SchemaOk.loop3 n k (N + 1) x0 x1 x2 x3 = impl_SchemaOk.step3 n k (impl_SchemaOk.loop3 n k N) x0 x1 x2 x3 := rfl
abbrev impl_QueryOk.K7 : Type := Int → (List Int) → Int → (List TCond) → Int → Bool → Int → (List Int) → Bool → Int → Int → Option Bool
theorem impl_QueryOk.turn7 {n N : Nat} {k : Int → (List Int) → Int → (List TCond) → Int → Bool → Int → (List Int) → Bool → Int → Int → Option Bool} {x0 x1 x2 x3 x4 x5 x6 x7 x8 x9 x10 x11 x12 x13} : impl_QueryOk.loop7 n k (N + 1) x0 x1 x2 x3 x4 x5 x6 x7 x8 x9 x10 x11 x12 x13 = impl_QueryOk.step7 n k (impl_QueryOk.loop7 n k N) x0 x1 x2 x3 x4 x5 x6 x7 x8 x9 x10 x11 x12 x13 := rfl
abbrev impl_QueryOk.K16 : Type := Int → (List Int) → Int → (List TCond) → Int → Bool → Int → (List Int) → Bool → Int → Int → Option Bool
theorem impl_QueryOk.turn16 {n N : Nat} {k : Int → (List Int) → Int → (List TCond) → Int → Bool → Int → (List Int) → Bool → Int → Int → Option Bool} {x0 x1 x2 x3 x4 x5 x6 x7 x8 x9 x10 x11 x12 x13} : impl_QueryOk.loop16 n k (N + 1) x0 x1 x2 x3 x4 x5 x6 x7 x8 x9 x10 x11 x12 x13 = impl_QueryOk.step16 n k (impl_QueryOk.loop16 n k N) x0 x1 x2 x3 x4 x5 x6 x7 x8 x9 x10 x11 x12 x13 := rfl
abbrev impl_RowOk.K3 : Type := Int → (List Int) → Int → (List Int) → Option Bool
theorem impl_RowOk.turn3 {n N : Nat} {k : Int → (List Int) → Int → (List Int) → Option Bool} {x0 x1 x2 x3 x4 x5 x6} : impl_RowOk.loop3 n k (N + 1) x0 x1 x2 x3 x4 x5 x6 = impl_RowOk.step3 n k (impl_RowOk.loop3 n k N) x0 x1 x2 x3 x4 x5 x6 := rfl
abbrev impl_Matches.K3 : Type := Unit → Option Bool
theorem impl_Matches.turn3 {n N : Nat} {k : Unit → Option Bool} {x0 x1 x2 x3 x4} : impl_Matches.loop3 n k (N + 1) x0 x1 x2 x3 x4 = impl_Matches.step3 n k (impl_Matches.loop3 n k N) x0 x1 x2 x3 x4 := rfl
abbrev slices_IndexFunc_Row_c153.K3 : Type := Unit → Option Int
theorem slices_IndexFunc_Row_c153.turn3 {n N : Nat} {k : Unit → Option Int} {x0 x1 x2 x3} : slices_IndexFunc_Row_c153.loop3 n k (N + 1) x0 x1 x2 x3 = slices_IndexFunc_Row_c153.step3 n k (slices_IndexFunc_Row_c153.loop3 n k N) x0 x1 x2 x3 := rfl
abbrev impl_ViewOk.K6 : Type := Int → (List TCond) → Int → Bool → Int → (List Int) → Bool → Int → Int → (List TRow) → (List TKid) → Option Bool
theorem impl_ViewOk.turn6 {n N : Nat} {k : Int → (List TCond) → Int → Bool → Int → (List Int) → Bool → Int → Int → (List TRow) → (List TKid) → Option Bool} {x0 x1 x2 x3 x4 x5 x6 x7 x8 x9 x10 x11 x12 x13 x14} : impl_ViewOk.loop6 n k (N + 1) x0 x1 x2 x3 x4 x5 x6 x7 x8 x9 x10 x11 x12 x13 x14 = impl_ViewOk.step6 n k (impl_ViewOk.loop6 n k N) x0 x1 x2 x3 x4 x5 x6 x7 x8 x9 x10 x11 x12 x13 x14 := rfl
abbrev impl_ViewOk.K15 : Type := Unit → Option Bool
theorem impl_ViewOk.turn15 {n N : Nat} {k : Unit → Option Bool} {x0 x1 x2 x3 x4 x5 x6 x7 x8 x9 x10 x11 x12 x13} : impl_ViewOk.loop15 n k (N + 1) x0 x1 x2 x3 x4 x5 x6 x7 x8 x9 x10 x11 x12 x13 = impl_ViewOk.step15 n k (impl_ViewOk.loop15 n k N) x0 x1 x2 x3 x4 x5 x6 x7 x8 x9 x10 x11 x12 x13 := rfl
abbrev slices_Equal_Cond.K6 : Type := Unit → Option Bool
theorem slices_Equal_Cond.turn6 {n N : Nat} {k : Unit → Option Bool} {x0 x1 x2 x3} : slices_Equal_Cond.loop6 n k (N + 1) x0 x1 x2 x3 = slices_Equal_Cond.step6 n k (slices_Equal_Cond.loop6 n k N) x0 x1 x2 x3 := rfl
abbrev slices_Equal_int.K6 : Type := Unit → Option Bool
theorem slices_Equal_int.turn6 {n N : Nat} {k : Unit → Option Bool} {x0 x1 x2 x3} : slices_Equal_int.loop6 n k (N + 1) x0 x1 x2 x3 = slices_Equal_int.step6 n k (slices_Equal_int.loop6 n k N) x0 x1 x2 x3 := rfl
abbrev slices_EqualFunc_Row_c102.K6 : Type := Unit → Option Bool
theorem slices_EqualFunc_Row_c102.turn6 {n N : Nat} {k : Unit → Option Bool} {x0 x1 x2 x3} : slices_EqualFunc_Row_c102.loop6 n k (N + 1) x0 x1 x2 x3 = slices_EqualFunc_Row_c102.step6 n k (slices_EqualFunc_Row_c102.loop6 n k N) x0 x1 x2 x3 := rfl
abbrev slices_Equal_Kid.K6 : Type := Unit → Option Bool
theorem slices_Equal_Kid.turn6 {n N : Nat} {k : Unit → Option Bool} {x0 x1 x2 x3} : slices_Equal_Kid.loop6 n k (N + 1) x0 x1 x2 x3 = slices_Equal_Kid.step6 n k (slices_Equal_Kid.loop6 n k N) x0 x1 x2 x3 := rfl
abbrev laws_eqIntS.K6 : Type := Unit → Option Bool
theorem laws_eqIntS.turn6 {n N : Nat} {k : Unit → Option Bool} {x0 x1 x2} : laws_eqIntS.loop6 n k (N + 1) x0 x1 x2 = laws_eqIntS.step6 n k (laws_eqIntS.loop6 n k N) x0 x1 x2 := rfl
abbrev laws_eqCondS.K6 : Type := Unit → Option Bool
theorem laws_eqCondS.turn6 {n N : Nat} {k : Unit → Option Bool} {x0 x1 x2} : laws_eqCondS.loop6 n k (N + 1) x0 x1 x2 = laws_eqCondS.step6 n k (laws_eqCondS.loop6 n k N) x0 x1 x2 := rfl
abbrev laws_eqRowS.K6 : Type := Unit → Option Bool
theorem laws_eqRowS.turn6 {n N : Nat} {k : Unit → Option Bool} {x0 x1 x2} : laws_eqRowS.loop6 n k (N + 1) x0 x1 x2 = laws_eqRowS.step6 n k (laws_eqRowS.loop6 n k N) x0 x1 x2 := rfl
abbrev laws_eqKidS.K6 : Type := Unit → Option Bool
theorem laws_eqKidS.turn6 {n N : Nat} {k : Unit → Option Bool} {x0 x1 x2} : laws_eqKidS.loop6 n k (N + 1) x0 x1 x2 = laws_eqKidS.step6 n k (laws_eqKidS.loop6 n k N) x0 x1 x2 := rfl
end Go.Pi
end
section
set_option linter.unusedVariables false
set_option maxRecDepth 100000
set_option linter.unusedSimpArgs false
namespace Go.Pi
def allFrom (p : Nat → Bool) : Nat → Nat → Bool
  | 0, _ => true
  | d + 1, i => p i && allFrom p d (i + 1)
def allN (p : Nat → Bool) (len : Nat) : Bool := allFrom p len 0
theorem ev_all (L : Nat → Nat → Nat → Option Bool) (p : Nat → Bool) {len : Nat} {v : Bool}
    (h : ∀ i w, i < len → Ev (fun n N => L n N (i + 1)) w → Ev (fun n N => L n (N + 1) i) (p i && w)) (h2 : Ev (fun n N => L n (N + 1) len) v) :
    Ev (fun n _ => L n n 0) (allN p len && v) := by
  have key : ∀ d i, d + i = len → Ev (fun n N => L n N i) (allFrom p d i && v) := by
    intro d
    induction d with
    | zero => intro i hd; obtain rfl : i = len := by omega
              simpa [allFrom] using ev_round (f := fun n N => L n N i) h2
    | succ d ih => intro i hd
                   have := h i _ (by omega) (ih (i + 1) (by omega))
                   rw [← Bool.and_assoc] at this
                   exact ev_round (f := fun n N => L n N i) this
  exact ev_diag (f := fun n N => L n N 0) (key len 0 (by omega))
theorem ev_congr {α : Type} {f : Nat → Nat → Option α} {v w : α} (h : Ev f v) (e : v = w) : Ev f w := e ▸ h
def inn (x lo hi : Int) : Bool := decide (lo ≤ x) && decide (x ≤ hi)
theorem inn_iff {x lo hi : Int} : inn x lo hi = true ↔ lo ≤ x ∧ x ≤ hi := by simp [inn]
theorem l1In_ev {x lo hi : Int} : Ev (fun n _ => spec_l1In n x lo hi) (inn x lo hi) := by
  refine ev_succ ?_
  simp only [spec_l1In, ev_cond, ev_some, inn]
  grind
theorem within_ev {x lo hi : Int} : Ev (fun n _ => impl_within n x lo hi) (inn x lo hi) := by
  refine ev_succ ?_
  simp only [impl_within, ev_cond, ev_some, inn]
  grind
section
variable {β : Type} {x lo hi : Int} {g : Nat → Nat → Bool → Option β} {v : β}
theorem l1In_b : Ev (fun n N => (spec_l1In n x lo hi).bind (g n N)) v ↔ Ev (fun n N => g n N (inn x lo hi)) v := ev_bind l1In_ev
theorem within_b : Ev (fun n N => (impl_within n x lo hi).bind (g n N)) v ↔ Ev (fun n N => g n N (inn x lo hi)) v := ev_bind within_ev
theorem hasTable_b {s : TSchema} : Ev (fun n N => (impl_hasTable n s x).bind (g n N)) v ↔ Ev (fun n N => g n N (inn x 0 (W ((s.cols.length : Int) - 1)))) v :=
  ev_bind (ev_succ (by simp only [impl_hasTable, within_b, ev_some]))
theorem isNum_b : Ev (fun n N => (impl_isNum n x).bind (g n N)) v ↔ Ev (fun n N => g n N (inn x (-1000000000) 1000000000)) v :=
  ev_bind (ev_succ (by simp only [impl_isNum, within_b, ev_some]))
theorem isVersion_b : Ev (fun n N => (impl_isVersion n x).bind (g n N)) v ↔ Ev (fun n N => g n N (inn x 0 100000)) v :=
  ev_bind (ev_succ (by simp only [impl_isVersion, within_b, ev_some]))
end
theorem lt_up {i len : Nat} (h : i < len) : decide ((i : Int) < (len : Int)) = true := by simp; omega
theorem lt_end {len : Nat} : decide ((len : Int) < (len : Int)) = false := by simp
theorem in_up {i len : Nat} (h : i < len) : ((0 : Int) ≤ (i : Int) ∧ (i : Int) < (len : Int)) ↔ True := by simp; omega
def FSchema (s : TSchema) : Bool := allN (fun i => inn (s.cols.getD i 0) 1 4) s.cols.length && inn s.cols.length 1 3
theorem spec_SchemaOk_ev {s : TSchema} (hs : s.cols.length ≤ topN) : Ev (fun n _ => spec_SchemaOk n s) (FSchema s) := by
  refine ev_succ ?_
  simp only [spec_SchemaOk]
  refine ev_all (fun n N i => spec_SchemaOk.loop3 n _ N (i : Int) s.cols) _ (fun i w hi ih => ?_) ?_
  · simp only [spec_SchemaOk.turn3, spec_SchemaOk.step3, Int.toNat_natCast, ev_cond, ev_inB, l1In_b, ev_some, W_up hi hs, ev_iff ih, lt_up hi, in_up hi]
    grind
  · simp only [spec_SchemaOk.turn3, spec_SchemaOk.step3, lt_end, cond_false, l1In_b, ev_some]
theorem impl_SchemaOk_ev {s : TSchema} (hs : s.cols.length ≤ topN) : Ev (fun n _ => impl_SchemaOk n s) (FSchema s) := by
  refine ev_succ ?_
  simp only [impl_SchemaOk]
  refine ev_all (fun n N i => impl_SchemaOk.loop3 n _ N s.cols (s.cols.length : Int) (i : Int) s.cols) _ (fun i w hi ih => ?_) ?_
  · simp only [impl_SchemaOk.turn3, impl_SchemaOk.step3, Int.toNat_natCast, ev_cond, ev_inB, within_b, ev_some, W_up hi hs, ev_iff ih, lt_up hi, in_up hi]
    grind
  · simp only [impl_SchemaOk.turn3, impl_SchemaOk.step3, lt_end, cond_false, within_b, ev_some]
end Go.Pi
end
