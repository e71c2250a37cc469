/- The row of FnExactSessOk: the program's SessOk returns what the reference's returns, for all arguments. No condition. Text 4 of 6. -/
import Derived.Test.YtpifpdljphobdaaPiC
section
set_option linter.unusedVariables false
set_option maxRecDepth 100000
namespace Go.Pi
open Go.Proofs
namespace laws_toSess
abbrev R : Type := TSess
noncomputable def body : Code := match Try.f11.body with | some c => c | none => .skip
def ann : Ann := ⟨fun k => look2 [] k, fun k => match look2 [] k with | some l => l | none => [], fun k => match look2 [] k with | some l => l | none => []⟩
def fin (o : List AV) : Option R := uc o fun a1 l2 => getAg a1 fun c3 => uc c3 fun a4 l5 => getI .i64 a4 fun x6 => uc l5 fun a7 l8 => getSl .d .iCond a7 fun x9 => uc l8 fun a10 l11 => getI .i64 a10 fun x12 => uc l11 fun a13 l14 => getB a13 fun x15 => uc l14 fun a16 l17 => getI .i64 a16 fun x18 => uc l17 fun a19 l20 => getSl .d .int a19 fun x21 => uc l20 fun a22 l23 => getB a22 fun x24 => uc l23 fun a25 l26 => getI .i64 a25 fun x27 => uc l26 fun a28 l29 => getI .i64 a28 fun x30 => uc l29 fun a31 l32 => getSl .d .iRow a31 fun x33 => uc l32 fun a34 l35 => getSl .d .iKid a34 fun x36 => uc l35 fun a37 l38 => getI .i64 a37 fun x39 => uc l38 fun a40 l41 => getI .i64 a40 fun x42 => uc l41 fun a43 l44 => getSl .d .iCond a43 fun x45 => uc l44 fun a46 l47 => getI .i64 a46 fun x48 => uc l47 fun a49 l50 => getB a49 fun x51 => uc l50 fun a52 l53 => getI .i64 a52 fun x54 => uc l53 fun a55 l56 => getSl .d .int a55 fun x57 => uc l56 fun a58 l59 => getB a58 fun x60 => uc l59 fun a61 l62 => getI .i64 a61 fun x63 => uc l62 fun a64 l65 => getI .i64 a64 fun x66 => uc l65 fun a67 l68 => getSl .d .iRow a67 fun x69 => uc l68 fun a70 l71 => getSl .d .iKid a70 fun x72 => uc l71 fun a73 l74 => getI .i64 a73 fun x75 => uc l74 fun a76 l77 => getB a76 fun x78 => un l77 (un l2 (some ((TSess.mk (TView.mk (TQuery.mk x6 x9 x12 x15 x18 x21 x24 x27 x30) x33 x36) x39 (TView.mk (TQuery.mk x42 x45 x48 x51 x54 x57 x60 x63 x66) x69 x72) x75 x78) : R)))
def inj (r : R) : List AV := [.ag [.i .i64 r.view.q.table, .sl .d .iCond r.view.q.where_, .i .i64 r.view.q.order, .b r.view.q.down, .i .i64 r.view.q.first, .sl .d .int r.view.q.show_, .b r.view.q.kids, .i .i64 r.view.q.kidTable, .i .i64 r.view.q.kidCol, .sl .d .iRow r.view.rows, .sl .d .iKid r.view.kids, .i .i64 r.version, .i .i64 r.last.q.table, .sl .d .iCond r.last.q.where_, .i .i64 r.last.q.order, .b r.last.q.down, .i .i64 r.last.q.first, .sl .d .int r.last.q.show_, .b r.last.q.kids, .i .i64 r.last.q.kidTable, .i .i64 r.last.q.kidCol, .sl .d .iRow r.last.rows, .sl .d .iKid r.last.kids, .i .i64 r.lastVersion, .b r.began]]
theorem fin_ok (o : List AV) (r : R) (h : fin o = some r) : o = inj r := by
  unfold fin at h
  replace h := uc_ok h; obtain ⟨a1, l2, rfl, h⟩ := h
  replace h := getAg_ok h; obtain ⟨c3, rfl, h⟩ := h
  replace h := uc_ok h; obtain ⟨a4, l5, rfl, h⟩ := h
  replace h := getI_ok h; obtain ⟨x6, rfl, h⟩ := h
  replace h := uc_ok h; obtain ⟨a7, l8, rfl, h⟩ := h
  replace h := getSl_ok h; obtain ⟨x9, rfl, h⟩ := h
  replace h := uc_ok h; obtain ⟨a10, l11, rfl, h⟩ := h
  replace h := getI_ok h; obtain ⟨x12, rfl, h⟩ := h
  replace h := uc_ok h; obtain ⟨a13, l14, rfl, h⟩ := h
  replace h := getB_ok h; obtain ⟨x15, rfl, h⟩ := h
  replace h := uc_ok h; obtain ⟨a16, l17, rfl, h⟩ := h
  replace h := getI_ok h; obtain ⟨x18, rfl, h⟩ := h
  replace h := uc_ok h; obtain ⟨a19, l20, rfl, h⟩ := h
  replace h := getSl_ok h; obtain ⟨x21, rfl, h⟩ := h
  replace h := uc_ok h; obtain ⟨a22, l23, rfl, h⟩ := h
  replace h := getB_ok h; obtain ⟨x24, rfl, h⟩ := h
  replace h := uc_ok h; obtain ⟨a25, l26, rfl, h⟩ := h
  replace h := getI_ok h; obtain ⟨x27, rfl, h⟩ := h
  replace h := uc_ok h; obtain ⟨a28, l29, rfl, h⟩ := h
  replace h := getI_ok h; obtain ⟨x30, rfl, h⟩ := h
  replace h := uc_ok h; obtain ⟨a31, l32, rfl, h⟩ := h
  replace h := getSl_ok h; obtain ⟨x33, rfl, h⟩ := h
  replace h := uc_ok h; obtain ⟨a34, l35, rfl, h⟩ := h
  replace h := getSl_ok h; obtain ⟨x36, rfl, h⟩ := h
  replace h := uc_ok h; obtain ⟨a37, l38, rfl, h⟩ := h
  replace h := getI_ok h; obtain ⟨x39, rfl, h⟩ := h
  replace h := uc_ok h; obtain ⟨a40, l41, rfl, h⟩ := h
  replace h := getI_ok h; obtain ⟨x42, rfl, h⟩ := h
  replace h := uc_ok h; obtain ⟨a43, l44, rfl, h⟩ := h
  replace h := getSl_ok h; obtain ⟨x45, rfl, h⟩ := h
  replace h := uc_ok h; obtain ⟨a46, l47, rfl, h⟩ := h
  replace h := getI_ok h; obtain ⟨x48, rfl, h⟩ := h
  replace h := uc_ok h; obtain ⟨a49, l50, rfl, h⟩ := h
  replace h := getB_ok h; obtain ⟨x51, rfl, h⟩ := h
  replace h := uc_ok h; obtain ⟨a52, l53, rfl, h⟩ := h
  replace h := getI_ok h; obtain ⟨x54, rfl, h⟩ := h
  replace h := uc_ok h; obtain ⟨a55, l56, rfl, h⟩ := h
  replace h := getSl_ok h; obtain ⟨x57, rfl, h⟩ := h
  replace h := uc_ok h; obtain ⟨a58, l59, rfl, h⟩ := h
  replace h := getB_ok h; obtain ⟨x60, rfl, h⟩ := h
  replace h := uc_ok h; obtain ⟨a61, l62, rfl, h⟩ := h
  replace h := getI_ok h; obtain ⟨x63, rfl, h⟩ := h
  replace h := uc_ok h; obtain ⟨a64, l65, rfl, h⟩ := h
  replace h := getI_ok h; obtain ⟨x66, rfl, h⟩ := h
  replace h := uc_ok h; obtain ⟨a67, l68, rfl, h⟩ := h
  replace h := getSl_ok h; obtain ⟨x69, rfl, h⟩ := h
  replace h := uc_ok h; obtain ⟨a70, l71, rfl, h⟩ := h
  replace h := getSl_ok h; obtain ⟨x72, rfl, h⟩ := h
  replace h := uc_ok h; obtain ⟨a73, l74, rfl, h⟩ := h
  replace h := getI_ok h; obtain ⟨x75, rfl, h⟩ := h
  replace h := uc_ok h; obtain ⟨a76, l77, rfl, h⟩ := h
  replace h := getB_ok h; obtain ⟨x78, rfl, h⟩ := h
  replace h := un_ok h; obtain ⟨rfl, h⟩ := h
  replace h := un_ok h; obtain ⟨rfl, h⟩ := h
  cases h
  rfl
def kr (n : Nat) : St → Option R := retK (cx n 22) [.ag [.k, .own .d .iCond, .k, .k, .k, .own .d .int, .k, .k, .k, .own .d .iRow, .own .d .iKid, .k, .k, .own .d .iCond, .k, .k, .k, .own .d .int, .k, .k, .k, .own .d .iRow, .own .d .iKid, .k, .k]] [.ag [.v, .o, .v, .v, .v, .o, .v, .v, .v, .o, .o, .v, .v, .o, .v, .v, .v, .o, .v, .v, .v, .o, .o, .v, .v]] [.cell 2 47] [] fin
def lf (n : Nat) : LF R := fun key κd κe v b => none
theorem cuts (n : Nat) : Cuts (cx n 22) 1 ann (lf n) (kr n) body := by
  intro key κd κe v b r h
  unfold lf at h
  cases h
theorem top (n : Nat) (a : TSess) : entryK 1 [.ag [.i .i64 a.view.q.table, .sl .v .lCond a.view.q.where_, .i .i64 a.view.q.order, .b a.view.q.down, .i .i64 a.view.q.first, .sl .v .int a.view.q.show_, .b a.view.q.kids, .i .i64 a.view.q.kidTable, .i .i64 a.view.q.kidCol, .sl .v .lRow a.view.rows, .sl .v .lKid a.view.kids, .i .i64 a.version, .i .i64 a.last.q.table, .sl .v .lCond a.last.q.where_, .i .i64 a.last.q.order, .b a.last.q.down, .i .i64 a.last.q.first, .sl .v .int a.last.q.show_, .b a.last.q.kids, .i .i64 a.last.q.kidTable, .i .i64 a.last.q.kidCol, .sl .v .lRow a.last.rows, .sl .v .lKid a.last.kids, .i .i64 a.lastVersion, .b a.began]] (fun v b => match outOfAll [.ag [.v, .v, .v, .v, .v, .v, .v, .v, .v, .v, .v, .v, .v, .v, .v, .v, .v, .v, .v, .v, .v, .v, .v, .v, .v]] v with
      | some o => cond (AV.allRoots o []) (run (cx n 22) 1 ann (lf n) (kr n) body 0 (kr n) (fun _ _ => none) (St.ofC (live0 1) v b)) none
      | none => none) = laws_toSess (n + 1) a := by kernel_rfl
def Ok (n : Nat) : Prop := ∀ (a : TSess) (res_ : R), laws_toSess n a = some res_ → CallOk E 11 [.ag [.i .i64 a.view.q.table, .sl .v .lCond a.view.q.where_, .i .i64 a.view.q.order, .b a.view.q.down, .i .i64 a.view.q.first, .sl .v .int a.view.q.show_, .b a.view.q.kids, .i .i64 a.view.q.kidTable, .i .i64 a.view.q.kidCol, .sl .v .lRow a.view.rows, .sl .v .lKid a.view.kids, .i .i64 a.version, .i .i64 a.last.q.table, .sl .v .lCond a.last.q.where_, .i .i64 a.last.q.order, .b a.last.q.down, .i .i64 a.last.q.first, .sl .v .int a.last.q.show_, .b a.last.q.kids, .i .i64 a.last.q.kidTable, .i .i64 a.last.q.kidCol, .sl .v .lRow a.last.rows, .sl .v .lKid a.last.kids, .i .i64 a.lastVersion, .b a.began]] (rvOf 1 (inj res_)) ((inj res_).drop 1) [.ag [.v, .v, .v, .v, .v, .v, .v, .v, .v, .v, .v, .v, .v, .v, .v, .v, .v, .v, .v, .v, .v, .v, .v, .v, .v]]
theorem ok (n : Nat) (hc : CxOk E (cx n 22)) (hK : KPar (cx n 22)) : Ok (n + 1) := fun a res_ h_ =>
  fn_sound hc hK mixedOk Try.func11 (by kernel_rfl) (by kernel_rfl) (by kernel_rfl) (by decide) fin_ok (by kernel_rfl) ((top n a).trans h_) (cuts n)
theorem Kpar (n : Nat) {ω : Type} {avs : List AV} {κ : AV → List AV → Option ω} {q : ω} (h : laws_toSess.K n avs κ = some q) : ∃ rv outs, κ rv outs = some q ∧ ∀ (ω' : Type) (κ' : AV → List AV → Option ω'), laws_toSess.K n avs κ' = κ' rv outs := by
  unfold K at h
  generalize hf : fixes [.ag [.k, .sl .v .lCond, .k, .k, .k, .sl .v .int, .k, .k, .k, .sl .v .lRow, .sl .v .lKid, .k, .k, .sl .v .lCond, .k, .k, .k, .sl .v .int, .k, .k, .k, .sl .v .lRow, .sl .v .lKid, .k, .k]] avs = v at h
  replace h := uc_ok h; obtain ⟨a1, l2, rfl, h⟩ := h
  replace h := getAg_ok h; obtain ⟨c3, rfl, h⟩ := h
  replace h := uc_ok h; obtain ⟨a4, l5, rfl, h⟩ := h
  replace h := getI_ok h; obtain ⟨x6, rfl, h⟩ := h
  replace h := uc_ok h; obtain ⟨a7, l8, rfl, h⟩ := h
  replace h := getSl_ok h; obtain ⟨x9, rfl, h⟩ := h
  replace h := uc_ok h; obtain ⟨a10, l11, rfl, h⟩ := h
  replace h := getI_ok h; obtain ⟨x12, rfl, h⟩ := h
  replace h := uc_ok h; obtain ⟨a13, l14, rfl, h⟩ := h
  replace h := getB_ok h; obtain ⟨x15, rfl, h⟩ := h
  replace h := uc_ok h; obtain ⟨a16, l17, rfl, h⟩ := h
  replace h := getI_ok h; obtain ⟨x18, rfl, h⟩ := h
  replace h := uc_ok h; obtain ⟨a19, l20, rfl, h⟩ := h
  replace h := getSl_ok h; obtain ⟨x21, rfl, h⟩ := h
  replace h := uc_ok h; obtain ⟨a22, l23, rfl, h⟩ := h
  replace h := getB_ok h; obtain ⟨x24, rfl, h⟩ := h
  replace h := uc_ok h; obtain ⟨a25, l26, rfl, h⟩ := h
  replace h := getI_ok h; obtain ⟨x27, rfl, h⟩ := h
  replace h := uc_ok h; obtain ⟨a28, l29, rfl, h⟩ := h
  replace h := getI_ok h; obtain ⟨x30, rfl, h⟩ := h
  replace h := uc_ok h; obtain ⟨a31, l32, rfl, h⟩ := h
  replace h := getSl_ok h; obtain ⟨x33, rfl, h⟩ := h
  replace h := uc_ok h; obtain ⟨a34, l35, rfl, h⟩ := h
  replace h := getSl_ok h; obtain ⟨x36, rfl, h⟩ := h
  replace h := uc_ok h; obtain ⟨a37, l38, rfl, h⟩ := h
  replace h := getI_ok h; obtain ⟨x39, rfl, h⟩ := h
  replace h := uc_ok h; obtain ⟨a40, l41, rfl, h⟩ := h
  replace h := getI_ok h; obtain ⟨x42, rfl, h⟩ := h
  replace h := uc_ok h; obtain ⟨a43, l44, rfl, h⟩ := h
  replace h := getSl_ok h; obtain ⟨x45, rfl, h⟩ := h
  replace h := uc_ok h; obtain ⟨a46, l47, rfl, h⟩ := h
  replace h := getI_ok h; obtain ⟨x48, rfl, h⟩ := h
  replace h := uc_ok h; obtain ⟨a49, l50, rfl, h⟩ := h
  replace h := getB_ok h; obtain ⟨x51, rfl, h⟩ := h
  replace h := uc_ok h; obtain ⟨a52, l53, rfl, h⟩ := h
  replace h := getI_ok h; obtain ⟨x54, rfl, h⟩ := h
  replace h := uc_ok h; obtain ⟨a55, l56, rfl, h⟩ := h
  replace h := getSl_ok h; obtain ⟨x57, rfl, h⟩ := h
  replace h := uc_ok h; obtain ⟨a58, l59, rfl, h⟩ := h
  replace h := getB_ok h; obtain ⟨x60, rfl, h⟩ := h
  replace h := uc_ok h; obtain ⟨a61, l62, rfl, h⟩ := h
  replace h := getI_ok h; obtain ⟨x63, rfl, h⟩ := h
  replace h := uc_ok h; obtain ⟨a64, l65, rfl, h⟩ := h
  replace h := getI_ok h; obtain ⟨x66, rfl, h⟩ := h
  replace h := uc_ok h; obtain ⟨a67, l68, rfl, h⟩ := h
  replace h := getSl_ok h; obtain ⟨x69, rfl, h⟩ := h
  replace h := uc_ok h; obtain ⟨a70, l71, rfl, h⟩ := h
  replace h := getSl_ok h; obtain ⟨x72, rfl, h⟩ := h
  replace h := uc_ok h; obtain ⟨a73, l74, rfl, h⟩ := h
  replace h := getI_ok h; obtain ⟨x75, rfl, h⟩ := h
  replace h := uc_ok h; obtain ⟨a76, l77, rfl, h⟩ := h
  replace h := getB_ok h; obtain ⟨x78, rfl, h⟩ := h
  replace h := un_ok h; obtain ⟨rfl, h⟩ := h
  replace h := un_ok h; obtain ⟨rfl, h⟩ := h
  cases hr : laws_toSess n (TSess.mk (TView.mk (TQuery.mk x6 x9 x12 x15 x18 x21 x24 x27 x30) x33 x36) x39 (TView.mk (TQuery.mk x42 x45 x48 x51 x54 x57 x60 x63 x66) x69 x72) x75 x78) with
  | none => rw [hr] at h; cases h
  | some r =>
    rw [hr] at h
    exact ⟨_, _, h, fun ω' κ' => by unfold K; rw [hf]; exact congrArg (fun z : Option R => z.bind _) hr⟩
theorem Kok (n : Nat) (ho : Ok n) {ω : Type} {avs : List AV} {κ : AV → List AV → Option ω} {q : ω} (h : laws_toSess.K n avs κ = some q) : FnOk E 11 ∧ ∃ ps rv outs, (cx n 0).sig 11 = some ps ∧ κ rv outs = some q ∧ CallOk E 11 avs rv outs ps := by
  unfold K at h
  generalize hf : fixes [.ag [.k, .sl .v .lCond, .k, .k, .k, .sl .v .int, .k, .k, .k, .sl .v .lRow, .sl .v .lKid, .k, .k, .sl .v .lCond, .k, .k, .k, .sl .v .int, .k, .k, .k, .sl .v .lRow, .sl .v .lKid, .k, .k]] avs = v at h
  replace h := uc_ok h; obtain ⟨a1, l2, rfl, h⟩ := h
  replace h := getAg_ok h; obtain ⟨c3, rfl, h⟩ := h
  replace h := uc_ok h; obtain ⟨a4, l5, rfl, h⟩ := h
  replace h := getI_ok h; obtain ⟨x6, rfl, h⟩ := h
  replace h := uc_ok h; obtain ⟨a7, l8, rfl, h⟩ := h
  replace h := getSl_ok h; obtain ⟨x9, rfl, h⟩ := h
  replace h := uc_ok h; obtain ⟨a10, l11, rfl, h⟩ := h
  replace h := getI_ok h; obtain ⟨x12, rfl, h⟩ := h
  replace h := uc_ok h; obtain ⟨a13, l14, rfl, h⟩ := h
  replace h := getB_ok h; obtain ⟨x15, rfl, h⟩ := h
  replace h := uc_ok h; obtain ⟨a16, l17, rfl, h⟩ := h
  replace h := getI_ok h; obtain ⟨x18, rfl, h⟩ := h
  replace h := uc_ok h; obtain ⟨a19, l20, rfl, h⟩ := h
  replace h := getSl_ok h; obtain ⟨x21, rfl, h⟩ := h
  replace h := uc_ok h; obtain ⟨a22, l23, rfl, h⟩ := h
  replace h := getB_ok h; obtain ⟨x24, rfl, h⟩ := h
  replace h := uc_ok h; obtain ⟨a25, l26, rfl, h⟩ := h
  replace h := getI_ok h; obtain ⟨x27, rfl, h⟩ := h
  replace h := uc_ok h; obtain ⟨a28, l29, rfl, h⟩ := h
  replace h := getI_ok h; obtain ⟨x30, rfl, h⟩ := h
  replace h := uc_ok h; obtain ⟨a31, l32, rfl, h⟩ := h
  replace h := getSl_ok h; obtain ⟨x33, rfl, h⟩ := h
  replace h := uc_ok h; obtain ⟨a34, l35, rfl, h⟩ := h
  replace h := getSl_ok h; obtain ⟨x36, rfl, h⟩ := h
  replace h := uc_ok h; obtain ⟨a37, l38, rfl, h⟩ := h
  replace h := getI_ok h; obtain ⟨x39, rfl, h⟩ := h
  replace h := uc_ok h; obtain ⟨a40, l41, rfl, h⟩ := h
  replace h := getI_ok h; obtain ⟨x42, rfl, h⟩ := h
  replace h := uc_ok h; obtain ⟨a43, l44, rfl, h⟩ := h
  replace h := getSl_ok h; obtain ⟨x45, rfl, h⟩ := h
  replace h := uc_ok h; obtain ⟨a46, l47, rfl, h⟩ := h
  replace h := getI_ok h; obtain ⟨x48, rfl, h⟩ := h
  replace h := uc_ok h; obtain ⟨a49, l50, rfl, h⟩ := h
  replace h := getB_ok h; obtain ⟨x51, rfl, h⟩ := h
  replace h := uc_ok h; obtain ⟨a52, l53, rfl, h⟩ := h
  replace h := getI_ok h; obtain ⟨x54, rfl, h⟩ := h
  replace h := uc_ok h; obtain ⟨a55, l56, rfl, h⟩ := h
  replace h := getSl_ok h; obtain ⟨x57, rfl, h⟩ := h
  replace h := uc_ok h; obtain ⟨a58, l59, rfl, h⟩ := h
  replace h := getB_ok h; obtain ⟨x60, rfl, h⟩ := h
  replace h := uc_ok h; obtain ⟨a61, l62, rfl, h⟩ := h
  replace h := getI_ok h; obtain ⟨x63, rfl, h⟩ := h
  replace h := uc_ok h; obtain ⟨a64, l65, rfl, h⟩ := h
  replace h := getI_ok h; obtain ⟨x66, rfl, h⟩ := h
  replace h := uc_ok h; obtain ⟨a67, l68, rfl, h⟩ := h
  replace h := getSl_ok h; obtain ⟨x69, rfl, h⟩ := h
  replace h := uc_ok h; obtain ⟨a70, l71, rfl, h⟩ := h
  replace h := getSl_ok h; obtain ⟨x72, rfl, h⟩ := h
  replace h := uc_ok h; obtain ⟨a73, l74, rfl, h⟩ := h
  replace h := getI_ok h; obtain ⟨x75, rfl, h⟩ := h
  replace h := uc_ok h; obtain ⟨a76, l77, rfl, h⟩ := h
  replace h := getB_ok h; obtain ⟨x78, rfl, h⟩ := h
  replace h := un_ok h; obtain ⟨rfl, h⟩ := h
  replace h := un_ok h; obtain ⟨rfl, h⟩ := h
  cases hr : laws_toSess n (TSess.mk (TView.mk (TQuery.mk x6 x9 x12 x15 x18 x21 x24 x27 x30) x33 x36) x39 (TView.mk (TQuery.mk x42 x45 x48 x51 x54 x57 x60 x63 x66) x69 x72) x75 x78) with
  | none => rw [hr] at h; cases h
  | some r =>
    rw [hr] at h
    exact ⟨⟨_, body, Try.func11, by decide +kernel, by kernel_rfl⟩, [.ag [.v, .v, .v, .v, .v, .v, .v, .v, .v, .v, .v, .v, .v, .v, .v, .v, .v, .v, .v, .v, .v, .v, .v, .v, .v]], _, _, by kernel_rfl, h, CallOk.fix (ss := [.ag [.k, .sl .v .lCond, .k, .k, .k, .sl .v .int, .k, .k, .k, .sl .v .lRow, .sl .v .lKid, .k, .k, .sl .v .lCond, .k, .k, .k, .sl .v .int, .k, .k, .k, .sl .v .lRow, .sl .v .lKid, .k, .k]]) (by rw [hf]; exact ho (TSess.mk (TView.mk (TQuery.mk x6 x9 x12 x15 x18 x21 x24 x27 x30) x33 x36) x39 (TView.mk (TQuery.mk x42 x45 x48 x51 x54 x57 x60 x63 x66) x69 x72) x75 x78) r hr)⟩
end laws_toSess
namespace spec_l1In
abbrev R : Type := Bool
noncomputable def body : Code := match Try.f42.body with | some c => c | none => .skip
def ann : Ann := ⟨fun k => look2 [] k, fun k => match look2 [] k with | some l => l | none => [], fun k => match look2 [] k with | some l => l | none => []⟩
def fin (o : List AV) : Option R := uc o fun a1 l2 => getB a1 fun x3 => un l2 (some (x3 : R))
def inj (r : R) : List AV := [.b r]
theorem fin_ok (o : List AV) (r : R) (h : fin o = some r) : o = inj r := by
  unfold fin at h
  replace h := uc_ok h; obtain ⟨a1, l2, rfl, h⟩ := h
  replace h := getB_ok h; obtain ⟨x3, rfl, h⟩ := h
  replace h := un_ok h; obtain ⟨rfl, h⟩ := h
  cases h
  rfl
def kr (n : Nat) : St → Option R := retK (cx n 15) [.k] [.v] [.tmp 6] [] fin
def lf (n : Nat) : LF R := fun key κd κe v b => none
theorem cuts (n : Nat) : Cuts (cx n 15) 1 ann (lf n) (kr n) body := by
  intro key κd κe v b r h
  unfold lf at h
  cases h
theorem top (n : Nat) (x : Int) (lo : Int) (hi : Int) : entryK 1 [.i .i64 x, .i .i64 lo, .i .i64 hi] (fun v b => match outOfAll [.v, .v, .v] v with
      | some o => cond (AV.allRoots o []) (run (cx n 15) 1 ann (lf n) (kr n) body 0 (kr n) (fun _ _ => none) (St.ofC (live0 3) v b)) none
      | none => none) = spec_l1In (n + 1) x lo hi := by kernel_rfl
def Ok (n : Nat) : Prop := ∀ (x : Int) (lo : Int) (hi : Int) (res_ : R), spec_l1In n x lo hi = some res_ → CallOk E 42 [.i .i64 x, .i .i64 lo, .i .i64 hi] (rvOf 1 (inj res_)) ((inj res_).drop 1) [.v, .v, .v]
theorem ok (n : Nat) (hc : CxOk E (cx n 15)) (hK : KPar (cx n 15)) : Ok (n + 1) := fun x lo hi res_ h_ =>
  fn_sound hc hK mixedOk Try.func42 (by kernel_rfl) (by kernel_rfl) (by kernel_rfl) (by decide) fin_ok (by kernel_rfl) ((top n x lo hi).trans h_) (cuts n)
theorem Kpar (n : Nat) {ω : Type} {avs : List AV} {κ : AV → List AV → Option ω} {q : ω} (h : spec_l1In.K n avs κ = some q) : ∃ rv outs, κ rv outs = some q ∧ ∀ (ω' : Type) (κ' : AV → List AV → Option ω'), spec_l1In.K n avs κ' = κ' rv outs := by
  unfold K at h
  generalize hf : fixes [.k, .k, .k] avs = v at h
  replace h := uc_ok h; obtain ⟨a1, l2, rfl, h⟩ := h
  replace h := getI_ok h; obtain ⟨x3, rfl, h⟩ := h
  replace h := uc_ok h; obtain ⟨a4, l5, rfl, h⟩ := h
  replace h := getI_ok h; obtain ⟨x6, rfl, h⟩ := h
  replace h := uc_ok h; obtain ⟨a7, l8, rfl, h⟩ := h
  replace h := getI_ok h; obtain ⟨x9, rfl, h⟩ := h
  replace h := un_ok h; obtain ⟨rfl, h⟩ := h
  cases hr : spec_l1In n x3 x6 x9 with
  | none => rw [hr] at h; cases h
  | some r =>
    rw [hr] at h
    exact ⟨_, _, h, fun ω' κ' => by unfold K; rw [hf]; exact congrArg (fun z : Option R => z.bind _) hr⟩
theorem Kok (n : Nat) (ho : Ok n) {ω : Type} {avs : List AV} {κ : AV → List AV → Option ω} {q : ω} (h : spec_l1In.K n avs κ = some q) : FnOk E 42 ∧ ∃ ps rv outs, (cx n 0).sig 42 = some ps ∧ κ rv outs = some q ∧ CallOk E 42 avs rv outs ps := by
  unfold K at h
  generalize hf : fixes [.k, .k, .k] avs = v at h
  replace h := uc_ok h; obtain ⟨a1, l2, rfl, h⟩ := h
  replace h := getI_ok h; obtain ⟨x3, rfl, h⟩ := h
  replace h := uc_ok h; obtain ⟨a4, l5, rfl, h⟩ := h
  replace h := getI_ok h; obtain ⟨x6, rfl, h⟩ := h
  replace h := uc_ok h; obtain ⟨a7, l8, rfl, h⟩ := h
  replace h := getI_ok h; obtain ⟨x9, rfl, h⟩ := h
  replace h := un_ok h; obtain ⟨rfl, h⟩ := h
  cases hr : spec_l1In n x3 x6 x9 with
  | none => rw [hr] at h; cases h
  | some r =>
    rw [hr] at h
    exact ⟨⟨_, body, Try.func42, by decide +kernel, by kernel_rfl⟩, [.v, .v, .v], _, _, by kernel_rfl, h, CallOk.fix (ss := [.k, .k, .k]) (by rw [hf]; exact ho x3 x6 x9 r hr)⟩
end spec_l1In
namespace spec_SchemaOk
abbrev R : Type := Bool
noncomputable def body : Code := match Try.f108.body with | some c => c | none => .skip
def ann : Ann := ⟨fun k => look2 [(3, [(1, .box [.view .int]), (3, .k)])] k, fun k => match look2 [] k with | some l => l | none => [], fun k => match look2 [(0, [(1, .box [.view .int])])] k with | some l => l | none => []⟩
def fin (o : List AV) : Option R := uc o fun a1 l2 => getB a1 fun x3 => un l2 (some (x3 : R))
def inj (r : R) : List AV := [.b r]
theorem fin_ok (o : List AV) (r : R) (h : fin o = some r) : o = inj r := by
  unfold fin at h
  replace h := uc_ok h; obtain ⟨a1, l2, rfl, h⟩ := h
  replace h := getB_ok h; obtain ⟨x3, rfl, h⟩ := h
  replace h := un_ok h; obtain ⟨rfl, h⟩ := h
  cases h
  rfl
def kr (n : Nat) : St → Option R := retK (cx n 22) [.k] [.v] [.tmp 2] [] fin
def lf (n : Nat) : LF R := fun key κd κe v b => cond (Nat.beq key 3)
    (uc v fun a1 l2 => isPb 1 0 a1 (uc l2 fun a3 l4 => getI .i64 a3 fun x5 => un l4 (uc b fun a6 l7 => isExt a6 (uc l7 fun a8 l9 => getBox a8 fun c10 => uc c10 fun a11 l12 => getSl .v .int a11 fun x13 => un l12 (un l9 (spec_SchemaOk.loop3 n (fun (y0 : List Int) => κe 0 [.pb 1 0] [some .ext, some (.box [.sl .v .int y0])]) n x5 x13))))))
    (none)
noncomputable def A3 : Code := match pieceAt ann body 0 3 with | some (.loop a _) => a | _ => .skip
theorem round3 (n : Nat) (B : D R) (κe : Nat → D R) (i : Int) (s0 : List Int) : run (cx n 22) 1 ann (lf n) (kr n) A3 4 (fun s => cutK 1 [(1, .box [.view .int]), (3, .k)] s B) (fun j s => cutK 1 (ann.out j) s (κe j)) (St.ofC [(1, .box [.view .int]), (3, .k)] [.pb 1 0, .i .i64 i] [some .ext, some (.box [.sl .v .int s0])]) =
    spec_SchemaOk.step3 n (fun (y0 : List Int) => κe 0 [.pb 1 0] [some .ext, some (.box [.sl .v .int y0])]) (fun (z0 : Int) (z1 : List Int) => B [.pb 1 0, .i .i64 z0] [some .ext, some (.box [.sl .v .int z1])]) i s0 := by kernel_rfl
theorem rounds3 (n : Nat) (κe : Nat → D R) : ∀ (N : Nat) (i : Int) (s0 : List Int), rounds (cx n 22) 1 ann (lf n) (kr n) A3 4 [(1, .box [.view .int]), (3, .k)] κe N [.pb 1 0, .i .i64 i] [some .ext, some (.box [.sl .v .int s0])] = spec_SchemaOk.loop3 n (fun (y0 : List Int) => κe 0 [.pb 1 0] [some .ext, some (.box [.sl .v .int y0])]) N i s0
  | 0, _, _ => rfl
  | N + 1, i, s0 => (round3 n (rounds (cx n 22) 1 ann (lf n) (kr n) A3 4 [(1, .box [.view .int]), (3, .k)] κe N) κe i s0).trans (congrArg (fun back => spec_SchemaOk.step3 n (fun (y0 : List Int) => κe 0 [.pb 1 0] [some .ext, some (.box [.sl .v .int y0])]) back i s0) (funext fun z0 => funext fun z1 => rounds3 n κe N z0 z1))
theorem cuts (n : Nat) : Cuts (cx n 22) 1 ann (lf n) (kr n) body := by
  intro key κd κe v b r h
  unfold lf at h
  cases hk3 : Nat.beq key 3 with
  | true =>
    replace h := cond_t hk3 h
    have := beq_iff.1 hk3
    subst this
    replace h := uc_ok h; obtain ⟨a1, l2, rfl, h⟩ := h
    replace h := isPb_ok h; obtain ⟨rfl, h⟩ := h
    replace h := uc_ok h; obtain ⟨a3, l4, rfl, h⟩ := h
    replace h := getI_ok h; obtain ⟨x5, rfl, h⟩ := h
    replace h := un_ok h; obtain ⟨rfl, h⟩ := h
    replace h := uc_ok h; obtain ⟨a6, l7, rfl, h⟩ := h
    replace h := isExt_ok h; obtain ⟨rfl, h⟩ := h
    replace h := uc_ok h; obtain ⟨a8, l9, rfl, h⟩ := h
    replace h := getBox_ok h; obtain ⟨c10, rfl, h⟩ := h
    replace h := uc_ok h; obtain ⟨a11, l12, rfl, h⟩ := h
    replace h := getSl_ok h; obtain ⟨x13, rfl, h⟩ := h
    replace h := un_ok h; obtain ⟨rfl, h⟩ := h
    replace h := un_ok h; obtain ⟨rfl, h⟩ := h
    exact ⟨[(1, .box [.view .int]), (3, .k)], .loop A3 4, by kernel_rfl, by kernel_rfl, ⟨n, (rounds3 n κe n x5 x13).trans h⟩⟩
  | false =>
    replace h := cond_f hk3 h
    cases h
theorem top (n : Nat) (s : TSchema) : entryK 1 [.ag [.sl .v .int s.cols]] (fun v b => match outOfAll [.ag [.v]] v with
      | some o => cond (AV.allRoots o []) (run (cx n 22) 1 ann (lf n) (kr n) body 0 (kr n) (fun _ _ => none) (St.ofC (live0 1) v b)) none
      | none => none) = spec_SchemaOk (n + 1) s := by kernel_rfl
def Ok (n : Nat) : Prop := ∀ (s : TSchema) (res_ : R), spec_SchemaOk n s = some res_ → CallOk E 108 [.ag [.sl .v .int s.cols]] (rvOf 1 (inj res_)) ((inj res_).drop 1) [.ag [.v]]
theorem ok (n : Nat) (hc : CxOk E (cx n 22)) (hK : KPar (cx n 22)) : Ok (n + 1) := fun s res_ h_ =>
  fn_sound hc hK mixedOk Try.func108 (by kernel_rfl) (by kernel_rfl) (by kernel_rfl) (by decide) fin_ok (by kernel_rfl) ((top n s).trans h_) (cuts n)
theorem Kpar (n : Nat) {ω : Type} {avs : List AV} {κ : AV → List AV → Option ω} {q : ω} (h : spec_SchemaOk.K n avs κ = some q) : ∃ rv outs, κ rv outs = some q ∧ ∀ (ω' : Type) (κ' : AV → List AV → Option ω'), spec_SchemaOk.K n avs κ' = κ' rv outs := by
  unfold K at h
  generalize hf : fixes [.ag [.sl .v .int]] avs = v at h
  replace h := uc_ok h; obtain ⟨a1, l2, rfl, h⟩ := h
  replace h := getAg_ok h; obtain ⟨c3, rfl, h⟩ := h
  replace h := uc_ok h; obtain ⟨a4, l5, rfl, h⟩ := h
  replace h := getSl_ok h; obtain ⟨x6, rfl, h⟩ := h
  replace h := un_ok h; obtain ⟨rfl, h⟩ := h
  replace h := un_ok h; obtain ⟨rfl, h⟩ := h
  cases hr : spec_SchemaOk n (TSchema.mk x6) with
  | none => rw [hr] at h; cases h
  | some r =>
    rw [hr] at h
    exact ⟨_, _, h, fun ω' κ' => by unfold K; rw [hf]; exact congrArg (fun z : Option R => z.bind _) hr⟩
theorem Kok (n : Nat) (ho : Ok n) {ω : Type} {avs : List AV} {κ : AV → List AV → Option ω} {q : ω} (h : spec_SchemaOk.K n avs κ = some q) : FnOk E 108 ∧ ∃ ps rv outs, (cx n 0).sig 108 = some ps ∧ κ rv outs = some q ∧ CallOk E 108 avs rv outs ps := by
  unfold K at h
  generalize hf : fixes [.ag [.sl .v .int]] avs = v at h
  replace h := uc_ok h; obtain ⟨a1, l2, rfl, h⟩ := h
  replace h := getAg_ok h; obtain ⟨c3, rfl, h⟩ := h
  replace h := uc_ok h; obtain ⟨a4, l5, rfl, h⟩ := h
  replace h := getSl_ok h; obtain ⟨x6, rfl, h⟩ := h
  replace h := un_ok h; obtain ⟨rfl, h⟩ := h
  replace h := un_ok h; obtain ⟨rfl, h⟩ := h
  cases hr : spec_SchemaOk n (TSchema.mk x6) with
  | none => rw [hr] at h; cases h
  | some r =>
    rw [hr] at h
    exact ⟨⟨_, body, Try.func108, by decide +kernel, by kernel_rfl⟩, [.ag [.v]], _, _, by kernel_rfl, h, CallOk.fix (ss := [.ag [.sl .v .int]]) (by rw [hf]; exact ho (TSchema.mk x6) r hr)⟩
end spec_SchemaOk
namespace spec_QueryOk
abbrev R : Type := Bool
noncomputable def body : Code := match Try.f86.body with | some c => c | none => .skip
def ann : Ann := ⟨fun k => look2 [(7, [(2, .box [.view .int]), (3, .box [.k, .view .iCond, .k, .k, .k, .view .int, .k, .k, .k]), (5, .k), (6, .k)]), (16, [(2, .box [.view .int]), (3, .box [.k, .view .iCond, .k, .k, .k, .view .int, .k, .k, .k]), (5, .k), (8, .k)])] k, fun k => match look2 [] k with | some l => l | none => [], fun k => match look2 [(0, [(2, .box [.view .int]), (3, .box [.k, .view .iCond, .k, .k, .k, .view .int, .k, .k, .k]), (5, .k)]), (2, [(2, .box [.view .int]), (3, .box [.k, .view .iCond, .k, .k, .k, .view .int, .k, .k, .k]), (5, .k)])] k with | some l => l | none => []⟩
def fin (o : List AV) : Option R := uc o fun a1 l2 => getB a1 fun x3 => un l2 (some (x3 : R))
def inj (r : R) : List AV := [.b r]
theorem fin_ok (o : List AV) (r : R) (h : fin o = some r) : o = inj r := by
  unfold fin at h
  replace h := uc_ok h; obtain ⟨a1, l2, rfl, h⟩ := h
  replace h := getB_ok h; obtain ⟨x3, rfl, h⟩ := h
  replace h := un_ok h; obtain ⟨rfl, h⟩ := h
  cases h
  rfl
def kr (n : Nat) : St → Option R := retK (cx n 148) [.k] [.v] [.tmp 4] [] fin
def lf (n : Nat) : LF R := fun key κd κe v b => cond (Nat.beq key 7)
    (uc v fun a1 l2 => isPb 1 0 a1 (uc l2 fun a3 l4 => isPb 2 0 a3 (uc l4 fun a5 l6 => getI .i64 a5 fun x7 => uc l6 fun a8 l9 => getI .i64 a8 fun x10 => un l9 (uc b fun a11 l12 => isExt a11 (uc l12 fun a13 l14 => getBox a13 fun c15 => uc c15 fun a16 l17 => getSl .v .int a16 fun x18 => un l17 (uc l14 fun a19 l20 => getBox a19 fun c21 => uc c21 fun a22 l23 => getI .i64 a22 fun x24 => uc l23 fun a25 l26 => getSl .v .iCond a25 fun x27 => uc l26 fun a28 l29 => getI .i64 a28 fun x30 => uc l29 fun a31 l32 => getB a31 fun x33 => uc l32 fun a34 l35 => getI .i64 a34 fun x36 => uc l35 fun a37 l38 => getSl .v .int a37 fun x39 => uc l38 fun a40 l41 => getB a40 fun x42 => uc l41 fun a43 l44 => getI .i64 a43 fun x45 => uc l44 fun a46 l47 => getI .i64 a46 fun x48 => un l47 (un l20 (spec_QueryOk.loop7 n (fun (y0 : Int) (y1 : List Int) (y2 : Int) (y3 : List TCond) (y4 : Int) (y5 : Bool) (y6 : Int) (y7 : List Int) (y8 : Bool) (y9 : Int) (y10 : Int) => κe 0 [.pb 1 0, .pb 2 0, .i .i64 y0] [some .ext, some (.box [.sl .v .int y1]), some (.box [.i .i64 y2, .sl .v .iCond y3, .i .i64 y4, .b y5, .i .i64 y6, .sl .v .int y7, .b y8, .i .i64 y9, .i .i64 y10])]) n x7 x10 x18 x24 x27 x30 x33 x36 x39 x42 x45 x48))))))))
    (cond (Nat.beq key 16)
    (uc v fun a1 l2 => isPb 1 0 a1 (uc l2 fun a3 l4 => isPb 2 0 a3 (uc l4 fun a5 l6 => getI .i64 a5 fun x7 => uc l6 fun a8 l9 => getI .i64 a8 fun x10 => un l9 (uc b fun a11 l12 => isExt a11 (uc l12 fun a13 l14 => getBox a13 fun c15 => uc c15 fun a16 l17 => getSl .v .int a16 fun x18 => un l17 (uc l14 fun a19 l20 => getBox a19 fun c21 => uc c21 fun a22 l23 => getI .i64 a22 fun x24 => uc l23 fun a25 l26 => getSl .v .iCond a25 fun x27 => uc l26 fun a28 l29 => getI .i64 a28 fun x30 => uc l29 fun a31 l32 => getB a31 fun x33 => uc l32 fun a34 l35 => getI .i64 a34 fun x36 => uc l35 fun a37 l38 => getSl .v .int a37 fun x39 => uc l38 fun a40 l41 => getB a40 fun x42 => uc l41 fun a43 l44 => getI .i64 a43 fun x45 => uc l44 fun a46 l47 => getI .i64 a46 fun x48 => un l47 (un l20 (spec_QueryOk.loop16 n (fun (y0 : Int) (y1 : List Int) (y2 : Int) (y3 : List TCond) (y4 : Int) (y5 : Bool) (y6 : Int) (y7 : List Int) (y8 : Bool) (y9 : Int) (y10 : Int) => κe 2 [.pb 1 0, .pb 2 0, .i .i64 y0] [some .ext, some (.box [.sl .v .int y1]), some (.box [.i .i64 y2, .sl .v .iCond y3, .i .i64 y4, .b y5, .i .i64 y6, .sl .v .int y7, .b y8, .i .i64 y9, .i .i64 y10])]) n x7 x10 x18 x24 x27 x30 x33 x36 x39 x42 x45 x48))))))))
    (none))
noncomputable def A7 : Code := match pieceAt ann body 0 7 with | some (.loop a _) => a | _ => .skip
theorem round7 (n : Nat) (B : D R) (κe : Nat → D R) (t5 : Int) (t6 : Int) (t20 : List Int) (t30 : Int) (t31 : List TCond) (t32 : Int) (t33 : Bool) (t34 : Int) (t35 : List Int) (t36 : Bool) (t37 : Int) (t38 : Int) : run (cx n 148) 1 ann (lf n) (kr n) A7 8 (fun s => cutK 1 [(2, .box [.view .int]), (3, .box [.k, .view .iCond, .k, .k, .k, .view .int, .k, .k, .k]), (5, .k), (6, .k)] s B) (fun j s => cutK 1 (ann.out j) s (κe j)) (St.ofC [(2, .box [.view .int]), (3, .box [.k, .view .iCond, .k, .k, .k, .view .int, .k, .k, .k]), (5, .k), (6, .k)] [.pb 1 0, .pb 2 0, .i .i64 t5, .i .i64 t6] [some .ext, some (.box [.sl .v .int t20]), some (.box [.i .i64 t30, .sl .v .iCond t31, .i .i64 t32, .b t33, .i .i64 t34, .sl .v .int t35, .b t36, .i .i64 t37, .i .i64 t38])]) =
    spec_QueryOk.step7 n (fun (y0 : Int) (y1 : List Int) (y2 : Int) (y3 : List TCond) (y4 : Int) (y5 : Bool) (y6 : Int) (y7 : List Int) (y8 : Bool) (y9 : Int) (y10 : Int) => κe 0 [.pb 1 0, .pb 2 0, .i .i64 y0] [some .ext, some (.box [.sl .v .int y1]), some (.box [.i .i64 y2, .sl .v .iCond y3, .i .i64 y4, .b y5, .i .i64 y6, .sl .v .int y7, .b y8, .i .i64 y9, .i .i64 y10])]) (fun (z0 : Int) (z1 : Int) (z2 : List Int) (z3 : Int) (z4 : List TCond) (z5 : Int) (z6 : Bool) (z7 : Int) (z8 : List Int) (z9 : Bool) (z10 : Int) (z11 : Int) => B [.pb 1 0, .pb 2 0, .i .i64 z0, .i .i64 z1] [some .ext, some (.box [.sl .v .int z2]), some (.box [.i .i64 z3, .sl .v .iCond z4, .i .i64 z5, .b z6, .i .i64 z7, .sl .v .int z8, .b z9, .i .i64 z10, .i .i64 z11])]) t5 t6 t20 t30 t31 t32 t33 t34 t35 t36 t37 t38 := by kernel_rfl
theorem rounds7 (n : Nat) (κe : Nat → D R) : ∀ (N : Nat) (t5 : Int) (t6 : Int) (t20 : List Int) (t30 : Int) (t31 : List TCond) (t32 : Int) (t33 : Bool) (t34 : Int) (t35 : List Int) (t36 : Bool) (t37 : Int) (t38 : Int), rounds (cx n 148) 1 ann (lf n) (kr n) A7 8 [(2, .box [.view .int]), (3, .box [.k, .view .iCond, .k, .k, .k, .view .int, .k, .k, .k]), (5, .k), (6, .k)] κe N [.pb 1 0, .pb 2 0, .i .i64 t5, .i .i64 t6] [some .ext, some (.box [.sl .v .int t20]), some (.box [.i .i64 t30, .sl .v .iCond t31, .i .i64 t32, .b t33, .i .i64 t34, .sl .v .int t35, .b t36, .i .i64 t37, .i .i64 t38])] = spec_QueryOk.loop7 n (fun (y0 : Int) (y1 : List Int) (y2 : Int) (y3 : List TCond) (y4 : Int) (y5 : Bool) (y6 : Int) (y7 : List Int) (y8 : Bool) (y9 : Int) (y10 : Int) => κe 0 [.pb 1 0, .pb 2 0, .i .i64 y0] [some .ext, some (.box [.sl .v .int y1]), some (.box [.i .i64 y2, .sl .v .iCond y3, .i .i64 y4, .b y5, .i .i64 y6, .sl .v .int y7, .b y8, .i .i64 y9, .i .i64 y10])]) N t5 t6 t20 t30 t31 t32 t33 t34 t35 t36 t37 t38
  | 0, _, _, _, _, _, _, _, _, _, _, _, _ => rfl
  | N + 1, t5, t6, t20, t30, t31, t32, t33, t34, t35, t36, t37, t38 => (round7 n (rounds (cx n 148) 1 ann (lf n) (kr n) A7 8 [(2, .box [.view .int]), (3, .box [.k, .view .iCond, .k, .k, .k, .view .int, .k, .k, .k]), (5, .k), (6, .k)] κe N) κe t5 t6 t20 t30 t31 t32 t33 t34 t35 t36 t37 t38).trans (congrArg (fun back => spec_QueryOk.step7 n (fun (y0 : Int) (y1 : List Int) (y2 : Int) (y3 : List TCond) (y4 : Int) (y5 : Bool) (y6 : Int) (y7 : List Int) (y8 : Bool) (y9 : Int) (y10 : Int) => κe 0 [.pb 1 0, .pb 2 0, .i .i64 y0] [some .ext, some (.box [.sl .v .int y1]), some (.box [.i .i64 y2, .sl .v .iCond y3, .i .i64 y4, .b y5, .i .i64 y6, .sl .v .int y7, .b y8, .i .i64 y9, .i .i64 y10])]) back t5 t6 t20 t30 t31 t32 t33 t34 t35 t36 t37 t38) (funext fun z0 => funext fun z1 => funext fun z2 => funext fun z3 => funext fun z4 => funext fun z5 => funext fun z6 => funext fun z7 => funext fun z8 => funext fun z9 => funext fun z10 => funext fun z11 => rounds7 n κe N z0 z1 z2 z3 z4 z5 z6 z7 z8 z9 z10 z11))
noncomputable def A16 : Code := match pieceAt ann body 0 16 with | some (.loop a _) => a | _ => .skip
theorem round16 (n : Nat) (B : D R) (κe : Nat → D R) (t5 : Int) (t8 : Int) (t20 : List Int) (t30 : Int) (t31 : List TCond) (t32 : Int) (t33 : Bool) (t34 : Int) (t35 : List Int) (t36 : Bool) (t37 : Int) (t38 : Int) : run (cx n 148) 1 ann (lf n) (kr n) A16 17 (fun s => cutK 1 [(2, .box [.view .int]), (3, .box [.k, .view .iCond, .k, .k, .k, .view .int, .k, .k, .k]), (5, .k), (8, .k)] s B) (fun j s => cutK 1 (ann.out j) s (κe j)) (St.ofC [(2, .box [.view .int]), (3, .box [.k, .view .iCond, .k, .k, .k, .view .int, .k, .k, .k]), (5, .k), (8, .k)] [.pb 1 0, .pb 2 0, .i .i64 t5, .i .i64 t8] [some .ext, some (.box [.sl .v .int t20]), some (.box [.i .i64 t30, .sl .v .iCond t31, .i .i64 t32, .b t33, .i .i64 t34, .sl .v .int t35, .b t36, .i .i64 t37, .i .i64 t38])]) =
    spec_QueryOk.step16 n (fun (y0 : Int) (y1 : List Int) (y2 : Int) (y3 : List TCond) (y4 : Int) (y5 : Bool) (y6 : Int) (y7 : List Int) (y8 : Bool) (y9 : Int) (y10 : Int) => κe 2 [.pb 1 0, .pb 2 0, .i .i64 y0] [some .ext, some (.box [.sl .v .int y1]), some (.box [.i .i64 y2, .sl .v .iCond y3, .i .i64 y4, .b y5, .i .i64 y6, .sl .v .int y7, .b y8, .i .i64 y9, .i .i64 y10])]) (fun (z0 : Int) (z1 : Int) (z2 : List Int) (z3 : Int) (z4 : List TCond) (z5 : Int) (z6 : Bool) (z7 : Int) (z8 : List Int) (z9 : Bool) (z10 : Int) (z11 : Int) => B [.pb 1 0, .pb 2 0, .i .i64 z0, .i .i64 z1] [some .ext, some (.box [.sl .v .int z2]), some (.box [.i .i64 z3, .sl .v .iCond z4, .i .i64 z5, .b z6, .i .i64 z7, .sl .v .int z8, .b z9, .i .i64 z10, .i .i64 z11])]) t5 t8 t20 t30 t31 t32 t33 t34 t35 t36 t37 t38 := by kernel_rfl
theorem rounds16 (n : Nat) (κe : Nat → D R) : ∀ (N : Nat) (t5 : Int) (t8 : Int) (t20 : List Int) (t30 : Int) (t31 : List TCond) (t32 : Int) (t33 : Bool) (t34 : Int) (t35 : List Int) (t36 : Bool) (t37 : Int) (t38 : Int), rounds (cx n 148) 1 ann (lf n) (kr n) A16 17 [(2, .box [.view .int]), (3, .box [.k, .view .iCond, .k, .k, .k, .view .int, .k, .k, .k]), (5, .k), (8, .k)] κe N [.pb 1 0, .pb 2 0, .i .i64 t5, .i .i64 t8] [some .ext, some (.box [.sl .v .int t20]), some (.box [.i .i64 t30, .sl .v .iCond t31, .i .i64 t32, .b t33, .i .i64 t34, .sl .v .int t35, .b t36, .i .i64 t37, .i .i64 t38])] = spec_QueryOk.loop16 n (fun (y0 : Int) (y1 : List Int) (y2 : Int) (y3 : List TCond) (y4 : Int) (y5 : Bool) (y6 : Int) (y7 : List Int) (y8 : Bool) (y9 : Int) (y10 : Int) => κe 2 [.pb 1 0, .pb 2 0, .i .i64 y0] [some .ext, some (.box [.sl .v .int y1]), some (.box [.i .i64 y2, .sl .v .iCond y3, .i .i64 y4, .b y5, .i .i64 y6, .sl .v .int y7, .b y8, .i .i64 y9, .i .i64 y10])]) N t5 t8 t20 t30 t31 t32 t33 t34 t35 t36 t37 t38
  | 0, _, _, _, _, _, _, _, _, _, _, _, _ => rfl
  | N + 1, t5, t8, t20, t30, t31, t32, t33, t34, t35, t36, t37, t38 => (round16 n (rounds (cx n 148) 1 ann (lf n) (kr n) A16 17 [(2, .box [.view .int]), (3, .box [.k, .view .iCond, .k, .k, .k, .view .int, .k, .k, .k]), (5, .k), (8, .k)] κe N) κe t5 t8 t20 t30 t31 t32 t33 t34 t35 t36 t37 t38).trans (congrArg (fun back => spec_QueryOk.step16 n (fun (y0 : Int) (y1 : List Int) (y2 : Int) (y3 : List TCond) (y4 : Int) (y5 : Bool) (y6 : Int) (y7 : List Int) (y8 : Bool) (y9 : Int) (y10 : Int) => κe 2 [.pb 1 0, .pb 2 0, .i .i64 y0] [some .ext, some (.box [.sl .v .int y1]), some (.box [.i .i64 y2, .sl .v .iCond y3, .i .i64 y4, .b y5, .i .i64 y6, .sl .v .int y7, .b y8, .i .i64 y9, .i .i64 y10])]) back t5 t8 t20 t30 t31 t32 t33 t34 t35 t36 t37 t38) (funext fun z0 => funext fun z1 => funext fun z2 => funext fun z3 => funext fun z4 => funext fun z5 => funext fun z6 => funext fun z7 => funext fun z8 => funext fun z9 => funext fun z10 => funext fun z11 => rounds16 n κe N z0 z1 z2 z3 z4 z5 z6 z7 z8 z9 z10 z11))
theorem cuts (n : Nat) : Cuts (cx n 148) 1 ann (lf n) (kr n) body := by
  intro key κd κe v b r h
  unfold lf at h
  cases hk7 : Nat.beq key 7 with
  | true =>
    replace h := cond_t hk7 h
    have := beq_iff.1 hk7
    subst this
    replace h := uc_ok h; obtain ⟨a1, l2, rfl, h⟩ := h
    replace h := isPb_ok h; obtain ⟨rfl, h⟩ := h
    replace h := uc_ok h; obtain ⟨a3, l4, rfl, h⟩ := h
    replace h := isPb_ok h; obtain ⟨rfl, h⟩ := h
    replace h := uc_ok h; obtain ⟨a5, l6, rfl, h⟩ := h
    replace h := getI_ok h; obtain ⟨x7, rfl, h⟩ := h
    replace h := uc_ok h; obtain ⟨a8, l9, rfl, h⟩ := h
    replace h := getI_ok h; obtain ⟨x10, rfl, h⟩ := h
    replace h := un_ok h; obtain ⟨rfl, h⟩ := h
    replace h := uc_ok h; obtain ⟨a11, l12, rfl, h⟩ := h
    replace h := isExt_ok h; obtain ⟨rfl, h⟩ := h
    replace h := uc_ok h; obtain ⟨a13, l14, rfl, h⟩ := h
    replace h := getBox_ok h; obtain ⟨c15, rfl, h⟩ := h
    replace h := uc_ok h; obtain ⟨a16, l17, rfl, h⟩ := h
    replace h := getSl_ok h; obtain ⟨x18, rfl, h⟩ := h
    replace h := un_ok h; obtain ⟨rfl, h⟩ := h
    replace h := uc_ok h; obtain ⟨a19, l20, rfl, h⟩ := h
    replace h := getBox_ok h; obtain ⟨c21, rfl, h⟩ := h
    replace h := uc_ok h; obtain ⟨a22, l23, rfl, h⟩ := h
    replace h := getI_ok h; obtain ⟨x24, rfl, h⟩ := h
    replace h := uc_ok h; obtain ⟨a25, l26, rfl, h⟩ := h
    replace h := getSl_ok h; obtain ⟨x27, rfl, h⟩ := h
    replace h := uc_ok h; obtain ⟨a28, l29, rfl, h⟩ := h
    replace h := getI_ok h; obtain ⟨x30, rfl, h⟩ := h
    replace h := uc_ok h; obtain ⟨a31, l32, rfl, h⟩ := h
    replace h := getB_ok h; obtain ⟨x33, rfl, h⟩ := h
    replace h := uc_ok h; obtain ⟨a34, l35, rfl, h⟩ := h
    replace h := getI_ok h; obtain ⟨x36, rfl, h⟩ := h
    replace h := uc_ok h; obtain ⟨a37, l38, rfl, h⟩ := h
    replace h := getSl_ok h; obtain ⟨x39, rfl, h⟩ := h
    replace h := uc_ok h; obtain ⟨a40, l41, rfl, h⟩ := h
    replace h := getB_ok h; obtain ⟨x42, rfl, h⟩ := h
    replace h := uc_ok h; obtain ⟨a43, l44, rfl, h⟩ := h
    replace h := getI_ok h; obtain ⟨x45, rfl, h⟩ := h
    replace h := uc_ok h; obtain ⟨a46, l47, rfl, h⟩ := h
    replace h := getI_ok h; obtain ⟨x48, rfl, h⟩ := h
    replace h := un_ok h; obtain ⟨rfl, h⟩ := h
    replace h := un_ok h; obtain ⟨rfl, h⟩ := h
    exact ⟨[(2, .box [.view .int]), (3, .box [.k, .view .iCond, .k, .k, .k, .view .int, .k, .k, .k]), (5, .k), (6, .k)], .loop A7 8, by kernel_rfl, by kernel_rfl, ⟨n, (rounds7 n κe n x7 x10 x18 x24 x27 x30 x33 x36 x39 x42 x45 x48).trans h⟩⟩
  | false =>
    replace h := cond_f hk7 h
    cases hk16 : Nat.beq key 16 with
    | true =>
      replace h := cond_t hk16 h
      have := beq_iff.1 hk16
      subst this
      replace h := uc_ok h; obtain ⟨a1, l2, rfl, h⟩ := h
      replace h := isPb_ok h; obtain ⟨rfl, h⟩ := h
      replace h := uc_ok h; obtain ⟨a3, l4, rfl, h⟩ := h
      replace h := isPb_ok h; obtain ⟨rfl, h⟩ := h
      replace h := uc_ok h; obtain ⟨a5, l6, rfl, h⟩ := h
      replace h := getI_ok h; obtain ⟨x7, rfl, h⟩ := h
      replace h := uc_ok h; obtain ⟨a8, l9, rfl, h⟩ := h
      replace h := getI_ok h; obtain ⟨x10, rfl, h⟩ := h
      replace h := un_ok h; obtain ⟨rfl, h⟩ := h
      replace h := uc_ok h; obtain ⟨a11, l12, rfl, h⟩ := h
      replace h := isExt_ok h; obtain ⟨rfl, h⟩ := h
      replace h := uc_ok h; obtain ⟨a13, l14, rfl, h⟩ := h
      replace h := getBox_ok h; obtain ⟨c15, rfl, h⟩ := h
      replace h := uc_ok h; obtain ⟨a16, l17, rfl, h⟩ := h
      replace h := getSl_ok h; obtain ⟨x18, rfl, h⟩ := h
      replace h := un_ok h; obtain ⟨rfl, h⟩ := h
      replace h := uc_ok h; obtain ⟨a19, l20, rfl, h⟩ := h
      replace h := getBox_ok h; obtain ⟨c21, rfl, h⟩ := h
      replace h := uc_ok h; obtain ⟨a22, l23, rfl, h⟩ := h
      replace h := getI_ok h; obtain ⟨x24, rfl, h⟩ := h
      replace h := uc_ok h; obtain ⟨a25, l26, rfl, h⟩ := h
      replace h := getSl_ok h; obtain ⟨x27, rfl, h⟩ := h
      replace h := uc_ok h; obtain ⟨a28, l29, rfl, h⟩ := h
      replace h := getI_ok h; obtain ⟨x30, rfl, h⟩ := h
      replace h := uc_ok h; obtain ⟨a31, l32, rfl, h⟩ := h
      replace h := getB_ok h; obtain ⟨x33, rfl, h⟩ := h
      replace h := uc_ok h; obtain ⟨a34, l35, rfl, h⟩ := h
      replace h := getI_ok h; obtain ⟨x36, rfl, h⟩ := h
      replace h := uc_ok h; obtain ⟨a37, l38, rfl, h⟩ := h
      replace h := getSl_ok h; obtain ⟨x39, rfl, h⟩ := h
      replace h := uc_ok h; obtain ⟨a40, l41, rfl, h⟩ := h
      replace h := getB_ok h; obtain ⟨x42, rfl, h⟩ := h
      replace h := uc_ok h; obtain ⟨a43, l44, rfl, h⟩ := h
      replace h := getI_ok h; obtain ⟨x45, rfl, h⟩ := h
      replace h := uc_ok h; obtain ⟨a46, l47, rfl, h⟩ := h
      replace h := getI_ok h; obtain ⟨x48, rfl, h⟩ := h
      replace h := un_ok h; obtain ⟨rfl, h⟩ := h
      replace h := un_ok h; obtain ⟨rfl, h⟩ := h
      exact ⟨[(2, .box [.view .int]), (3, .box [.k, .view .iCond, .k, .k, .k, .view .int, .k, .k, .k]), (5, .k), (8, .k)], .loop A16 17, by kernel_rfl, by kernel_rfl, ⟨n, (rounds16 n κe n x7 x10 x18 x24 x27 x30 x33 x36 x39 x42 x45 x48).trans h⟩⟩
    | false =>
      replace h := cond_f hk16 h
      cases h
theorem top (n : Nat) (o : TSchema) (append : TQuery) : entryK 1 [.ag [.sl .v .int o.cols], .ag [.i .i64 append.table, .sl .v .iCond append.where_, .i .i64 append.order, .b append.down, .i .i64 append.first, .sl .v .int append.show_, .b append.kids, .i .i64 append.kidTable, .i .i64 append.kidCol]] (fun v b => match outOfAll [.ag [.v], .ag [.v, .v, .v, .v, .v, .v, .v, .v, .v]] v with
      | some o => cond (AV.allRoots o []) (run (cx n 148) 1 ann (lf n) (kr n) body 0 (kr n) (fun _ _ => none) (St.ofC (live0 2) v b)) none
      | none => none) = spec_QueryOk (n + 1) o append := by kernel_rfl
def Ok (n : Nat) : Prop := ∀ (o : TSchema) (append : TQuery) (res_ : R), spec_QueryOk n o append = some res_ → CallOk E 86 [.ag [.sl .v .int o.cols], .ag [.i .i64 append.table, .sl .v .iCond append.where_, .i .i64 append.order, .b append.down, .i .i64 append.first, .sl .v .int append.show_, .b append.kids, .i .i64 append.kidTable, .i .i64 append.kidCol]] (rvOf 1 (inj res_)) ((inj res_).drop 1) [.ag [.v], .ag [.v, .v, .v, .v, .v, .v, .v, .v, .v]]
theorem ok (n : Nat) (hc : CxOk E (cx n 148)) (hK : KPar (cx n 148)) : Ok (n + 1) := fun o append res_ h_ =>
  fn_sound hc hK mixedOk Try.func86 (by kernel_rfl) (by kernel_rfl) (by kernel_rfl) (by decide) fin_ok (by kernel_rfl) ((top n o append).trans h_) (cuts n)
theorem Kpar (n : Nat) {ω : Type} {avs : List AV} {κ : AV → List AV → Option ω} {q : ω} (h : spec_QueryOk.K n avs κ = some q) : ∃ rv outs, κ rv outs = some q ∧ ∀ (ω' : Type) (κ' : AV → List AV → Option ω'), spec_QueryOk.K n avs κ' = κ' rv outs := by
  unfold K at h
  generalize hf : fixes [.ag [.sl .v .int], .ag [.k, .sl .v .iCond, .k, .k, .k, .sl .v .int, .k, .k, .k]] avs = v at h
  replace h := uc_ok h; obtain ⟨a1, l2, rfl, h⟩ := h
  replace h := getAg_ok h; obtain ⟨c3, rfl, h⟩ := h
  replace h := uc_ok h; obtain ⟨a4, l5, rfl, h⟩ := h
  replace h := getSl_ok h; obtain ⟨x6, rfl, h⟩ := h
  replace h := un_ok h; obtain ⟨rfl, h⟩ := h
  replace h := uc_ok h; obtain ⟨a7, l8, rfl, h⟩ := h
  replace h := getAg_ok h; obtain ⟨c9, rfl, h⟩ := h
  replace h := uc_ok h; obtain ⟨a10, l11, rfl, h⟩ := h
  replace h := getI_ok h; obtain ⟨x12, rfl, h⟩ := h
  replace h := uc_ok h; obtain ⟨a13, l14, rfl, h⟩ := h
  replace h := getSl_ok h; obtain ⟨x15, rfl, h⟩ := h
  replace h := uc_ok h; obtain ⟨a16, l17, rfl, h⟩ := h
  replace h := getI_ok h; obtain ⟨x18, rfl, h⟩ := h
  replace h := uc_ok h; obtain ⟨a19, l20, rfl, h⟩ := h
  replace h := getB_ok h; obtain ⟨x21, rfl, h⟩ := h
  replace h := uc_ok h; obtain ⟨a22, l23, rfl, h⟩ := h
  replace h := getI_ok h; obtain ⟨x24, rfl, h⟩ := h
  replace h := uc_ok h; obtain ⟨a25, l26, rfl, h⟩ := h
  replace h := getSl_ok h; obtain ⟨x27, rfl, h⟩ := h
  replace h := uc_ok h; obtain ⟨a28, l29, rfl, h⟩ := h
  replace h := getB_ok h; obtain ⟨x30, rfl, h⟩ := h
  replace h := uc_ok h; obtain ⟨a31, l32, rfl, h⟩ := h
  replace h := getI_ok h; obtain ⟨x33, rfl, h⟩ := h
  replace h := uc_ok h; obtain ⟨a34, l35, rfl, h⟩ := h
  replace h := getI_ok h; obtain ⟨x36, rfl, h⟩ := h
  replace h := un_ok h; obtain ⟨rfl, h⟩ := h
  replace h := un_ok h; obtain ⟨rfl, h⟩ := h
  cases hr : spec_QueryOk n (TSchema.mk x6) (TQuery.mk x12 x15 x18 x21 x24 x27 x30 x33 x36) with
  | none => rw [hr] at h; cases h
  | some r =>
    rw [hr] at h
    exact ⟨_, _, h, fun ω' κ' => by unfold K; rw [hf]; exact congrArg (fun z : Option R => z.bind _) hr⟩
theorem Kok (n : Nat) (ho : Ok n) {ω : Type} {avs : List AV} {κ : AV → List AV → Option ω} {q : ω} (h : spec_QueryOk.K n avs κ = some q) : FnOk E 86 ∧ ∃ ps rv outs, (cx n 0).sig 86 = some ps ∧ κ rv outs = some q ∧ CallOk E 86 avs rv outs ps := by
  unfold K at h
  generalize hf : fixes [.ag [.sl .v .int], .ag [.k, .sl .v .iCond, .k, .k, .k, .sl .v .int, .k, .k, .k]] avs = v at h
  replace h := uc_ok h; obtain ⟨a1, l2, rfl, h⟩ := h
  replace h := getAg_ok h; obtain ⟨c3, rfl, h⟩ := h
  replace h := uc_ok h; obtain ⟨a4, l5, rfl, h⟩ := h
  replace h := getSl_ok h; obtain ⟨x6, rfl, h⟩ := h
  replace h := un_ok h; obtain ⟨rfl, h⟩ := h
  replace h := uc_ok h; obtain ⟨a7, l8, rfl, h⟩ := h
  replace h := getAg_ok h; obtain ⟨c9, rfl, h⟩ := h
  replace h := uc_ok h; obtain ⟨a10, l11, rfl, h⟩ := h
  replace h := getI_ok h; obtain ⟨x12, rfl, h⟩ := h
  replace h := uc_ok h; obtain ⟨a13, l14, rfl, h⟩ := h
  replace h := getSl_ok h; obtain ⟨x15, rfl, h⟩ := h
  replace h := uc_ok h; obtain ⟨a16, l17, rfl, h⟩ := h
  replace h := getI_ok h; obtain ⟨x18, rfl, h⟩ := h
  replace h := uc_ok h; obtain ⟨a19, l20, rfl, h⟩ := h
  replace h := getB_ok h; obtain ⟨x21, rfl, h⟩ := h
  replace h := uc_ok h; obtain ⟨a22, l23, rfl, h⟩ := h
  replace h := getI_ok h; obtain ⟨x24, rfl, h⟩ := h
  replace h := uc_ok h; obtain ⟨a25, l26, rfl, h⟩ := h
  replace h := getSl_ok h; obtain ⟨x27, rfl, h⟩ := h
  replace h := uc_ok h; obtain ⟨a28, l29, rfl, h⟩ := h
  replace h := getB_ok h; obtain ⟨x30, rfl, h⟩ := h
  replace h := uc_ok h; obtain ⟨a31, l32, rfl, h⟩ := h
  replace h := getI_ok h; obtain ⟨x33, rfl, h⟩ := h
  replace h := uc_ok h; obtain ⟨a34, l35, rfl, h⟩ := h
  replace h := getI_ok h; obtain ⟨x36, rfl, h⟩ := h
  replace h := un_ok h; obtain ⟨rfl, h⟩ := h
  replace h := un_ok h; obtain ⟨rfl, h⟩ := h
  cases hr : spec_QueryOk n (TSchema.mk x6) (TQuery.mk x12 x15 x18 x21 x24 x27 x30 x33 x36) with
  | none => rw [hr] at h; cases h
  | some r =>
    rw [hr] at h
    exact ⟨⟨_, body, Try.func86, by decide +kernel, by kernel_rfl⟩, [.ag [.v], .ag [.v, .v, .v, .v, .v, .v, .v, .v, .v]], _, _, by kernel_rfl, h, CallOk.fix (ss := [.ag [.sl .v .int], .ag [.k, .sl .v .iCond, .k, .k, .k, .sl .v .int, .k, .k, .k]]) (by rw [hf]; exact ho (TSchema.mk x6) (TQuery.mk x12 x15 x18 x21 x24 x27 x30 x33 x36) r hr)⟩
end spec_QueryOk
namespace spec_RowOk
abbrev R : Type := Bool
noncomputable def body : Code := match Try.f87.body with | some c => c | none => .skip
def ann : Ann := ⟨fun k => look2 [(6, [(5, .box [.k, .view .int]), (7, .k)])] k, fun k => match look2 [] k with | some l => l | none => [], fun k => match look2 [(0, [])] k with | some l => l | none => []⟩
def fin (o : List AV) : Option R := uc o fun a1 l2 => getB a1 fun x3 => un l2 (some (x3 : R))
def inj (r : R) : List AV := [.b r]
theorem fin_ok (o : List AV) (r : R) (h : fin o = some r) : o = inj r := by
  unfold fin at h
  replace h := uc_ok h; obtain ⟨a1, l2, rfl, h⟩ := h
  replace h := getB_ok h; obtain ⟨x3, rfl, h⟩ := h
  replace h := un_ok h; obtain ⟨rfl, h⟩ := h
  cases h
  rfl
def kr (n : Nat) : St → Option R := retK (cx n 51) [.k] [.v] [.tmp 6] [] fin
def lf (n : Nat) : LF R := fun key κd κe v b => cond (Nat.beq key 6)
    (uc v fun a1 l2 => isPb 1 0 a1 (uc l2 fun a3 l4 => getI .i64 a3 fun x5 => un l4 (uc b fun a6 l7 => isExt a6 (uc l7 fun a8 l9 => getBox a8 fun c10 => uc c10 fun a11 l12 => getI .i64 a11 fun x13 => uc l12 fun a14 l15 => getSl .v .int a14 fun x16 => un l15 (un l9 (spec_RowOk.loop6 n (fun (_ : Unit) => κe 0 [] [some .ext]) n x5 x13 x16))))))
    (none)
noncomputable def A6 : Code := match pieceAt ann body 0 6 with | some (.loop a _) => a | _ => .skip
theorem round6 (n : Nat) (B : D R) (κe : Nat → D R) (i : Int) (r0 : Int) (r1 : List Int) : run (cx n 51) 1 ann (lf n) (kr n) A6 7 (fun s => cutK 1 [(5, .box [.k, .view .int]), (7, .k)] s B) (fun j s => cutK 1 (ann.out j) s (κe j)) (St.ofC [(5, .box [.k, .view .int]), (7, .k)] [.pb 1 0, .i .i64 i] [some .ext, some (.box [.i .i64 r0, .sl .v .int r1])]) =
    spec_RowOk.step6 n (fun (_ : Unit) => κe 0 [] [some .ext]) (fun (z0 : Int) (z1 : Int) (z2 : List Int) => B [.pb 1 0, .i .i64 z0] [some .ext, some (.box [.i .i64 z1, .sl .v .int z2])]) i r0 r1 := by kernel_rfl
theorem rounds6 (n : Nat) (κe : Nat → D R) : ∀ (N : Nat) (i : Int) (r0 : Int) (r1 : List Int), rounds (cx n 51) 1 ann (lf n) (kr n) A6 7 [(5, .box [.k, .view .int]), (7, .k)] κe N [.pb 1 0, .i .i64 i] [some .ext, some (.box [.i .i64 r0, .sl .v .int r1])] = spec_RowOk.loop6 n (fun (_ : Unit) => κe 0 [] [some .ext]) N i r0 r1
  | 0, _, _, _ => rfl
  | N + 1, i, r0, r1 => (round6 n (rounds (cx n 51) 1 ann (lf n) (kr n) A6 7 [(5, .box [.k, .view .int]), (7, .k)] κe N) κe i r0 r1).trans (congrArg (fun back => spec_RowOk.step6 n (fun (_ : Unit) => κe 0 [] [some .ext]) back i r0 r1) (funext fun z0 => funext fun z1 => funext fun z2 => rounds6 n κe N z0 z1 z2))
theorem cuts (n : Nat) : Cuts (cx n 51) 1 ann (lf n) (kr n) body := by
  intro key κd κe v b r h
  unfold lf at h
  cases hk6 : Nat.beq key 6 with
  | true =>
    replace h := cond_t hk6 h
    have := beq_iff.1 hk6
    subst this
    replace h := uc_ok h; obtain ⟨a1, l2, rfl, h⟩ := h
    replace h := isPb_ok h; obtain ⟨rfl, h⟩ := h
    replace h := uc_ok h; obtain ⟨a3, l4, rfl, h⟩ := h
    replace h := getI_ok h; obtain ⟨x5, rfl, h⟩ := h
    replace h := un_ok h; obtain ⟨rfl, h⟩ := h
    replace h := uc_ok h; obtain ⟨a6, l7, rfl, h⟩ := h
    replace h := isExt_ok h; obtain ⟨rfl, h⟩ := h
    replace h := uc_ok h; obtain ⟨a8, l9, rfl, h⟩ := h
    replace h := getBox_ok h; obtain ⟨c10, rfl, h⟩ := h
    replace h := uc_ok h; obtain ⟨a11, l12, rfl, h⟩ := h
    replace h := getI_ok h; obtain ⟨x13, rfl, h⟩ := h
    replace h := uc_ok h; obtain ⟨a14, l15, rfl, h⟩ := h
    replace h := getSl_ok h; obtain ⟨x16, rfl, h⟩ := h
    replace h := un_ok h; obtain ⟨rfl, h⟩ := h
    replace h := un_ok h; obtain ⟨rfl, h⟩ := h
    exact ⟨[(5, .box [.k, .view .int]), (7, .k)], .loop A6 7, by kernel_rfl, by kernel_rfl, ⟨n, (rounds6 n κe n x5 x13 x16).trans h⟩⟩
  | false =>
    replace h := cond_f hk6 h
    cases h
theorem top (n : Nat) (s : TSchema) (table : Int) (r : TRow) : entryK 1 [.ag [.sl .v .int s.cols], .i .i64 table, .ag [.i .i64 r.id_, .sl .v .int r.cells]] (fun v b => match outOfAll [.ag [.v], .v, .ag [.v, .v]] v with
      | some o => cond (AV.allRoots o []) (run (cx n 51) 1 ann (lf n) (kr n) body 0 (kr n) (fun _ _ => none) (St.ofC (live0 3) v b)) none
      | none => none) = spec_RowOk (n + 1) s table r := by kernel_rfl
def Ok (n : Nat) : Prop := ∀ (s : TSchema) (table : Int) (r : TRow) (res_ : R), spec_RowOk n s table r = some res_ → CallOk E 87 [.ag [.sl .v .int s.cols], .i .i64 table, .ag [.i .i64 r.id_, .sl .v .int r.cells]] (rvOf 1 (inj res_)) ((inj res_).drop 1) [.ag [.v], .v, .ag [.v, .v]]
theorem ok (n : Nat) (hc : CxOk E (cx n 51)) (hK : KPar (cx n 51)) : Ok (n + 1) := fun s table r res_ h_ =>
  fn_sound hc hK mixedOk Try.func87 (by kernel_rfl) (by kernel_rfl) (by kernel_rfl) (by decide) fin_ok (by kernel_rfl) ((top n s table r).trans h_) (cuts n)
theorem Kpar (n : Nat) {ω : Type} {avs : List AV} {κ : AV → List AV → Option ω} {q : ω} (h : spec_RowOk.K n avs κ = some q) : ∃ rv outs, κ rv outs = some q ∧ ∀ (ω' : Type) (κ' : AV → List AV → Option ω'), spec_RowOk.K n avs κ' = κ' rv outs := by
  unfold K at h
  generalize hf : fixes [.ag [.sl .v .int], .k, .ag [.k, .sl .v .int]] avs = v at h
  replace h := uc_ok h; obtain ⟨a1, l2, rfl, h⟩ := h
  replace h := getAg_ok h; obtain ⟨c3, rfl, h⟩ := h
  replace h := uc_ok h; obtain ⟨a4, l5, rfl, h⟩ := h
  replace h := getSl_ok h; obtain ⟨x6, rfl, h⟩ := h
  replace h := un_ok h; obtain ⟨rfl, h⟩ := h
  replace h := uc_ok h; obtain ⟨a7, l8, rfl, h⟩ := h
  replace h := getI_ok h; obtain ⟨x9, rfl, h⟩ := h
  replace h := uc_ok h; obtain ⟨a10, l11, rfl, h⟩ := h
  replace h := getAg_ok h; obtain ⟨c12, rfl, h⟩ := h
  replace h := uc_ok h; obtain ⟨a13, l14, rfl, h⟩ := h
  replace h := getI_ok h; obtain ⟨x15, rfl, h⟩ := h
  replace h := uc_ok h; obtain ⟨a16, l17, rfl, h⟩ := h
  replace h := getSl_ok h; obtain ⟨x18, rfl, h⟩ := h
  replace h := un_ok h; obtain ⟨rfl, h⟩ := h
  replace h := un_ok h; obtain ⟨rfl, h⟩ := h
  cases hr : spec_RowOk n (TSchema.mk x6) x9 (TRow.mk x15 x18) with
  | none => rw [hr] at h; cases h
  | some r =>
    rw [hr] at h
    exact ⟨_, _, h, fun ω' κ' => by unfold K; rw [hf]; exact congrArg (fun z : Option R => z.bind _) hr⟩
theorem Kok (n : Nat) (ho : Ok n) {ω : Type} {avs : List AV} {κ : AV → List AV → Option ω} {q : ω} (h : spec_RowOk.K n avs κ = some q) : FnOk E 87 ∧ ∃ ps rv outs, (cx n 0).sig 87 = some ps ∧ κ rv outs = some q ∧ CallOk E 87 avs rv outs ps := by
  unfold K at h
  generalize hf : fixes [.ag [.sl .v .int], .k, .ag [.k, .sl .v .int]] avs = v at h
  replace h := uc_ok h; obtain ⟨a1, l2, rfl, h⟩ := h
  replace h := getAg_ok h; obtain ⟨c3, rfl, h⟩ := h
  replace h := uc_ok h; obtain ⟨a4, l5, rfl, h⟩ := h
  replace h := getSl_ok h; obtain ⟨x6, rfl, h⟩ := h
  replace h := un_ok h; obtain ⟨rfl, h⟩ := h
  replace h := uc_ok h; obtain ⟨a7, l8, rfl, h⟩ := h
  replace h := getI_ok h; obtain ⟨x9, rfl, h⟩ := h
  replace h := uc_ok h; obtain ⟨a10, l11, rfl, h⟩ := h
  replace h := getAg_ok h; obtain ⟨c12, rfl, h⟩ := h
  replace h := uc_ok h; obtain ⟨a13, l14, rfl, h⟩ := h
  replace h := getI_ok h; obtain ⟨x15, rfl, h⟩ := h
  replace h := uc_ok h; obtain ⟨a16, l17, rfl, h⟩ := h
  replace h := getSl_ok h; obtain ⟨x18, rfl, h⟩ := h
  replace h := un_ok h; obtain ⟨rfl, h⟩ := h
  replace h := un_ok h; obtain ⟨rfl, h⟩ := h
  cases hr : spec_RowOk n (TSchema.mk x6) x9 (TRow.mk x15 x18) with
  | none => rw [hr] at h; cases h
  | some r =>
    rw [hr] at h
    exact ⟨⟨_, body, Try.func87, by decide +kernel, by kernel_rfl⟩, [.ag [.v], .v, .ag [.v, .v]], _, _, by kernel_rfl, h, CallOk.fix (ss := [.ag [.sl .v .int], .k, .ag [.k, .sl .v .int]]) (by rw [hf]; exact ho (TSchema.mk x6) x9 (TRow.mk x15 x18) r hr)⟩
end spec_RowOk
end Go.Pi
end
section
set_option linter.unusedVariables false
set_option maxRecDepth 100000
namespace Go.Pi
open Go.Proofs
namespace spec_l9Holds
abbrev R : Type := Bool
noncomputable def body : Code := match Try.f143.body with | some c => c | none => .skip
def ann : Ann := ⟨fun k => look2 [] k, fun k => match look2 [] k with | some l => l | none => [], fun k => match look2 [] k with | some l => l | none => []⟩
def fin (o : List AV) : Option R := uc o fun a1 l2 => getB a1 fun x3 => un l2 (some (x3 : R))
def inj (r : R) : List AV := [.b r]
theorem fin_ok (o : List AV) (r : R) (h : fin o = some r) : o = inj r := by
  unfold fin at h
  replace h := uc_ok h; obtain ⟨a1, l2, rfl, h⟩ := h
  replace h := getB_ok h; obtain ⟨x3, rfl, h⟩ := h
  replace h := un_ok h; obtain ⟨rfl, h⟩ := h
  cases h
  rfl
def kr (n : Nat) : St → Option R := retK (cx n 46) [.k] [.v] [.tmp 4] [] fin
def lf (n : Nat) : LF R := fun key κd κe v b => none
theorem cuts (n : Nat) : Cuts (cx n 46) 1 ann (lf n) (kr n) body := by
  intro key κd κe v b r h
  unfold lf at h
  cases h
theorem top (n : Nat) (x : TCond) (r : TRow) : entryK 1 [.ag [.i .i64 x.col, .i .i64 x.op, .i .i64 x.v], .ag [.i .i64 r.id_, .sl .v .int r.cells]] (fun v b => match outOfAll [.ag [.v, .v, .v], .ag [.v, .v]] v with
      | some o => cond (AV.allRoots o []) (run (cx n 46) 1 ann (lf n) (kr n) body 0 (kr n) (fun _ _ => none) (St.ofC (live0 2) v b)) none
      | none => none) = spec_l9Holds (n + 1) x r := by kernel_rfl
def Ok (n : Nat) : Prop := ∀ (x : TCond) (r : TRow) (res_ : R), spec_l9Holds n x r = some res_ → CallOk E 143 [.ag [.i .i64 x.col, .i .i64 x.op, .i .i64 x.v], .ag [.i .i64 r.id_, .sl .v .int r.cells]] (rvOf 1 (inj res_)) ((inj res_).drop 1) [.ag [.v, .v, .v], .ag [.v, .v]]
theorem ok (n : Nat) (hc : CxOk E (cx n 46)) (hK : KPar (cx n 46)) : Ok (n + 1) := fun x r res_ h_ =>
  fn_sound hc hK mixedOk Try.func143 (by kernel_rfl) (by kernel_rfl) (by kernel_rfl) (by decide) fin_ok (by kernel_rfl) ((top n x r).trans h_) (cuts n)
theorem Kpar (n : Nat) {ω : Type} {avs : List AV} {κ : AV → List AV → Option ω} {q : ω} (h : spec_l9Holds.K n avs κ = some q) : ∃ rv outs, κ rv outs = some q ∧ ∀ (ω' : Type) (κ' : AV → List AV → Option ω'), spec_l9Holds.K n avs κ' = κ' rv outs := by
  unfold K at h
  generalize hf : fixes [.ag [.k, .k, .k], .ag [.k, .sl .v .int]] avs = v at h
  replace h := uc_ok h; obtain ⟨a1, l2, rfl, h⟩ := h
  replace h := getAg_ok h; obtain ⟨c3, rfl, h⟩ := h
  replace h := uc_ok h; obtain ⟨a4, l5, rfl, h⟩ := h
  replace h := getI_ok h; obtain ⟨x6, rfl, h⟩ := h
  replace h := uc_ok h; obtain ⟨a7, l8, rfl, h⟩ := h
  replace h := getI_ok h; obtain ⟨x9, rfl, h⟩ := h
  replace h := uc_ok h; obtain ⟨a10, l11, rfl, h⟩ := h
  replace h := getI_ok h; obtain ⟨x12, rfl, h⟩ := h
  replace h := un_ok h; obtain ⟨rfl, h⟩ := h
  replace h := uc_ok h; obtain ⟨a13, l14, rfl, h⟩ := h
  replace h := getAg_ok h; obtain ⟨c15, rfl, h⟩ := h
  replace h := uc_ok h; obtain ⟨a16, l17, rfl, h⟩ := h
  replace h := getI_ok h; obtain ⟨x18, rfl, h⟩ := h
  replace h := uc_ok h; obtain ⟨a19, l20, rfl, h⟩ := h
  replace h := getSl_ok h; obtain ⟨x21, rfl, h⟩ := h
  replace h := un_ok h; obtain ⟨rfl, h⟩ := h
  replace h := un_ok h; obtain ⟨rfl, h⟩ := h
  cases hr : spec_l9Holds n (TCond.mk x6 x9 x12) (TRow.mk x18 x21) with
  | none => rw [hr] at h; cases h
  | some r =>
    rw [hr] at h
    exact ⟨_, _, h, fun ω' κ' => by unfold K; rw [hf]; exact congrArg (fun z : Option R => z.bind _) hr⟩
theorem Kok (n : Nat) (ho : Ok n) {ω : Type} {avs : List AV} {κ : AV → List AV → Option ω} {q : ω} (h : spec_l9Holds.K n avs κ = some q) : FnOk E 143 ∧ ∃ ps rv outs, (cx n 0).sig 143 = some ps ∧ κ rv outs = some q ∧ CallOk E 143 avs rv outs ps := by
  unfold K at h
  generalize hf : fixes [.ag [.k, .k, .k], .ag [.k, .sl .v .int]] avs = v at h
  replace h := uc_ok h; obtain ⟨a1, l2, rfl, h⟩ := h
  replace h := getAg_ok h; obtain ⟨c3, rfl, h⟩ := h
  replace h := uc_ok h; obtain ⟨a4, l5, rfl, h⟩ := h
  replace h := getI_ok h; obtain ⟨x6, rfl, h⟩ := h
  replace h := uc_ok h; obtain ⟨a7, l8, rfl, h⟩ := h
  replace h := getI_ok h; obtain ⟨x9, rfl, h⟩ := h
  replace h := uc_ok h; obtain ⟨a10, l11, rfl, h⟩ := h
  replace h := getI_ok h; obtain ⟨x12, rfl, h⟩ := h
  replace h := un_ok h; obtain ⟨rfl, h⟩ := h
  replace h := uc_ok h; obtain ⟨a13, l14, rfl, h⟩ := h
  replace h := getAg_ok h; obtain ⟨c15, rfl, h⟩ := h
  replace h := uc_ok h; obtain ⟨a16, l17, rfl, h⟩ := h
  replace h := getI_ok h; obtain ⟨x18, rfl, h⟩ := h
  replace h := uc_ok h; obtain ⟨a19, l20, rfl, h⟩ := h
  replace h := getSl_ok h; obtain ⟨x21, rfl, h⟩ := h
  replace h := un_ok h; obtain ⟨rfl, h⟩ := h
  replace h := un_ok h; obtain ⟨rfl, h⟩ := h
  cases hr : spec_l9Holds n (TCond.mk x6 x9 x12) (TRow.mk x18 x21) with
  | none => rw [hr] at h; cases h
  | some r =>
    rw [hr] at h
    exact ⟨⟨_, body, Try.func143, by decide +kernel, by kernel_rfl⟩, [.ag [.v, .v, .v], .ag [.v, .v]], _, _, by kernel_rfl, h, CallOk.fix (ss := [.ag [.k, .k, .k], .ag [.k, .sl .v .int]]) (by rw [hf]; exact ho (TCond.mk x6 x9 x12) (TRow.mk x18 x21) r hr)⟩
end spec_l9Holds
namespace spec_Matches
abbrev R : Type := Bool
noncomputable def body : Code := match Try.f88.body with | some c => c | none => .skip
def ann : Ann := ⟨fun k => look2 [(3, [(2, .box [.k, .view .iCond, .k, .k, .k, .view .int, .k, .k, .k]), (3, .box [.k, .view .int]), (5, .k)])] k, fun k => match look2 [] k with | some l => l | none => [], fun k => match look2 [(0, [])] k with | some l => l | none => []⟩
def fin (o : List AV) : Option R := uc o fun a1 l2 => getB a1 fun x3 => un l2 (some (x3 : R))
def inj (r : R) : List AV := [.b r]
theorem fin_ok (o : List AV) (r : R) (h : fin o = some r) : o = inj r := by
  unfold fin at h
  replace h := uc_ok h; obtain ⟨a1, l2, rfl, h⟩ := h
  replace h := getB_ok h; obtain ⟨x3, rfl, h⟩ := h
  replace h := un_ok h; obtain ⟨rfl, h⟩ := h
  cases h
  rfl
def kr (n : Nat) : St → Option R := retK (cx n 21) [.k] [.v] [.tmp 4] [] fin
def lf (n : Nat) : LF R := fun key κd κe v b => cond (Nat.beq key 3)
    (uc v fun a1 l2 => isPb 1 0 a1 (uc l2 fun a3 l4 => isPb 2 0 a3 (uc l4 fun a5 l6 => getI .i64 a5 fun x7 => un l6 (uc b fun a8 l9 => isExt a8 (uc l9 fun a10 l11 => getBox a10 fun c12 => uc c12 fun a13 l14 => getI .i64 a13 fun x15 => uc l14 fun a16 l17 => getSl .v .iCond a16 fun x18 => uc l17 fun a19 l20 => getI .i64 a19 fun x21 => uc l20 fun a22 l23 => getB a22 fun x24 => uc l23 fun a25 l26 => getI .i64 a25 fun x27 => uc l26 fun a28 l29 => getSl .v .int a28 fun x30 => uc l29 fun a31 l32 => getB a31 fun x33 => uc l32 fun a34 l35 => getI .i64 a34 fun x36 => uc l35 fun a37 l38 => getI .i64 a37 fun x39 => un l38 (uc l11 fun a40 l41 => getBox a40 fun c42 => uc c42 fun a43 l44 => getI .i64 a43 fun x45 => uc l44 fun a46 l47 => getSl .v .int a46 fun x48 => un l47 (un l41 (spec_Matches.loop3 n (fun (_ : Unit) => κe 0 [] [some .ext]) n x7 x15 x18 x21 x24 x27 x30 x33 x36 x39 x45 x48))))))))
    (none)
noncomputable def A3 : Code := match pieceAt ann body 0 3 with | some (.loop a _) => a | _ => .skip
theorem round3 (n : Nat) (B : D R) (κe : Nat → D R) (i : Int) (q0 : Int) (q1 : List TCond) (q2 : Int) (q3 : Bool) (q4 : Int) (q5 : List Int) (q6 : Bool) (q7 : Int) (q8 : Int) (r0 : Int) (r1 : List Int) : run (cx n 21) 1 ann (lf n) (kr n) A3 4 (fun s => cutK 1 [(2, .box [.k, .view .iCond, .k, .k, .k, .view .int, .k, .k, .k]), (3, .box [.k, .view .int]), (5, .k)] s B) (fun j s => cutK 1 (ann.out j) s (κe j)) (St.ofC [(2, .box [.k, .view .iCond, .k, .k, .k, .view .int, .k, .k, .k]), (3, .box [.k, .view .int]), (5, .k)] [.pb 1 0, .pb 2 0, .i .i64 i] [some .ext, some (.box [.i .i64 q0, .sl .v .iCond q1, .i .i64 q2, .b q3, .i .i64 q4, .sl .v .int q5, .b q6, .i .i64 q7, .i .i64 q8]), some (.box [.i .i64 r0, .sl .v .int r1])]) =
    spec_Matches.step3 n (fun (_ : Unit) => κe 0 [] [some .ext]) (fun (z0 : Int) (z1 : Int) (z2 : List TCond) (z3 : Int) (z4 : Bool) (z5 : Int) (z6 : List Int) (z7 : Bool) (z8 : Int) (z9 : Int) (z10 : Int) (z11 : List Int) => B [.pb 1 0, .pb 2 0, .i .i64 z0] [some .ext, some (.box [.i .i64 z1, .sl .v .iCond z2, .i .i64 z3, .b z4, .i .i64 z5, .sl .v .int z6, .b z7, .i .i64 z8, .i .i64 z9]), some (.box [.i .i64 z10, .sl .v .int z11])]) i q0 q1 q2 q3 q4 q5 q6 q7 q8 r0 r1 := by kernel_rfl
theorem rounds3 (n : Nat) (κe : Nat → D R) : ∀ (N : Nat) (i : Int) (q0 : Int) (q1 : List TCond) (q2 : Int) (q3 : Bool) (q4 : Int) (q5 : List Int) (q6 : Bool) (q7 : Int) (q8 : Int) (r0 : Int) (r1 : List Int), rounds (cx n 21) 1 ann (lf n) (kr n) A3 4 [(2, .box [.k, .view .iCond, .k, .k, .k, .view .int, .k, .k, .k]), (3, .box [.k, .view .int]), (5, .k)] κe N [.pb 1 0, .pb 2 0, .i .i64 i] [some .ext, some (.box [.i .i64 q0, .sl .v .iCond q1, .i .i64 q2, .b q3, .i .i64 q4, .sl .v .int q5, .b q6, .i .i64 q7, .i .i64 q8]), some (.box [.i .i64 r0, .sl .v .int r1])] = spec_Matches.loop3 n (fun (_ : Unit) => κe 0 [] [some .ext]) N i q0 q1 q2 q3 q4 q5 q6 q7 q8 r0 r1
  | 0, _, _, _, _, _, _, _, _, _, _, _, _ => rfl
  | N + 1, i, q0, q1, q2, q3, q4, q5, q6, q7, q8, r0, r1 => (round3 n (rounds (cx n 21) 1 ann (lf n) (kr n) A3 4 [(2, .box [.k, .view .iCond, .k, .k, .k, .view .int, .k, .k, .k]), (3, .box [.k, .view .int]), (5, .k)] κe N) κe i q0 q1 q2 q3 q4 q5 q6 q7 q8 r0 r1).trans (congrArg (fun back => spec_Matches.step3 n (fun (_ : Unit) => κe 0 [] [some .ext]) back i q0 q1 q2 q3 q4 q5 q6 q7 q8 r0 r1) (funext fun z0 => funext fun z1 => funext fun z2 => funext fun z3 => funext fun z4 => funext fun z5 => funext fun z6 => funext fun z7 => funext fun z8 => funext fun z9 => funext fun z10 => funext fun z11 => rounds3 n κe N z0 z1 z2 z3 z4 z5 z6 z7 z8 z9 z10 z11))
theorem cuts (n : Nat) : Cuts (cx n 21) 1 ann (lf n) (kr n) body := by
  intro key κd κe v b r h
  unfold lf at h
  cases hk3 : Nat.beq key 3 with
  | true =>
    replace h := cond_t hk3 h
    have := beq_iff.1 hk3
    subst this
    replace h := uc_ok h; obtain ⟨a1, l2, rfl, h⟩ := h
    replace h := isPb_ok h; obtain ⟨rfl, h⟩ := h
    replace h := uc_ok h; obtain ⟨a3, l4, rfl, h⟩ := h
    replace h := isPb_ok h; obtain ⟨rfl, h⟩ := h
    replace h := uc_ok h; obtain ⟨a5, l6, rfl, h⟩ := h
    replace h := getI_ok h; obtain ⟨x7, rfl, h⟩ := h
    replace h := un_ok h; obtain ⟨rfl, h⟩ := h
    replace h := uc_ok h; obtain ⟨a8, l9, rfl, h⟩ := h
    replace h := isExt_ok h; obtain ⟨rfl, h⟩ := h
    replace h := uc_ok h; obtain ⟨a10, l11, rfl, h⟩ := h
    replace h := getBox_ok h; obtain ⟨c12, rfl, h⟩ := h
    replace h := uc_ok h; obtain ⟨a13, l14, rfl, h⟩ := h
    replace h := getI_ok h; obtain ⟨x15, rfl, h⟩ := h
    replace h := uc_ok h; obtain ⟨a16, l17, rfl, h⟩ := h
    replace h := getSl_ok h; obtain ⟨x18, rfl, h⟩ := h
    replace h := uc_ok h; obtain ⟨a19, l20, rfl, h⟩ := h
    replace h := getI_ok h; obtain ⟨x21, rfl, h⟩ := h
    replace h := uc_ok h; obtain ⟨a22, l23, rfl, h⟩ := h
    replace h := getB_ok h; obtain ⟨x24, rfl, h⟩ := h
    replace h := uc_ok h; obtain ⟨a25, l26, rfl, h⟩ := h
    replace h := getI_ok h; obtain ⟨x27, rfl, h⟩ := h
    replace h := uc_ok h; obtain ⟨a28, l29, rfl, h⟩ := h
    replace h := getSl_ok h; obtain ⟨x30, rfl, h⟩ := h
    replace h := uc_ok h; obtain ⟨a31, l32, rfl, h⟩ := h
    replace h := getB_ok h; obtain ⟨x33, rfl, h⟩ := h
    replace h := uc_ok h; obtain ⟨a34, l35, rfl, h⟩ := h
    replace h := getI_ok h; obtain ⟨x36, rfl, h⟩ := h
    replace h := uc_ok h; obtain ⟨a37, l38, rfl, h⟩ := h
    replace h := getI_ok h; obtain ⟨x39, rfl, h⟩ := h
    replace h := un_ok h; obtain ⟨rfl, h⟩ := h
    replace h := uc_ok h; obtain ⟨a40, l41, rfl, h⟩ := h
    replace h := getBox_ok h; obtain ⟨c42, rfl, h⟩ := h
    replace h := uc_ok h; obtain ⟨a43, l44, rfl, h⟩ := h
    replace h := getI_ok h; obtain ⟨x45, rfl, h⟩ := h
    replace h := uc_ok h; obtain ⟨a46, l47, rfl, h⟩ := h
    replace h := getSl_ok h; obtain ⟨x48, rfl, h⟩ := h
    replace h := un_ok h; obtain ⟨rfl, h⟩ := h
    replace h := un_ok h; obtain ⟨rfl, h⟩ := h
    exact ⟨[(2, .box [.k, .view .iCond, .k, .k, .k, .view .int, .k, .k, .k]), (3, .box [.k, .view .int]), (5, .k)], .loop A3 4, by kernel_rfl, by kernel_rfl, ⟨n, (rounds3 n κe n x7 x15 x18 x21 x24 x27 x30 x33 x36 x39 x45 x48).trans h⟩⟩
  | false =>
    replace h := cond_f hk3 h
    cases h
theorem top (n : Nat) (q : TQuery) (r : TRow) : entryK 1 [.ag [.i .i64 q.table, .sl .v .iCond q.where_, .i .i64 q.order, .b q.down, .i .i64 q.first, .sl .v .int q.show_, .b q.kids, .i .i64 q.kidTable, .i .i64 q.kidCol], .ag [.i .i64 r.id_, .sl .v .int r.cells]] (fun v b => match outOfAll [.ag [.v, .v, .v, .v, .v, .v, .v, .v, .v], .ag [.v, .v]] v with
      | some o => cond (AV.allRoots o []) (run (cx n 21) 1 ann (lf n) (kr n) body 0 (kr n) (fun _ _ => none) (St.ofC (live0 2) v b)) none
      | none => none) = spec_Matches (n + 1) q r := by kernel_rfl
def Ok (n : Nat) : Prop := ∀ (q : TQuery) (r : TRow) (res_ : R), spec_Matches n q r = some res_ → CallOk E 88 [.ag [.i .i64 q.table, .sl .v .iCond q.where_, .i .i64 q.order, .b q.down, .i .i64 q.first, .sl .v .int q.show_, .b q.kids, .i .i64 q.kidTable, .i .i64 q.kidCol], .ag [.i .i64 r.id_, .sl .v .int r.cells]] (rvOf 1 (inj res_)) ((inj res_).drop 1) [.ag [.v, .v, .v, .v, .v, .v, .v, .v, .v], .ag [.v, .v]]
theorem ok (n : Nat) (hc : CxOk E (cx n 21)) (hK : KPar (cx n 21)) : Ok (n + 1) := fun q r res_ h_ =>
  fn_sound hc hK mixedOk Try.func88 (by kernel_rfl) (by kernel_rfl) (by kernel_rfl) (by decide) fin_ok (by kernel_rfl) ((top n q r).trans h_) (cuts n)
theorem Kpar (n : Nat) {ω : Type} {avs : List AV} {κ : AV → List AV → Option ω} {q : ω} (h : spec_Matches.K n avs κ = some q) : ∃ rv outs, κ rv outs = some q ∧ ∀ (ω' : Type) (κ' : AV → List AV → Option ω'), spec_Matches.K n avs κ' = κ' rv outs := by
  unfold K at h
  generalize hf : fixes [.ag [.k, .sl .v .iCond, .k, .k, .k, .sl .v .int, .k, .k, .k], .ag [.k, .sl .v .int]] avs = v at h
  replace h := uc_ok h; obtain ⟨a1, l2, rfl, h⟩ := h
  replace h := getAg_ok h; obtain ⟨c3, rfl, h⟩ := h
  replace h := uc_ok h; obtain ⟨a4, l5, rfl, h⟩ := h
  replace h := getI_ok h; obtain ⟨x6, rfl, h⟩ := h
  replace h := uc_ok h; obtain ⟨a7, l8, rfl, h⟩ := h
  replace h := getSl_ok h; obtain ⟨x9, rfl, h⟩ := h
  replace h := uc_ok h; obtain ⟨a10, l11, rfl, h⟩ := h
  replace h := getI_ok h; obtain ⟨x12, rfl, h⟩ := h
  replace h := uc_ok h; obtain ⟨a13, l14, rfl, h⟩ := h
  replace h := getB_ok h; obtain ⟨x15, rfl, h⟩ := h
  replace h := uc_ok h; obtain ⟨a16, l17, rfl, h⟩ := h
  replace h := getI_ok h; obtain ⟨x18, rfl, h⟩ := h
  replace h := uc_ok h; obtain ⟨a19, l20, rfl, h⟩ := h
  replace h := getSl_ok h; obtain ⟨x21, rfl, h⟩ := h
  replace h := uc_ok h; obtain ⟨a22, l23, rfl, h⟩ := h
  replace h := getB_ok h; obtain ⟨x24, rfl, h⟩ := h
  replace h := uc_ok h; obtain ⟨a25, l26, rfl, h⟩ := h
  replace h := getI_ok h; obtain ⟨x27, rfl, h⟩ := h
  replace h := uc_ok h; obtain ⟨a28, l29, rfl, h⟩ := h
  replace h := getI_ok h; obtain ⟨x30, rfl, h⟩ := h
  replace h := un_ok h; obtain ⟨rfl, h⟩ := h
  replace h := uc_ok h; obtain ⟨a31, l32, rfl, h⟩ := h
  replace h := getAg_ok h; obtain ⟨c33, rfl, h⟩ := h
  replace h := uc_ok h; obtain ⟨a34, l35, rfl, h⟩ := h
  replace h := getI_ok h; obtain ⟨x36, rfl, h⟩ := h
  replace h := uc_ok h; obtain ⟨a37, l38, rfl, h⟩ := h
  replace h := getSl_ok h; obtain ⟨x39, rfl, h⟩ := h
  replace h := un_ok h; obtain ⟨rfl, h⟩ := h
  replace h := un_ok h; obtain ⟨rfl, h⟩ := h
  cases hr : spec_Matches n (TQuery.mk x6 x9 x12 x15 x18 x21 x24 x27 x30) (TRow.mk x36 x39) with
  | none => rw [hr] at h; cases h
  | some r =>
    rw [hr] at h
    exact ⟨_, _, h, fun ω' κ' => by unfold K; rw [hf]; exact congrArg (fun z : Option R => z.bind _) hr⟩
theorem Kok (n : Nat) (ho : Ok n) {ω : Type} {avs : List AV} {κ : AV → List AV → Option ω} {q : ω} (h : spec_Matches.K n avs κ = some q) : FnOk E 88 ∧ ∃ ps rv outs, (cx n 0).sig 88 = some ps ∧ κ rv outs = some q ∧ CallOk E 88 avs rv outs ps := by
  unfold K at h
  generalize hf : fixes [.ag [.k, .sl .v .iCond, .k, .k, .k, .sl .v .int, .k, .k, .k], .ag [.k, .sl .v .int]] avs = v at h
  replace h := uc_ok h; obtain ⟨a1, l2, rfl, h⟩ := h
  replace h := getAg_ok h; obtain ⟨c3, rfl, h⟩ := h
  replace h := uc_ok h; obtain ⟨a4, l5, rfl, h⟩ := h
  replace h := getI_ok h; obtain ⟨x6, rfl, h⟩ := h
  replace h := uc_ok h; obtain ⟨a7, l8, rfl, h⟩ := h
  replace h := getSl_ok h; obtain ⟨x9, rfl, h⟩ := h
  replace h := uc_ok h; obtain ⟨a10, l11, rfl, h⟩ := h
  replace h := getI_ok h; obtain ⟨x12, rfl, h⟩ := h
  replace h := uc_ok h; obtain ⟨a13, l14, rfl, h⟩ := h
  replace h := getB_ok h; obtain ⟨x15, rfl, h⟩ := h
  replace h := uc_ok h; obtain ⟨a16, l17, rfl, h⟩ := h
  replace h := getI_ok h; obtain ⟨x18, rfl, h⟩ := h
  replace h := uc_ok h; obtain ⟨a19, l20, rfl, h⟩ := h
  replace h := getSl_ok h; obtain ⟨x21, rfl, h⟩ := h
  replace h := uc_ok h; obtain ⟨a22, l23, rfl, h⟩ := h
  replace h := getB_ok h; obtain ⟨x24, rfl, h⟩ := h
  replace h := uc_ok h; obtain ⟨a25, l26, rfl, h⟩ := h
  replace h := getI_ok h; obtain ⟨x27, rfl, h⟩ := h
  replace h := uc_ok h; obtain ⟨a28, l29, rfl, h⟩ := h
  replace h := getI_ok h; obtain ⟨x30, rfl, h⟩ := h
  replace h := un_ok h; obtain ⟨rfl, h⟩ := h
  replace h := uc_ok h; obtain ⟨a31, l32, rfl, h⟩ := h
  replace h := getAg_ok h; obtain ⟨c33, rfl, h⟩ := h
  replace h := uc_ok h; obtain ⟨a34, l35, rfl, h⟩ := h
  replace h := getI_ok h; obtain ⟨x36, rfl, h⟩ := h
  replace h := uc_ok h; obtain ⟨a37, l38, rfl, h⟩ := h
  replace h := getSl_ok h; obtain ⟨x39, rfl, h⟩ := h
  replace h := un_ok h; obtain ⟨rfl, h⟩ := h
  replace h := un_ok h; obtain ⟨rfl, h⟩ := h
  cases hr : spec_Matches n (TQuery.mk x6 x9 x12 x15 x18 x21 x24 x27 x30) (TRow.mk x36 x39) with
  | none => rw [hr] at h; cases h
  | some r =>
    rw [hr] at h
    exact ⟨⟨_, body, Try.func88, by decide +kernel, by kernel_rfl⟩, [.ag [.v, .v, .v, .v, .v, .v, .v, .v, .v], .ag [.v, .v]], _, _, by kernel_rfl, h, CallOk.fix (ss := [.ag [.k, .sl .v .iCond, .k, .k, .k, .sl .v .int, .k, .k, .k], .ag [.k, .sl .v .int]]) (by rw [hf]; exact ho (TQuery.mk x6 x9 x12 x15 x18 x21 x24 x27 x30) (TRow.mk x36 x39) r hr)⟩
end spec_Matches
namespace spec_RowAt
abbrev R : Type := Int
noncomputable def body : Code := match Try.f89.body with | some c => c | none => .skip
def ann : Ann := ⟨fun k => look2 [(3, [(0, .view .iRow), (1, .k), (5, .k)])] k, fun k => match look2 [] k with | some l => l | none => [], fun k => match look2 [(0, [])] k with | some l => l | none => []⟩
def fin (o : List AV) : Option R := uc o fun a1 l2 => getI .i64 a1 fun x3 => un l2 (some (x3 : R))
def inj (r : R) : List AV := [.i .i64 r]
theorem fin_ok (o : List AV) (r : R) (h : fin o = some r) : o = inj r := by
  unfold fin at h
  replace h := uc_ok h; obtain ⟨a1, l2, rfl, h⟩ := h
  replace h := getI_ok h; obtain ⟨x3, rfl, h⟩ := h
  replace h := un_ok h; obtain ⟨rfl, h⟩ := h
  cases h
  rfl
def kr (n : Nat) : St → Option R := retK (cx n 20) [.k] [.v] [.tmp 4] [] fin
def lf (n : Nat) : LF R := fun key κd κe v b => cond (Nat.beq key 3)
    (uc v fun a1 l2 => getSl .v .iRow a1 fun x3 => uc l2 fun a4 l5 => getI .i64 a4 fun x6 => uc l5 fun a7 l8 => getI .i64 a7 fun x9 => un l8 (uc b fun a10 l11 => isExt a10 (un l11 (spec_RowAt.loop3 n (fun (_ : Unit) => κe 0 [] [some .ext]) n x3 x6 x9))))
    (none)
noncomputable def A3 : Code := match pieceAt ann body 0 3 with | some (.loop a _) => a | _ => .skip
theorem round3 (n : Nat) (B : D R) (κe : Nat → D R) (rows : List TRow) (id_1 : Int) (i : Int) : run (cx n 20) 1 ann (lf n) (kr n) A3 4 (fun s => cutK 1 [(0, .view .iRow), (1, .k), (5, .k)] s B) (fun j s => cutK 1 (ann.out j) s (κe j)) (St.ofC [(0, .view .iRow), (1, .k), (5, .k)] [.sl .v .iRow rows, .i .i64 id_1, .i .i64 i] [some .ext]) =
    spec_RowAt.step3 n (fun (_ : Unit) => κe 0 [] [some .ext]) (fun (z0 : List TRow) (z1 : Int) (z2 : Int) => B [.sl .v .iRow z0, .i .i64 z1, .i .i64 z2] [some .ext]) rows id_1 i := by kernel_rfl
theorem rounds3 (n : Nat) (κe : Nat → D R) : ∀ (N : Nat) (rows : List TRow) (id_1 : Int) (i : Int), rounds (cx n 20) 1 ann (lf n) (kr n) A3 4 [(0, .view .iRow), (1, .k), (5, .k)] κe N [.sl .v .iRow rows, .i .i64 id_1, .i .i64 i] [some .ext] = spec_RowAt.loop3 n (fun (_ : Unit) => κe 0 [] [some .ext]) N rows id_1 i
  | 0, _, _, _ => rfl
  | N + 1, rows, id_1, i => (round3 n (rounds (cx n 20) 1 ann (lf n) (kr n) A3 4 [(0, .view .iRow), (1, .k), (5, .k)] κe N) κe rows id_1 i).trans (congrArg (fun back => spec_RowAt.step3 n (fun (_ : Unit) => κe 0 [] [some .ext]) back rows id_1 i) (funext fun z0 => funext fun z1 => funext fun z2 => rounds3 n κe N z0 z1 z2))
theorem cuts (n : Nat) : Cuts (cx n 20) 1 ann (lf n) (kr n) body := by
  intro key κd κe v b r h
  unfold lf at h
  cases hk3 : Nat.beq key 3 with
  | true =>
    replace h := cond_t hk3 h
    have := beq_iff.1 hk3
    subst this
    replace h := uc_ok h; obtain ⟨a1, l2, rfl, h⟩ := h
    replace h := getSl_ok h; obtain ⟨x3, rfl, h⟩ := h
    replace h := uc_ok h; obtain ⟨a4, l5, rfl, h⟩ := h
    replace h := getI_ok h; obtain ⟨x6, rfl, h⟩ := h
    replace h := uc_ok h; obtain ⟨a7, l8, rfl, h⟩ := h
    replace h := getI_ok h; obtain ⟨x9, rfl, h⟩ := h
    replace h := un_ok h; obtain ⟨rfl, h⟩ := h
    replace h := uc_ok h; obtain ⟨a10, l11, rfl, h⟩ := h
    replace h := isExt_ok h; obtain ⟨rfl, h⟩ := h
    replace h := un_ok h; obtain ⟨rfl, h⟩ := h
    exact ⟨[(0, .view .iRow), (1, .k), (5, .k)], .loop A3 4, by kernel_rfl, by kernel_rfl, ⟨n, (rounds3 n κe n x3 x6 x9).trans h⟩⟩
  | false =>
    replace h := cond_f hk3 h
    cases h
theorem top (n : Nat) (rows : List TRow) (id1 : Int) : entryK 1 [.sl .v .iRow rows, .i .i64 id1] (fun v b => match outOfAll [.v, .v] v with
      | some o => cond (AV.allRoots o []) (run (cx n 20) 1 ann (lf n) (kr n) body 0 (kr n) (fun _ _ => none) (St.ofC (live0 2) v b)) none
      | none => none) = spec_RowAt (n + 1) rows id1 := by kernel_rfl
def Ok (n : Nat) : Prop := ∀ (rows : List TRow) (id1 : Int) (res_ : R), spec_RowAt n rows id1 = some res_ → CallOk E 89 [.sl .v .iRow rows, .i .i64 id1] (rvOf 1 (inj res_)) ((inj res_).drop 1) [.v, .v]
theorem ok (n : Nat) (hc : CxOk E (cx n 20)) (hK : KPar (cx n 20)) : Ok (n + 1) := fun rows id1 res_ h_ =>
  fn_sound hc hK mixedOk Try.func89 (by kernel_rfl) (by kernel_rfl) (by kernel_rfl) (by decide) fin_ok (by kernel_rfl) ((top n rows id1).trans h_) (cuts n)
theorem Kpar (n : Nat) {ω : Type} {avs : List AV} {κ : AV → List AV → Option ω} {q : ω} (h : spec_RowAt.K n avs κ = some q) : ∃ rv outs, κ rv outs = some q ∧ ∀ (ω' : Type) (κ' : AV → List AV → Option ω'), spec_RowAt.K n avs κ' = κ' rv outs := by
  unfold K at h
  generalize hf : fixes [.sl .v .iRow, .k] avs = v at h
  replace h := uc_ok h; obtain ⟨a1, l2, rfl, h⟩ := h
  replace h := getSl_ok h; obtain ⟨x3, rfl, h⟩ := h
  replace h := uc_ok h; obtain ⟨a4, l5, rfl, h⟩ := h
  replace h := getI_ok h; obtain ⟨x6, rfl, h⟩ := h
  replace h := un_ok h; obtain ⟨rfl, h⟩ := h
  cases hr : spec_RowAt n x3 x6 with
  | none => rw [hr] at h; cases h
  | some r =>
    rw [hr] at h
    exact ⟨_, _, h, fun ω' κ' => by unfold K; rw [hf]; exact congrArg (fun z : Option R => z.bind _) hr⟩
theorem Kok (n : Nat) (ho : Ok n) {ω : Type} {avs : List AV} {κ : AV → List AV → Option ω} {q : ω} (h : spec_RowAt.K n avs κ = some q) : FnOk E 89 ∧ ∃ ps rv outs, (cx n 0).sig 89 = some ps ∧ κ rv outs = some q ∧ CallOk E 89 avs rv outs ps := by
  unfold K at h
  generalize hf : fixes [.sl .v .iRow, .k] avs = v at h
  replace h := uc_ok h; obtain ⟨a1, l2, rfl, h⟩ := h
  replace h := getSl_ok h; obtain ⟨x3, rfl, h⟩ := h
  replace h := uc_ok h; obtain ⟨a4, l5, rfl, h⟩ := h
  replace h := getI_ok h; obtain ⟨x6, rfl, h⟩ := h
  replace h := un_ok h; obtain ⟨rfl, h⟩ := h
  cases hr : spec_RowAt n x3 x6 with
  | none => rw [hr] at h; cases h
  | some r =>
    rw [hr] at h
    exact ⟨⟨_, body, Try.func89, by decide +kernel, by kernel_rfl⟩, [.v, .v], _, _, by kernel_rfl, h, CallOk.fix (ss := [.sl .v .iRow, .k]) (by rw [hf]; exact ho x3 x6 r hr)⟩
end spec_RowAt
namespace spec_l9Cell
abbrev R : Type := Int
noncomputable def body : Code := match Try.f144.body with | some c => c | none => .skip
def ann : Ann := ⟨fun k => look2 [] k, fun k => match look2 [] k with | some l => l | none => [], fun k => match look2 [] k with | some l => l | none => []⟩
def fin (o : List AV) : Option R := uc o fun a1 l2 => getI .i64 a1 fun x3 => un l2 (some (x3 : R))
def inj (r : R) : List AV := [.i .i64 r]
theorem fin_ok (o : List AV) (r : R) (h : fin o = some r) : o = inj r := by
  unfold fin at h
  replace h := uc_ok h; obtain ⟨a1, l2, rfl, h⟩ := h
  replace h := getI_ok h; obtain ⟨x3, rfl, h⟩ := h
  replace h := un_ok h; obtain ⟨rfl, h⟩ := h
  cases h
  rfl
def kr (n : Nat) : St → Option R := retK (cx n 17) [.k] [.v] [.tmp 4] [] fin
def lf (n : Nat) : LF R := fun key κd κe v b => none
theorem cuts (n : Nat) : Cuts (cx n 17) 1 ann (lf n) (kr n) body := by
  intro key κd κe v b r h
  unfold lf at h
  cases h
theorem top (n : Nat) (r : TRow) (col : Int) : entryK 1 [.ag [.i .i64 r.id_, .sl .v .int r.cells], .i .i64 col] (fun v b => match outOfAll [.ag [.v, .v], .v] v with
      | some o => cond (AV.allRoots o []) (run (cx n 17) 1 ann (lf n) (kr n) body 0 (kr n) (fun _ _ => none) (St.ofC (live0 2) v b)) none
      | none => none) = spec_l9Cell (n + 1) r col := by kernel_rfl
def Ok (n : Nat) : Prop := ∀ (r : TRow) (col : Int) (res_ : R), spec_l9Cell n r col = some res_ → CallOk E 144 [.ag [.i .i64 r.id_, .sl .v .int r.cells], .i .i64 col] (rvOf 1 (inj res_)) ((inj res_).drop 1) [.ag [.v, .v], .v]
theorem ok (n : Nat) (hc : CxOk E (cx n 17)) (hK : KPar (cx n 17)) : Ok (n + 1) := fun r col res_ h_ =>
  fn_sound hc hK mixedOk Try.func144 (by kernel_rfl) (by kernel_rfl) (by kernel_rfl) (by decide) fin_ok (by kernel_rfl) ((top n r col).trans h_) (cuts n)
theorem Kpar (n : Nat) {ω : Type} {avs : List AV} {κ : AV → List AV → Option ω} {q : ω} (h : spec_l9Cell.K n avs κ = some q) : ∃ rv outs, κ rv outs = some q ∧ ∀ (ω' : Type) (κ' : AV → List AV → Option ω'), spec_l9Cell.K n avs κ' = κ' rv outs := by
  unfold K at h
  generalize hf : fixes [.ag [.k, .sl .v .int], .k] avs = v at h
  replace h := uc_ok h; obtain ⟨a1, l2, rfl, h⟩ := h
  replace h := getAg_ok h; obtain ⟨c3, rfl, h⟩ := h
  replace h := uc_ok h; obtain ⟨a4, l5, rfl, h⟩ := h
  replace h := getI_ok h; obtain ⟨x6, rfl, h⟩ := h
  replace h := uc_ok h; obtain ⟨a7, l8, rfl, h⟩ := h
  replace h := getSl_ok h; obtain ⟨x9, rfl, h⟩ := h
  replace h := un_ok h; obtain ⟨rfl, h⟩ := h
  replace h := uc_ok h; obtain ⟨a10, l11, rfl, h⟩ := h
  replace h := getI_ok h; obtain ⟨x12, rfl, h⟩ := h
  replace h := un_ok h; obtain ⟨rfl, h⟩ := h
  cases hr : spec_l9Cell n (TRow.mk x6 x9) x12 with
  | none => rw [hr] at h; cases h
  | some r =>
    rw [hr] at h
    exact ⟨_, _, h, fun ω' κ' => by unfold K; rw [hf]; exact congrArg (fun z : Option R => z.bind _) hr⟩
theorem Kok (n : Nat) (ho : Ok n) {ω : Type} {avs : List AV} {κ : AV → List AV → Option ω} {q : ω} (h : spec_l9Cell.K n avs κ = some q) : FnOk E 144 ∧ ∃ ps rv outs, (cx n 0).sig 144 = some ps ∧ κ rv outs = some q ∧ CallOk E 144 avs rv outs ps := by
  unfold K at h
  generalize hf : fixes [.ag [.k, .sl .v .int], .k] avs = v at h
  replace h := uc_ok h; obtain ⟨a1, l2, rfl, h⟩ := h
  replace h := getAg_ok h; obtain ⟨c3, rfl, h⟩ := h
  replace h := uc_ok h; obtain ⟨a4, l5, rfl, h⟩ := h
  replace h := getI_ok h; obtain ⟨x6, rfl, h⟩ := h
  replace h := uc_ok h; obtain ⟨a7, l8, rfl, h⟩ := h
  replace h := getSl_ok h; obtain ⟨x9, rfl, h⟩ := h
  replace h := un_ok h; obtain ⟨rfl, h⟩ := h
  replace h := uc_ok h; obtain ⟨a10, l11, rfl, h⟩ := h
  replace h := getI_ok h; obtain ⟨x12, rfl, h⟩ := h
  replace h := un_ok h; obtain ⟨rfl, h⟩ := h
  cases hr : spec_l9Cell n (TRow.mk x6 x9) x12 with
  | none => rw [hr] at h; cases h
  | some r =>
    rw [hr] at h
    exact ⟨⟨_, body, Try.func144, by decide +kernel, by kernel_rfl⟩, [.ag [.v, .v], .v], _, _, by kernel_rfl, h, CallOk.fix (ss := [.ag [.k, .sl .v .int], .k]) (by rw [hf]; exact ho (TRow.mk x6 x9) x12 r hr)⟩
end spec_l9Cell
namespace spec_Ahead
abbrev R : Type := Bool
noncomputable def body : Code := match Try.f90.body with | some c => c | none => .skip
def ann : Ann := ⟨fun k => look2 [] k, fun k => match look2 [] k with | some l => l | none => [], fun k => match look2 [] k with | some l => l | none => []⟩
def fin (o : List AV) : Option R := uc o fun a1 l2 => getB a1 fun x3 => un l2 (some (x3 : R))
def inj (r : R) : List AV := [.b r]
theorem fin_ok (o : List AV) (r : R) (h : fin o = some r) : o = inj r := by
  unfold fin at h
  replace h := uc_ok h; obtain ⟨a1, l2, rfl, h⟩ := h
  replace h := getB_ok h; obtain ⟨x3, rfl, h⟩ := h
  replace h := un_ok h; obtain ⟨rfl, h⟩ := h
  cases h
  rfl
def kr (n : Nat) : St → Option R := retK (cx n 36) [.k] [.v] [.tmp 6] [] fin
def lf (n : Nat) : LF R := fun key κd κe v b => none
theorem cuts (n : Nat) : Cuts (cx n 36) 1 ann (lf n) (kr n) body := by
  intro key κd κe v b r h
  unfold lf at h
  cases h
theorem top (n : Nat) (q : TQuery) (a : TRow) (b : TRow) : entryK 1 [.ag [.i .i64 q.table, .sl .v .iCond q.where_, .i .i64 q.order, .b q.down, .i .i64 q.first, .sl .v .int q.show_, .b q.kids, .i .i64 q.kidTable, .i .i64 q.kidCol], .ag [.i .i64 a.id_, .sl .v .int a.cells], .ag [.i .i64 b.id_, .sl .v .int b.cells]] (fun v b => match outOfAll [.ag [.v, .v, .v, .v, .v, .v, .v, .v, .v], .ag [.v, .v], .ag [.v, .v]] v with
      | some o => cond (AV.allRoots o []) (run (cx n 36) 1 ann (lf n) (kr n) body 0 (kr n) (fun _ _ => none) (St.ofC (live0 3) v b)) none
      | none => none) = spec_Ahead (n + 1) q a b := by kernel_rfl
def Ok (n : Nat) : Prop := ∀ (q : TQuery) (a : TRow) (b : TRow) (res_ : R), spec_Ahead n q a b = some res_ → CallOk E 90 [.ag [.i .i64 q.table, .sl .v .iCond q.where_, .i .i64 q.order, .b q.down, .i .i64 q.first, .sl .v .int q.show_, .b q.kids, .i .i64 q.kidTable, .i .i64 q.kidCol], .ag [.i .i64 a.id_, .sl .v .int a.cells], .ag [.i .i64 b.id_, .sl .v .int b.cells]] (rvOf 1 (inj res_)) ((inj res_).drop 1) [.ag [.v, .v, .v, .v, .v, .v, .v, .v, .v], .ag [.v, .v], .ag [.v, .v]]
theorem ok (n : Nat) (hc : CxOk E (cx n 36)) (hK : KPar (cx n 36)) : Ok (n + 1) := fun q a b res_ h_ =>
  fn_sound hc hK mixedOk Try.func90 (by kernel_rfl) (by kernel_rfl) (by kernel_rfl) (by decide) fin_ok (by kernel_rfl) ((top n q a b).trans h_) (cuts n)
theorem Kpar (n : Nat) {ω : Type} {avs : List AV} {κ : AV → List AV → Option ω} {q : ω} (h : spec_Ahead.K n avs κ = some q) : ∃ rv outs, κ rv outs = some q ∧ ∀ (ω' : Type) (κ' : AV → List AV → Option ω'), spec_Ahead.K n avs κ' = κ' rv outs := by
  unfold K at h
  generalize hf : fixes [.ag [.k, .sl .v .iCond, .k, .k, .k, .sl .v .int, .k, .k, .k], .ag [.k, .sl .v .int], .ag [.k, .sl .v .int]] avs = v at h
  replace h := uc_ok h; obtain ⟨a1, l2, rfl, h⟩ := h
  replace h := getAg_ok h; obtain ⟨c3, rfl, h⟩ := h
  replace h := uc_ok h; obtain ⟨a4, l5, rfl, h⟩ := h
  replace h := getI_ok h; obtain ⟨x6, rfl, h⟩ := h
  replace h := uc_ok h; obtain ⟨a7, l8, rfl, h⟩ := h
  replace h := getSl_ok h; obtain ⟨x9, rfl, h⟩ := h
  replace h := uc_ok h; obtain ⟨a10, l11, rfl, h⟩ := h
  replace h := getI_ok h; obtain ⟨x12, rfl, h⟩ := h
  replace h := uc_ok h; obtain ⟨a13, l14, rfl, h⟩ := h
  replace h := getB_ok h; obtain ⟨x15, rfl, h⟩ := h
  replace h := uc_ok h; obtain ⟨a16, l17, rfl, h⟩ := h
  replace h := getI_ok h; obtain ⟨x18, rfl, h⟩ := h
  replace h := uc_ok h; obtain ⟨a19, l20, rfl, h⟩ := h
  replace h := getSl_ok h; obtain ⟨x21, rfl, h⟩ := h
  replace h := uc_ok h; obtain ⟨a22, l23, rfl, h⟩ := h
  replace h := getB_ok h; obtain ⟨x24, rfl, h⟩ := h
  replace h := uc_ok h; obtain ⟨a25, l26, rfl, h⟩ := h
  replace h := getI_ok h; obtain ⟨x27, rfl, h⟩ := h
  replace h := uc_ok h; obtain ⟨a28, l29, rfl, h⟩ := h
  replace h := getI_ok h; obtain ⟨x30, rfl, h⟩ := h
  replace h := un_ok h; obtain ⟨rfl, h⟩ := h
  replace h := uc_ok h; obtain ⟨a31, l32, rfl, h⟩ := h
  replace h := getAg_ok h; obtain ⟨c33, rfl, h⟩ := h
  replace h := uc_ok h; obtain ⟨a34, l35, rfl, h⟩ := h
  replace h := getI_ok h; obtain ⟨x36, rfl, h⟩ := h
  replace h := uc_ok h; obtain ⟨a37, l38, rfl, h⟩ := h
  replace h := getSl_ok h; obtain ⟨x39, rfl, h⟩ := h
  replace h := un_ok h; obtain ⟨rfl, h⟩ := h
  replace h := uc_ok h; obtain ⟨a40, l41, rfl, h⟩ := h
  replace h := getAg_ok h; obtain ⟨c42, rfl, h⟩ := h
  replace h := uc_ok h; obtain ⟨a43, l44, rfl, h⟩ := h
  replace h := getI_ok h; obtain ⟨x45, rfl, h⟩ := h
  replace h := uc_ok h; obtain ⟨a46, l47, rfl, h⟩ := h
  replace h := getSl_ok h; obtain ⟨x48, rfl, h⟩ := h
  replace h := un_ok h; obtain ⟨rfl, h⟩ := h
  replace h := un_ok h; obtain ⟨rfl, h⟩ := h
  cases hr : spec_Ahead n (TQuery.mk x6 x9 x12 x15 x18 x21 x24 x27 x30) (TRow.mk x36 x39) (TRow.mk x45 x48) with
  | none => rw [hr] at h; cases h
  | some r =>
    rw [hr] at h
    exact ⟨_, _, h, fun ω' κ' => by unfold K; rw [hf]; exact congrArg (fun z : Option R => z.bind _) hr⟩
theorem Kok (n : Nat) (ho : Ok n) {ω : Type} {avs : List AV} {κ : AV → List AV → Option ω} {q : ω} (h : spec_Ahead.K n avs κ = some q) : FnOk E 90 ∧ ∃ ps rv outs, (cx n 0).sig 90 = some ps ∧ κ rv outs = some q ∧ CallOk E 90 avs rv outs ps := by
  unfold K at h
  generalize hf : fixes [.ag [.k, .sl .v .iCond, .k, .k, .k, .sl .v .int, .k, .k, .k], .ag [.k, .sl .v .int], .ag [.k, .sl .v .int]] avs = v at h
  replace h := uc_ok h; obtain ⟨a1, l2, rfl, h⟩ := h
  replace h := getAg_ok h; obtain ⟨c3, rfl, h⟩ := h
  replace h := uc_ok h; obtain ⟨a4, l5, rfl, h⟩ := h
  replace h := getI_ok h; obtain ⟨x6, rfl, h⟩ := h
  replace h := uc_ok h; obtain ⟨a7, l8, rfl, h⟩ := h
  replace h := getSl_ok h; obtain ⟨x9, rfl, h⟩ := h
  replace h := uc_ok h; obtain ⟨a10, l11, rfl, h⟩ := h
  replace h := getI_ok h; obtain ⟨x12, rfl, h⟩ := h
  replace h := uc_ok h; obtain ⟨a13, l14, rfl, h⟩ := h
  replace h := getB_ok h; obtain ⟨x15, rfl, h⟩ := h
  replace h := uc_ok h; obtain ⟨a16, l17, rfl, h⟩ := h
  replace h := getI_ok h; obtain ⟨x18, rfl, h⟩ := h
  replace h := uc_ok h; obtain ⟨a19, l20, rfl, h⟩ := h
  replace h := getSl_ok h; obtain ⟨x21, rfl, h⟩ := h
  replace h := uc_ok h; obtain ⟨a22, l23, rfl, h⟩ := h
  replace h := getB_ok h; obtain ⟨x24, rfl, h⟩ := h
  replace h := uc_ok h; obtain ⟨a25, l26, rfl, h⟩ := h
  replace h := getI_ok h; obtain ⟨x27, rfl, h⟩ := h
  replace h := uc_ok h; obtain ⟨a28, l29, rfl, h⟩ := h
  replace h := getI_ok h; obtain ⟨x30, rfl, h⟩ := h
  replace h := un_ok h; obtain ⟨rfl, h⟩ := h
  replace h := uc_ok h; obtain ⟨a31, l32, rfl, h⟩ := h
  replace h := getAg_ok h; obtain ⟨c33, rfl, h⟩ := h
  replace h := uc_ok h; obtain ⟨a34, l35, rfl, h⟩ := h
  replace h := getI_ok h; obtain ⟨x36, rfl, h⟩ := h
  replace h := uc_ok h; obtain ⟨a37, l38, rfl, h⟩ := h
  replace h := getSl_ok h; obtain ⟨x39, rfl, h⟩ := h
  replace h := un_ok h; obtain ⟨rfl, h⟩ := h
  replace h := uc_ok h; obtain ⟨a40, l41, rfl, h⟩ := h
  replace h := getAg_ok h; obtain ⟨c42, rfl, h⟩ := h
  replace h := uc_ok h; obtain ⟨a43, l44, rfl, h⟩ := h
  replace h := getI_ok h; obtain ⟨x45, rfl, h⟩ := h
  replace h := uc_ok h; obtain ⟨a46, l47, rfl, h⟩ := h
  replace h := getSl_ok h; obtain ⟨x48, rfl, h⟩ := h
  replace h := un_ok h; obtain ⟨rfl, h⟩ := h
  replace h := un_ok h; obtain ⟨rfl, h⟩ := h
  cases hr : spec_Ahead n (TQuery.mk x6 x9 x12 x15 x18 x21 x24 x27 x30) (TRow.mk x36 x39) (TRow.mk x45 x48) with
  | none => rw [hr] at h; cases h
  | some r =>
    rw [hr] at h
    exact ⟨⟨_, body, Try.func90, by decide +kernel, by kernel_rfl⟩, [.ag [.v, .v, .v, .v, .v, .v, .v, .v, .v], .ag [.v, .v], .ag [.v, .v]], _, _, by kernel_rfl, h, CallOk.fix (ss := [.ag [.k, .sl .v .iCond, .k, .k, .k, .sl .v .int, .k, .k, .k], .ag [.k, .sl .v .int], .ag [.k, .sl .v .int]]) (by rw [hf]; exact ho (TQuery.mk x6 x9 x12 x15 x18 x21 x24 x27 x30) (TRow.mk x36 x39) (TRow.mk x45 x48) r hr)⟩
end spec_Ahead
namespace spec_ViewOk
abbrev R : Type := Bool
noncomputable def body : Code := match Try.f41.body with | some c => c | none => .skip
def ann : Ann := ⟨fun k => look2 [(6, [(2, .box [.view .int]), (3, .box [.k, .view .iCond, .k, .k, .k, .view .int, .k, .k, .k, .view .iRow, .view .iKid]), (5, .k)]), (15, [(3, .box [.k, .view .iCond, .k, .k, .k, .view .int, .k, .k, .k, .view .iRow, .view .iKid]), (7, .k)])] k, fun k => match look2 [] k with | some l => l | none => [], fun k => match look2 [(0, [(3, .box [.k, .view .iCond, .k, .k, .k, .view .int, .k, .k, .k, .view .iRow, .view .iKid])]), (2, [(3, .box [.k, .view .iCond, .k, .k, .k, .view .int, .k, .k, .k, .view .iRow, .view .iKid])])] k with | some l => l | none => []⟩
def fin (o : List AV) : Option R := uc o fun a1 l2 => getB a1 fun x3 => un l2 (some (x3 : R))
def inj (r : R) : List AV := [.b r]
theorem fin_ok (o : List AV) (r : R) (h : fin o = some r) : o = inj r := by
  unfold fin at h
  replace h := uc_ok h; obtain ⟨a1, l2, rfl, h⟩ := h
  replace h := getB_ok h; obtain ⟨x3, rfl, h⟩ := h
  replace h := un_ok h; obtain ⟨rfl, h⟩ := h
  cases h
  rfl
def kr (n : Nat) : St → Option R := retK (cx n 115) [.k] [.v] [.tmp 4] [] fin
def lf (n : Nat) : LF R := fun key κd κe v b => cond (Nat.beq key 6)
    (uc v fun a1 l2 => isPb 1 0 a1 (uc l2 fun a3 l4 => isPb 2 0 a3 (uc l4 fun a5 l6 => getI .i64 a5 fun x7 => un l6 (uc b fun a8 l9 => isExt a8 (uc l9 fun a10 l11 => getBox a10 fun c12 => uc c12 fun a13 l14 => getSl .v .int a13 fun x15 => un l14 (uc l11 fun a16 l17 => getBox a16 fun c18 => uc c18 fun a19 l20 => getI .i64 a19 fun x21 => uc l20 fun a22 l23 => getSl .v .iCond a22 fun x24 => uc l23 fun a25 l26 => getI .i64 a25 fun x27 => uc l26 fun a28 l29 => getB a28 fun x30 => uc l29 fun a31 l32 => getI .i64 a31 fun x33 => uc l32 fun a34 l35 => getSl .v .int a34 fun x36 => uc l35 fun a37 l38 => getB a37 fun x39 => uc l38 fun a40 l41 => getI .i64 a40 fun x42 => uc l41 fun a43 l44 => getI .i64 a43 fun x45 => uc l44 fun a46 l47 => getSl .v .iRow a46 fun x48 => uc l47 fun a49 l50 => getSl .v .iKid a49 fun x51 => un l50 (un l17 (spec_ViewOk.loop6 n (fun (y0 : Int) (y1 : List TCond) (y2 : Int) (y3 : Bool) (y4 : Int) (y5 : List Int) (y6 : Bool) (y7 : Int) (y8 : Int) (y9 : List TRow) (y10 : List TKid) => κe 0 [.pb 1 0] [some .ext, some (.box [.i .i64 y0, .sl .v .iCond y1, .i .i64 y2, .b y3, .i .i64 y4, .sl .v .int y5, .b y6, .i .i64 y7, .i .i64 y8, .sl .v .iRow y9, .sl .v .iKid y10])]) n x7 x15 x21 x24 x27 x30 x33 x36 x39 x42 x45 x48 x51))))))))
    (cond (Nat.beq key 15)
    (uc v fun a1 l2 => isPb 1 0 a1 (uc l2 fun a3 l4 => getI .i64 a3 fun x5 => un l4 (uc b fun a6 l7 => isExt a6 (uc l7 fun a8 l9 => getBox a8 fun c10 => uc c10 fun a11 l12 => getI .i64 a11 fun x13 => uc l12 fun a14 l15 => getSl .v .iCond a14 fun x16 => uc l15 fun a17 l18 => getI .i64 a17 fun x19 => uc l18 fun a20 l21 => getB a20 fun x22 => uc l21 fun a23 l24 => getI .i64 a23 fun x25 => uc l24 fun a26 l27 => getSl .v .int a26 fun x28 => uc l27 fun a29 l30 => getB a29 fun x31 => uc l30 fun a32 l33 => getI .i64 a32 fun x34 => uc l33 fun a35 l36 => getI .i64 a35 fun x37 => uc l36 fun a38 l39 => getSl .v .iRow a38 fun x40 => uc l39 fun a41 l42 => getSl .v .iKid a41 fun x43 => un l42 (un l9 (spec_ViewOk.loop15 n (fun (y0 : Int) (y1 : List TCond) (y2 : Int) (y3 : Bool) (y4 : Int) (y5 : List Int) (y6 : Bool) (y7 : Int) (y8 : Int) (y9 : List TRow) (y10 : List TKid) => κe 2 [.pb 1 0] [some .ext, some (.box [.i .i64 y0, .sl .v .iCond y1, .i .i64 y2, .b y3, .i .i64 y4, .sl .v .int y5, .b y6, .i .i64 y7, .i .i64 y8, .sl .v .iRow y9, .sl .v .iKid y10])]) n x5 x13 x16 x19 x22 x25 x28 x31 x34 x37 x40 x43))))))
    (none))
noncomputable def A6 : Code := match pieceAt ann body 0 6 with | some (.loop a _) => a | _ => .skip
theorem round6 (n : Nat) (B : D R) (κe : Nat → D R) (t5 : Int) (t20 : List Int) (t30 : Int) (t31 : List TCond) (t32 : Int) (t33 : Bool) (t34 : Int) (t35 : List Int) (t36 : Bool) (t37 : Int) (t38 : Int) (t39 : List TRow) (t310 : List TKid) : run (cx n 115) 1 ann (lf n) (kr n) A6 7 (fun s => cutK 1 [(2, .box [.view .int]), (3, .box [.k, .view .iCond, .k, .k, .k, .view .int, .k, .k, .k, .view .iRow, .view .iKid]), (5, .k)] s B) (fun j s => cutK 1 (ann.out j) s (κe j)) (St.ofC [(2, .box [.view .int]), (3, .box [.k, .view .iCond, .k, .k, .k, .view .int, .k, .k, .k, .view .iRow, .view .iKid]), (5, .k)] [.pb 1 0, .pb 2 0, .i .i64 t5] [some .ext, some (.box [.sl .v .int t20]), some (.box [.i .i64 t30, .sl .v .iCond t31, .i .i64 t32, .b t33, .i .i64 t34, .sl .v .int t35, .b t36, .i .i64 t37, .i .i64 t38, .sl .v .iRow t39, .sl .v .iKid t310])]) =
    spec_ViewOk.step6 n (fun (y0 : Int) (y1 : List TCond) (y2 : Int) (y3 : Bool) (y4 : Int) (y5 : List Int) (y6 : Bool) (y7 : Int) (y8 : Int) (y9 : List TRow) (y10 : List TKid) => κe 0 [.pb 1 0] [some .ext, some (.box [.i .i64 y0, .sl .v .iCond y1, .i .i64 y2, .b y3, .i .i64 y4, .sl .v .int y5, .b y6, .i .i64 y7, .i .i64 y8, .sl .v .iRow y9, .sl .v .iKid y10])]) (fun (z0 : Int) (z1 : List Int) (z2 : Int) (z3 : List TCond) (z4 : Int) (z5 : Bool) (z6 : Int) (z7 : List Int) (z8 : Bool) (z9 : Int) (z10 : Int) (z11 : List TRow) (z12 : List TKid) => B [.pb 1 0, .pb 2 0, .i .i64 z0] [some .ext, some (.box [.sl .v .int z1]), some (.box [.i .i64 z2, .sl .v .iCond z3, .i .i64 z4, .b z5, .i .i64 z6, .sl .v .int z7, .b z8, .i .i64 z9, .i .i64 z10, .sl .v .iRow z11, .sl .v .iKid z12])]) t5 t20 t30 t31 t32 t33 t34 t35 t36 t37 t38 t39 t310 := by kernel_rfl
theorem rounds6 (n : Nat) (κe : Nat → D R) : ∀ (N : Nat) (t5 : Int) (t20 : List Int) (t30 : Int) (t31 : List TCond) (t32 : Int) (t33 : Bool) (t34 : Int) (t35 : List Int) (t36 : Bool) (t37 : Int) (t38 : Int) (t39 : List TRow) (t310 : List TKid), rounds (cx n 115) 1 ann (lf n) (kr n) A6 7 [(2, .box [.view .int]), (3, .box [.k, .view .iCond, .k, .k, .k, .view .int, .k, .k, .k, .view .iRow, .view .iKid]), (5, .k)] κe N [.pb 1 0, .pb 2 0, .i .i64 t5] [some .ext, some (.box [.sl .v .int t20]), some (.box [.i .i64 t30, .sl .v .iCond t31, .i .i64 t32, .b t33, .i .i64 t34, .sl .v .int t35, .b t36, .i .i64 t37, .i .i64 t38, .sl .v .iRow t39, .sl .v .iKid t310])] = spec_ViewOk.loop6 n (fun (y0 : Int) (y1 : List TCond) (y2 : Int) (y3 : Bool) (y4 : Int) (y5 : List Int) (y6 : Bool) (y7 : Int) (y8 : Int) (y9 : List TRow) (y10 : List TKid) => κe 0 [.pb 1 0] [some .ext, some (.box [.i .i64 y0, .sl .v .iCond y1, .i .i64 y2, .b y3, .i .i64 y4, .sl .v .int y5, .b y6, .i .i64 y7, .i .i64 y8, .sl .v .iRow y9, .sl .v .iKid y10])]) N t5 t20 t30 t31 t32 t33 t34 t35 t36 t37 t38 t39 t310
  | 0, _, _, _, _, _, _, _, _, _, _, _, _, _ => rfl
  | N + 1, t5, t20, t30, t31, t32, t33, t34, t35, t36, t37, t38, t39, t310 => (round6 n (rounds (cx n 115) 1 ann (lf n) (kr n) A6 7 [(2, .box [.view .int]), (3, .box [.k, .view .iCond, .k, .k, .k, .view .int, .k, .k, .k, .view .iRow, .view .iKid]), (5, .k)] κe N) κe t5 t20 t30 t31 t32 t33 t34 t35 t36 t37 t38 t39 t310).trans (congrArg (fun back => spec_ViewOk.step6 n (fun (y0 : Int) (y1 : List TCond) (y2 : Int) (y3 : Bool) (y4 : Int) (y5 : List Int) (y6 : Bool) (y7 : Int) (y8 : Int) (y9 : List TRow) (y10 : List TKid) => κe 0 [.pb 1 0] [some .ext, some (.box [.i .i64 y0, .sl .v .iCond y1, .i .i64 y2, .b y3, .i .i64 y4, .sl .v .int y5, .b y6, .i .i64 y7, .i .i64 y8, .sl .v .iRow y9, .sl .v .iKid y10])]) back t5 t20 t30 t31 t32 t33 t34 t35 t36 t37 t38 t39 t310) (funext fun z0 => funext fun z1 => funext fun z2 => funext fun z3 => funext fun z4 => funext fun z5 => funext fun z6 => funext fun z7 => funext fun z8 => funext fun z9 => funext fun z10 => funext fun z11 => funext fun z12 => rounds6 n κe N z0 z1 z2 z3 z4 z5 z6 z7 z8 z9 z10 z11 z12))
noncomputable def A15 : Code := match pieceAt ann body 0 15 with | some (.loop a _) => a | _ => .skip
theorem round15 (n : Nat) (B : D R) (κe : Nat → D R) (t7 : Int) (t30 : Int) (t31 : List TCond) (t32 : Int) (t33 : Bool) (t34 : Int) (t35 : List Int) (t36 : Bool) (t37 : Int) (t38 : Int) (t39 : List TRow) (t310 : List TKid) : run (cx n 115) 1 ann (lf n) (kr n) A15 16 (fun s => cutK 1 [(3, .box [.k, .view .iCond, .k, .k, .k, .view .int, .k, .k, .k, .view .iRow, .view .iKid]), (7, .k)] s B) (fun j s => cutK 1 (ann.out j) s (κe j)) (St.ofC [(3, .box [.k, .view .iCond, .k, .k, .k, .view .int, .k, .k, .k, .view .iRow, .view .iKid]), (7, .k)] [.pb 1 0, .i .i64 t7] [some .ext, some (.box [.i .i64 t30, .sl .v .iCond t31, .i .i64 t32, .b t33, .i .i64 t34, .sl .v .int t35, .b t36, .i .i64 t37, .i .i64 t38, .sl .v .iRow t39, .sl .v .iKid t310])]) =
    spec_ViewOk.step15 n (fun (y0 : Int) (y1 : List TCond) (y2 : Int) (y3 : Bool) (y4 : Int) (y5 : List Int) (y6 : Bool) (y7 : Int) (y8 : Int) (y9 : List TRow) (y10 : List TKid) => κe 2 [.pb 1 0] [some .ext, some (.box [.i .i64 y0, .sl .v .iCond y1, .i .i64 y2, .b y3, .i .i64 y4, .sl .v .int y5, .b y6, .i .i64 y7, .i .i64 y8, .sl .v .iRow y9, .sl .v .iKid y10])]) (fun (z0 : Int) (z1 : Int) (z2 : List TCond) (z3 : Int) (z4 : Bool) (z5 : Int) (z6 : List Int) (z7 : Bool) (z8 : Int) (z9 : Int) (z10 : List TRow) (z11 : List TKid) => B [.pb 1 0, .i .i64 z0] [some .ext, some (.box [.i .i64 z1, .sl .v .iCond z2, .i .i64 z3, .b z4, .i .i64 z5, .sl .v .int z6, .b z7, .i .i64 z8, .i .i64 z9, .sl .v .iRow z10, .sl .v .iKid z11])]) t7 t30 t31 t32 t33 t34 t35 t36 t37 t38 t39 t310 := by kernel_rfl
theorem rounds15 (n : Nat) (κe : Nat → D R) : ∀ (N : Nat) (t7 : Int) (t30 : Int) (t31 : List TCond) (t32 : Int) (t33 : Bool) (t34 : Int) (t35 : List Int) (t36 : Bool) (t37 : Int) (t38 : Int) (t39 : List TRow) (t310 : List TKid), rounds (cx n 115) 1 ann (lf n) (kr n) A15 16 [(3, .box [.k, .view .iCond, .k, .k, .k, .view .int, .k, .k, .k, .view .iRow, .view .iKid]), (7, .k)] κe N [.pb 1 0, .i .i64 t7] [some .ext, some (.box [.i .i64 t30, .sl .v .iCond t31, .i .i64 t32, .b t33, .i .i64 t34, .sl .v .int t35, .b t36, .i .i64 t37, .i .i64 t38, .sl .v .iRow t39, .sl .v .iKid t310])] = spec_ViewOk.loop15 n (fun (y0 : Int) (y1 : List TCond) (y2 : Int) (y3 : Bool) (y4 : Int) (y5 : List Int) (y6 : Bool) (y7 : Int) (y8 : Int) (y9 : List TRow) (y10 : List TKid) => κe 2 [.pb 1 0] [some .ext, some (.box [.i .i64 y0, .sl .v .iCond y1, .i .i64 y2, .b y3, .i .i64 y4, .sl .v .int y5, .b y6, .i .i64 y7, .i .i64 y8, .sl .v .iRow y9, .sl .v .iKid y10])]) N t7 t30 t31 t32 t33 t34 t35 t36 t37 t38 t39 t310
  | 0, _, _, _, _, _, _, _, _, _, _, _, _ => rfl
  | N + 1, t7, t30, t31, t32, t33, t34, t35, t36, t37, t38, t39, t310 => (round15 n (rounds (cx n 115) 1 ann (lf n) (kr n) A15 16 [(3, .box [.k, .view .iCond, .k, .k, .k, .view .int, .k, .k, .k, .view .iRow, .view .iKid]), (7, .k)] κe N) κe t7 t30 t31 t32 t33 t34 t35 t36 t37 t38 t39 t310).trans (congrArg (fun back => spec_ViewOk.step15 n (fun (y0 : Int) (y1 : List TCond) (y2 : Int) (y3 : Bool) (y4 : Int) (y5 : List Int) (y6 : Bool) (y7 : Int) (y8 : Int) (y9 : List TRow) (y10 : List TKid) => κe 2 [.pb 1 0] [some .ext, some (.box [.i .i64 y0, .sl .v .iCond y1, .i .i64 y2, .b y3, .i .i64 y4, .sl .v .int y5, .b y6, .i .i64 y7, .i .i64 y8, .sl .v .iRow y9, .sl .v .iKid y10])]) back t7 t30 t31 t32 t33 t34 t35 t36 t37 t38 t39 t310) (funext fun z0 => funext fun z1 => funext fun z2 => funext fun z3 => funext fun z4 => funext fun z5 => funext fun z6 => funext fun z7 => funext fun z8 => funext fun z9 => funext fun z10 => funext fun z11 => rounds15 n κe N z0 z1 z2 z3 z4 z5 z6 z7 z8 z9 z10 z11))
theorem cuts (n : Nat) : Cuts (cx n 115) 1 ann (lf n) (kr n) body := by
  intro key κd κe v b r h
  unfold lf at h
  cases hk6 : Nat.beq key 6 with
  | true =>
    replace h := cond_t hk6 h
    have := beq_iff.1 hk6
    subst this
    replace h := uc_ok h; obtain ⟨a1, l2, rfl, h⟩ := h
    replace h := isPb_ok h; obtain ⟨rfl, h⟩ := h
    replace h := uc_ok h; obtain ⟨a3, l4, rfl, h⟩ := h
    replace h := isPb_ok h; obtain ⟨rfl, h⟩ := h
    replace h := uc_ok h; obtain ⟨a5, l6, rfl, h⟩ := h
    replace h := getI_ok h; obtain ⟨x7, rfl, h⟩ := h
    replace h := un_ok h; obtain ⟨rfl, h⟩ := h
    replace h := uc_ok h; obtain ⟨a8, l9, rfl, h⟩ := h
    replace h := isExt_ok h; obtain ⟨rfl, h⟩ := h
    replace h := uc_ok h; obtain ⟨a10, l11, rfl, h⟩ := h
    replace h := getBox_ok h; obtain ⟨c12, rfl, h⟩ := h
    replace h := uc_ok h; obtain ⟨a13, l14, rfl, h⟩ := h
    replace h := getSl_ok h; obtain ⟨x15, rfl, h⟩ := h
    replace h := un_ok h; obtain ⟨rfl, h⟩ := h
    replace h := uc_ok h; obtain ⟨a16, l17, rfl, h⟩ := h
    replace h := getBox_ok h; obtain ⟨c18, rfl, h⟩ := h
    replace h := uc_ok h; obtain ⟨a19, l20, rfl, h⟩ := h
    replace h := getI_ok h; obtain ⟨x21, rfl, h⟩ := h
    replace h := uc_ok h; obtain ⟨a22, l23, rfl, h⟩ := h
    replace h := getSl_ok h; obtain ⟨x24, rfl, h⟩ := h
    replace h := uc_ok h; obtain ⟨a25, l26, rfl, h⟩ := h
    replace h := getI_ok h; obtain ⟨x27, rfl, h⟩ := h
    replace h := uc_ok h; obtain ⟨a28, l29, rfl, h⟩ := h
    replace h := getB_ok h; obtain ⟨x30, rfl, h⟩ := h
    replace h := uc_ok h; obtain ⟨a31, l32, rfl, h⟩ := h
    replace h := getI_ok h; obtain ⟨x33, rfl, h⟩ := h
    replace h := uc_ok h; obtain ⟨a34, l35, rfl, h⟩ := h
    replace h := getSl_ok h; obtain ⟨x36, rfl, h⟩ := h
    replace h := uc_ok h; obtain ⟨a37, l38, rfl, h⟩ := h
    replace h := getB_ok h; obtain ⟨x39, rfl, h⟩ := h
    replace h := uc_ok h; obtain ⟨a40, l41, rfl, h⟩ := h
    replace h := getI_ok h; obtain ⟨x42, rfl, h⟩ := h
    replace h := uc_ok h; obtain ⟨a43, l44, rfl, h⟩ := h
    replace h := getI_ok h; obtain ⟨x45, rfl, h⟩ := h
    replace h := uc_ok h; obtain ⟨a46, l47, rfl, h⟩ := h
    replace h := getSl_ok h; obtain ⟨x48, rfl, h⟩ := h
    replace h := uc_ok h; obtain ⟨a49, l50, rfl, h⟩ := h
    replace h := getSl_ok h; obtain ⟨x51, rfl, h⟩ := h
    replace h := un_ok h; obtain ⟨rfl, h⟩ := h
    replace h := un_ok h; obtain ⟨rfl, h⟩ := h
    exact ⟨[(2, .box [.view .int]), (3, .box [.k, .view .iCond, .k, .k, .k, .view .int, .k, .k, .k, .view .iRow, .view .iKid]), (5, .k)], .loop A6 7, by kernel_rfl, by kernel_rfl, ⟨n, (rounds6 n κe n x7 x15 x21 x24 x27 x30 x33 x36 x39 x42 x45 x48 x51).trans h⟩⟩
  | false =>
    replace h := cond_f hk6 h
    cases hk15 : Nat.beq key 15 with
    | true =>
      replace h := cond_t hk15 h
      have := beq_iff.1 hk15
      subst this
      replace h := uc_ok h; obtain ⟨a1, l2, rfl, h⟩ := h
      replace h := isPb_ok h; obtain ⟨rfl, h⟩ := h
      replace h := uc_ok h; obtain ⟨a3, l4, rfl, h⟩ := h
      replace h := getI_ok h; obtain ⟨x5, rfl, h⟩ := h
      replace h := un_ok h; obtain ⟨rfl, h⟩ := h
      replace h := uc_ok h; obtain ⟨a6, l7, rfl, h⟩ := h
      replace h := isExt_ok h; obtain ⟨rfl, h⟩ := h
      replace h := uc_ok h; obtain ⟨a8, l9, rfl, h⟩ := h
      replace h := getBox_ok h; obtain ⟨c10, rfl, h⟩ := h
      replace h := uc_ok h; obtain ⟨a11, l12, rfl, h⟩ := h
      replace h := getI_ok h; obtain ⟨x13, rfl, h⟩ := h
      replace h := uc_ok h; obtain ⟨a14, l15, rfl, h⟩ := h
      replace h := getSl_ok h; obtain ⟨x16, rfl, h⟩ := h
      replace h := uc_ok h; obtain ⟨a17, l18, rfl, h⟩ := h
      replace h := getI_ok h; obtain ⟨x19, rfl, h⟩ := h
      replace h := uc_ok h; obtain ⟨a20, l21, rfl, h⟩ := h
      replace h := getB_ok h; obtain ⟨x22, rfl, h⟩ := h
      replace h := uc_ok h; obtain ⟨a23, l24, rfl, h⟩ := h
      replace h := getI_ok h; obtain ⟨x25, rfl, h⟩ := h
      replace h := uc_ok h; obtain ⟨a26, l27, rfl, h⟩ := h
      replace h := getSl_ok h; obtain ⟨x28, rfl, h⟩ := h
      replace h := uc_ok h; obtain ⟨a29, l30, rfl, h⟩ := h
      replace h := getB_ok h; obtain ⟨x31, rfl, h⟩ := h
      replace h := uc_ok h; obtain ⟨a32, l33, rfl, h⟩ := h
      replace h := getI_ok h; obtain ⟨x34, rfl, h⟩ := h
      replace h := uc_ok h; obtain ⟨a35, l36, rfl, h⟩ := h
      replace h := getI_ok h; obtain ⟨x37, rfl, h⟩ := h
      replace h := uc_ok h; obtain ⟨a38, l39, rfl, h⟩ := h
      replace h := getSl_ok h; obtain ⟨x40, rfl, h⟩ := h
      replace h := uc_ok h; obtain ⟨a41, l42, rfl, h⟩ := h
      replace h := getSl_ok h; obtain ⟨x43, rfl, h⟩ := h
      replace h := un_ok h; obtain ⟨rfl, h⟩ := h
      replace h := un_ok h; obtain ⟨rfl, h⟩ := h
      exact ⟨[(3, .box [.k, .view .iCond, .k, .k, .k, .view .int, .k, .k, .k, .view .iRow, .view .iKid]), (7, .k)], .loop A15 16, by kernel_rfl, by kernel_rfl, ⟨n, (rounds15 n κe n x5 x13 x16 x19 x22 x25 x28 x31 x34 x37 x40 x43).trans h⟩⟩
    | false =>
      replace h := cond_f hk15 h
      cases h
theorem top (n : Nat) (o : TSchema) (append : TView) : entryK 1 [.ag [.sl .v .int o.cols], .ag [.i .i64 append.q.table, .sl .v .iCond append.q.where_, .i .i64 append.q.order, .b append.q.down, .i .i64 append.q.first, .sl .v .int append.q.show_, .b append.q.kids, .i .i64 append.q.kidTable, .i .i64 append.q.kidCol, .sl .v .iRow append.rows, .sl .v .iKid append.kids]] (fun v b => match outOfAll [.ag [.v], .ag [.v, .v, .v, .v, .v, .v, .v, .v, .v, .v, .v]] v with
      | some o => cond (AV.allRoots o []) (run (cx n 115) 1 ann (lf n) (kr n) body 0 (kr n) (fun _ _ => none) (St.ofC (live0 2) v b)) none
      | none => none) = spec_ViewOk (n + 1) o append := by kernel_rfl
def Ok (n : Nat) : Prop := ∀ (o : TSchema) (append : TView) (res_ : R), spec_ViewOk n o append = some res_ → CallOk E 41 [.ag [.sl .v .int o.cols], .ag [.i .i64 append.q.table, .sl .v .iCond append.q.where_, .i .i64 append.q.order, .b append.q.down, .i .i64 append.q.first, .sl .v .int append.q.show_, .b append.q.kids, .i .i64 append.q.kidTable, .i .i64 append.q.kidCol, .sl .v .iRow append.rows, .sl .v .iKid append.kids]] (rvOf 1 (inj res_)) ((inj res_).drop 1) [.ag [.v], .ag [.v, .v, .v, .v, .v, .v, .v, .v, .v, .v, .v]]
theorem ok (n : Nat) (hc : CxOk E (cx n 115)) (hK : KPar (cx n 115)) : Ok (n + 1) := fun o append res_ h_ =>
  fn_sound hc hK mixedOk Try.func41 (by kernel_rfl) (by kernel_rfl) (by kernel_rfl) (by decide) fin_ok (by kernel_rfl) ((top n o append).trans h_) (cuts n)
theorem Kpar (n : Nat) {ω : Type} {avs : List AV} {κ : AV → List AV → Option ω} {q : ω} (h : spec_ViewOk.K n avs κ = some q) : ∃ rv outs, κ rv outs = some q ∧ ∀ (ω' : Type) (κ' : AV → List AV → Option ω'), spec_ViewOk.K n avs κ' = κ' rv outs := by
  unfold K at h
  generalize hf : fixes [.ag [.sl .v .int], .ag [.k, .sl .v .iCond, .k, .k, .k, .sl .v .int, .k, .k, .k, .sl .v .iRow, .sl .v .iKid]] avs = v at h
  replace h := uc_ok h; obtain ⟨a1, l2, rfl, h⟩ := h
  replace h := getAg_ok h; obtain ⟨c3, rfl, h⟩ := h
  replace h := uc_ok h; obtain ⟨a4, l5, rfl, h⟩ := h
  replace h := getSl_ok h; obtain ⟨x6, rfl, h⟩ := h
  replace h := un_ok h; obtain ⟨rfl, h⟩ := h
  replace h := uc_ok h; obtain ⟨a7, l8, rfl, h⟩ := h
  replace h := getAg_ok h; obtain ⟨c9, rfl, h⟩ := h
  replace h := uc_ok h; obtain ⟨a10, l11, rfl, h⟩ := h
  replace h := getI_ok h; obtain ⟨x12, rfl, h⟩ := h
  replace h := uc_ok h; obtain ⟨a13, l14, rfl, h⟩ := h
  replace h := getSl_ok h; obtain ⟨x15, rfl, h⟩ := h
  replace h := uc_ok h; obtain ⟨a16, l17, rfl, h⟩ := h
  replace h := getI_ok h; obtain ⟨x18, rfl, h⟩ := h
  replace h := uc_ok h; obtain ⟨a19, l20, rfl, h⟩ := h
  replace h := getB_ok h; obtain ⟨x21, rfl, h⟩ := h
  replace h := uc_ok h; obtain ⟨a22, l23, rfl, h⟩ := h
  replace h := getI_ok h; obtain ⟨x24, rfl, h⟩ := h
  replace h := uc_ok h; obtain ⟨a25, l26, rfl, h⟩ := h
  replace h := getSl_ok h; obtain ⟨x27, rfl, h⟩ := h
  replace h := uc_ok h; obtain ⟨a28, l29, rfl, h⟩ := h
  replace h := getB_ok h; obtain ⟨x30, rfl, h⟩ := h
  replace h := uc_ok h; obtain ⟨a31, l32, rfl, h⟩ := h
  replace h := getI_ok h; obtain ⟨x33, rfl, h⟩ := h
  replace h := uc_ok h; obtain ⟨a34, l35, rfl, h⟩ := h
  replace h := getI_ok h; obtain ⟨x36, rfl, h⟩ := h
  replace h := uc_ok h; obtain ⟨a37, l38, rfl, h⟩ := h
  replace h := getSl_ok h; obtain ⟨x39, rfl, h⟩ := h
  replace h := uc_ok h; obtain ⟨a40, l41, rfl, h⟩ := h
  replace h := getSl_ok h; obtain ⟨x42, rfl, h⟩ := h
  replace h := un_ok h; obtain ⟨rfl, h⟩ := h
  replace h := un_ok h; obtain ⟨rfl, h⟩ := h
  cases hr : spec_ViewOk n (TSchema.mk x6) (TView.mk (TQuery.mk x12 x15 x18 x21 x24 x27 x30 x33 x36) x39 x42) with
  | none => rw [hr] at h; cases h
  | some r =>
    rw [hr] at h
    exact ⟨_, _, h, fun ω' κ' => by unfold K; rw [hf]; exact congrArg (fun z : Option R => z.bind _) hr⟩
theorem Kok (n : Nat) (ho : Ok n) {ω : Type} {avs : List AV} {κ : AV → List AV → Option ω} {q : ω} (h : spec_ViewOk.K n avs κ = some q) : FnOk E 41 ∧ ∃ ps rv outs, (cx n 0).sig 41 = some ps ∧ κ rv outs = some q ∧ CallOk E 41 avs rv outs ps := by
  unfold K at h
  generalize hf : fixes [.ag [.sl .v .int], .ag [.k, .sl .v .iCond, .k, .k, .k, .sl .v .int, .k, .k, .k, .sl .v .iRow, .sl .v .iKid]] avs = v at h
  replace h := uc_ok h; obtain ⟨a1, l2, rfl, h⟩ := h
  replace h := getAg_ok h; obtain ⟨c3, rfl, h⟩ := h
  replace h := uc_ok h; obtain ⟨a4, l5, rfl, h⟩ := h
  replace h := getSl_ok h; obtain ⟨x6, rfl, h⟩ := h
  replace h := un_ok h; obtain ⟨rfl, h⟩ := h
  replace h := uc_ok h; obtain ⟨a7, l8, rfl, h⟩ := h
  replace h := getAg_ok h; obtain ⟨c9, rfl, h⟩ := h
  replace h := uc_ok h; obtain ⟨a10, l11, rfl, h⟩ := h
  replace h := getI_ok h; obtain ⟨x12, rfl, h⟩ := h
  replace h := uc_ok h; obtain ⟨a13, l14, rfl, h⟩ := h
  replace h := getSl_ok h; obtain ⟨x15, rfl, h⟩ := h
  replace h := uc_ok h; obtain ⟨a16, l17, rfl, h⟩ := h
  replace h := getI_ok h; obtain ⟨x18, rfl, h⟩ := h
  replace h := uc_ok h; obtain ⟨a19, l20, rfl, h⟩ := h
  replace h := getB_ok h; obtain ⟨x21, rfl, h⟩ := h
  replace h := uc_ok h; obtain ⟨a22, l23, rfl, h⟩ := h
  replace h := getI_ok h; obtain ⟨x24, rfl, h⟩ := h
  replace h := uc_ok h; obtain ⟨a25, l26, rfl, h⟩ := h
  replace h := getSl_ok h; obtain ⟨x27, rfl, h⟩ := h
  replace h := uc_ok h; obtain ⟨a28, l29, rfl, h⟩ := h
  replace h := getB_ok h; obtain ⟨x30, rfl, h⟩ := h
  replace h := uc_ok h; obtain ⟨a31, l32, rfl, h⟩ := h
  replace h := getI_ok h; obtain ⟨x33, rfl, h⟩ := h
  replace h := uc_ok h; obtain ⟨a34, l35, rfl, h⟩ := h
  replace h := getI_ok h; obtain ⟨x36, rfl, h⟩ := h
  replace h := uc_ok h; obtain ⟨a37, l38, rfl, h⟩ := h
  replace h := getSl_ok h; obtain ⟨x39, rfl, h⟩ := h
  replace h := uc_ok h; obtain ⟨a40, l41, rfl, h⟩ := h
  replace h := getSl_ok h; obtain ⟨x42, rfl, h⟩ := h
  replace h := un_ok h; obtain ⟨rfl, h⟩ := h
  replace h := un_ok h; obtain ⟨rfl, h⟩ := h
  cases hr : spec_ViewOk n (TSchema.mk x6) (TView.mk (TQuery.mk x12 x15 x18 x21 x24 x27 x30 x33 x36) x39 x42) with
  | none => rw [hr] at h; cases h
  | some r =>
    rw [hr] at h
    exact ⟨⟨_, body, Try.func41, by decide +kernel, by kernel_rfl⟩, [.ag [.v], .ag [.v, .v, .v, .v, .v, .v, .v, .v, .v, .v, .v]], _, _, by kernel_rfl, h, CallOk.fix (ss := [.ag [.sl .v .int], .ag [.k, .sl .v .iCond, .k, .k, .k, .sl .v .int, .k, .k, .k, .sl .v .iRow, .sl .v .iKid]]) (by rw [hf]; exact ho (TSchema.mk x6) (TView.mk (TQuery.mk x12 x15 x18 x21 x24 x27 x30 x33 x36) x39 x42) r hr)⟩
end spec_ViewOk
end Go.Pi
end
section
set_option linter.unusedVariables false
set_option maxRecDepth 100000
namespace Go.Pi
open Go.Proofs
namespace spec_l9Conds
abbrev R : Type := Bool
noncomputable def body : Code := match Try.f92.body with | some c => c | none => .skip
def ann : Ann := ⟨fun k => look2 [(3, [(0, .view .iCond), (1, .view .iCond), (5, .k)])] k, fun k => match look2 [] k with | some l => l | none => [], fun k => match look2 [(0, [(0, .view .iCond), (1, .view .iCond)])] k with | some l => l | none => []⟩
def fin (o : List AV) : Option R := uc o fun a1 l2 => getB a1 fun x3 => un l2 (some (x3 : R))
def inj (r : R) : List AV := [.b r]
theorem fin_ok (o : List AV) (r : R) (h : fin o = some r) : o = inj r := by
  unfold fin at h
  replace h := uc_ok h; obtain ⟨a1, l2, rfl, h⟩ := h
  replace h := getB_ok h; obtain ⟨x3, rfl, h⟩ := h
  replace h := un_ok h; obtain ⟨rfl, h⟩ := h
  cases h
  rfl
def kr (n : Nat) : St → Option R := retK (cx n 32) [.k] [.v] [.tmp 4] [] fin
def lf (n : Nat) : LF R := fun key κd κe v b => cond (Nat.beq key 3)
    (uc v fun a1 l2 => getSl .v .iCond a1 fun x3 => uc l2 fun a4 l5 => getSl .v .iCond a4 fun x6 => uc l5 fun a7 l8 => getI .i64 a7 fun x9 => un l8 (uc b fun a10 l11 => isExt a10 (un l11 (spec_l9Conds.loop3 n (fun (y0 : List TCond) (y1 : List TCond) => κe 0 [.sl .v .iCond y0, .sl .v .iCond y1] [some .ext]) n x3 x6 x9))))
    (none)
noncomputable def A3 : Code := match pieceAt ann body 0 3 with | some (.loop a _) => a | _ => .skip
theorem round3 (n : Nat) (B : D R) (κe : Nat → D R) (a : List TCond) (b : List TCond) (i : Int) : run (cx n 32) 1 ann (lf n) (kr n) A3 4 (fun s => cutK 1 [(0, .view .iCond), (1, .view .iCond), (5, .k)] s B) (fun j s => cutK 1 (ann.out j) s (κe j)) (St.ofC [(0, .view .iCond), (1, .view .iCond), (5, .k)] [.sl .v .iCond a, .sl .v .iCond b, .i .i64 i] [some .ext]) =
    spec_l9Conds.step3 n (fun (y0 : List TCond) (y1 : List TCond) => κe 0 [.sl .v .iCond y0, .sl .v .iCond y1] [some .ext]) (fun (z0 : List TCond) (z1 : List TCond) (z2 : Int) => B [.sl .v .iCond z0, .sl .v .iCond z1, .i .i64 z2] [some .ext]) a b i := by kernel_rfl
theorem rounds3 (n : Nat) (κe : Nat → D R) : ∀ (N : Nat) (a : List TCond) (b : List TCond) (i : Int), rounds (cx n 32) 1 ann (lf n) (kr n) A3 4 [(0, .view .iCond), (1, .view .iCond), (5, .k)] κe N [.sl .v .iCond a, .sl .v .iCond b, .i .i64 i] [some .ext] = spec_l9Conds.loop3 n (fun (y0 : List TCond) (y1 : List TCond) => κe 0 [.sl .v .iCond y0, .sl .v .iCond y1] [some .ext]) N a b i
  | 0, _, _, _ => rfl
  | N + 1, a, b, i => (round3 n (rounds (cx n 32) 1 ann (lf n) (kr n) A3 4 [(0, .view .iCond), (1, .view .iCond), (5, .k)] κe N) κe a b i).trans (congrArg (fun back => spec_l9Conds.step3 n (fun (y0 : List TCond) (y1 : List TCond) => κe 0 [.sl .v .iCond y0, .sl .v .iCond y1] [some .ext]) back a b i) (funext fun z0 => funext fun z1 => funext fun z2 => rounds3 n κe N z0 z1 z2))
theorem cuts (n : Nat) : Cuts (cx n 32) 1 ann (lf n) (kr n) body := by
  intro key κd κe v b r h
  unfold lf at h
  cases hk3 : Nat.beq key 3 with
  | true =>
    replace h := cond_t hk3 h
    have := beq_iff.1 hk3
    subst this
    replace h := uc_ok h; obtain ⟨a1, l2, rfl, h⟩ := h
    replace h := getSl_ok h; obtain ⟨x3, rfl, h⟩ := h
    replace h := uc_ok h; obtain ⟨a4, l5, rfl, h⟩ := h
    replace h := getSl_ok h; obtain ⟨x6, rfl, h⟩ := h
    replace h := uc_ok h; obtain ⟨a7, l8, rfl, h⟩ := h
    replace h := getI_ok h; obtain ⟨x9, rfl, h⟩ := h
    replace h := un_ok h; obtain ⟨rfl, h⟩ := h
    replace h := uc_ok h; obtain ⟨a10, l11, rfl, h⟩ := h
    replace h := isExt_ok h; obtain ⟨rfl, h⟩ := h
    replace h := un_ok h; obtain ⟨rfl, h⟩ := h
    exact ⟨[(0, .view .iCond), (1, .view .iCond), (5, .k)], .loop A3 4, by kernel_rfl, by kernel_rfl, ⟨n, (rounds3 n κe n x3 x6 x9).trans h⟩⟩
  | false =>
    replace h := cond_f hk3 h
    cases h
theorem top (n : Nat) (a : List TCond) (b : List TCond) : entryK 1 [.sl .v .iCond a, .sl .v .iCond b] (fun v b => match outOfAll [.v, .v] v with
      | some o => cond (AV.allRoots o []) (run (cx n 32) 1 ann (lf n) (kr n) body 0 (kr n) (fun _ _ => none) (St.ofC (live0 2) v b)) none
      | none => none) = spec_l9Conds (n + 1) a b := by kernel_rfl
def Ok (n : Nat) : Prop := ∀ (a : List TCond) (b : List TCond) (res_ : R), spec_l9Conds n a b = some res_ → CallOk E 92 [.sl .v .iCond a, .sl .v .iCond b] (rvOf 1 (inj res_)) ((inj res_).drop 1) [.v, .v]
theorem ok (n : Nat) (hc : CxOk E (cx n 32)) (hK : KPar (cx n 32)) : Ok (n + 1) := fun a b res_ h_ =>
  fn_sound hc hK mixedOk Try.func92 (by kernel_rfl) (by kernel_rfl) (by kernel_rfl) (by decide) fin_ok (by kernel_rfl) ((top n a b).trans h_) (cuts n)
theorem Kpar (n : Nat) {ω : Type} {avs : List AV} {κ : AV → List AV → Option ω} {q : ω} (h : spec_l9Conds.K n avs κ = some q) : ∃ rv outs, κ rv outs = some q ∧ ∀ (ω' : Type) (κ' : AV → List AV → Option ω'), spec_l9Conds.K n avs κ' = κ' rv outs := by
  unfold K at h
  generalize hf : fixes [.sl .v .iCond, .sl .v .iCond] avs = v at h
  replace h := uc_ok h; obtain ⟨a1, l2, rfl, h⟩ := h
  replace h := getSl_ok h; obtain ⟨x3, rfl, h⟩ := h
  replace h := uc_ok h; obtain ⟨a4, l5, rfl, h⟩ := h
  replace h := getSl_ok h; obtain ⟨x6, rfl, h⟩ := h
  replace h := un_ok h; obtain ⟨rfl, h⟩ := h
  cases hr : spec_l9Conds n x3 x6 with
  | none => rw [hr] at h; cases h
  | some r =>
    rw [hr] at h
    exact ⟨_, _, h, fun ω' κ' => by unfold K; rw [hf]; exact congrArg (fun z : Option R => z.bind _) hr⟩
theorem Kok (n : Nat) (ho : Ok n) {ω : Type} {avs : List AV} {κ : AV → List AV → Option ω} {q : ω} (h : spec_l9Conds.K n avs κ = some q) : FnOk E 92 ∧ ∃ ps rv outs, (cx n 0).sig 92 = some ps ∧ κ rv outs = some q ∧ CallOk E 92 avs rv outs ps := by
  unfold K at h
  generalize hf : fixes [.sl .v .iCond, .sl .v .iCond] avs = v at h
  replace h := uc_ok h; obtain ⟨a1, l2, rfl, h⟩ := h
  replace h := getSl_ok h; obtain ⟨x3, rfl, h⟩ := h
  replace h := uc_ok h; obtain ⟨a4, l5, rfl, h⟩ := h
  replace h := getSl_ok h; obtain ⟨x6, rfl, h⟩ := h
  replace h := un_ok h; obtain ⟨rfl, h⟩ := h
  cases hr : spec_l9Conds n x3 x6 with
  | none => rw [hr] at h; cases h
  | some r =>
    rw [hr] at h
    exact ⟨⟨_, body, Try.func92, by decide +kernel, by kernel_rfl⟩, [.v, .v], _, _, by kernel_rfl, h, CallOk.fix (ss := [.sl .v .iCond, .sl .v .iCond]) (by rw [hf]; exact ho x3 x6 r hr)⟩
end spec_l9Conds
namespace spec_l9Ints
abbrev R : Type := Bool
noncomputable def body : Code := match Try.f93.body with | some c => c | none => .skip
def ann : Ann := ⟨fun k => look2 [(3, [(0, .view .int), (1, .view .int), (5, .k)])] k, fun k => match look2 [] k with | some l => l | none => [], fun k => match look2 [(0, [(0, .view .int), (1, .view .int)])] k with | some l => l | none => []⟩
def fin (o : List AV) : Option R := uc o fun a1 l2 => getB a1 fun x3 => un l2 (some (x3 : R))
def inj (r : R) : List AV := [.b r]
theorem fin_ok (o : List AV) (r : R) (h : fin o = some r) : o = inj r := by
  unfold fin at h
  replace h := uc_ok h; obtain ⟨a1, l2, rfl, h⟩ := h
  replace h := getB_ok h; obtain ⟨x3, rfl, h⟩ := h
  replace h := un_ok h; obtain ⟨rfl, h⟩ := h
  cases h
  rfl
def kr (n : Nat) : St → Option R := retK (cx n 32) [.k] [.v] [.tmp 4] [] fin
def lf (n : Nat) : LF R := fun key κd κe v b => cond (Nat.beq key 3)
    (uc v fun a1 l2 => getSl .v .int a1 fun x3 => uc l2 fun a4 l5 => getSl .v .int a4 fun x6 => uc l5 fun a7 l8 => getI .i64 a7 fun x9 => un l8 (uc b fun a10 l11 => isExt a10 (un l11 (spec_l9Ints.loop3 n (fun (y0 : List Int) (y1 : List Int) => κe 0 [.sl .v .int y0, .sl .v .int y1] [some .ext]) n x3 x6 x9))))
    (none)
noncomputable def A3 : Code := match pieceAt ann body 0 3 with | some (.loop a _) => a | _ => .skip
theorem round3 (n : Nat) (B : D R) (κe : Nat → D R) (a : List Int) (b : List Int) (i : Int) : run (cx n 32) 1 ann (lf n) (kr n) A3 4 (fun s => cutK 1 [(0, .view .int), (1, .view .int), (5, .k)] s B) (fun j s => cutK 1 (ann.out j) s (κe j)) (St.ofC [(0, .view .int), (1, .view .int), (5, .k)] [.sl .v .int a, .sl .v .int b, .i .i64 i] [some .ext]) =
    spec_l9Ints.step3 n (fun (y0 : List Int) (y1 : List Int) => κe 0 [.sl .v .int y0, .sl .v .int y1] [some .ext]) (fun (z0 : List Int) (z1 : List Int) (z2 : Int) => B [.sl .v .int z0, .sl .v .int z1, .i .i64 z2] [some .ext]) a b i := by kernel_rfl
theorem rounds3 (n : Nat) (κe : Nat → D R) : ∀ (N : Nat) (a : List Int) (b : List Int) (i : Int), rounds (cx n 32) 1 ann (lf n) (kr n) A3 4 [(0, .view .int), (1, .view .int), (5, .k)] κe N [.sl .v .int a, .sl .v .int b, .i .i64 i] [some .ext] = spec_l9Ints.loop3 n (fun (y0 : List Int) (y1 : List Int) => κe 0 [.sl .v .int y0, .sl .v .int y1] [some .ext]) N a b i
  | 0, _, _, _ => rfl
  | N + 1, a, b, i => (round3 n (rounds (cx n 32) 1 ann (lf n) (kr n) A3 4 [(0, .view .int), (1, .view .int), (5, .k)] κe N) κe a b i).trans (congrArg (fun back => spec_l9Ints.step3 n (fun (y0 : List Int) (y1 : List Int) => κe 0 [.sl .v .int y0, .sl .v .int y1] [some .ext]) back a b i) (funext fun z0 => funext fun z1 => funext fun z2 => rounds3 n κe N z0 z1 z2))
theorem cuts (n : Nat) : Cuts (cx n 32) 1 ann (lf n) (kr n) body := by
  intro key κd κe v b r h
  unfold lf at h
  cases hk3 : Nat.beq key 3 with
  | true =>
    replace h := cond_t hk3 h
    have := beq_iff.1 hk3
    subst this
    replace h := uc_ok h; obtain ⟨a1, l2, rfl, h⟩ := h
    replace h := getSl_ok h; obtain ⟨x3, rfl, h⟩ := h
    replace h := uc_ok h; obtain ⟨a4, l5, rfl, h⟩ := h
    replace h := getSl_ok h; obtain ⟨x6, rfl, h⟩ := h
    replace h := uc_ok h; obtain ⟨a7, l8, rfl, h⟩ := h
    replace h := getI_ok h; obtain ⟨x9, rfl, h⟩ := h
    replace h := un_ok h; obtain ⟨rfl, h⟩ := h
    replace h := uc_ok h; obtain ⟨a10, l11, rfl, h⟩ := h
    replace h := isExt_ok h; obtain ⟨rfl, h⟩ := h
    replace h := un_ok h; obtain ⟨rfl, h⟩ := h
    exact ⟨[(0, .view .int), (1, .view .int), (5, .k)], .loop A3 4, by kernel_rfl, by kernel_rfl, ⟨n, (rounds3 n κe n x3 x6 x9).trans h⟩⟩
  | false =>
    replace h := cond_f hk3 h
    cases h
theorem top (n : Nat) (a : List Int) (b : List Int) : entryK 1 [.sl .v .int a, .sl .v .int b] (fun v b => match outOfAll [.v, .v] v with
      | some o => cond (AV.allRoots o []) (run (cx n 32) 1 ann (lf n) (kr n) body 0 (kr n) (fun _ _ => none) (St.ofC (live0 2) v b)) none
      | none => none) = spec_l9Ints (n + 1) a b := by kernel_rfl
def Ok (n : Nat) : Prop := ∀ (a : List Int) (b : List Int) (res_ : R), spec_l9Ints n a b = some res_ → CallOk E 93 [.sl .v .int a, .sl .v .int b] (rvOf 1 (inj res_)) ((inj res_).drop 1) [.v, .v]
theorem ok (n : Nat) (hc : CxOk E (cx n 32)) (hK : KPar (cx n 32)) : Ok (n + 1) := fun a b res_ h_ =>
  fn_sound hc hK mixedOk Try.func93 (by kernel_rfl) (by kernel_rfl) (by kernel_rfl) (by decide) fin_ok (by kernel_rfl) ((top n a b).trans h_) (cuts n)
theorem Kpar (n : Nat) {ω : Type} {avs : List AV} {κ : AV → List AV → Option ω} {q : ω} (h : spec_l9Ints.K n avs κ = some q) : ∃ rv outs, κ rv outs = some q ∧ ∀ (ω' : Type) (κ' : AV → List AV → Option ω'), spec_l9Ints.K n avs κ' = κ' rv outs := by
  unfold K at h
  generalize hf : fixes [.sl .v .int, .sl .v .int] avs = v at h
  replace h := uc_ok h; obtain ⟨a1, l2, rfl, h⟩ := h
  replace h := getSl_ok h; obtain ⟨x3, rfl, h⟩ := h
  replace h := uc_ok h; obtain ⟨a4, l5, rfl, h⟩ := h
  replace h := getSl_ok h; obtain ⟨x6, rfl, h⟩ := h
  replace h := un_ok h; obtain ⟨rfl, h⟩ := h
  cases hr : spec_l9Ints n x3 x6 with
  | none => rw [hr] at h; cases h
  | some r =>
    rw [hr] at h
    exact ⟨_, _, h, fun ω' κ' => by unfold K; rw [hf]; exact congrArg (fun z : Option R => z.bind _) hr⟩
theorem Kok (n : Nat) (ho : Ok n) {ω : Type} {avs : List AV} {κ : AV → List AV → Option ω} {q : ω} (h : spec_l9Ints.K n avs κ = some q) : FnOk E 93 ∧ ∃ ps rv outs, (cx n 0).sig 93 = some ps ∧ κ rv outs = some q ∧ CallOk E 93 avs rv outs ps := by
  unfold K at h
  generalize hf : fixes [.sl .v .int, .sl .v .int] avs = v at h
  replace h := uc_ok h; obtain ⟨a1, l2, rfl, h⟩ := h
  replace h := getSl_ok h; obtain ⟨x3, rfl, h⟩ := h
  replace h := uc_ok h; obtain ⟨a4, l5, rfl, h⟩ := h
  replace h := getSl_ok h; obtain ⟨x6, rfl, h⟩ := h
  replace h := un_ok h; obtain ⟨rfl, h⟩ := h
  cases hr : spec_l9Ints n x3 x6 with
  | none => rw [hr] at h; cases h
  | some r =>
    rw [hr] at h
    exact ⟨⟨_, body, Try.func93, by decide +kernel, by kernel_rfl⟩, [.v, .v], _, _, by kernel_rfl, h, CallOk.fix (ss := [.sl .v .int, .sl .v .int]) (by rw [hf]; exact ho x3 x6 r hr)⟩
end spec_l9Ints
namespace spec_QuerySame
abbrev R : Type := Bool
noncomputable def body : Code := match Try.f44.body with | some c => c | none => .skip
def ann : Ann := ⟨fun k => look2 [] k, fun k => match look2 [] k with | some l => l | none => [], fun k => match look2 [] k with | some l => l | none => []⟩
def fin (o : List AV) : Option R := uc o fun a1 l2 => getB a1 fun x3 => un l2 (some (x3 : R))
def inj (r : R) : List AV := [.b r]
theorem fin_ok (o : List AV) (r : R) (h : fin o = some r) : o = inj r := by
  unfold fin at h
  replace h := uc_ok h; obtain ⟨a1, l2, rfl, h⟩ := h
  replace h := getB_ok h; obtain ⟨x3, rfl, h⟩ := h
  replace h := un_ok h; obtain ⟨rfl, h⟩ := h
  cases h
  rfl
def kr (n : Nat) : St → Option R := retK (cx n 66) [.k] [.v] [.tmp 4] [] fin
def lf (n : Nat) : LF R := fun key κd κe v b => none
theorem cuts (n : Nat) : Cuts (cx n 66) 1 ann (lf n) (kr n) body := by
  intro key κd κe v b r h
  unfold lf at h
  cases h
theorem top (n : Nat) (o : TQuery) (append : TQuery) : entryK 1 [.ag [.i .i64 o.table, .sl .v .iCond o.where_, .i .i64 o.order, .b o.down, .i .i64 o.first, .sl .v .int o.show_, .b o.kids, .i .i64 o.kidTable, .i .i64 o.kidCol], .ag [.i .i64 append.table, .sl .v .iCond append.where_, .i .i64 append.order, .b append.down, .i .i64 append.first, .sl .v .int append.show_, .b append.kids, .i .i64 append.kidTable, .i .i64 append.kidCol]] (fun v b => match outOfAll [.ag [.v, .v, .v, .v, .v, .v, .v, .v, .v], .ag [.v, .v, .v, .v, .v, .v, .v, .v, .v]] v with
      | some o => cond (AV.allRoots o []) (run (cx n 66) 1 ann (lf n) (kr n) body 0 (kr n) (fun _ _ => none) (St.ofC (live0 2) v b)) none
      | none => none) = spec_QuerySame (n + 1) o append := by kernel_rfl
def Ok (n : Nat) : Prop := ∀ (o : TQuery) (append : TQuery) (res_ : R), spec_QuerySame n o append = some res_ → CallOk E 44 [.ag [.i .i64 o.table, .sl .v .iCond o.where_, .i .i64 o.order, .b o.down, .i .i64 o.first, .sl .v .int o.show_, .b o.kids, .i .i64 o.kidTable, .i .i64 o.kidCol], .ag [.i .i64 append.table, .sl .v .iCond append.where_, .i .i64 append.order, .b append.down, .i .i64 append.first, .sl .v .int append.show_, .b append.kids, .i .i64 append.kidTable, .i .i64 append.kidCol]] (rvOf 1 (inj res_)) ((inj res_).drop 1) [.ag [.v, .v, .v, .v, .v, .v, .v, .v, .v], .ag [.v, .v, .v, .v, .v, .v, .v, .v, .v]]
theorem ok (n : Nat) (hc : CxOk E (cx n 66)) (hK : KPar (cx n 66)) : Ok (n + 1) := fun o append res_ h_ =>
  fn_sound hc hK mixedOk Try.func44 (by kernel_rfl) (by kernel_rfl) (by kernel_rfl) (by decide) fin_ok (by kernel_rfl) ((top n o append).trans h_) (cuts n)
theorem Kpar (n : Nat) {ω : Type} {avs : List AV} {κ : AV → List AV → Option ω} {q : ω} (h : spec_QuerySame.K n avs κ = some q) : ∃ rv outs, κ rv outs = some q ∧ ∀ (ω' : Type) (κ' : AV → List AV → Option ω'), spec_QuerySame.K n avs κ' = κ' rv outs := by
  unfold K at h
  generalize hf : fixes [.ag [.k, .sl .v .iCond, .k, .k, .k, .sl .v .int, .k, .k, .k], .ag [.k, .sl .v .iCond, .k, .k, .k, .sl .v .int, .k, .k, .k]] avs = v at h
  replace h := uc_ok h; obtain ⟨a1, l2, rfl, h⟩ := h
  replace h := getAg_ok h; obtain ⟨c3, rfl, h⟩ := h
  replace h := uc_ok h; obtain ⟨a4, l5, rfl, h⟩ := h
  replace h := getI_ok h; obtain ⟨x6, rfl, h⟩ := h
  replace h := uc_ok h; obtain ⟨a7, l8, rfl, h⟩ := h
  replace h := getSl_ok h; obtain ⟨x9, rfl, h⟩ := h
  replace h := uc_ok h; obtain ⟨a10, l11, rfl, h⟩ := h
  replace h := getI_ok h; obtain ⟨x12, rfl, h⟩ := h
  replace h := uc_ok h; obtain ⟨a13, l14, rfl, h⟩ := h
  replace h := getB_ok h; obtain ⟨x15, rfl, h⟩ := h
  replace h := uc_ok h; obtain ⟨a16, l17, rfl, h⟩ := h
  replace h := getI_ok h; obtain ⟨x18, rfl, h⟩ := h
  replace h := uc_ok h; obtain ⟨a19, l20, rfl, h⟩ := h
  replace h := getSl_ok h; obtain ⟨x21, rfl, h⟩ := h
  replace h := uc_ok h; obtain ⟨a22, l23, rfl, h⟩ := h
  replace h := getB_ok h; obtain ⟨x24, rfl, h⟩ := h
  replace h := uc_ok h; obtain ⟨a25, l26, rfl, h⟩ := h
  replace h := getI_ok h; obtain ⟨x27, rfl, h⟩ := h
  replace h := uc_ok h; obtain ⟨a28, l29, rfl, h⟩ := h
  replace h := getI_ok h; obtain ⟨x30, rfl, h⟩ := h
  replace h := un_ok h; obtain ⟨rfl, h⟩ := h
  replace h := uc_ok h; obtain ⟨a31, l32, rfl, h⟩ := h
  replace h := getAg_ok h; obtain ⟨c33, rfl, h⟩ := h
  replace h := uc_ok h; obtain ⟨a34, l35, rfl, h⟩ := h
  replace h := getI_ok h; obtain ⟨x36, rfl, h⟩ := h
  replace h := uc_ok h; obtain ⟨a37, l38, rfl, h⟩ := h
  replace h := getSl_ok h; obtain ⟨x39, rfl, h⟩ := h
  replace h := uc_ok h; obtain ⟨a40, l41, rfl, h⟩ := h
  replace h := getI_ok h; obtain ⟨x42, rfl, h⟩ := h
  replace h := uc_ok h; obtain ⟨a43, l44, rfl, h⟩ := h
  replace h := getB_ok h; obtain ⟨x45, rfl, h⟩ := h
  replace h := uc_ok h; obtain ⟨a46, l47, rfl, h⟩ := h
  replace h := getI_ok h; obtain ⟨x48, rfl, h⟩ := h
  replace h := uc_ok h; obtain ⟨a49, l50, rfl, h⟩ := h
  replace h := getSl_ok h; obtain ⟨x51, rfl, h⟩ := h
  replace h := uc_ok h; obtain ⟨a52, l53, rfl, h⟩ := h
  replace h := getB_ok h; obtain ⟨x54, rfl, h⟩ := h
  replace h := uc_ok h; obtain ⟨a55, l56, rfl, h⟩ := h
  replace h := getI_ok h; obtain ⟨x57, rfl, h⟩ := h
  replace h := uc_ok h; obtain ⟨a58, l59, rfl, h⟩ := h
  replace h := getI_ok h; obtain ⟨x60, rfl, h⟩ := h
  replace h := un_ok h; obtain ⟨rfl, h⟩ := h
  replace h := un_ok h; obtain ⟨rfl, h⟩ := h
  cases hr : spec_QuerySame n (TQuery.mk x6 x9 x12 x15 x18 x21 x24 x27 x30) (TQuery.mk x36 x39 x42 x45 x48 x51 x54 x57 x60) with
  | none => rw [hr] at h; cases h
  | some r =>
    rw [hr] at h
    exact ⟨_, _, h, fun ω' κ' => by unfold K; rw [hf]; exact congrArg (fun z : Option R => z.bind _) hr⟩
theorem Kok (n : Nat) (ho : Ok n) {ω : Type} {avs : List AV} {κ : AV → List AV → Option ω} {q : ω} (h : spec_QuerySame.K n avs κ = some q) : FnOk E 44 ∧ ∃ ps rv outs, (cx n 0).sig 44 = some ps ∧ κ rv outs = some q ∧ CallOk E 44 avs rv outs ps := by
  unfold K at h
  generalize hf : fixes [.ag [.k, .sl .v .iCond, .k, .k, .k, .sl .v .int, .k, .k, .k], .ag [.k, .sl .v .iCond, .k, .k, .k, .sl .v .int, .k, .k, .k]] avs = v at h
  replace h := uc_ok h; obtain ⟨a1, l2, rfl, h⟩ := h
  replace h := getAg_ok h; obtain ⟨c3, rfl, h⟩ := h
  replace h := uc_ok h; obtain ⟨a4, l5, rfl, h⟩ := h
  replace h := getI_ok h; obtain ⟨x6, rfl, h⟩ := h
  replace h := uc_ok h; obtain ⟨a7, l8, rfl, h⟩ := h
  replace h := getSl_ok h; obtain ⟨x9, rfl, h⟩ := h
  replace h := uc_ok h; obtain ⟨a10, l11, rfl, h⟩ := h
  replace h := getI_ok h; obtain ⟨x12, rfl, h⟩ := h
  replace h := uc_ok h; obtain ⟨a13, l14, rfl, h⟩ := h
  replace h := getB_ok h; obtain ⟨x15, rfl, h⟩ := h
  replace h := uc_ok h; obtain ⟨a16, l17, rfl, h⟩ := h
  replace h := getI_ok h; obtain ⟨x18, rfl, h⟩ := h
  replace h := uc_ok h; obtain ⟨a19, l20, rfl, h⟩ := h
  replace h := getSl_ok h; obtain ⟨x21, rfl, h⟩ := h
  replace h := uc_ok h; obtain ⟨a22, l23, rfl, h⟩ := h
  replace h := getB_ok h; obtain ⟨x24, rfl, h⟩ := h
  replace h := uc_ok h; obtain ⟨a25, l26, rfl, h⟩ := h
  replace h := getI_ok h; obtain ⟨x27, rfl, h⟩ := h
  replace h := uc_ok h; obtain ⟨a28, l29, rfl, h⟩ := h
  replace h := getI_ok h; obtain ⟨x30, rfl, h⟩ := h
  replace h := un_ok h; obtain ⟨rfl, h⟩ := h
  replace h := uc_ok h; obtain ⟨a31, l32, rfl, h⟩ := h
  replace h := getAg_ok h; obtain ⟨c33, rfl, h⟩ := h
  replace h := uc_ok h; obtain ⟨a34, l35, rfl, h⟩ := h
  replace h := getI_ok h; obtain ⟨x36, rfl, h⟩ := h
  replace h := uc_ok h; obtain ⟨a37, l38, rfl, h⟩ := h
  replace h := getSl_ok h; obtain ⟨x39, rfl, h⟩ := h
  replace h := uc_ok h; obtain ⟨a40, l41, rfl, h⟩ := h
  replace h := getI_ok h; obtain ⟨x42, rfl, h⟩ := h
  replace h := uc_ok h; obtain ⟨a43, l44, rfl, h⟩ := h
  replace h := getB_ok h; obtain ⟨x45, rfl, h⟩ := h
  replace h := uc_ok h; obtain ⟨a46, l47, rfl, h⟩ := h
  replace h := getI_ok h; obtain ⟨x48, rfl, h⟩ := h
  replace h := uc_ok h; obtain ⟨a49, l50, rfl, h⟩ := h
  replace h := getSl_ok h; obtain ⟨x51, rfl, h⟩ := h
  replace h := uc_ok h; obtain ⟨a52, l53, rfl, h⟩ := h
  replace h := getB_ok h; obtain ⟨x54, rfl, h⟩ := h
  replace h := uc_ok h; obtain ⟨a55, l56, rfl, h⟩ := h
  replace h := getI_ok h; obtain ⟨x57, rfl, h⟩ := h
  replace h := uc_ok h; obtain ⟨a58, l59, rfl, h⟩ := h
  replace h := getI_ok h; obtain ⟨x60, rfl, h⟩ := h
  replace h := un_ok h; obtain ⟨rfl, h⟩ := h
  replace h := un_ok h; obtain ⟨rfl, h⟩ := h
  cases hr : spec_QuerySame n (TQuery.mk x6 x9 x12 x15 x18 x21 x24 x27 x30) (TQuery.mk x36 x39 x42 x45 x48 x51 x54 x57 x60) with
  | none => rw [hr] at h; cases h
  | some r =>
    rw [hr] at h
    exact ⟨⟨_, body, Try.func44, by decide +kernel, by kernel_rfl⟩, [.ag [.v, .v, .v, .v, .v, .v, .v, .v, .v], .ag [.v, .v, .v, .v, .v, .v, .v, .v, .v]], _, _, by kernel_rfl, h, CallOk.fix (ss := [.ag [.k, .sl .v .iCond, .k, .k, .k, .sl .v .int, .k, .k, .k], .ag [.k, .sl .v .iCond, .k, .k, .k, .sl .v .int, .k, .k, .k]]) (by rw [hf]; exact ho (TQuery.mk x6 x9 x12 x15 x18 x21 x24 x27 x30) (TQuery.mk x36 x39 x42 x45 x48 x51 x54 x57 x60) r hr)⟩
end spec_QuerySame
namespace spec_RowSame
abbrev R : Type := Bool
noncomputable def body : Code := match Try.f91.body with | some c => c | none => .skip
def ann : Ann := ⟨fun k => look2 [(6, [(2, .box [.k, .view .int]), (3, .box [.k, .view .int]), (5, .k)])] k, fun k => match look2 [] k with | some l => l | none => [], fun k => match look2 [(0, [])] k with | some l => l | none => []⟩
def fin (o : List AV) : Option R := uc o fun a1 l2 => getB a1 fun x3 => un l2 (some (x3 : R))
def inj (r : R) : List AV := [.b r]
theorem fin_ok (o : List AV) (r : R) (h : fin o = some r) : o = inj r := by
  unfold fin at h
  replace h := uc_ok h; obtain ⟨a1, l2, rfl, h⟩ := h
  replace h := getB_ok h; obtain ⟨x3, rfl, h⟩ := h
  replace h := un_ok h; obtain ⟨rfl, h⟩ := h
  cases h
  rfl
def kr (n : Nat) : St → Option R := retK (cx n 38) [.k] [.v] [.tmp 4] [] fin
def lf (n : Nat) : LF R := fun key κd κe v b => cond (Nat.beq key 6)
    (uc v fun a1 l2 => isPb 1 0 a1 (uc l2 fun a3 l4 => isPb 2 0 a3 (uc l4 fun a5 l6 => getI .i64 a5 fun x7 => un l6 (uc b fun a8 l9 => isExt a8 (uc l9 fun a10 l11 => getBox a10 fun c12 => uc c12 fun a13 l14 => getI .i64 a13 fun x15 => uc l14 fun a16 l17 => getSl .v .int a16 fun x18 => un l17 (uc l11 fun a19 l20 => getBox a19 fun c21 => uc c21 fun a22 l23 => getI .i64 a22 fun x24 => uc l23 fun a25 l26 => getSl .v .int a25 fun x27 => un l26 (un l20 (spec_RowSame.loop6 n (fun (_ : Unit) => κe 0 [] [some .ext]) n x7 x15 x18 x24 x27))))))))
    (none)
noncomputable def A6 : Code := match pieceAt ann body 0 6 with | some (.loop a _) => a | _ => .skip
theorem round6 (n : Nat) (B : D R) (κe : Nat → D R) (i : Int) (a0 : Int) (a1 : List Int) (b0 : Int) (b1 : List Int) : run (cx n 38) 1 ann (lf n) (kr n) A6 7 (fun s => cutK 1 [(2, .box [.k, .view .int]), (3, .box [.k, .view .int]), (5, .k)] s B) (fun j s => cutK 1 (ann.out j) s (κe j)) (St.ofC [(2, .box [.k, .view .int]), (3, .box [.k, .view .int]), (5, .k)] [.pb 1 0, .pb 2 0, .i .i64 i] [some .ext, some (.box [.i .i64 a0, .sl .v .int a1]), some (.box [.i .i64 b0, .sl .v .int b1])]) =
    spec_RowSame.step6 n (fun (_ : Unit) => κe 0 [] [some .ext]) (fun (z0 : Int) (z1 : Int) (z2 : List Int) (z3 : Int) (z4 : List Int) => B [.pb 1 0, .pb 2 0, .i .i64 z0] [some .ext, some (.box [.i .i64 z1, .sl .v .int z2]), some (.box [.i .i64 z3, .sl .v .int z4])]) i a0 a1 b0 b1 := by kernel_rfl
theorem rounds6 (n : Nat) (κe : Nat → D R) : ∀ (N : Nat) (i : Int) (a0 : Int) (a1 : List Int) (b0 : Int) (b1 : List Int), rounds (cx n 38) 1 ann (lf n) (kr n) A6 7 [(2, .box [.k, .view .int]), (3, .box [.k, .view .int]), (5, .k)] κe N [.pb 1 0, .pb 2 0, .i .i64 i] [some .ext, some (.box [.i .i64 a0, .sl .v .int a1]), some (.box [.i .i64 b0, .sl .v .int b1])] = spec_RowSame.loop6 n (fun (_ : Unit) => κe 0 [] [some .ext]) N i a0 a1 b0 b1
  | 0, _, _, _, _, _ => rfl
  | N + 1, i, a0, a1, b0, b1 => (round6 n (rounds (cx n 38) 1 ann (lf n) (kr n) A6 7 [(2, .box [.k, .view .int]), (3, .box [.k, .view .int]), (5, .k)] κe N) κe i a0 a1 b0 b1).trans (congrArg (fun back => spec_RowSame.step6 n (fun (_ : Unit) => κe 0 [] [some .ext]) back i a0 a1 b0 b1) (funext fun z0 => funext fun z1 => funext fun z2 => funext fun z3 => funext fun z4 => rounds6 n κe N z0 z1 z2 z3 z4))
theorem cuts (n : Nat) : Cuts (cx n 38) 1 ann (lf n) (kr n) body := by
  intro key κd κe v b r h
  unfold lf at h
  cases hk6 : Nat.beq key 6 with
  | true =>
    replace h := cond_t hk6 h
    have := beq_iff.1 hk6
    subst this
    replace h := uc_ok h; obtain ⟨a1, l2, rfl, h⟩ := h
    replace h := isPb_ok h; obtain ⟨rfl, h⟩ := h
    replace h := uc_ok h; obtain ⟨a3, l4, rfl, h⟩ := h
    replace h := isPb_ok h; obtain ⟨rfl, h⟩ := h
    replace h := uc_ok h; obtain ⟨a5, l6, rfl, h⟩ := h
    replace h := getI_ok h; obtain ⟨x7, rfl, h⟩ := h
    replace h := un_ok h; obtain ⟨rfl, h⟩ := h
    replace h := uc_ok h; obtain ⟨a8, l9, rfl, h⟩ := h
    replace h := isExt_ok h; obtain ⟨rfl, h⟩ := h
    replace h := uc_ok h; obtain ⟨a10, l11, rfl, h⟩ := h
    replace h := getBox_ok h; obtain ⟨c12, rfl, h⟩ := h
    replace h := uc_ok h; obtain ⟨a13, l14, rfl, h⟩ := h
    replace h := getI_ok h; obtain ⟨x15, rfl, h⟩ := h
    replace h := uc_ok h; obtain ⟨a16, l17, rfl, h⟩ := h
    replace h := getSl_ok h; obtain ⟨x18, rfl, h⟩ := h
    replace h := un_ok h; obtain ⟨rfl, h⟩ := h
    replace h := uc_ok h; obtain ⟨a19, l20, rfl, h⟩ := h
    replace h := getBox_ok h; obtain ⟨c21, rfl, h⟩ := h
    replace h := uc_ok h; obtain ⟨a22, l23, rfl, h⟩ := h
    replace h := getI_ok h; obtain ⟨x24, rfl, h⟩ := h
    replace h := uc_ok h; obtain ⟨a25, l26, rfl, h⟩ := h
    replace h := getSl_ok h; obtain ⟨x27, rfl, h⟩ := h
    replace h := un_ok h; obtain ⟨rfl, h⟩ := h
    replace h := un_ok h; obtain ⟨rfl, h⟩ := h
    exact ⟨[(2, .box [.k, .view .int]), (3, .box [.k, .view .int]), (5, .k)], .loop A6 7, by kernel_rfl, by kernel_rfl, ⟨n, (rounds6 n κe n x7 x15 x18 x24 x27).trans h⟩⟩
  | false =>
    replace h := cond_f hk6 h
    cases h
theorem top (n : Nat) (a : TRow) (b : TRow) : entryK 1 [.ag [.i .i64 a.id_, .sl .v .int a.cells], .ag [.i .i64 b.id_, .sl .v .int b.cells]] (fun v b => match outOfAll [.ag [.v, .v], .ag [.v, .v]] v with
      | some o => cond (AV.allRoots o []) (run (cx n 38) 1 ann (lf n) (kr n) body 0 (kr n) (fun _ _ => none) (St.ofC (live0 2) v b)) none
      | none => none) = spec_RowSame (n + 1) a b := by kernel_rfl
def Ok (n : Nat) : Prop := ∀ (a : TRow) (b : TRow) (res_ : R), spec_RowSame n a b = some res_ → CallOk E 91 [.ag [.i .i64 a.id_, .sl .v .int a.cells], .ag [.i .i64 b.id_, .sl .v .int b.cells]] (rvOf 1 (inj res_)) ((inj res_).drop 1) [.ag [.v, .v], .ag [.v, .v]]
theorem ok (n : Nat) (hc : CxOk E (cx n 38)) (hK : KPar (cx n 38)) : Ok (n + 1) := fun a b res_ h_ =>
  fn_sound hc hK mixedOk Try.func91 (by kernel_rfl) (by kernel_rfl) (by kernel_rfl) (by decide) fin_ok (by kernel_rfl) ((top n a b).trans h_) (cuts n)
theorem Kpar (n : Nat) {ω : Type} {avs : List AV} {κ : AV → List AV → Option ω} {q : ω} (h : spec_RowSame.K n avs κ = some q) : ∃ rv outs, κ rv outs = some q ∧ ∀ (ω' : Type) (κ' : AV → List AV → Option ω'), spec_RowSame.K n avs κ' = κ' rv outs := by
  unfold K at h
  generalize hf : fixes [.ag [.k, .sl .v .int], .ag [.k, .sl .v .int]] avs = v at h
  replace h := uc_ok h; obtain ⟨a1, l2, rfl, h⟩ := h
  replace h := getAg_ok h; obtain ⟨c3, rfl, h⟩ := h
  replace h := uc_ok h; obtain ⟨a4, l5, rfl, h⟩ := h
  replace h := getI_ok h; obtain ⟨x6, rfl, h⟩ := h
  replace h := uc_ok h; obtain ⟨a7, l8, rfl, h⟩ := h
  replace h := getSl_ok h; obtain ⟨x9, rfl, h⟩ := h
  replace h := un_ok h; obtain ⟨rfl, h⟩ := h
  replace h := uc_ok h; obtain ⟨a10, l11, rfl, h⟩ := h
  replace h := getAg_ok h; obtain ⟨c12, rfl, h⟩ := h
  replace h := uc_ok h; obtain ⟨a13, l14, rfl, h⟩ := h
  replace h := getI_ok h; obtain ⟨x15, rfl, h⟩ := h
  replace h := uc_ok h; obtain ⟨a16, l17, rfl, h⟩ := h
  replace h := getSl_ok h; obtain ⟨x18, rfl, h⟩ := h
  replace h := un_ok h; obtain ⟨rfl, h⟩ := h
  replace h := un_ok h; obtain ⟨rfl, h⟩ := h
  cases hr : spec_RowSame n (TRow.mk x6 x9) (TRow.mk x15 x18) with
  | none => rw [hr] at h; cases h
  | some r =>
    rw [hr] at h
    exact ⟨_, _, h, fun ω' κ' => by unfold K; rw [hf]; exact congrArg (fun z : Option R => z.bind _) hr⟩
theorem Kok (n : Nat) (ho : Ok n) {ω : Type} {avs : List AV} {κ : AV → List AV → Option ω} {q : ω} (h : spec_RowSame.K n avs κ = some q) : FnOk E 91 ∧ ∃ ps rv outs, (cx n 0).sig 91 = some ps ∧ κ rv outs = some q ∧ CallOk E 91 avs rv outs ps := by
  unfold K at h
  generalize hf : fixes [.ag [.k, .sl .v .int], .ag [.k, .sl .v .int]] avs = v at h
  replace h := uc_ok h; obtain ⟨a1, l2, rfl, h⟩ := h
  replace h := getAg_ok h; obtain ⟨c3, rfl, h⟩ := h
  replace h := uc_ok h; obtain ⟨a4, l5, rfl, h⟩ := h
  replace h := getI_ok h; obtain ⟨x6, rfl, h⟩ := h
  replace h := uc_ok h; obtain ⟨a7, l8, rfl, h⟩ := h
  replace h := getSl_ok h; obtain ⟨x9, rfl, h⟩ := h
  replace h := un_ok h; obtain ⟨rfl, h⟩ := h
  replace h := uc_ok h; obtain ⟨a10, l11, rfl, h⟩ := h
  replace h := getAg_ok h; obtain ⟨c12, rfl, h⟩ := h
  replace h := uc_ok h; obtain ⟨a13, l14, rfl, h⟩ := h
  replace h := getI_ok h; obtain ⟨x15, rfl, h⟩ := h
  replace h := uc_ok h; obtain ⟨a16, l17, rfl, h⟩ := h
  replace h := getSl_ok h; obtain ⟨x18, rfl, h⟩ := h
  replace h := un_ok h; obtain ⟨rfl, h⟩ := h
  replace h := un_ok h; obtain ⟨rfl, h⟩ := h
  cases hr : spec_RowSame n (TRow.mk x6 x9) (TRow.mk x15 x18) with
  | none => rw [hr] at h; cases h
  | some r =>
    rw [hr] at h
    exact ⟨⟨_, body, Try.func91, by decide +kernel, by kernel_rfl⟩, [.ag [.v, .v], .ag [.v, .v]], _, _, by kernel_rfl, h, CallOk.fix (ss := [.ag [.k, .sl .v .int], .ag [.k, .sl .v .int]]) (by rw [hf]; exact ho (TRow.mk x6 x9) (TRow.mk x15 x18) r hr)⟩
end spec_RowSame
end Go.Pi
end
section
set_option linter.unusedVariables false
set_option maxRecDepth 100000
namespace Go.Pi
open Go.Proofs
namespace spec_ViewSame
abbrev R : Type := Bool
noncomputable def body : Code := match Try.f43.body with | some c => c | none => .skip
def ann : Ann := ⟨fun k => look2 [(6, [(2, .box [.k, .view .iCond, .k, .k, .k, .view .int, .k, .k, .k, .view .iRow, .view .iKid]), (3, .box [.k, .view .iCond, .k, .k, .k, .view .int, .k, .k, .k, .view .iRow, .view .iKid]), (5, .k)]), (14, [(2, .box [.k, .view .iCond, .k, .k, .k, .view .int, .k, .k, .k, .view .iRow, .view .iKid]), (3, .box [.k, .view .iCond, .k, .k, .k, .view .int, .k, .k, .k, .view .iRow, .view .iKid]), (6, .k)])] k, fun k => match look2 [] k with | some l => l | none => [], fun k => match look2 [(0, [(2, .box [.k, .view .iCond, .k, .k, .k, .view .int, .k, .k, .k, .view .iRow, .view .iKid]), (3, .box [.k, .view .iCond, .k, .k, .k, .view .int, .k, .k, .k, .view .iRow, .view .iKid])]), (2, [])] k with | some l => l | none => []⟩
def fin (o : List AV) : Option R := uc o fun a1 l2 => getB a1 fun x3 => un l2 (some (x3 : R))
def inj (r : R) : List AV := [.b r]
theorem fin_ok (o : List AV) (r : R) (h : fin o = some r) : o = inj r := by
  unfold fin at h
  replace h := uc_ok h; obtain ⟨a1, l2, rfl, h⟩ := h
  replace h := getB_ok h; obtain ⟨x3, rfl, h⟩ := h
  replace h := un_ok h; obtain ⟨rfl, h⟩ := h
  cases h
  rfl
def kr (n : Nat) : St → Option R := retK (cx n 68) [.k] [.v] [.tmp 4] [] fin
def lf (n : Nat) : LF R := fun key κd κe v b => cond (Nat.beq key 6)
    (uc v fun a1 l2 => isPb 1 0 a1 (uc l2 fun a3 l4 => isPb 2 0 a3 (uc l4 fun a5 l6 => getI .i64 a5 fun x7 => un l6 (uc b fun a8 l9 => isExt a8 (uc l9 fun a10 l11 => getBox a10 fun c12 => uc c12 fun a13 l14 => getI .i64 a13 fun x15 => uc l14 fun a16 l17 => getSl .v .iCond a16 fun x18 => uc l17 fun a19 l20 => getI .i64 a19 fun x21 => uc l20 fun a22 l23 => getB a22 fun x24 => uc l23 fun a25 l26 => getI .i64 a25 fun x27 => uc l26 fun a28 l29 => getSl .v .int a28 fun x30 => uc l29 fun a31 l32 => getB a31 fun x33 => uc l32 fun a34 l35 => getI .i64 a34 fun x36 => uc l35 fun a37 l38 => getI .i64 a37 fun x39 => uc l38 fun a40 l41 => getSl .v .iRow a40 fun x42 => uc l41 fun a43 l44 => getSl .v .iKid a43 fun x45 => un l44 (uc l11 fun a46 l47 => getBox a46 fun c48 => uc c48 fun a49 l50 => getI .i64 a49 fun x51 => uc l50 fun a52 l53 => getSl .v .iCond a52 fun x54 => uc l53 fun a55 l56 => getI .i64 a55 fun x57 => uc l56 fun a58 l59 => getB a58 fun x60 => uc l59 fun a61 l62 => getI .i64 a61 fun x63 => uc l62 fun a64 l65 => getSl .v .int a64 fun x66 => uc l65 fun a67 l68 => getB a67 fun x69 => uc l68 fun a70 l71 => getI .i64 a70 fun x72 => uc l71 fun a73 l74 => getI .i64 a73 fun x75 => uc l74 fun a76 l77 => getSl .v .iRow a76 fun x78 => uc l77 fun a79 l80 => getSl .v .iKid a79 fun x81 => un l80 (un l47 (spec_ViewSame.loop6 n (fun (y0 : Int) (y1 : List TCond) (y2 : Int) (y3 : Bool) (y4 : Int) (y5 : List Int) (y6 : Bool) (y7 : Int) (y8 : Int) (y9 : List TRow) (y10 : List TKid) (y11 : Int) (y12 : List TCond) (y13 : Int) (y14 : Bool) (y15 : Int) (y16 : List Int) (y17 : Bool) (y18 : Int) (y19 : Int) (y20 : List TRow) (y21 : List TKid) => κe 0 [.pb 1 0, .pb 2 0] [some .ext, some (.box [.i .i64 y0, .sl .v .iCond y1, .i .i64 y2, .b y3, .i .i64 y4, .sl .v .int y5, .b y6, .i .i64 y7, .i .i64 y8, .sl .v .iRow y9, .sl .v .iKid y10]), some (.box [.i .i64 y11, .sl .v .iCond y12, .i .i64 y13, .b y14, .i .i64 y15, .sl .v .int y16, .b y17, .i .i64 y18, .i .i64 y19, .sl .v .iRow y20, .sl .v .iKid y21])]) n x7 x15 x18 x21 x24 x27 x30 x33 x36 x39 x42 x45 x51 x54 x57 x60 x63 x66 x69 x72 x75 x78 x81))))))))
    (cond (Nat.beq key 14)
    (uc v fun a1 l2 => isPb 1 0 a1 (uc l2 fun a3 l4 => isPb 2 0 a3 (uc l4 fun a5 l6 => getI .i64 a5 fun x7 => un l6 (uc b fun a8 l9 => isExt a8 (uc l9 fun a10 l11 => getBox a10 fun c12 => uc c12 fun a13 l14 => getI .i64 a13 fun x15 => uc l14 fun a16 l17 => getSl .v .iCond a16 fun x18 => uc l17 fun a19 l20 => getI .i64 a19 fun x21 => uc l20 fun a22 l23 => getB a22 fun x24 => uc l23 fun a25 l26 => getI .i64 a25 fun x27 => uc l26 fun a28 l29 => getSl .v .int a28 fun x30 => uc l29 fun a31 l32 => getB a31 fun x33 => uc l32 fun a34 l35 => getI .i64 a34 fun x36 => uc l35 fun a37 l38 => getI .i64 a37 fun x39 => uc l38 fun a40 l41 => getSl .v .iRow a40 fun x42 => uc l41 fun a43 l44 => getSl .v .iKid a43 fun x45 => un l44 (uc l11 fun a46 l47 => getBox a46 fun c48 => uc c48 fun a49 l50 => getI .i64 a49 fun x51 => uc l50 fun a52 l53 => getSl .v .iCond a52 fun x54 => uc l53 fun a55 l56 => getI .i64 a55 fun x57 => uc l56 fun a58 l59 => getB a58 fun x60 => uc l59 fun a61 l62 => getI .i64 a61 fun x63 => uc l62 fun a64 l65 => getSl .v .int a64 fun x66 => uc l65 fun a67 l68 => getB a67 fun x69 => uc l68 fun a70 l71 => getI .i64 a70 fun x72 => uc l71 fun a73 l74 => getI .i64 a73 fun x75 => uc l74 fun a76 l77 => getSl .v .iRow a76 fun x78 => uc l77 fun a79 l80 => getSl .v .iKid a79 fun x81 => un l80 (un l47 (spec_ViewSame.loop14 n (fun (_ : Unit) => κe 2 [] [some .ext]) n x7 x15 x18 x21 x24 x27 x30 x33 x36 x39 x42 x45 x51 x54 x57 x60 x63 x66 x69 x72 x75 x78 x81))))))))
    (none))
noncomputable def A6 : Code := match pieceAt ann body 0 6 with | some (.loop a _) => a | _ => .skip
theorem round6 (n : Nat) (B : D R) (κe : Nat → D R) (t5 : Int) (t20 : Int) (t21 : List TCond) (t22 : Int) (t23 : Bool) (t24 : Int) (t25 : List Int) (t26 : Bool) (t27 : Int) (t28 : Int) (t29 : List TRow) (t210 : List TKid) (t30 : Int) (t31 : List TCond) (t32 : Int) (t33 : Bool) (t34 : Int) (t35 : List Int) (t36 : Bool) (t37 : Int) (t38 : Int) (t39 : List TRow) (t310 : List TKid) : run (cx n 68) 1 ann (lf n) (kr n) A6 7 (fun s => cutK 1 [(2, .box [.k, .view .iCond, .k, .k, .k, .view .int, .k, .k, .k, .view .iRow, .view .iKid]), (3, .box [.k, .view .iCond, .k, .k, .k, .view .int, .k, .k, .k, .view .iRow, .view .iKid]), (5, .k)] s B) (fun j s => cutK 1 (ann.out j) s (κe j)) (St.ofC [(2, .box [.k, .view .iCond, .k, .k, .k, .view .int, .k, .k, .k, .view .iRow, .view .iKid]), (3, .box [.k, .view .iCond, .k, .k, .k, .view .int, .k, .k, .k, .view .iRow, .view .iKid]), (5, .k)] [.pb 1 0, .pb 2 0, .i .i64 t5] [some .ext, some (.box [.i .i64 t20, .sl .v .iCond t21, .i .i64 t22, .b t23, .i .i64 t24, .sl .v .int t25, .b t26, .i .i64 t27, .i .i64 t28, .sl .v .iRow t29, .sl .v .iKid t210]), some (.box [.i .i64 t30, .sl .v .iCond t31, .i .i64 t32, .b t33, .i .i64 t34, .sl .v .int t35, .b t36, .i .i64 t37, .i .i64 t38, .sl .v .iRow t39, .sl .v .iKid t310])]) =
    spec_ViewSame.step6 n (fun (y0 : Int) (y1 : List TCond) (y2 : Int) (y3 : Bool) (y4 : Int) (y5 : List Int) (y6 : Bool) (y7 : Int) (y8 : Int) (y9 : List TRow) (y10 : List TKid) (y11 : Int) (y12 : List TCond) (y13 : Int) (y14 : Bool) (y15 : Int) (y16 : List Int) (y17 : Bool) (y18 : Int) (y19 : Int) (y20 : List TRow) (y21 : List TKid) => κe 0 [.pb 1 0, .pb 2 0] [some .ext, some (.box [.i .i64 y0, .sl .v .iCond y1, .i .i64 y2, .b y3, .i .i64 y4, .sl .v .int y5, .b y6, .i .i64 y7, .i .i64 y8, .sl .v .iRow y9, .sl .v .iKid y10]), some (.box [.i .i64 y11, .sl .v .iCond y12, .i .i64 y13, .b y14, .i .i64 y15, .sl .v .int y16, .b y17, .i .i64 y18, .i .i64 y19, .sl .v .iRow y20, .sl .v .iKid y21])]) (fun (z0 : Int) (z1 : Int) (z2 : List TCond) (z3 : Int) (z4 : Bool) (z5 : Int) (z6 : List Int) (z7 : Bool) (z8 : Int) (z9 : Int) (z10 : List TRow) (z11 : List TKid) (z12 : Int) (z13 : List TCond) (z14 : Int) (z15 : Bool) (z16 : Int) (z17 : List Int) (z18 : Bool) (z19 : Int) (z20 : Int) (z21 : List TRow) (z22 : List TKid) => B [.pb 1 0, .pb 2 0, .i .i64 z0] [some .ext, some (.box [.i .i64 z1, .sl .v .iCond z2, .i .i64 z3, .b z4, .i .i64 z5, .sl .v .int z6, .b z7, .i .i64 z8, .i .i64 z9, .sl .v .iRow z10, .sl .v .iKid z11]), some (.box [.i .i64 z12, .sl .v .iCond z13, .i .i64 z14, .b z15, .i .i64 z16, .sl .v .int z17, .b z18, .i .i64 z19, .i .i64 z20, .sl .v .iRow z21, .sl .v .iKid z22])]) t5 t20 t21 t22 t23 t24 t25 t26 t27 t28 t29 t210 t30 t31 t32 t33 t34 t35 t36 t37 t38 t39 t310 := by kernel_rfl
theorem rounds6 (n : Nat) (κe : Nat → D R) : ∀ (N : Nat) (t5 : Int) (t20 : Int) (t21 : List TCond) (t22 : Int) (t23 : Bool) (t24 : Int) (t25 : List Int) (t26 : Bool) (t27 : Int) (t28 : Int) (t29 : List TRow) (t210 : List TKid) (t30 : Int) (t31 : List TCond) (t32 : Int) (t33 : Bool) (t34 : Int) (t35 : List Int) (t36 : Bool) (t37 : Int) (t38 : Int) (t39 : List TRow) (t310 : List TKid), rounds (cx n 68) 1 ann (lf n) (kr n) A6 7 [(2, .box [.k, .view .iCond, .k, .k, .k, .view .int, .k, .k, .k, .view .iRow, .view .iKid]), (3, .box [.k, .view .iCond, .k, .k, .k, .view .int, .k, .k, .k, .view .iRow, .view .iKid]), (5, .k)] κe N [.pb 1 0, .pb 2 0, .i .i64 t5] [some .ext, some (.box [.i .i64 t20, .sl .v .iCond t21, .i .i64 t22, .b t23, .i .i64 t24, .sl .v .int t25, .b t26, .i .i64 t27, .i .i64 t28, .sl .v .iRow t29, .sl .v .iKid t210]), some (.box [.i .i64 t30, .sl .v .iCond t31, .i .i64 t32, .b t33, .i .i64 t34, .sl .v .int t35, .b t36, .i .i64 t37, .i .i64 t38, .sl .v .iRow t39, .sl .v .iKid t310])] = spec_ViewSame.loop6 n (fun (y0 : Int) (y1 : List TCond) (y2 : Int) (y3 : Bool) (y4 : Int) (y5 : List Int) (y6 : Bool) (y7 : Int) (y8 : Int) (y9 : List TRow) (y10 : List TKid) (y11 : Int) (y12 : List TCond) (y13 : Int) (y14 : Bool) (y15 : Int) (y16 : List Int) (y17 : Bool) (y18 : Int) (y19 : Int) (y20 : List TRow) (y21 : List TKid) => κe 0 [.pb 1 0, .pb 2 0] [some .ext, some (.box [.i .i64 y0, .sl .v .iCond y1, .i .i64 y2, .b y3, .i .i64 y4, .sl .v .int y5, .b y6, .i .i64 y7, .i .i64 y8, .sl .v .iRow y9, .sl .v .iKid y10]), some (.box [.i .i64 y11, .sl .v .iCond y12, .i .i64 y13, .b y14, .i .i64 y15, .sl .v .int y16, .b y17, .i .i64 y18, .i .i64 y19, .sl .v .iRow y20, .sl .v .iKid y21])]) N t5 t20 t21 t22 t23 t24 t25 t26 t27 t28 t29 t210 t30 t31 t32 t33 t34 t35 t36 t37 t38 t39 t310
  | 0, _, _, _, _, _, _, _, _, _, _, _, _, _, _, _, _, _, _, _, _, _, _, _ => rfl
  | N + 1, t5, t20, t21, t22, t23, t24, t25, t26, t27, t28, t29, t210, t30, t31, t32, t33, t34, t35, t36, t37, t38, t39, t310 => (round6 n (rounds (cx n 68) 1 ann (lf n) (kr n) A6 7 [(2, .box [.k, .view .iCond, .k, .k, .k, .view .int, .k, .k, .k, .view .iRow, .view .iKid]), (3, .box [.k, .view .iCond, .k, .k, .k, .view .int, .k, .k, .k, .view .iRow, .view .iKid]), (5, .k)] κe N) κe t5 t20 t21 t22 t23 t24 t25 t26 t27 t28 t29 t210 t30 t31 t32 t33 t34 t35 t36 t37 t38 t39 t310).trans (congrArg (fun back => spec_ViewSame.step6 n (fun (y0 : Int) (y1 : List TCond) (y2 : Int) (y3 : Bool) (y4 : Int) (y5 : List Int) (y6 : Bool) (y7 : Int) (y8 : Int) (y9 : List TRow) (y10 : List TKid) (y11 : Int) (y12 : List TCond) (y13 : Int) (y14 : Bool) (y15 : Int) (y16 : List Int) (y17 : Bool) (y18 : Int) (y19 : Int) (y20 : List TRow) (y21 : List TKid) => κe 0 [.pb 1 0, .pb 2 0] [some .ext, some (.box [.i .i64 y0, .sl .v .iCond y1, .i .i64 y2, .b y3, .i .i64 y4, .sl .v .int y5, .b y6, .i .i64 y7, .i .i64 y8, .sl .v .iRow y9, .sl .v .iKid y10]), some (.box [.i .i64 y11, .sl .v .iCond y12, .i .i64 y13, .b y14, .i .i64 y15, .sl .v .int y16, .b y17, .i .i64 y18, .i .i64 y19, .sl .v .iRow y20, .sl .v .iKid y21])]) back t5 t20 t21 t22 t23 t24 t25 t26 t27 t28 t29 t210 t30 t31 t32 t33 t34 t35 t36 t37 t38 t39 t310) (funext fun z0 => funext fun z1 => funext fun z2 => funext fun z3 => funext fun z4 => funext fun z5 => funext fun z6 => funext fun z7 => funext fun z8 => funext fun z9 => funext fun z10 => funext fun z11 => funext fun z12 => funext fun z13 => funext fun z14 => funext fun z15 => funext fun z16 => funext fun z17 => funext fun z18 => funext fun z19 => funext fun z20 => funext fun z21 => funext fun z22 => rounds6 n κe N z0 z1 z2 z3 z4 z5 z6 z7 z8 z9 z10 z11 z12 z13 z14 z15 z16 z17 z18 z19 z20 z21 z22))
noncomputable def A14 : Code := match pieceAt ann body 0 14 with | some (.loop a _) => a | _ => .skip
theorem round14 (n : Nat) (B : D R) (κe : Nat → D R) (t6 : Int) (t20 : Int) (t21 : List TCond) (t22 : Int) (t23 : Bool) (t24 : Int) (t25 : List Int) (t26 : Bool) (t27 : Int) (t28 : Int) (t29 : List TRow) (t210 : List TKid) (t30 : Int) (t31 : List TCond) (t32 : Int) (t33 : Bool) (t34 : Int) (t35 : List Int) (t36 : Bool) (t37 : Int) (t38 : Int) (t39 : List TRow) (t310 : List TKid) : run (cx n 68) 1 ann (lf n) (kr n) A14 15 (fun s => cutK 1 [(2, .box [.k, .view .iCond, .k, .k, .k, .view .int, .k, .k, .k, .view .iRow, .view .iKid]), (3, .box [.k, .view .iCond, .k, .k, .k, .view .int, .k, .k, .k, .view .iRow, .view .iKid]), (6, .k)] s B) (fun j s => cutK 1 (ann.out j) s (κe j)) (St.ofC [(2, .box [.k, .view .iCond, .k, .k, .k, .view .int, .k, .k, .k, .view .iRow, .view .iKid]), (3, .box [.k, .view .iCond, .k, .k, .k, .view .int, .k, .k, .k, .view .iRow, .view .iKid]), (6, .k)] [.pb 1 0, .pb 2 0, .i .i64 t6] [some .ext, some (.box [.i .i64 t20, .sl .v .iCond t21, .i .i64 t22, .b t23, .i .i64 t24, .sl .v .int t25, .b t26, .i .i64 t27, .i .i64 t28, .sl .v .iRow t29, .sl .v .iKid t210]), some (.box [.i .i64 t30, .sl .v .iCond t31, .i .i64 t32, .b t33, .i .i64 t34, .sl .v .int t35, .b t36, .i .i64 t37, .i .i64 t38, .sl .v .iRow t39, .sl .v .iKid t310])]) =
    spec_ViewSame.step14 n (fun (_ : Unit) => κe 2 [] [some .ext]) (fun (z0 : Int) (z1 : Int) (z2 : List TCond) (z3 : Int) (z4 : Bool) (z5 : Int) (z6 : List Int) (z7 : Bool) (z8 : Int) (z9 : Int) (z10 : List TRow) (z11 : List TKid) (z12 : Int) (z13 : List TCond) (z14 : Int) (z15 : Bool) (z16 : Int) (z17 : List Int) (z18 : Bool) (z19 : Int) (z20 : Int) (z21 : List TRow) (z22 : List TKid) => B [.pb 1 0, .pb 2 0, .i .i64 z0] [some .ext, some (.box [.i .i64 z1, .sl .v .iCond z2, .i .i64 z3, .b z4, .i .i64 z5, .sl .v .int z6, .b z7, .i .i64 z8, .i .i64 z9, .sl .v .iRow z10, .sl .v .iKid z11]), some (.box [.i .i64 z12, .sl .v .iCond z13, .i .i64 z14, .b z15, .i .i64 z16, .sl .v .int z17, .b z18, .i .i64 z19, .i .i64 z20, .sl .v .iRow z21, .sl .v .iKid z22])]) t6 t20 t21 t22 t23 t24 t25 t26 t27 t28 t29 t210 t30 t31 t32 t33 t34 t35 t36 t37 t38 t39 t310 := by kernel_rfl
theorem rounds14 (n : Nat) (κe : Nat → D R) : ∀ (N : Nat) (t6 : Int) (t20 : Int) (t21 : List TCond) (t22 : Int) (t23 : Bool) (t24 : Int) (t25 : List Int) (t26 : Bool) (t27 : Int) (t28 : Int) (t29 : List TRow) (t210 : List TKid) (t30 : Int) (t31 : List TCond) (t32 : Int) (t33 : Bool) (t34 : Int) (t35 : List Int) (t36 : Bool) (t37 : Int) (t38 : Int) (t39 : List TRow) (t310 : List TKid), rounds (cx n 68) 1 ann (lf n) (kr n) A14 15 [(2, .box [.k, .view .iCond, .k, .k, .k, .view .int, .k, .k, .k, .view .iRow, .view .iKid]), (3, .box [.k, .view .iCond, .k, .k, .k, .view .int, .k, .k, .k, .view .iRow, .view .iKid]), (6, .k)] κe N [.pb 1 0, .pb 2 0, .i .i64 t6] [some .ext, some (.box [.i .i64 t20, .sl .v .iCond t21, .i .i64 t22, .b t23, .i .i64 t24, .sl .v .int t25, .b t26, .i .i64 t27, .i .i64 t28, .sl .v .iRow t29, .sl .v .iKid t210]), some (.box [.i .i64 t30, .sl .v .iCond t31, .i .i64 t32, .b t33, .i .i64 t34, .sl .v .int t35, .b t36, .i .i64 t37, .i .i64 t38, .sl .v .iRow t39, .sl .v .iKid t310])] = spec_ViewSame.loop14 n (fun (_ : Unit) => κe 2 [] [some .ext]) N t6 t20 t21 t22 t23 t24 t25 t26 t27 t28 t29 t210 t30 t31 t32 t33 t34 t35 t36 t37 t38 t39 t310
  | 0, _, _, _, _, _, _, _, _, _, _, _, _, _, _, _, _, _, _, _, _, _, _, _ => rfl
  | N + 1, t6, t20, t21, t22, t23, t24, t25, t26, t27, t28, t29, t210, t30, t31, t32, t33, t34, t35, t36, t37, t38, t39, t310 => (round14 n (rounds (cx n 68) 1 ann (lf n) (kr n) A14 15 [(2, .box [.k, .view .iCond, .k, .k, .k, .view .int, .k, .k, .k, .view .iRow, .view .iKid]), (3, .box [.k, .view .iCond, .k, .k, .k, .view .int, .k, .k, .k, .view .iRow, .view .iKid]), (6, .k)] κe N) κe t6 t20 t21 t22 t23 t24 t25 t26 t27 t28 t29 t210 t30 t31 t32 t33 t34 t35 t36 t37 t38 t39 t310).trans (congrArg (fun back => spec_ViewSame.step14 n (fun (_ : Unit) => κe 2 [] [some .ext]) back t6 t20 t21 t22 t23 t24 t25 t26 t27 t28 t29 t210 t30 t31 t32 t33 t34 t35 t36 t37 t38 t39 t310) (funext fun z0 => funext fun z1 => funext fun z2 => funext fun z3 => funext fun z4 => funext fun z5 => funext fun z6 => funext fun z7 => funext fun z8 => funext fun z9 => funext fun z10 => funext fun z11 => funext fun z12 => funext fun z13 => funext fun z14 => funext fun z15 => funext fun z16 => funext fun z17 => funext fun z18 => funext fun z19 => funext fun z20 => funext fun z21 => funext fun z22 => rounds14 n κe N z0 z1 z2 z3 z4 z5 z6 z7 z8 z9 z10 z11 z12 z13 z14 z15 z16 z17 z18 z19 z20 z21 z22))
theorem cuts (n : Nat) : Cuts (cx n 68) 1 ann (lf n) (kr n) body := by
  intro key κd κe v b r h
  unfold lf at h
  cases hk6 : Nat.beq key 6 with
  | true =>
    replace h := cond_t hk6 h
    have := beq_iff.1 hk6
    subst this
    replace h := uc_ok h; obtain ⟨a1, l2, rfl, h⟩ := h
    replace h := isPb_ok h; obtain ⟨rfl, h⟩ := h
    replace h := uc_ok h; obtain ⟨a3, l4, rfl, h⟩ := h
    replace h := isPb_ok h; obtain ⟨rfl, h⟩ := h
    replace h := uc_ok h; obtain ⟨a5, l6, rfl, h⟩ := h
    replace h := getI_ok h; obtain ⟨x7, rfl, h⟩ := h
    replace h := un_ok h; obtain ⟨rfl, h⟩ := h
    replace h := uc_ok h; obtain ⟨a8, l9, rfl, h⟩ := h
    replace h := isExt_ok h; obtain ⟨rfl, h⟩ := h
    replace h := uc_ok h; obtain ⟨a10, l11, rfl, h⟩ := h
    replace h := getBox_ok h; obtain ⟨c12, rfl, h⟩ := h
    replace h := uc_ok h; obtain ⟨a13, l14, rfl, h⟩ := h
    replace h := getI_ok h; obtain ⟨x15, rfl, h⟩ := h
    replace h := uc_ok h; obtain ⟨a16, l17, rfl, h⟩ := h
    replace h := getSl_ok h; obtain ⟨x18, rfl, h⟩ := h
    replace h := uc_ok h; obtain ⟨a19, l20, rfl, h⟩ := h
    replace h := getI_ok h; obtain ⟨x21, rfl, h⟩ := h
    replace h := uc_ok h; obtain ⟨a22, l23, rfl, h⟩ := h
    replace h := getB_ok h; obtain ⟨x24, rfl, h⟩ := h
    replace h := uc_ok h; obtain ⟨a25, l26, rfl, h⟩ := h
    replace h := getI_ok h; obtain ⟨x27, rfl, h⟩ := h
    replace h := uc_ok h; obtain ⟨a28, l29, rfl, h⟩ := h
    replace h := getSl_ok h; obtain ⟨x30, rfl, h⟩ := h
    replace h := uc_ok h; obtain ⟨a31, l32, rfl, h⟩ := h
    replace h := getB_ok h; obtain ⟨x33, rfl, h⟩ := h
    replace h := uc_ok h; obtain ⟨a34, l35, rfl, h⟩ := h
    replace h := getI_ok h; obtain ⟨x36, rfl, h⟩ := h
    replace h := uc_ok h; obtain ⟨a37, l38, rfl, h⟩ := h
    replace h := getI_ok h; obtain ⟨x39, rfl, h⟩ := h
    replace h := uc_ok h; obtain ⟨a40, l41, rfl, h⟩ := h
    replace h := getSl_ok h; obtain ⟨x42, rfl, h⟩ := h
    replace h := uc_ok h; obtain ⟨a43, l44, rfl, h⟩ := h
    replace h := getSl_ok h; obtain ⟨x45, rfl, h⟩ := h
    replace h := un_ok h; obtain ⟨rfl, h⟩ := h
    replace h := uc_ok h; obtain ⟨a46, l47, rfl, h⟩ := h
    replace h := getBox_ok h; obtain ⟨c48, rfl, h⟩ := h
    replace h := uc_ok h; obtain ⟨a49, l50, rfl, h⟩ := h
    replace h := getI_ok h; obtain ⟨x51, rfl, h⟩ := h
    replace h := uc_ok h; obtain ⟨a52, l53, rfl, h⟩ := h
    replace h := getSl_ok h; obtain ⟨x54, rfl, h⟩ := h
    replace h := uc_ok h; obtain ⟨a55, l56, rfl, h⟩ := h
    replace h := getI_ok h; obtain ⟨x57, rfl, h⟩ := h
    replace h := uc_ok h; obtain ⟨a58, l59, rfl, h⟩ := h
    replace h := getB_ok h; obtain ⟨x60, rfl, h⟩ := h
    replace h := uc_ok h; obtain ⟨a61, l62, rfl, h⟩ := h
    replace h := getI_ok h; obtain ⟨x63, rfl, h⟩ := h
    replace h := uc_ok h; obtain ⟨a64, l65, rfl, h⟩ := h
    replace h := getSl_ok h; obtain ⟨x66, rfl, h⟩ := h
    replace h := uc_ok h; obtain ⟨a67, l68, rfl, h⟩ := h
    replace h := getB_ok h; obtain ⟨x69, rfl, h⟩ := h
    replace h := uc_ok h; obtain ⟨a70, l71, rfl, h⟩ := h
    replace h := getI_ok h; obtain ⟨x72, rfl, h⟩ := h
    replace h := uc_ok h; obtain ⟨a73, l74, rfl, h⟩ := h
    replace h := getI_ok h; obtain ⟨x75, rfl, h⟩ := h
    replace h := uc_ok h; obtain ⟨a76, l77, rfl, h⟩ := h
    replace h := getSl_ok h; obtain ⟨x78, rfl, h⟩ := h
    replace h := uc_ok h; obtain ⟨a79, l80, rfl, h⟩ := h
    replace h := getSl_ok h; obtain ⟨x81, rfl, h⟩ := h
    replace h := un_ok h; obtain ⟨rfl, h⟩ := h
    replace h := un_ok h; obtain ⟨rfl, h⟩ := h
    exact ⟨[(2, .box [.k, .view .iCond, .k, .k, .k, .view .int, .k, .k, .k, .view .iRow, .view .iKid]), (3, .box [.k, .view .iCond, .k, .k, .k, .view .int, .k, .k, .k, .view .iRow, .view .iKid]), (5, .k)], .loop A6 7, by kernel_rfl, by kernel_rfl, ⟨n, (rounds6 n κe n x7 x15 x18 x21 x24 x27 x30 x33 x36 x39 x42 x45 x51 x54 x57 x60 x63 x66 x69 x72 x75 x78 x81).trans h⟩⟩
  | false =>
    replace h := cond_f hk6 h
    cases hk14 : Nat.beq key 14 with
    | true =>
      replace h := cond_t hk14 h
      have := beq_iff.1 hk14
      subst this
      replace h := uc_ok h; obtain ⟨a1, l2, rfl, h⟩ := h
      replace h := isPb_ok h; obtain ⟨rfl, h⟩ := h
      replace h := uc_ok h; obtain ⟨a3, l4, rfl, h⟩ := h
      replace h := isPb_ok h; obtain ⟨rfl, h⟩ := h
      replace h := uc_ok h; obtain ⟨a5, l6, rfl, h⟩ := h
      replace h := getI_ok h; obtain ⟨x7, rfl, h⟩ := h
      replace h := un_ok h; obtain ⟨rfl, h⟩ := h
      replace h := uc_ok h; obtain ⟨a8, l9, rfl, h⟩ := h
      replace h := isExt_ok h; obtain ⟨rfl, h⟩ := h
      replace h := uc_ok h; obtain ⟨a10, l11, rfl, h⟩ := h
      replace h := getBox_ok h; obtain ⟨c12, rfl, h⟩ := h
      replace h := uc_ok h; obtain ⟨a13, l14, rfl, h⟩ := h
      replace h := getI_ok h; obtain ⟨x15, rfl, h⟩ := h
      replace h := uc_ok h; obtain ⟨a16, l17, rfl, h⟩ := h
      replace h := getSl_ok h; obtain ⟨x18, rfl, h⟩ := h
      replace h := uc_ok h; obtain ⟨a19, l20, rfl, h⟩ := h
      replace h := getI_ok h; obtain ⟨x21, rfl, h⟩ := h
      replace h := uc_ok h; obtain ⟨a22, l23, rfl, h⟩ := h
      replace h := getB_ok h; obtain ⟨x24, rfl, h⟩ := h
      replace h := uc_ok h; obtain ⟨a25, l26, rfl, h⟩ := h
      replace h := getI_ok h; obtain ⟨x27, rfl, h⟩ := h
      replace h := uc_ok h; obtain ⟨a28, l29, rfl, h⟩ := h
      replace h := getSl_ok h; obtain ⟨x30, rfl, h⟩ := h
      replace h := uc_ok h; obtain ⟨a31, l32, rfl, h⟩ := h
      replace h := getB_ok h; obtain ⟨x33, rfl, h⟩ := h
      replace h := uc_ok h; obtain ⟨a34, l35, rfl, h⟩ := h
      replace h := getI_ok h; obtain ⟨x36, rfl, h⟩ := h
      replace h := uc_ok h; obtain ⟨a37, l38, rfl, h⟩ := h
      replace h := getI_ok h; obtain ⟨x39, rfl, h⟩ := h
      replace h := uc_ok h; obtain ⟨a40, l41, rfl, h⟩ := h
      replace h := getSl_ok h; obtain ⟨x42, rfl, h⟩ := h
      replace h := uc_ok h; obtain ⟨a43, l44, rfl, h⟩ := h
      replace h := getSl_ok h; obtain ⟨x45, rfl, h⟩ := h
      replace h := un_ok h; obtain ⟨rfl, h⟩ := h
      replace h := uc_ok h; obtain ⟨a46, l47, rfl, h⟩ := h
      replace h := getBox_ok h; obtain ⟨c48, rfl, h⟩ := h
      replace h := uc_ok h; obtain ⟨a49, l50, rfl, h⟩ := h
      replace h := getI_ok h; obtain ⟨x51, rfl, h⟩ := h
      replace h := uc_ok h; obtain ⟨a52, l53, rfl, h⟩ := h
      replace h := getSl_ok h; obtain ⟨x54, rfl, h⟩ := h
      replace h := uc_ok h; obtain ⟨a55, l56, rfl, h⟩ := h
      replace h := getI_ok h; obtain ⟨x57, rfl, h⟩ := h
      replace h := uc_ok h; obtain ⟨a58, l59, rfl, h⟩ := h
      replace h := getB_ok h; obtain ⟨x60, rfl, h⟩ := h
      replace h := uc_ok h; obtain ⟨a61, l62, rfl, h⟩ := h
      replace h := getI_ok h; obtain ⟨x63, rfl, h⟩ := h
      replace h := uc_ok h; obtain ⟨a64, l65, rfl, h⟩ := h
      replace h := getSl_ok h; obtain ⟨x66, rfl, h⟩ := h
      replace h := uc_ok h; obtain ⟨a67, l68, rfl, h⟩ := h
      replace h := getB_ok h; obtain ⟨x69, rfl, h⟩ := h
      replace h := uc_ok h; obtain ⟨a70, l71, rfl, h⟩ := h
      replace h := getI_ok h; obtain ⟨x72, rfl, h⟩ := h
      replace h := uc_ok h; obtain ⟨a73, l74, rfl, h⟩ := h
      replace h := getI_ok h; obtain ⟨x75, rfl, h⟩ := h
      replace h := uc_ok h; obtain ⟨a76, l77, rfl, h⟩ := h
      replace h := getSl_ok h; obtain ⟨x78, rfl, h⟩ := h
      replace h := uc_ok h; obtain ⟨a79, l80, rfl, h⟩ := h
      replace h := getSl_ok h; obtain ⟨x81, rfl, h⟩ := h
      replace h := un_ok h; obtain ⟨rfl, h⟩ := h
      replace h := un_ok h; obtain ⟨rfl, h⟩ := h
      exact ⟨[(2, .box [.k, .view .iCond, .k, .k, .k, .view .int, .k, .k, .k, .view .iRow, .view .iKid]), (3, .box [.k, .view .iCond, .k, .k, .k, .view .int, .k, .k, .k, .view .iRow, .view .iKid]), (6, .k)], .loop A14 15, by kernel_rfl, by kernel_rfl, ⟨n, (rounds14 n κe n x7 x15 x18 x21 x24 x27 x30 x33 x36 x39 x42 x45 x51 x54 x57 x60 x63 x66 x69 x72 x75 x78 x81).trans h⟩⟩
    | false =>
      replace h := cond_f hk14 h
      cases h
theorem top (n : Nat) (o : TView) (append : TView) : entryK 1 [.ag [.i .i64 o.q.table, .sl .v .iCond o.q.where_, .i .i64 o.q.order, .b o.q.down, .i .i64 o.q.first, .sl .v .int o.q.show_, .b o.q.kids, .i .i64 o.q.kidTable, .i .i64 o.q.kidCol, .sl .v .iRow o.rows, .sl .v .iKid o.kids], .ag [.i .i64 append.q.table, .sl .v .iCond append.q.where_, .i .i64 append.q.order, .b append.q.down, .i .i64 append.q.first, .sl .v .int append.q.show_, .b append.q.kids, .i .i64 append.q.kidTable, .i .i64 append.q.kidCol, .sl .v .iRow append.rows, .sl .v .iKid append.kids]] (fun v b => match outOfAll [.ag [.v, .v, .v, .v, .v, .v, .v, .v, .v, .v, .v], .ag [.v, .v, .v, .v, .v, .v, .v, .v, .v, .v, .v]] v with
      | some o => cond (AV.allRoots o []) (run (cx n 68) 1 ann (lf n) (kr n) body 0 (kr n) (fun _ _ => none) (St.ofC (live0 2) v b)) none
      | none => none) = spec_ViewSame (n + 1) o append := by kernel_rfl
def Ok (n : Nat) : Prop := ∀ (o : TView) (append : TView) (res_ : R), spec_ViewSame n o append = some res_ → CallOk E 43 [.ag [.i .i64 o.q.table, .sl .v .iCond o.q.where_, .i .i64 o.q.order, .b o.q.down, .i .i64 o.q.first, .sl .v .int o.q.show_, .b o.q.kids, .i .i64 o.q.kidTable, .i .i64 o.q.kidCol, .sl .v .iRow o.rows, .sl .v .iKid o.kids], .ag [.i .i64 append.q.table, .sl .v .iCond append.q.where_, .i .i64 append.q.order, .b append.q.down, .i .i64 append.q.first, .sl .v .int append.q.show_, .b append.q.kids, .i .i64 append.q.kidTable, .i .i64 append.q.kidCol, .sl .v .iRow append.rows, .sl .v .iKid append.kids]] (rvOf 1 (inj res_)) ((inj res_).drop 1) [.ag [.v, .v, .v, .v, .v, .v, .v, .v, .v, .v, .v], .ag [.v, .v, .v, .v, .v, .v, .v, .v, .v, .v, .v]]
theorem ok (n : Nat) (hc : CxOk E (cx n 68)) (hK : KPar (cx n 68)) : Ok (n + 1) := fun o append res_ h_ =>
  fn_sound hc hK mixedOk Try.func43 (by kernel_rfl) (by kernel_rfl) (by kernel_rfl) (by decide) fin_ok (by kernel_rfl) ((top n o append).trans h_) (cuts n)
theorem Kpar (n : Nat) {ω : Type} {avs : List AV} {κ : AV → List AV → Option ω} {q : ω} (h : spec_ViewSame.K n avs κ = some q) : ∃ rv outs, κ rv outs = some q ∧ ∀ (ω' : Type) (κ' : AV → List AV → Option ω'), spec_ViewSame.K n avs κ' = κ' rv outs := by
  unfold K at h
  generalize hf : fixes [.ag [.k, .sl .v .iCond, .k, .k, .k, .sl .v .int, .k, .k, .k, .sl .v .iRow, .sl .v .iKid], .ag [.k, .sl .v .iCond, .k, .k, .k, .sl .v .int, .k, .k, .k, .sl .v .iRow, .sl .v .iKid]] avs = v at h
  replace h := uc_ok h; obtain ⟨a1, l2, rfl, h⟩ := h
  replace h := getAg_ok h; obtain ⟨c3, rfl, h⟩ := h
  replace h := uc_ok h; obtain ⟨a4, l5, rfl, h⟩ := h
  replace h := getI_ok h; obtain ⟨x6, rfl, h⟩ := h
  replace h := uc_ok h; obtain ⟨a7, l8, rfl, h⟩ := h
  replace h := getSl_ok h; obtain ⟨x9, rfl, h⟩ := h
  replace h := uc_ok h; obtain ⟨a10, l11, rfl, h⟩ := h
  replace h := getI_ok h; obtain ⟨x12, rfl, h⟩ := h
  replace h := uc_ok h; obtain ⟨a13, l14, rfl, h⟩ := h
  replace h := getB_ok h; obtain ⟨x15, rfl, h⟩ := h
  replace h := uc_ok h; obtain ⟨a16, l17, rfl, h⟩ := h
  replace h := getI_ok h; obtain ⟨x18, rfl, h⟩ := h
  replace h := uc_ok h; obtain ⟨a19, l20, rfl, h⟩ := h
  replace h := getSl_ok h; obtain ⟨x21, rfl, h⟩ := h
  replace h := uc_ok h; obtain ⟨a22, l23, rfl, h⟩ := h
  replace h := getB_ok h; obtain ⟨x24, rfl, h⟩ := h
  replace h := uc_ok h; obtain ⟨a25, l26, rfl, h⟩ := h
  replace h := getI_ok h; obtain ⟨x27, rfl, h⟩ := h
  replace h := uc_ok h; obtain ⟨a28, l29, rfl, h⟩ := h
  replace h := getI_ok h; obtain ⟨x30, rfl, h⟩ := h
  replace h := uc_ok h; obtain ⟨a31, l32, rfl, h⟩ := h
  replace h := getSl_ok h; obtain ⟨x33, rfl, h⟩ := h
  replace h := uc_ok h; obtain ⟨a34, l35, rfl, h⟩ := h
  replace h := getSl_ok h; obtain ⟨x36, rfl, h⟩ := h
  replace h := un_ok h; obtain ⟨rfl, h⟩ := h
  replace h := uc_ok h; obtain ⟨a37, l38, rfl, h⟩ := h
  replace h := getAg_ok h; obtain ⟨c39, rfl, h⟩ := h
  replace h := uc_ok h; obtain ⟨a40, l41, rfl, h⟩ := h
  replace h := getI_ok h; obtain ⟨x42, rfl, h⟩ := h
  replace h := uc_ok h; obtain ⟨a43, l44, rfl, h⟩ := h
  replace h := getSl_ok h; obtain ⟨x45, rfl, h⟩ := h
  replace h := uc_ok h; obtain ⟨a46, l47, rfl, h⟩ := h
  replace h := getI_ok h; obtain ⟨x48, rfl, h⟩ := h
  replace h := uc_ok h; obtain ⟨a49, l50, rfl, h⟩ := h
  replace h := getB_ok h; obtain ⟨x51, rfl, h⟩ := h
  replace h := uc_ok h; obtain ⟨a52, l53, rfl, h⟩ := h
  replace h := getI_ok h; obtain ⟨x54, rfl, h⟩ := h
  replace h := uc_ok h; obtain ⟨a55, l56, rfl, h⟩ := h
  replace h := getSl_ok h; obtain ⟨x57, rfl, h⟩ := h
  replace h := uc_ok h; obtain ⟨a58, l59, rfl, h⟩ := h
  replace h := getB_ok h; obtain ⟨x60, rfl, h⟩ := h
  replace h := uc_ok h; obtain ⟨a61, l62, rfl, h⟩ := h
  replace h := getI_ok h; obtain ⟨x63, rfl, h⟩ := h
  replace h := uc_ok h; obtain ⟨a64, l65, rfl, h⟩ := h
  replace h := getI_ok h; obtain ⟨x66, rfl, h⟩ := h
  replace h := uc_ok h; obtain ⟨a67, l68, rfl, h⟩ := h
  replace h := getSl_ok h; obtain ⟨x69, rfl, h⟩ := h
  replace h := uc_ok h; obtain ⟨a70, l71, rfl, h⟩ := h
  replace h := getSl_ok h; obtain ⟨x72, rfl, h⟩ := h
  replace h := un_ok h; obtain ⟨rfl, h⟩ := h
  replace h := un_ok h; obtain ⟨rfl, h⟩ := h
  cases hr : spec_ViewSame n (TView.mk (TQuery.mk x6 x9 x12 x15 x18 x21 x24 x27 x30) x33 x36) (TView.mk (TQuery.mk x42 x45 x48 x51 x54 x57 x60 x63 x66) x69 x72) with
  | none => rw [hr] at h; cases h
  | some r =>
    rw [hr] at h
    exact ⟨_, _, h, fun ω' κ' => by unfold K; rw [hf]; exact congrArg (fun z : Option R => z.bind _) hr⟩
theorem Kok (n : Nat) (ho : Ok n) {ω : Type} {avs : List AV} {κ : AV → List AV → Option ω} {q : ω} (h : spec_ViewSame.K n avs κ = some q) : FnOk E 43 ∧ ∃ ps rv outs, (cx n 0).sig 43 = some ps ∧ κ rv outs = some q ∧ CallOk E 43 avs rv outs ps := by
  unfold K at h
  generalize hf : fixes [.ag [.k, .sl .v .iCond, .k, .k, .k, .sl .v .int, .k, .k, .k, .sl .v .iRow, .sl .v .iKid], .ag [.k, .sl .v .iCond, .k, .k, .k, .sl .v .int, .k, .k, .k, .sl .v .iRow, .sl .v .iKid]] avs = v at h
  replace h := uc_ok h; obtain ⟨a1, l2, rfl, h⟩ := h
  replace h := getAg_ok h; obtain ⟨c3, rfl, h⟩ := h
  replace h := uc_ok h; obtain ⟨a4, l5, rfl, h⟩ := h
  replace h := getI_ok h; obtain ⟨x6, rfl, h⟩ := h
  replace h := uc_ok h; obtain ⟨a7, l8, rfl, h⟩ := h
  replace h := getSl_ok h; obtain ⟨x9, rfl, h⟩ := h
  replace h := uc_ok h; obtain ⟨a10, l11, rfl, h⟩ := h
  replace h := getI_ok h; obtain ⟨x12, rfl, h⟩ := h
  replace h := uc_ok h; obtain ⟨a13, l14, rfl, h⟩ := h
  replace h := getB_ok h; obtain ⟨x15, rfl, h⟩ := h
  replace h := uc_ok h; obtain ⟨a16, l17, rfl, h⟩ := h
  replace h := getI_ok h; obtain ⟨x18, rfl, h⟩ := h
  replace h := uc_ok h; obtain ⟨a19, l20, rfl, h⟩ := h
  replace h := getSl_ok h; obtain ⟨x21, rfl, h⟩ := h
  replace h := uc_ok h; obtain ⟨a22, l23, rfl, h⟩ := h
  replace h := getB_ok h; obtain ⟨x24, rfl, h⟩ := h
  replace h := uc_ok h; obtain ⟨a25, l26, rfl, h⟩ := h
  replace h := getI_ok h; obtain ⟨x27, rfl, h⟩ := h
  replace h := uc_ok h; obtain ⟨a28, l29, rfl, h⟩ := h
  replace h := getI_ok h; obtain ⟨x30, rfl, h⟩ := h
  replace h := uc_ok h; obtain ⟨a31, l32, rfl, h⟩ := h
  replace h := getSl_ok h; obtain ⟨x33, rfl, h⟩ := h
  replace h := uc_ok h; obtain ⟨a34, l35, rfl, h⟩ := h
  replace h := getSl_ok h; obtain ⟨x36, rfl, h⟩ := h
  replace h := un_ok h; obtain ⟨rfl, h⟩ := h
  replace h := uc_ok h; obtain ⟨a37, l38, rfl, h⟩ := h
  replace h := getAg_ok h; obtain ⟨c39, rfl, h⟩ := h
  replace h := uc_ok h; obtain ⟨a40, l41, rfl, h⟩ := h
  replace h := getI_ok h; obtain ⟨x42, rfl, h⟩ := h
  replace h := uc_ok h; obtain ⟨a43, l44, rfl, h⟩ := h
  replace h := getSl_ok h; obtain ⟨x45, rfl, h⟩ := h
  replace h := uc_ok h; obtain ⟨a46, l47, rfl, h⟩ := h
  replace h := getI_ok h; obtain ⟨x48, rfl, h⟩ := h
  replace h := uc_ok h; obtain ⟨a49, l50, rfl, h⟩ := h
  replace h := getB_ok h; obtain ⟨x51, rfl, h⟩ := h
  replace h := uc_ok h; obtain ⟨a52, l53, rfl, h⟩ := h
  replace h := getI_ok h; obtain ⟨x54, rfl, h⟩ := h
  replace h := uc_ok h; obtain ⟨a55, l56, rfl, h⟩ := h
  replace h := getSl_ok h; obtain ⟨x57, rfl, h⟩ := h
  replace h := uc_ok h; obtain ⟨a58, l59, rfl, h⟩ := h
  replace h := getB_ok h; obtain ⟨x60, rfl, h⟩ := h
  replace h := uc_ok h; obtain ⟨a61, l62, rfl, h⟩ := h
  replace h := getI_ok h; obtain ⟨x63, rfl, h⟩ := h
  replace h := uc_ok h; obtain ⟨a64, l65, rfl, h⟩ := h
  replace h := getI_ok h; obtain ⟨x66, rfl, h⟩ := h
  replace h := uc_ok h; obtain ⟨a67, l68, rfl, h⟩ := h
  replace h := getSl_ok h; obtain ⟨x69, rfl, h⟩ := h
  replace h := uc_ok h; obtain ⟨a70, l71, rfl, h⟩ := h
  replace h := getSl_ok h; obtain ⟨x72, rfl, h⟩ := h
  replace h := un_ok h; obtain ⟨rfl, h⟩ := h
  replace h := un_ok h; obtain ⟨rfl, h⟩ := h
  cases hr : spec_ViewSame n (TView.mk (TQuery.mk x6 x9 x12 x15 x18 x21 x24 x27 x30) x33 x36) (TView.mk (TQuery.mk x42 x45 x48 x51 x54 x57 x60 x63 x66) x69 x72) with
  | none => rw [hr] at h; cases h
  | some r =>
    rw [hr] at h
    exact ⟨⟨_, body, Try.func43, by decide +kernel, by kernel_rfl⟩, [.ag [.v, .v, .v, .v, .v, .v, .v, .v, .v, .v, .v], .ag [.v, .v, .v, .v, .v, .v, .v, .v, .v, .v, .v]], _, _, by kernel_rfl, h, CallOk.fix (ss := [.ag [.k, .sl .v .iCond, .k, .k, .k, .sl .v .int, .k, .k, .k, .sl .v .iRow, .sl .v .iKid], .ag [.k, .sl .v .iCond, .k, .k, .k, .sl .v .int, .k, .k, .k, .sl .v .iRow, .sl .v .iKid]]) (by rw [hf]; exact ho (TView.mk (TQuery.mk x6 x9 x12 x15 x18 x21 x24 x27 x30) x33 x36) (TView.mk (TQuery.mk x42 x45 x48 x51 x54 x57 x60 x63 x66) x69 x72) r hr)⟩
end spec_ViewSame
namespace spec_SessOk
abbrev R : Type := Bool
noncomputable def body : Code := match Try.f9.body with | some c => c | none => .skip
def ann : Ann := ⟨fun k => look2 [] k, fun k => match look2 [] k with | some l => l | none => [], fun k => match look2 [] k with | some l => l | none => []⟩
def fin (o : List AV) : Option R := uc o fun a1 l2 => getB a1 fun x3 => un l2 (some (x3 : R))
def inj (r : R) : List AV := [.b r]
theorem fin_ok (o : List AV) (r : R) (h : fin o = some r) : o = inj r := by
  unfold fin at h
  replace h := uc_ok h; obtain ⟨a1, l2, rfl, h⟩ := h
  replace h := getB_ok h; obtain ⟨x3, rfl, h⟩ := h
  replace h := un_ok h; obtain ⟨rfl, h⟩ := h
  cases h
  rfl
def kr (n : Nat) : St → Option R := retK (cx n 48) [.k] [.v] [.tmp 4] [] fin
def lf (n : Nat) : LF R := fun key κd κe v b => none
theorem cuts (n : Nat) : Cuts (cx n 48) 1 ann (lf n) (kr n) body := by
  intro key κd κe v b r h
  unfold lf at h
  cases h
theorem top (n : Nat) (s : TSchema) (x : TSess) : entryK 1 [.ag [.sl .v .int s.cols], .ag [.i .i64 x.view.q.table, .sl .v .iCond x.view.q.where_, .i .i64 x.view.q.order, .b x.view.q.down, .i .i64 x.view.q.first, .sl .v .int x.view.q.show_, .b x.view.q.kids, .i .i64 x.view.q.kidTable, .i .i64 x.view.q.kidCol, .sl .v .iRow x.view.rows, .sl .v .iKid x.view.kids, .i .i64 x.version, .i .i64 x.last.q.table, .sl .v .iCond x.last.q.where_, .i .i64 x.last.q.order, .b x.last.q.down, .i .i64 x.last.q.first, .sl .v .int x.last.q.show_, .b x.last.q.kids, .i .i64 x.last.q.kidTable, .i .i64 x.last.q.kidCol, .sl .v .iRow x.last.rows, .sl .v .iKid x.last.kids, .i .i64 x.lastVersion, .b x.began]] (fun v b => match outOfAll [.ag [.v], .ag [.v, .v, .v, .v, .v, .v, .v, .v, .v, .v, .v, .v, .v, .v, .v, .v, .v, .v, .v, .v, .v, .v, .v, .v, .v]] v with
      | some o => cond (AV.allRoots o []) (run (cx n 48) 1 ann (lf n) (kr n) body 0 (kr n) (fun _ _ => none) (St.ofC (live0 2) v b)) none
      | none => none) = spec_SessOk (n + 1) s x := by kernel_rfl
def Ok (n : Nat) : Prop := ∀ (s : TSchema) (x : TSess) (res_ : R), spec_SessOk n s x = some res_ → CallOk E 9 [.ag [.sl .v .int s.cols], .ag [.i .i64 x.view.q.table, .sl .v .iCond x.view.q.where_, .i .i64 x.view.q.order, .b x.view.q.down, .i .i64 x.view.q.first, .sl .v .int x.view.q.show_, .b x.view.q.kids, .i .i64 x.view.q.kidTable, .i .i64 x.view.q.kidCol, .sl .v .iRow x.view.rows, .sl .v .iKid x.view.kids, .i .i64 x.version, .i .i64 x.last.q.table, .sl .v .iCond x.last.q.where_, .i .i64 x.last.q.order, .b x.last.q.down, .i .i64 x.last.q.first, .sl .v .int x.last.q.show_, .b x.last.q.kids, .i .i64 x.last.q.kidTable, .i .i64 x.last.q.kidCol, .sl .v .iRow x.last.rows, .sl .v .iKid x.last.kids, .i .i64 x.lastVersion, .b x.began]] (rvOf 1 (inj res_)) ((inj res_).drop 1) [.ag [.v], .ag [.v, .v, .v, .v, .v, .v, .v, .v, .v, .v, .v, .v, .v, .v, .v, .v, .v, .v, .v, .v, .v, .v, .v, .v, .v]]
theorem ok (n : Nat) (hc : CxOk E (cx n 48)) (hK : KPar (cx n 48)) : Ok (n + 1) := fun s x res_ h_ =>
  fn_sound hc hK mixedOk Try.func9 (by kernel_rfl) (by kernel_rfl) (by kernel_rfl) (by decide) fin_ok (by kernel_rfl) ((top n s x).trans h_) (cuts n)
theorem Kpar (n : Nat) {ω : Type} {avs : List AV} {κ : AV → List AV → Option ω} {q : ω} (h : spec_SessOk.K n avs κ = some q) : ∃ rv outs, κ rv outs = some q ∧ ∀ (ω' : Type) (κ' : AV → List AV → Option ω'), spec_SessOk.K n avs κ' = κ' rv outs := by
  unfold K at h
  generalize hf : fixes [.ag [.sl .v .int], .ag [.k, .sl .v .iCond, .k, .k, .k, .sl .v .int, .k, .k, .k, .sl .v .iRow, .sl .v .iKid, .k, .k, .sl .v .iCond, .k, .k, .k, .sl .v .int, .k, .k, .k, .sl .v .iRow, .sl .v .iKid, .k, .k]] avs = v at h
  replace h := uc_ok h; obtain ⟨a1, l2, rfl, h⟩ := h
  replace h := getAg_ok h; obtain ⟨c3, rfl, h⟩ := h
  replace h := uc_ok h; obtain ⟨a4, l5, rfl, h⟩ := h
  replace h := getSl_ok h; obtain ⟨x6, rfl, h⟩ := h
  replace h := un_ok h; obtain ⟨rfl, h⟩ := h
  replace h := uc_ok h; obtain ⟨a7, l8, rfl, h⟩ := h
  replace h := getAg_ok h; obtain ⟨c9, rfl, h⟩ := h
  replace h := uc_ok h; obtain ⟨a10, l11, rfl, h⟩ := h
  replace h := getI_ok h; obtain ⟨x12, rfl, h⟩ := h
  replace h := uc_ok h; obtain ⟨a13, l14, rfl, h⟩ := h
  replace h := getSl_ok h; obtain ⟨x15, rfl, h⟩ := h
  replace h := uc_ok h; obtain ⟨a16, l17, rfl, h⟩ := h
  replace h := getI_ok h; obtain ⟨x18, rfl, h⟩ := h
  replace h := uc_ok h; obtain ⟨a19, l20, rfl, h⟩ := h
  replace h := getB_ok h; obtain ⟨x21, rfl, h⟩ := h
  replace h := uc_ok h; obtain ⟨a22, l23, rfl, h⟩ := h
  replace h := getI_ok h; obtain ⟨x24, rfl, h⟩ := h
  replace h := uc_ok h; obtain ⟨a25, l26, rfl, h⟩ := h
  replace h := getSl_ok h; obtain ⟨x27, rfl, h⟩ := h
  replace h := uc_ok h; obtain ⟨a28, l29, rfl, h⟩ := h
  replace h := getB_ok h; obtain ⟨x30, rfl, h⟩ := h
  replace h := uc_ok h; obtain ⟨a31, l32, rfl, h⟩ := h
  replace h := getI_ok h; obtain ⟨x33, rfl, h⟩ := h
  replace h := uc_ok h; obtain ⟨a34, l35, rfl, h⟩ := h
  replace h := getI_ok h; obtain ⟨x36, rfl, h⟩ := h
  replace h := uc_ok h; obtain ⟨a37, l38, rfl, h⟩ := h
  replace h := getSl_ok h; obtain ⟨x39, rfl, h⟩ := h
  replace h := uc_ok h; obtain ⟨a40, l41, rfl, h⟩ := h
  replace h := getSl_ok h; obtain ⟨x42, rfl, h⟩ := h
  replace h := uc_ok h; obtain ⟨a43, l44, rfl, h⟩ := h
  replace h := getI_ok h; obtain ⟨x45, rfl, h⟩ := h
  replace h := uc_ok h; obtain ⟨a46, l47, rfl, h⟩ := h
  replace h := getI_ok h; obtain ⟨x48, rfl, h⟩ := h
  replace h := uc_ok h; obtain ⟨a49, l50, rfl, h⟩ := h
  replace h := getSl_ok h; obtain ⟨x51, rfl, h⟩ := h
  replace h := uc_ok h; obtain ⟨a52, l53, rfl, h⟩ := h
  replace h := getI_ok h; obtain ⟨x54, rfl, h⟩ := h
  replace h := uc_ok h; obtain ⟨a55, l56, rfl, h⟩ := h
  replace h := getB_ok h; obtain ⟨x57, rfl, h⟩ := h
  replace h := uc_ok h; obtain ⟨a58, l59, rfl, h⟩ := h
  replace h := getI_ok h; obtain ⟨x60, rfl, h⟩ := h
  replace h := uc_ok h; obtain ⟨a61, l62, rfl, h⟩ := h
  replace h := getSl_ok h; obtain ⟨x63, rfl, h⟩ := h
  replace h := uc_ok h; obtain ⟨a64, l65, rfl, h⟩ := h
  replace h := getB_ok h; obtain ⟨x66, rfl, h⟩ := h
  replace h := uc_ok h; obtain ⟨a67, l68, rfl, h⟩ := h
  replace h := getI_ok h; obtain ⟨x69, rfl, h⟩ := h
  replace h := uc_ok h; obtain ⟨a70, l71, rfl, h⟩ := h
  replace h := getI_ok h; obtain ⟨x72, rfl, h⟩ := h
  replace h := uc_ok h; obtain ⟨a73, l74, rfl, h⟩ := h
  replace h := getSl_ok h; obtain ⟨x75, rfl, h⟩ := h
  replace h := uc_ok h; obtain ⟨a76, l77, rfl, h⟩ := h
  replace h := getSl_ok h; obtain ⟨x78, rfl, h⟩ := h
  replace h := uc_ok h; obtain ⟨a79, l80, rfl, h⟩ := h
  replace h := getI_ok h; obtain ⟨x81, rfl, h⟩ := h
  replace h := uc_ok h; obtain ⟨a82, l83, rfl, h⟩ := h
  replace h := getB_ok h; obtain ⟨x84, rfl, h⟩ := h
  replace h := un_ok h; obtain ⟨rfl, h⟩ := h
  replace h := un_ok h; obtain ⟨rfl, h⟩ := h
  cases hr : spec_SessOk n (TSchema.mk x6) (TSess.mk (TView.mk (TQuery.mk x12 x15 x18 x21 x24 x27 x30 x33 x36) x39 x42) x45 (TView.mk (TQuery.mk x48 x51 x54 x57 x60 x63 x66 x69 x72) x75 x78) x81 x84) with
  | none => rw [hr] at h; cases h
  | some r =>
    rw [hr] at h
    exact ⟨_, _, h, fun ω' κ' => by unfold K; rw [hf]; exact congrArg (fun z : Option R => z.bind _) hr⟩
theorem Kok (n : Nat) (ho : Ok n) {ω : Type} {avs : List AV} {κ : AV → List AV → Option ω} {q : ω} (h : spec_SessOk.K n avs κ = some q) : FnOk E 9 ∧ ∃ ps rv outs, (cx n 0).sig 9 = some ps ∧ κ rv outs = some q ∧ CallOk E 9 avs rv outs ps := by
  unfold K at h
  generalize hf : fixes [.ag [.sl .v .int], .ag [.k, .sl .v .iCond, .k, .k, .k, .sl .v .int, .k, .k, .k, .sl .v .iRow, .sl .v .iKid, .k, .k, .sl .v .iCond, .k, .k, .k, .sl .v .int, .k, .k, .k, .sl .v .iRow, .sl .v .iKid, .k, .k]] avs = v at h
  replace h := uc_ok h; obtain ⟨a1, l2, rfl, h⟩ := h
  replace h := getAg_ok h; obtain ⟨c3, rfl, h⟩ := h
  replace h := uc_ok h; obtain ⟨a4, l5, rfl, h⟩ := h
  replace h := getSl_ok h; obtain ⟨x6, rfl, h⟩ := h
  replace h := un_ok h; obtain ⟨rfl, h⟩ := h
  replace h := uc_ok h; obtain ⟨a7, l8, rfl, h⟩ := h
  replace h := getAg_ok h; obtain ⟨c9, rfl, h⟩ := h
  replace h := uc_ok h; obtain ⟨a10, l11, rfl, h⟩ := h
  replace h := getI_ok h; obtain ⟨x12, rfl, h⟩ := h
  replace h := uc_ok h; obtain ⟨a13, l14, rfl, h⟩ := h
  replace h := getSl_ok h; obtain ⟨x15, rfl, h⟩ := h
  replace h := uc_ok h; obtain ⟨a16, l17, rfl, h⟩ := h
  replace h := getI_ok h; obtain ⟨x18, rfl, h⟩ := h
  replace h := uc_ok h; obtain ⟨a19, l20, rfl, h⟩ := h
  replace h := getB_ok h; obtain ⟨x21, rfl, h⟩ := h
  replace h := uc_ok h; obtain ⟨a22, l23, rfl, h⟩ := h
  replace h := getI_ok h; obtain ⟨x24, rfl, h⟩ := h
  replace h := uc_ok h; obtain ⟨a25, l26, rfl, h⟩ := h
  replace h := getSl_ok h; obtain ⟨x27, rfl, h⟩ := h
  replace h := uc_ok h; obtain ⟨a28, l29, rfl, h⟩ := h
  replace h := getB_ok h; obtain ⟨x30, rfl, h⟩ := h
  replace h := uc_ok h; obtain ⟨a31, l32, rfl, h⟩ := h
  replace h := getI_ok h; obtain ⟨x33, rfl, h⟩ := h
  replace h := uc_ok h; obtain ⟨a34, l35, rfl, h⟩ := h
  replace h := getI_ok h; obtain ⟨x36, rfl, h⟩ := h
  replace h := uc_ok h; obtain ⟨a37, l38, rfl, h⟩ := h
  replace h := getSl_ok h; obtain ⟨x39, rfl, h⟩ := h
  replace h := uc_ok h; obtain ⟨a40, l41, rfl, h⟩ := h
  replace h := getSl_ok h; obtain ⟨x42, rfl, h⟩ := h
  replace h := uc_ok h; obtain ⟨a43, l44, rfl, h⟩ := h
  replace h := getI_ok h; obtain ⟨x45, rfl, h⟩ := h
  replace h := uc_ok h; obtain ⟨a46, l47, rfl, h⟩ := h
  replace h := getI_ok h; obtain ⟨x48, rfl, h⟩ := h
  replace h := uc_ok h; obtain ⟨a49, l50, rfl, h⟩ := h
  replace h := getSl_ok h; obtain ⟨x51, rfl, h⟩ := h
  replace h := uc_ok h; obtain ⟨a52, l53, rfl, h⟩ := h
  replace h := getI_ok h; obtain ⟨x54, rfl, h⟩ := h
  replace h := uc_ok h; obtain ⟨a55, l56, rfl, h⟩ := h
  replace h := getB_ok h; obtain ⟨x57, rfl, h⟩ := h
  replace h := uc_ok h; obtain ⟨a58, l59, rfl, h⟩ := h
  replace h := getI_ok h; obtain ⟨x60, rfl, h⟩ := h
  replace h := uc_ok h; obtain ⟨a61, l62, rfl, h⟩ := h
  replace h := getSl_ok h; obtain ⟨x63, rfl, h⟩ := h
  replace h := uc_ok h; obtain ⟨a64, l65, rfl, h⟩ := h
  replace h := getB_ok h; obtain ⟨x66, rfl, h⟩ := h
  replace h := uc_ok h; obtain ⟨a67, l68, rfl, h⟩ := h
  replace h := getI_ok h; obtain ⟨x69, rfl, h⟩ := h
  replace h := uc_ok h; obtain ⟨a70, l71, rfl, h⟩ := h
  replace h := getI_ok h; obtain ⟨x72, rfl, h⟩ := h
  replace h := uc_ok h; obtain ⟨a73, l74, rfl, h⟩ := h
  replace h := getSl_ok h; obtain ⟨x75, rfl, h⟩ := h
  replace h := uc_ok h; obtain ⟨a76, l77, rfl, h⟩ := h
  replace h := getSl_ok h; obtain ⟨x78, rfl, h⟩ := h
  replace h := uc_ok h; obtain ⟨a79, l80, rfl, h⟩ := h
  replace h := getI_ok h; obtain ⟨x81, rfl, h⟩ := h
  replace h := uc_ok h; obtain ⟨a82, l83, rfl, h⟩ := h
  replace h := getB_ok h; obtain ⟨x84, rfl, h⟩ := h
  replace h := un_ok h; obtain ⟨rfl, h⟩ := h
  replace h := un_ok h; obtain ⟨rfl, h⟩ := h
  cases hr : spec_SessOk n (TSchema.mk x6) (TSess.mk (TView.mk (TQuery.mk x12 x15 x18 x21 x24 x27 x30 x33 x36) x39 x42) x45 (TView.mk (TQuery.mk x48 x51 x54 x57 x60 x63 x66 x69 x72) x75 x78) x81 x84) with
  | none => rw [hr] at h; cases h
  | some r =>
    rw [hr] at h
    exact ⟨⟨_, body, Try.func9, by decide +kernel, by kernel_rfl⟩, [.ag [.v], .ag [.v, .v, .v, .v, .v, .v, .v, .v, .v, .v, .v, .v, .v, .v, .v, .v, .v, .v, .v, .v, .v, .v, .v, .v, .v]], _, _, by kernel_rfl, h, CallOk.fix (ss := [.ag [.sl .v .int], .ag [.k, .sl .v .iCond, .k, .k, .k, .sl .v .int, .k, .k, .k, .sl .v .iRow, .sl .v .iKid, .k, .k, .sl .v .iCond, .k, .k, .k, .sl .v .int, .k, .k, .k, .sl .v .iRow, .sl .v .iKid, .k, .k]]) (by rw [hf]; exact ho (TSchema.mk x6) (TSess.mk (TView.mk (TQuery.mk x12 x15 x18 x21 x24 x27 x30 x33 x36) x39 x42) x45 (TView.mk (TQuery.mk x48 x51 x54 x57 x60 x63 x66 x69 x72) x75 x78) x81 x84) r hr)⟩
end spec_SessOk
namespace impl_within
abbrev R : Type := Bool
noncomputable def body : Code := match Try.f51.body with | some c => c | none => .skip
def ann : Ann := ⟨fun k => look2 [] k, fun k => match look2 [] k with | some l => l | none => [], fun k => match look2 [] k with | some l => l | none => []⟩
def fin (o : List AV) : Option R := uc o fun a1 l2 => getB a1 fun x3 => un l2 (some (x3 : R))
def inj (r : R) : List AV := [.b r]
theorem fin_ok (o : List AV) (r : R) (h : fin o = some r) : o = inj r := by
  unfold fin at h
  replace h := uc_ok h; obtain ⟨a1, l2, rfl, h⟩ := h
  replace h := getB_ok h; obtain ⟨x3, rfl, h⟩ := h
  replace h := un_ok h; obtain ⟨rfl, h⟩ := h
  cases h
  rfl
def kr (n : Nat) : St → Option R := retK (cx n 15) [.k] [.v] [.tmp 6] [] fin
def lf (n : Nat) : LF R := fun key κd κe v b => none
theorem cuts (n : Nat) : Cuts (cx n 15) 1 ann (lf n) (kr n) body := by
  intro key κd κe v b r h
  unfold lf at h
  cases h
theorem top (n : Nat) (n1 : Int) (low : Int) (high : Int) : entryK 1 [.i .i64 n1, .i .i64 low, .i .i64 high] (fun v b => match outOfAll [.v, .v, .v] v with
      | some o => cond (AV.allRoots o []) (run (cx n 15) 1 ann (lf n) (kr n) body 0 (kr n) (fun _ _ => none) (St.ofC (live0 3) v b)) none
      | none => none) = impl_within (n + 1) n1 low high := by kernel_rfl
def Ok (n : Nat) : Prop := ∀ (n1 : Int) (low : Int) (high : Int) (res_ : R), impl_within n n1 low high = some res_ → CallOk E 51 [.i .i64 n1, .i .i64 low, .i .i64 high] (rvOf 1 (inj res_)) ((inj res_).drop 1) [.v, .v, .v]
theorem ok (n : Nat) (hc : CxOk E (cx n 15)) (hK : KPar (cx n 15)) : Ok (n + 1) := fun n1 low high res_ h_ =>
  fn_sound hc hK mixedOk Try.func51 (by kernel_rfl) (by kernel_rfl) (by kernel_rfl) (by decide) fin_ok (by kernel_rfl) ((top n n1 low high).trans h_) (cuts n)
theorem Kpar (n : Nat) {ω : Type} {avs : List AV} {κ : AV → List AV → Option ω} {q : ω} (h : impl_within.K n avs κ = some q) : ∃ rv outs, κ rv outs = some q ∧ ∀ (ω' : Type) (κ' : AV → List AV → Option ω'), impl_within.K n avs κ' = κ' rv outs := by
  unfold K at h
  generalize hf : fixes [.k, .k, .k] avs = v at h
  replace h := uc_ok h; obtain ⟨a1, l2, rfl, h⟩ := h
  replace h := getI_ok h; obtain ⟨x3, rfl, h⟩ := h
  replace h := uc_ok h; obtain ⟨a4, l5, rfl, h⟩ := h
  replace h := getI_ok h; obtain ⟨x6, rfl, h⟩ := h
  replace h := uc_ok h; obtain ⟨a7, l8, rfl, h⟩ := h
  replace h := getI_ok h; obtain ⟨x9, rfl, h⟩ := h
  replace h := un_ok h; obtain ⟨rfl, h⟩ := h
  cases hr : impl_within n x3 x6 x9 with
  | none => rw [hr] at h; cases h
  | some r =>
    rw [hr] at h
    exact ⟨_, _, h, fun ω' κ' => by unfold K; rw [hf]; exact congrArg (fun z : Option R => z.bind _) hr⟩
theorem Kok (n : Nat) (ho : Ok n) {ω : Type} {avs : List AV} {κ : AV → List AV → Option ω} {q : ω} (h : impl_within.K n avs κ = some q) : FnOk E 51 ∧ ∃ ps rv outs, (cx n 0).sig 51 = some ps ∧ κ rv outs = some q ∧ CallOk E 51 avs rv outs ps := by
  unfold K at h
  generalize hf : fixes [.k, .k, .k] avs = v at h
  replace h := uc_ok h; obtain ⟨a1, l2, rfl, h⟩ := h
  replace h := getI_ok h; obtain ⟨x3, rfl, h⟩ := h
  replace h := uc_ok h; obtain ⟨a4, l5, rfl, h⟩ := h
  replace h := getI_ok h; obtain ⟨x6, rfl, h⟩ := h
  replace h := uc_ok h; obtain ⟨a7, l8, rfl, h⟩ := h
  replace h := getI_ok h; obtain ⟨x9, rfl, h⟩ := h
  replace h := un_ok h; obtain ⟨rfl, h⟩ := h
  cases hr : impl_within n x3 x6 x9 with
  | none => rw [hr] at h; cases h
  | some r =>
    rw [hr] at h
    exact ⟨⟨_, body, Try.func51, by decide +kernel, by kernel_rfl⟩, [.v, .v, .v], _, _, by kernel_rfl, h, CallOk.fix (ss := [.k, .k, .k]) (by rw [hf]; exact ho x3 x6 x9 r hr)⟩
end impl_within
namespace impl_SchemaOk
abbrev R : Type := Bool
noncomputable def body : Code := match Try.f146.body with | some c => c | none => .skip
def ann : Ann := ⟨fun k => look2 [(3, [(1, .box [.view .int]), (6, .view .int), (7, .k), (8, .k)])] k, fun k => match look2 [] k with | some l => l | none => [], fun k => match look2 [(0, [(1, .box [.view .int])])] k with | some l => l | none => []⟩
def fin (o : List AV) : Option R := uc o fun a1 l2 => getB a1 fun x3 => un l2 (some (x3 : R))
def inj (r : R) : List AV := [.b r]
theorem fin_ok (o : List AV) (r : R) (h : fin o = some r) : o = inj r := by
  unfold fin at h
  replace h := uc_ok h; obtain ⟨a1, l2, rfl, h⟩ := h
  replace h := getB_ok h; obtain ⟨x3, rfl, h⟩ := h
  replace h := un_ok h; obtain ⟨rfl, h⟩ := h
  cases h
  rfl
def kr (n : Nat) : St → Option R := retK (cx n 20) [.k] [.v] [.tmp 2] [] fin
def lf (n : Nat) : LF R := fun key κd κe v b => cond (Nat.beq key 3)
    (uc v fun a1 l2 => isPb 1 0 a1 (uc l2 fun a3 l4 => getSl .v .int a3 fun x5 => uc l4 fun a6 l7 => getI .i64 a6 fun x8 => uc l7 fun a9 l10 => getI .i64 a9 fun x11 => un l10 (uc b fun a12 l13 => isExt a12 (uc l13 fun a14 l15 => getBox a14 fun c16 => uc c16 fun a17 l18 => getSl .v .int a17 fun x19 => un l18 (un l15 (impl_SchemaOk.loop3 n (fun (y0 : List Int) => κe 0 [.pb 1 0] [some .ext, some (.box [.sl .v .int y0])]) n x5 x8 x11 x19))))))
    (none)
noncomputable def A3 : Code := match pieceAt ann body 0 3 with | some (.loop a _) => a | _ => .skip
theorem round3 (n : Nat) (B : D R) (κe : Nat → D R) (t6 : List Int) (t7 : Int) (t8 : Int) (s0 : List Int) : run (cx n 20) 1 ann (lf n) (kr n) A3 4 (fun s => cutK 1 [(1, .box [.view .int]), (6, .view .int), (7, .k), (8, .k)] s B) (fun j s => cutK 1 (ann.out j) s (κe j)) (St.ofC [(1, .box [.view .int]), (6, .view .int), (7, .k), (8, .k)] [.pb 1 0, .sl .v .int t6, .i .i64 t7, .i .i64 t8] [some .ext, some (.box [.sl .v .int s0])]) =
    impl_SchemaOk.step3 n (fun (y0 : List Int) => κe 0 [.pb 1 0] [some .ext, some (.box [.sl .v .int y0])]) (fun (z0 : List Int) (z1 : Int) (z2 : Int) (z3 : List Int) => B [.pb 1 0, .sl .v .int z0, .i .i64 z1, .i .i64 z2] [some .ext, some (.box [.sl .v .int z3])]) t6 t7 t8 s0 := by kernel_rfl
theorem rounds3 (n : Nat) (κe : Nat → D R) : ∀ (N : Nat) (t6 : List Int) (t7 : Int) (t8 : Int) (s0 : List Int), rounds (cx n 20) 1 ann (lf n) (kr n) A3 4 [(1, .box [.view .int]), (6, .view .int), (7, .k), (8, .k)] κe N [.pb 1 0, .sl .v .int t6, .i .i64 t7, .i .i64 t8] [some .ext, some (.box [.sl .v .int s0])] = impl_SchemaOk.loop3 n (fun (y0 : List Int) => κe 0 [.pb 1 0] [some .ext, some (.box [.sl .v .int y0])]) N t6 t7 t8 s0
  | 0, _, _, _, _ => rfl
  | N + 1, t6, t7, t8, s0 => (round3 n (rounds (cx n 20) 1 ann (lf n) (kr n) A3 4 [(1, .box [.view .int]), (6, .view .int), (7, .k), (8, .k)] κe N) κe t6 t7 t8 s0).trans (congrArg (fun back => impl_SchemaOk.step3 n (fun (y0 : List Int) => κe 0 [.pb 1 0] [some .ext, some (.box [.sl .v .int y0])]) back t6 t7 t8 s0) (funext fun z0 => funext fun z1 => funext fun z2 => funext fun z3 => rounds3 n κe N z0 z1 z2 z3))
theorem cuts (n : Nat) : Cuts (cx n 20) 1 ann (lf n) (kr n) body := by
  intro key κd κe v b r h
  unfold lf at h
  cases hk3 : Nat.beq key 3 with
  | true =>
    replace h := cond_t hk3 h
    have := beq_iff.1 hk3
    subst this
    replace h := uc_ok h; obtain ⟨a1, l2, rfl, h⟩ := h
    replace h := isPb_ok h; obtain ⟨rfl, h⟩ := h
    replace h := uc_ok h; obtain ⟨a3, l4, rfl, h⟩ := h
    replace h := getSl_ok h; obtain ⟨x5, rfl, h⟩ := h
    replace h := uc_ok h; obtain ⟨a6, l7, rfl, h⟩ := h
    replace h := getI_ok h; obtain ⟨x8, rfl, h⟩ := h
    replace h := uc_ok h; obtain ⟨a9, l10, rfl, h⟩ := h
    replace h := getI_ok h; obtain ⟨x11, rfl, h⟩ := h
    replace h := un_ok h; obtain ⟨rfl, h⟩ := h
    replace h := uc_ok h; obtain ⟨a12, l13, rfl, h⟩ := h
    replace h := isExt_ok h; obtain ⟨rfl, h⟩ := h
    replace h := uc_ok h; obtain ⟨a14, l15, rfl, h⟩ := h
    replace h := getBox_ok h; obtain ⟨c16, rfl, h⟩ := h
    replace h := uc_ok h; obtain ⟨a17, l18, rfl, h⟩ := h
    replace h := getSl_ok h; obtain ⟨x19, rfl, h⟩ := h
    replace h := un_ok h; obtain ⟨rfl, h⟩ := h
    replace h := un_ok h; obtain ⟨rfl, h⟩ := h
    exact ⟨[(1, .box [.view .int]), (6, .view .int), (7, .k), (8, .k)], .loop A3 4, by kernel_rfl, by kernel_rfl, ⟨n, (rounds3 n κe n x5 x8 x11 x19).trans h⟩⟩
  | false =>
    replace h := cond_f hk3 h
    cases h
theorem top (n : Nat) (s : TSchema) : entryK 1 [.ag [.sl .v .int s.cols]] (fun v b => match outOfAll [.ag [.v]] v with
      | some o => cond (AV.allRoots o []) (run (cx n 20) 1 ann (lf n) (kr n) body 0 (kr n) (fun _ _ => none) (St.ofC (live0 1) v b)) none
      | none => none) = impl_SchemaOk (n + 1) s := by kernel_rfl
def Ok (n : Nat) : Prop := ∀ (s : TSchema) (res_ : R), impl_SchemaOk n s = some res_ → CallOk E 146 [.ag [.sl .v .int s.cols]] (rvOf 1 (inj res_)) ((inj res_).drop 1) [.ag [.v]]
theorem ok (n : Nat) (hc : CxOk E (cx n 20)) (hK : KPar (cx n 20)) : Ok (n + 1) := fun s res_ h_ =>
  fn_sound hc hK mixedOk Try.func146 (by kernel_rfl) (by kernel_rfl) (by kernel_rfl) (by decide) fin_ok (by kernel_rfl) ((top n s).trans h_) (cuts n)
theorem Kpar (n : Nat) {ω : Type} {avs : List AV} {κ : AV → List AV → Option ω} {q : ω} (h : impl_SchemaOk.K n avs κ = some q) : ∃ rv outs, κ rv outs = some q ∧ ∀ (ω' : Type) (κ' : AV → List AV → Option ω'), impl_SchemaOk.K n avs κ' = κ' rv outs := by
  unfold K at h
  generalize hf : fixes [.ag [.sl .v .int]] avs = v at h
  replace h := uc_ok h; obtain ⟨a1, l2, rfl, h⟩ := h
  replace h := getAg_ok h; obtain ⟨c3, rfl, h⟩ := h
  replace h := uc_ok h; obtain ⟨a4, l5, rfl, h⟩ := h
  replace h := getSl_ok h; obtain ⟨x6, rfl, h⟩ := h
  replace h := un_ok h; obtain ⟨rfl, h⟩ := h
  replace h := un_ok h; obtain ⟨rfl, h⟩ := h
  cases hr : impl_SchemaOk n (TSchema.mk x6) with
  | none => rw [hr] at h; cases h
  | some r =>
    rw [hr] at h
    exact ⟨_, _, h, fun ω' κ' => by unfold K; rw [hf]; exact congrArg (fun z : Option R => z.bind _) hr⟩
theorem Kok (n : Nat) (ho : Ok n) {ω : Type} {avs : List AV} {κ : AV → List AV → Option ω} {q : ω} (h : impl_SchemaOk.K n avs κ = some q) : FnOk E 146 ∧ ∃ ps rv outs, (cx n 0).sig 146 = some ps ∧ κ rv outs = some q ∧ CallOk E 146 avs rv outs ps := by
  unfold K at h
  generalize hf : fixes [.ag [.sl .v .int]] avs = v at h
  replace h := uc_ok h; obtain ⟨a1, l2, rfl, h⟩ := h
  replace h := getAg_ok h; obtain ⟨c3, rfl, h⟩ := h
  replace h := uc_ok h; obtain ⟨a4, l5, rfl, h⟩ := h
  replace h := getSl_ok h; obtain ⟨x6, rfl, h⟩ := h
  replace h := un_ok h; obtain ⟨rfl, h⟩ := h
  replace h := un_ok h; obtain ⟨rfl, h⟩ := h
  cases hr : impl_SchemaOk n (TSchema.mk x6) with
  | none => rw [hr] at h; cases h
  | some r =>
    rw [hr] at h
    exact ⟨⟨_, body, Try.func146, by decide +kernel, by kernel_rfl⟩, [.ag [.v]], _, _, by kernel_rfl, h, CallOk.fix (ss := [.ag [.sl .v .int]]) (by rw [hf]; exact ho (TSchema.mk x6) r hr)⟩
end impl_SchemaOk
namespace impl_hasTable
abbrev R : Type := Bool
noncomputable def body : Code := match Try.f147.body with | some c => c | none => .skip
def ann : Ann := ⟨fun k => look2 [] k, fun k => match look2 [] k with | some l => l | none => [], fun k => match look2 [] k with | some l => l | none => []⟩
def fin (o : List AV) : Option R := uc o fun a1 l2 => getB a1 fun x3 => un l2 (some (x3 : R))
def inj (r : R) : List AV := [.b r]
theorem fin_ok (o : List AV) (r : R) (h : fin o = some r) : o = inj r := by
  unfold fin at h
  replace h := uc_ok h; obtain ⟨a1, l2, rfl, h⟩ := h
  replace h := getB_ok h; obtain ⟨x3, rfl, h⟩ := h
  replace h := un_ok h; obtain ⟨rfl, h⟩ := h
  cases h
  rfl
def kr (n : Nat) : St → Option R := retK (cx n 11) [.k] [.v] [.tmp 4] [] fin
def lf (n : Nat) : LF R := fun key κd κe v b => none
theorem cuts (n : Nat) : Cuts (cx n 11) 1 ann (lf n) (kr n) body := by
  intro key κd κe v b r h
  unfold lf at h
  cases h
theorem top (n : Nat) (s : TSchema) (table : Int) : entryK 1 [.ag [.sl .v .int s.cols], .i .i64 table] (fun v b => match outOfAll [.ag [.v], .v] v with
      | some o => cond (AV.allRoots o []) (run (cx n 11) 1 ann (lf n) (kr n) body 0 (kr n) (fun _ _ => none) (St.ofC (live0 2) v b)) none
      | none => none) = impl_hasTable (n + 1) s table := by kernel_rfl
def Ok (n : Nat) : Prop := ∀ (s : TSchema) (table : Int) (res_ : R), impl_hasTable n s table = some res_ → CallOk E 147 [.ag [.sl .v .int s.cols], .i .i64 table] (rvOf 1 (inj res_)) ((inj res_).drop 1) [.ag [.v], .v]
theorem ok (n : Nat) (hc : CxOk E (cx n 11)) (hK : KPar (cx n 11)) : Ok (n + 1) := fun s table res_ h_ =>
  fn_sound hc hK mixedOk Try.func147 (by kernel_rfl) (by kernel_rfl) (by kernel_rfl) (by decide) fin_ok (by kernel_rfl) ((top n s table).trans h_) (cuts n)
theorem Kpar (n : Nat) {ω : Type} {avs : List AV} {κ : AV → List AV → Option ω} {q : ω} (h : impl_hasTable.K n avs κ = some q) : ∃ rv outs, κ rv outs = some q ∧ ∀ (ω' : Type) (κ' : AV → List AV → Option ω'), impl_hasTable.K n avs κ' = κ' rv outs := by
  unfold K at h
  generalize hf : fixes [.ag [.sl .v .int], .k] avs = v at h
  replace h := uc_ok h; obtain ⟨a1, l2, rfl, h⟩ := h
  replace h := getAg_ok h; obtain ⟨c3, rfl, h⟩ := h
  replace h := uc_ok h; obtain ⟨a4, l5, rfl, h⟩ := h
  replace h := getSl_ok h; obtain ⟨x6, rfl, h⟩ := h
  replace h := un_ok h; obtain ⟨rfl, h⟩ := h
  replace h := uc_ok h; obtain ⟨a7, l8, rfl, h⟩ := h
  replace h := getI_ok h; obtain ⟨x9, rfl, h⟩ := h
  replace h := un_ok h; obtain ⟨rfl, h⟩ := h
  cases hr : impl_hasTable n (TSchema.mk x6) x9 with
  | none => rw [hr] at h; cases h
  | some r =>
    rw [hr] at h
    exact ⟨_, _, h, fun ω' κ' => by unfold K; rw [hf]; exact congrArg (fun z : Option R => z.bind _) hr⟩
theorem Kok (n : Nat) (ho : Ok n) {ω : Type} {avs : List AV} {κ : AV → List AV → Option ω} {q : ω} (h : impl_hasTable.K n avs κ = some q) : FnOk E 147 ∧ ∃ ps rv outs, (cx n 0).sig 147 = some ps ∧ κ rv outs = some q ∧ CallOk E 147 avs rv outs ps := by
  unfold K at h
  generalize hf : fixes [.ag [.sl .v .int], .k] avs = v at h
  replace h := uc_ok h; obtain ⟨a1, l2, rfl, h⟩ := h
  replace h := getAg_ok h; obtain ⟨c3, rfl, h⟩ := h
  replace h := uc_ok h; obtain ⟨a4, l5, rfl, h⟩ := h
  replace h := getSl_ok h; obtain ⟨x6, rfl, h⟩ := h
  replace h := un_ok h; obtain ⟨rfl, h⟩ := h
  replace h := uc_ok h; obtain ⟨a7, l8, rfl, h⟩ := h
  replace h := getI_ok h; obtain ⟨x9, rfl, h⟩ := h
  replace h := un_ok h; obtain ⟨rfl, h⟩ := h
  cases hr : impl_hasTable n (TSchema.mk x6) x9 with
  | none => rw [hr] at h; cases h
  | some r =>
    rw [hr] at h
    exact ⟨⟨_, body, Try.func147, by decide +kernel, by kernel_rfl⟩, [.ag [.v], .v], _, _, by kernel_rfl, h, CallOk.fix (ss := [.ag [.sl .v .int], .k]) (by rw [hf]; exact ho (TSchema.mk x6) x9 r hr)⟩
end impl_hasTable
end Go.Pi
end
section
set_option linter.unusedVariables false
set_option maxRecDepth 100000
namespace Go.Pi
open Go.Proofs
namespace impl_isNum
abbrev R : Type := Bool
noncomputable def body : Code := match Try.f148.body with | some c => c | none => .skip
def ann : Ann := ⟨fun k => look2 [] k, fun k => match look2 [] k with | some l => l | none => [], fun k => match look2 [] k with | some l => l | none => []⟩
def fin (o : List AV) : Option R := uc o fun a1 l2 => getB a1 fun x3 => un l2 (some (x3 : R))
def inj (r : R) : List AV := [.b r]
theorem fin_ok (o : List AV) (r : R) (h : fin o = some r) : o = inj r := by
  unfold fin at h
  replace h := uc_ok h; obtain ⟨a1, l2, rfl, h⟩ := h
  replace h := getB_ok h; obtain ⟨x3, rfl, h⟩ := h
  replace h := un_ok h; obtain ⟨rfl, h⟩ := h
  cases h
  rfl
def kr (n : Nat) : St → Option R := retK (cx n 5) [.k] [.v] [.tmp 2] [] fin
def lf (n : Nat) : LF R := fun key κd κe v b => none
theorem cuts (n : Nat) : Cuts (cx n 5) 1 ann (lf n) (kr n) body := by
  intro key κd κe v b r h
  unfold lf at h
  cases h
theorem top (n : Nat) (n1 : Int) : entryK 1 [.i .i64 n1] (fun v b => match outOfAll [.v] v with
      | some o => cond (AV.allRoots o []) (run (cx n 5) 1 ann (lf n) (kr n) body 0 (kr n) (fun _ _ => none) (St.ofC (live0 1) v b)) none
      | none => none) = impl_isNum (n + 1) n1 := by kernel_rfl
def Ok (n : Nat) : Prop := ∀ (n1 : Int) (res_ : R), impl_isNum n n1 = some res_ → CallOk E 148 [.i .i64 n1] (rvOf 1 (inj res_)) ((inj res_).drop 1) [.v]
theorem ok (n : Nat) (hc : CxOk E (cx n 5)) (hK : KPar (cx n 5)) : Ok (n + 1) := fun n1 res_ h_ =>
  fn_sound hc hK mixedOk Try.func148 (by kernel_rfl) (by kernel_rfl) (by kernel_rfl) (by decide) fin_ok (by kernel_rfl) ((top n n1).trans h_) (cuts n)
theorem Kpar (n : Nat) {ω : Type} {avs : List AV} {κ : AV → List AV → Option ω} {q : ω} (h : impl_isNum.K n avs κ = some q) : ∃ rv outs, κ rv outs = some q ∧ ∀ (ω' : Type) (κ' : AV → List AV → Option ω'), impl_isNum.K n avs κ' = κ' rv outs := by
  unfold K at h
  generalize hf : fixes [.k] avs = v at h
  replace h := uc_ok h; obtain ⟨a1, l2, rfl, h⟩ := h
  replace h := getI_ok h; obtain ⟨x3, rfl, h⟩ := h
  replace h := un_ok h; obtain ⟨rfl, h⟩ := h
  cases hr : impl_isNum n x3 with
  | none => rw [hr] at h; cases h
  | some r =>
    rw [hr] at h
    exact ⟨_, _, h, fun ω' κ' => by unfold K; rw [hf]; exact congrArg (fun z : Option R => z.bind _) hr⟩
theorem Kok (n : Nat) (ho : Ok n) {ω : Type} {avs : List AV} {κ : AV → List AV → Option ω} {q : ω} (h : impl_isNum.K n avs κ = some q) : FnOk E 148 ∧ ∃ ps rv outs, (cx n 0).sig 148 = some ps ∧ κ rv outs = some q ∧ CallOk E 148 avs rv outs ps := by
  unfold K at h
  generalize hf : fixes [.k] avs = v at h
  replace h := uc_ok h; obtain ⟨a1, l2, rfl, h⟩ := h
  replace h := getI_ok h; obtain ⟨x3, rfl, h⟩ := h
  replace h := un_ok h; obtain ⟨rfl, h⟩ := h
  cases hr : impl_isNum n x3 with
  | none => rw [hr] at h; cases h
  | some r =>
    rw [hr] at h
    exact ⟨⟨_, body, Try.func148, by decide +kernel, by kernel_rfl⟩, [.v], _, _, by kernel_rfl, h, CallOk.fix (ss := [.k]) (by rw [hf]; exact ho x3 r hr)⟩
end impl_isNum
namespace impl_kidsFit
abbrev R : Type := Bool
noncomputable def body : Code := match Try.f149.body with | some c => c | none => .skip
def ann : Ann := ⟨fun k => look2 [] k, fun k => match look2 [] k with | some l => l | none => [], fun k => match look2 [] k with | some l => l | none => []⟩
def fin (o : List AV) : Option R := uc o fun a1 l2 => getB a1 fun x3 => un l2 (some (x3 : R))
def inj (r : R) : List AV := [.b r]
theorem fin_ok (o : List AV) (r : R) (h : fin o = some r) : o = inj r := by
  unfold fin at h
  replace h := uc_ok h; obtain ⟨a1, l2, rfl, h⟩ := h
  replace h := getB_ok h; obtain ⟨x3, rfl, h⟩ := h
  replace h := un_ok h; obtain ⟨rfl, h⟩ := h
  cases h
  rfl
def kr (n : Nat) : St → Option R := retK (cx n 32) [.k] [.v] [.tmp 4] [] fin
def lf (n : Nat) : LF R := fun key κd κe v b => none
theorem cuts (n : Nat) : Cuts (cx n 32) 1 ann (lf n) (kr n) body := by
  intro key κd κe v b r h
  unfold lf at h
  cases h
theorem top (n : Nat) (s : TSchema) (q : TQuery) : entryK 1 [.ag [.sl .v .int s.cols], .ag [.i .i64 q.table, .sl .v .iCond q.where_, .i .i64 q.order, .b q.down, .i .i64 q.first, .sl .v .int q.show_, .b q.kids, .i .i64 q.kidTable, .i .i64 q.kidCol]] (fun v b => match outOfAll [.ag [.v], .ag [.v, .v, .v, .v, .v, .v, .v, .v, .v]] v with
      | some o => cond (AV.allRoots o []) (run (cx n 32) 1 ann (lf n) (kr n) body 0 (kr n) (fun _ _ => none) (St.ofC (live0 2) v b)) none
      | none => none) = impl_kidsFit (n + 1) s q := by kernel_rfl
def Ok (n : Nat) : Prop := ∀ (s : TSchema) (q : TQuery) (res_ : R), impl_kidsFit n s q = some res_ → CallOk E 149 [.ag [.sl .v .int s.cols], .ag [.i .i64 q.table, .sl .v .iCond q.where_, .i .i64 q.order, .b q.down, .i .i64 q.first, .sl .v .int q.show_, .b q.kids, .i .i64 q.kidTable, .i .i64 q.kidCol]] (rvOf 1 (inj res_)) ((inj res_).drop 1) [.ag [.v], .ag [.v, .v, .v, .v, .v, .v, .v, .v, .v]]
theorem ok (n : Nat) (hc : CxOk E (cx n 32)) (hK : KPar (cx n 32)) : Ok (n + 1) := fun s q res_ h_ =>
  fn_sound hc hK mixedOk Try.func149 (by kernel_rfl) (by kernel_rfl) (by kernel_rfl) (by decide) fin_ok (by kernel_rfl) ((top n s q).trans h_) (cuts n)
theorem Kpar (n : Nat) {ω : Type} {avs : List AV} {κ : AV → List AV → Option ω} {q : ω} (h : impl_kidsFit.K n avs κ = some q) : ∃ rv outs, κ rv outs = some q ∧ ∀ (ω' : Type) (κ' : AV → List AV → Option ω'), impl_kidsFit.K n avs κ' = κ' rv outs := by
  unfold K at h
  generalize hf : fixes [.ag [.sl .v .int], .ag [.k, .sl .v .iCond, .k, .k, .k, .sl .v .int, .k, .k, .k]] avs = v at h
  replace h := uc_ok h; obtain ⟨a1, l2, rfl, h⟩ := h
  replace h := getAg_ok h; obtain ⟨c3, rfl, h⟩ := h
  replace h := uc_ok h; obtain ⟨a4, l5, rfl, h⟩ := h
  replace h := getSl_ok h; obtain ⟨x6, rfl, h⟩ := h
  replace h := un_ok h; obtain ⟨rfl, h⟩ := h
  replace h := uc_ok h; obtain ⟨a7, l8, rfl, h⟩ := h
  replace h := getAg_ok h; obtain ⟨c9, rfl, h⟩ := h
  replace h := uc_ok h; obtain ⟨a10, l11, rfl, h⟩ := h
  replace h := getI_ok h; obtain ⟨x12, rfl, h⟩ := h
  replace h := uc_ok h; obtain ⟨a13, l14, rfl, h⟩ := h
  replace h := getSl_ok h; obtain ⟨x15, rfl, h⟩ := h
  replace h := uc_ok h; obtain ⟨a16, l17, rfl, h⟩ := h
  replace h := getI_ok h; obtain ⟨x18, rfl, h⟩ := h
  replace h := uc_ok h; obtain ⟨a19, l20, rfl, h⟩ := h
  replace h := getB_ok h; obtain ⟨x21, rfl, h⟩ := h
  replace h := uc_ok h; obtain ⟨a22, l23, rfl, h⟩ := h
  replace h := getI_ok h; obtain ⟨x24, rfl, h⟩ := h
  replace h := uc_ok h; obtain ⟨a25, l26, rfl, h⟩ := h
  replace h := getSl_ok h; obtain ⟨x27, rfl, h⟩ := h
  replace h := uc_ok h; obtain ⟨a28, l29, rfl, h⟩ := h
  replace h := getB_ok h; obtain ⟨x30, rfl, h⟩ := h
  replace h := uc_ok h; obtain ⟨a31, l32, rfl, h⟩ := h
  replace h := getI_ok h; obtain ⟨x33, rfl, h⟩ := h
  replace h := uc_ok h; obtain ⟨a34, l35, rfl, h⟩ := h
  replace h := getI_ok h; obtain ⟨x36, rfl, h⟩ := h
  replace h := un_ok h; obtain ⟨rfl, h⟩ := h
  replace h := un_ok h; obtain ⟨rfl, h⟩ := h
  cases hr : impl_kidsFit n (TSchema.mk x6) (TQuery.mk x12 x15 x18 x21 x24 x27 x30 x33 x36) with
  | none => rw [hr] at h; cases h
  | some r =>
    rw [hr] at h
    exact ⟨_, _, h, fun ω' κ' => by unfold K; rw [hf]; exact congrArg (fun z : Option R => z.bind _) hr⟩
theorem Kok (n : Nat) (ho : Ok n) {ω : Type} {avs : List AV} {κ : AV → List AV → Option ω} {q : ω} (h : impl_kidsFit.K n avs κ = some q) : FnOk E 149 ∧ ∃ ps rv outs, (cx n 0).sig 149 = some ps ∧ κ rv outs = some q ∧ CallOk E 149 avs rv outs ps := by
  unfold K at h
  generalize hf : fixes [.ag [.sl .v .int], .ag [.k, .sl .v .iCond, .k, .k, .k, .sl .v .int, .k, .k, .k]] avs = v at h
  replace h := uc_ok h; obtain ⟨a1, l2, rfl, h⟩ := h
  replace h := getAg_ok h; obtain ⟨c3, rfl, h⟩ := h
  replace h := uc_ok h; obtain ⟨a4, l5, rfl, h⟩ := h
  replace h := getSl_ok h; obtain ⟨x6, rfl, h⟩ := h
  replace h := un_ok h; obtain ⟨rfl, h⟩ := h
  replace h := uc_ok h; obtain ⟨a7, l8, rfl, h⟩ := h
  replace h := getAg_ok h; obtain ⟨c9, rfl, h⟩ := h
  replace h := uc_ok h; obtain ⟨a10, l11, rfl, h⟩ := h
  replace h := getI_ok h; obtain ⟨x12, rfl, h⟩ := h
  replace h := uc_ok h; obtain ⟨a13, l14, rfl, h⟩ := h
  replace h := getSl_ok h; obtain ⟨x15, rfl, h⟩ := h
  replace h := uc_ok h; obtain ⟨a16, l17, rfl, h⟩ := h
  replace h := getI_ok h; obtain ⟨x18, rfl, h⟩ := h
  replace h := uc_ok h; obtain ⟨a19, l20, rfl, h⟩ := h
  replace h := getB_ok h; obtain ⟨x21, rfl, h⟩ := h
  replace h := uc_ok h; obtain ⟨a22, l23, rfl, h⟩ := h
  replace h := getI_ok h; obtain ⟨x24, rfl, h⟩ := h
  replace h := uc_ok h; obtain ⟨a25, l26, rfl, h⟩ := h
  replace h := getSl_ok h; obtain ⟨x27, rfl, h⟩ := h
  replace h := uc_ok h; obtain ⟨a28, l29, rfl, h⟩ := h
  replace h := getB_ok h; obtain ⟨x30, rfl, h⟩ := h
  replace h := uc_ok h; obtain ⟨a31, l32, rfl, h⟩ := h
  replace h := getI_ok h; obtain ⟨x33, rfl, h⟩ := h
  replace h := uc_ok h; obtain ⟨a34, l35, rfl, h⟩ := h
  replace h := getI_ok h; obtain ⟨x36, rfl, h⟩ := h
  replace h := un_ok h; obtain ⟨rfl, h⟩ := h
  replace h := un_ok h; obtain ⟨rfl, h⟩ := h
  cases hr : impl_kidsFit n (TSchema.mk x6) (TQuery.mk x12 x15 x18 x21 x24 x27 x30 x33 x36) with
  | none => rw [hr] at h; cases h
  | some r =>
    rw [hr] at h
    exact ⟨⟨_, body, Try.func149, by decide +kernel, by kernel_rfl⟩, [.ag [.v], .ag [.v, .v, .v, .v, .v, .v, .v, .v, .v]], _, _, by kernel_rfl, h, CallOk.fix (ss := [.ag [.sl .v .int], .ag [.k, .sl .v .iCond, .k, .k, .k, .sl .v .int, .k, .k, .k]]) (by rw [hf]; exact ho (TSchema.mk x6) (TQuery.mk x12 x15 x18 x21 x24 x27 x30 x33 x36) r hr)⟩
end impl_kidsFit
namespace impl_QueryOk
abbrev R : Type := Bool
noncomputable def body : Code := match Try.f96.body with | some c => c | none => .skip
def ann : Ann := ⟨fun k => look2 [(7, [(2, .box [.view .int]), (3, .box [.k, .view .iCond, .k, .k, .k, .view .int, .k, .k, .k]), (5, .k), (28, .view .iCond), (29, .k), (30, .k)]), (16, [(2, .box [.view .int]), (3, .box [.k, .view .iCond, .k, .k, .k, .view .int, .k, .k, .k]), (5, .k), (54, .view .int), (55, .k), (56, .k)])] k, fun k => match look2 [] k with | some l => l | none => [], fun k => match look2 [(0, [(2, .box [.view .int]), (3, .box [.k, .view .iCond, .k, .k, .k, .view .int, .k, .k, .k]), (5, .k)]), (2, [(2, .box [.view .int]), (3, .box [.k, .view .iCond, .k, .k, .k, .view .int, .k, .k, .k]), (5, .k)])] k with | some l => l | none => []⟩
def fin (o : List AV) : Option R := uc o fun a1 l2 => getB a1 fun x3 => un l2 (some (x3 : R))
def inj (r : R) : List AV := [.b r]
theorem fin_ok (o : List AV) (r : R) (h : fin o = some r) : o = inj r := by
  unfold fin at h
  replace h := uc_ok h; obtain ⟨a1, l2, rfl, h⟩ := h
  replace h := getB_ok h; obtain ⟨x3, rfl, h⟩ := h
  replace h := un_ok h; obtain ⟨rfl, h⟩ := h
  cases h
  rfl
def kr (n : Nat) : St → Option R := retK (cx n 112) [.k] [.v] [.tmp 4] [] fin
def lf (n : Nat) : LF R := fun key κd κe v b => cond (Nat.beq key 7)
    (uc v fun a1 l2 => isPb 1 0 a1 (uc l2 fun a3 l4 => isPb 2 0 a3 (uc l4 fun a5 l6 => getI .i64 a5 fun x7 => uc l6 fun a8 l9 => getSl .v .iCond a8 fun x10 => uc l9 fun a11 l12 => getI .i64 a11 fun x13 => uc l12 fun a14 l15 => getI .i64 a14 fun x16 => un l15 (uc b fun a17 l18 => isExt a17 (uc l18 fun a19 l20 => getBox a19 fun c21 => uc c21 fun a22 l23 => getSl .v .int a22 fun x24 => un l23 (uc l20 fun a25 l26 => getBox a25 fun c27 => uc c27 fun a28 l29 => getI .i64 a28 fun x30 => uc l29 fun a31 l32 => getSl .v .iCond a31 fun x33 => uc l32 fun a34 l35 => getI .i64 a34 fun x36 => uc l35 fun a37 l38 => getB a37 fun x39 => uc l38 fun a40 l41 => getI .i64 a40 fun x42 => uc l41 fun a43 l44 => getSl .v .int a43 fun x45 => uc l44 fun a46 l47 => getB a46 fun x48 => uc l47 fun a49 l50 => getI .i64 a49 fun x51 => uc l50 fun a52 l53 => getI .i64 a52 fun x54 => un l53 (un l26 (impl_QueryOk.loop7 n (fun (y0 : Int) (y1 : List Int) (y2 : Int) (y3 : List TCond) (y4 : Int) (y5 : Bool) (y6 : Int) (y7 : List Int) (y8 : Bool) (y9 : Int) (y10 : Int) => κe 0 [.pb 1 0, .pb 2 0, .i .i64 y0] [some .ext, some (.box [.sl .v .int y1]), some (.box [.i .i64 y2, .sl .v .iCond y3, .i .i64 y4, .b y5, .i .i64 y6, .sl .v .int y7, .b y8, .i .i64 y9, .i .i64 y10])]) n x7 x10 x13 x16 x24 x30 x33 x36 x39 x42 x45 x48 x51 x54))))))))
    (cond (Nat.beq key 16)
    (uc v fun a1 l2 => isPb 1 0 a1 (uc l2 fun a3 l4 => isPb 2 0 a3 (uc l4 fun a5 l6 => getI .i64 a5 fun x7 => uc l6 fun a8 l9 => getSl .v .int a8 fun x10 => uc l9 fun a11 l12 => getI .i64 a11 fun x13 => uc l12 fun a14 l15 => getI .i64 a14 fun x16 => un l15 (uc b fun a17 l18 => isExt a17 (uc l18 fun a19 l20 => getBox a19 fun c21 => uc c21 fun a22 l23 => getSl .v .int a22 fun x24 => un l23 (uc l20 fun a25 l26 => getBox a25 fun c27 => uc c27 fun a28 l29 => getI .i64 a28 fun x30 => uc l29 fun a31 l32 => getSl .v .iCond a31 fun x33 => uc l32 fun a34 l35 => getI .i64 a34 fun x36 => uc l35 fun a37 l38 => getB a37 fun x39 => uc l38 fun a40 l41 => getI .i64 a40 fun x42 => uc l41 fun a43 l44 => getSl .v .int a43 fun x45 => uc l44 fun a46 l47 => getB a46 fun x48 => uc l47 fun a49 l50 => getI .i64 a49 fun x51 => uc l50 fun a52 l53 => getI .i64 a52 fun x54 => un l53 (un l26 (impl_QueryOk.loop16 n (fun (y0 : Int) (y1 : List Int) (y2 : Int) (y3 : List TCond) (y4 : Int) (y5 : Bool) (y6 : Int) (y7 : List Int) (y8 : Bool) (y9 : Int) (y10 : Int) => κe 2 [.pb 1 0, .pb 2 0, .i .i64 y0] [some .ext, some (.box [.sl .v .int y1]), some (.box [.i .i64 y2, .sl .v .iCond y3, .i .i64 y4, .b y5, .i .i64 y6, .sl .v .int y7, .b y8, .i .i64 y9, .i .i64 y10])]) n x7 x10 x13 x16 x24 x30 x33 x36 x39 x42 x45 x48 x51 x54))))))))
    (none))
noncomputable def A7 : Code := match pieceAt ann body 0 7 with | some (.loop a _) => a | _ => .skip
theorem round7 (n : Nat) (B : D R) (κe : Nat → D R) (t5 : Int) (t28 : List TCond) (t29 : Int) (t30 : Int) (t20 : List Int) (t30_1 : Int) (t31 : List TCond) (t32 : Int) (t33 : Bool) (t34 : Int) (t35 : List Int) (t36 : Bool) (t37 : Int) (t38 : Int) : run (cx n 112) 1 ann (lf n) (kr n) A7 8 (fun s => cutK 1 [(2, .box [.view .int]), (3, .box [.k, .view .iCond, .k, .k, .k, .view .int, .k, .k, .k]), (5, .k), (28, .view .iCond), (29, .k), (30, .k)] s B) (fun j s => cutK 1 (ann.out j) s (κe j)) (St.ofC [(2, .box [.view .int]), (3, .box [.k, .view .iCond, .k, .k, .k, .view .int, .k, .k, .k]), (5, .k), (28, .view .iCond), (29, .k), (30, .k)] [.pb 1 0, .pb 2 0, .i .i64 t5, .sl .v .iCond t28, .i .i64 t29, .i .i64 t30] [some .ext, some (.box [.sl .v .int t20]), some (.box [.i .i64 t30_1, .sl .v .iCond t31, .i .i64 t32, .b t33, .i .i64 t34, .sl .v .int t35, .b t36, .i .i64 t37, .i .i64 t38])]) =
    impl_QueryOk.step7 n (fun (y0 : Int) (y1 : List Int) (y2 : Int) (y3 : List TCond) (y4 : Int) (y5 : Bool) (y6 : Int) (y7 : List Int) (y8 : Bool) (y9 : Int) (y10 : Int) => κe 0 [.pb 1 0, .pb 2 0, .i .i64 y0] [some .ext, some (.box [.sl .v .int y1]), some (.box [.i .i64 y2, .sl .v .iCond y3, .i .i64 y4, .b y5, .i .i64 y6, .sl .v .int y7, .b y8, .i .i64 y9, .i .i64 y10])]) (fun (z0 : Int) (z1 : List TCond) (z2 : Int) (z3 : Int) (z4 : List Int) (z5 : Int) (z6 : List TCond) (z7 : Int) (z8 : Bool) (z9 : Int) (z10 : List Int) (z11 : Bool) (z12 : Int) (z13 : Int) => B [.pb 1 0, .pb 2 0, .i .i64 z0, .sl .v .iCond z1, .i .i64 z2, .i .i64 z3] [some .ext, some (.box [.sl .v .int z4]), some (.box [.i .i64 z5, .sl .v .iCond z6, .i .i64 z7, .b z8, .i .i64 z9, .sl .v .int z10, .b z11, .i .i64 z12, .i .i64 z13])]) t5 t28 t29 t30 t20 t30_1 t31 t32 t33 t34 t35 t36 t37 t38 := by kernel_rfl
theorem rounds7 (n : Nat) (κe : Nat → D R) : ∀ (N : Nat) (t5 : Int) (t28 : List TCond) (t29 : Int) (t30 : Int) (t20 : List Int) (t30_1 : Int) (t31 : List TCond) (t32 : Int) (t33 : Bool) (t34 : Int) (t35 : List Int) (t36 : Bool) (t37 : Int) (t38 : Int), rounds (cx n 112) 1 ann (lf n) (kr n) A7 8 [(2, .box [.view .int]), (3, .box [.k, .view .iCond, .k, .k, .k, .view .int, .k, .k, .k]), (5, .k), (28, .view .iCond), (29, .k), (30, .k)] κe N [.pb 1 0, .pb 2 0, .i .i64 t5, .sl .v .iCond t28, .i .i64 t29, .i .i64 t30] [some .ext, some (.box [.sl .v .int t20]), some (.box [.i .i64 t30_1, .sl .v .iCond t31, .i .i64 t32, .b t33, .i .i64 t34, .sl .v .int t35, .b t36, .i .i64 t37, .i .i64 t38])] = impl_QueryOk.loop7 n (fun (y0 : Int) (y1 : List Int) (y2 : Int) (y3 : List TCond) (y4 : Int) (y5 : Bool) (y6 : Int) (y7 : List Int) (y8 : Bool) (y9 : Int) (y10 : Int) => κe 0 [.pb 1 0, .pb 2 0, .i .i64 y0] [some .ext, some (.box [.sl .v .int y1]), some (.box [.i .i64 y2, .sl .v .iCond y3, .i .i64 y4, .b y5, .i .i64 y6, .sl .v .int y7, .b y8, .i .i64 y9, .i .i64 y10])]) N t5 t28 t29 t30 t20 t30_1 t31 t32 t33 t34 t35 t36 t37 t38
  | 0, _, _, _, _, _, _, _, _, _, _, _, _, _, _ => rfl
  | N + 1, t5, t28, t29, t30, t20, t30_1, t31, t32, t33, t34, t35, t36, t37, t38 => (round7 n (rounds (cx n 112) 1 ann (lf n) (kr n) A7 8 [(2, .box [.view .int]), (3, .box [.k, .view .iCond, .k, .k, .k, .view .int, .k, .k, .k]), (5, .k), (28, .view .iCond), (29, .k), (30, .k)] κe N) κe t5 t28 t29 t30 t20 t30_1 t31 t32 t33 t34 t35 t36 t37 t38).trans (congrArg (fun back => impl_QueryOk.step7 n (fun (y0 : Int) (y1 : List Int) (y2 : Int) (y3 : List TCond) (y4 : Int) (y5 : Bool) (y6 : Int) (y7 : List Int) (y8 : Bool) (y9 : Int) (y10 : Int) => κe 0 [.pb 1 0, .pb 2 0, .i .i64 y0] [some .ext, some (.box [.sl .v .int y1]), some (.box [.i .i64 y2, .sl .v .iCond y3, .i .i64 y4, .b y5, .i .i64 y6, .sl .v .int y7, .b y8, .i .i64 y9, .i .i64 y10])]) back t5 t28 t29 t30 t20 t30_1 t31 t32 t33 t34 t35 t36 t37 t38) (funext fun z0 => funext fun z1 => funext fun z2 => funext fun z3 => funext fun z4 => funext fun z5 => funext fun z6 => funext fun z7 => funext fun z8 => funext fun z9 => funext fun z10 => funext fun z11 => funext fun z12 => funext fun z13 => rounds7 n κe N z0 z1 z2 z3 z4 z5 z6 z7 z8 z9 z10 z11 z12 z13))
noncomputable def A16 : Code := match pieceAt ann body 0 16 with | some (.loop a _) => a | _ => .skip
theorem round16 (n : Nat) (B : D R) (κe : Nat → D R) (t5 : Int) (t54 : List Int) (t55 : Int) (t56 : Int) (t20 : List Int) (t30 : Int) (t31 : List TCond) (t32 : Int) (t33 : Bool) (t34 : Int) (t35 : List Int) (t36 : Bool) (t37 : Int) (t38 : Int) : run (cx n 112) 1 ann (lf n) (kr n) A16 17 (fun s => cutK 1 [(2, .box [.view .int]), (3, .box [.k, .view .iCond, .k, .k, .k, .view .int, .k, .k, .k]), (5, .k), (54, .view .int), (55, .k), (56, .k)] s B) (fun j s => cutK 1 (ann.out j) s (κe j)) (St.ofC [(2, .box [.view .int]), (3, .box [.k, .view .iCond, .k, .k, .k, .view .int, .k, .k, .k]), (5, .k), (54, .view .int), (55, .k), (56, .k)] [.pb 1 0, .pb 2 0, .i .i64 t5, .sl .v .int t54, .i .i64 t55, .i .i64 t56] [some .ext, some (.box [.sl .v .int t20]), some (.box [.i .i64 t30, .sl .v .iCond t31, .i .i64 t32, .b t33, .i .i64 t34, .sl .v .int t35, .b t36, .i .i64 t37, .i .i64 t38])]) =
    impl_QueryOk.step16 n (fun (y0 : Int) (y1 : List Int) (y2 : Int) (y3 : List TCond) (y4 : Int) (y5 : Bool) (y6 : Int) (y7 : List Int) (y8 : Bool) (y9 : Int) (y10 : Int) => κe 2 [.pb 1 0, .pb 2 0, .i .i64 y0] [some .ext, some (.box [.sl .v .int y1]), some (.box [.i .i64 y2, .sl .v .iCond y3, .i .i64 y4, .b y5, .i .i64 y6, .sl .v .int y7, .b y8, .i .i64 y9, .i .i64 y10])]) (fun (z0 : Int) (z1 : List Int) (z2 : Int) (z3 : Int) (z4 : List Int) (z5 : Int) (z6 : List TCond) (z7 : Int) (z8 : Bool) (z9 : Int) (z10 : List Int) (z11 : Bool) (z12 : Int) (z13 : Int) => B [.pb 1 0, .pb 2 0, .i .i64 z0, .sl .v .int z1, .i .i64 z2, .i .i64 z3] [some .ext, some (.box [.sl .v .int z4]), some (.box [.i .i64 z5, .sl .v .iCond z6, .i .i64 z7, .b z8, .i .i64 z9, .sl .v .int z10, .b z11, .i .i64 z12, .i .i64 z13])]) t5 t54 t55 t56 t20 t30 t31 t32 t33 t34 t35 t36 t37 t38 := by kernel_rfl
theorem rounds16 (n : Nat) (κe : Nat → D R) : ∀ (N : Nat) (t5 : Int) (t54 : List Int) (t55 : Int) (t56 : Int) (t20 : List Int) (t30 : Int) (t31 : List TCond) (t32 : Int) (t33 : Bool) (t34 : Int) (t35 : List Int) (t36 : Bool) (t37 : Int) (t38 : Int), rounds (cx n 112) 1 ann (lf n) (kr n) A16 17 [(2, .box [.view .int]), (3, .box [.k, .view .iCond, .k, .k, .k, .view .int, .k, .k, .k]), (5, .k), (54, .view .int), (55, .k), (56, .k)] κe N [.pb 1 0, .pb 2 0, .i .i64 t5, .sl .v .int t54, .i .i64 t55, .i .i64 t56] [some .ext, some (.box [.sl .v .int t20]), some (.box [.i .i64 t30, .sl .v .iCond t31, .i .i64 t32, .b t33, .i .i64 t34, .sl .v .int t35, .b t36, .i .i64 t37, .i .i64 t38])] = impl_QueryOk.loop16 n (fun (y0 : Int) (y1 : List Int) (y2 : Int) (y3 : List TCond) (y4 : Int) (y5 : Bool) (y6 : Int) (y7 : List Int) (y8 : Bool) (y9 : Int) (y10 : Int) => κe 2 [.pb 1 0, .pb 2 0, .i .i64 y0] [some .ext, some (.box [.sl .v .int y1]), some (.box [.i .i64 y2, .sl .v .iCond y3, .i .i64 y4, .b y5, .i .i64 y6, .sl .v .int y7, .b y8, .i .i64 y9, .i .i64 y10])]) N t5 t54 t55 t56 t20 t30 t31 t32 t33 t34 t35 t36 t37 t38
  | 0, _, _, _, _, _, _, _, _, _, _, _, _, _, _ => rfl
  | N + 1, t5, t54, t55, t56, t20, t30, t31, t32, t33, t34, t35, t36, t37, t38 => (round16 n (rounds (cx n 112) 1 ann (lf n) (kr n) A16 17 [(2, .box [.view .int]), (3, .box [.k, .view .iCond, .k, .k, .k, .view .int, .k, .k, .k]), (5, .k), (54, .view .int), (55, .k), (56, .k)] κe N) κe t5 t54 t55 t56 t20 t30 t31 t32 t33 t34 t35 t36 t37 t38).trans (congrArg (fun back => impl_QueryOk.step16 n (fun (y0 : Int) (y1 : List Int) (y2 : Int) (y3 : List TCond) (y4 : Int) (y5 : Bool) (y6 : Int) (y7 : List Int) (y8 : Bool) (y9 : Int) (y10 : Int) => κe 2 [.pb 1 0, .pb 2 0, .i .i64 y0] [some .ext, some (.box [.sl .v .int y1]), some (.box [.i .i64 y2, .sl .v .iCond y3, .i .i64 y4, .b y5, .i .i64 y6, .sl .v .int y7, .b y8, .i .i64 y9, .i .i64 y10])]) back t5 t54 t55 t56 t20 t30 t31 t32 t33 t34 t35 t36 t37 t38) (funext fun z0 => funext fun z1 => funext fun z2 => funext fun z3 => funext fun z4 => funext fun z5 => funext fun z6 => funext fun z7 => funext fun z8 => funext fun z9 => funext fun z10 => funext fun z11 => funext fun z12 => funext fun z13 => rounds16 n κe N z0 z1 z2 z3 z4 z5 z6 z7 z8 z9 z10 z11 z12 z13))
theorem cuts (n : Nat) : Cuts (cx n 112) 1 ann (lf n) (kr n) body := by
  intro key κd κe v b r h
  unfold lf at h
  cases hk7 : Nat.beq key 7 with
  | true =>
    replace h := cond_t hk7 h
    have := beq_iff.1 hk7
    subst this
    replace h := uc_ok h; obtain ⟨a1, l2, rfl, h⟩ := h
    replace h := isPb_ok h; obtain ⟨rfl, h⟩ := h
    replace h := uc_ok h; obtain ⟨a3, l4, rfl, h⟩ := h
    replace h := isPb_ok h; obtain ⟨rfl, h⟩ := h
    replace h := uc_ok h; obtain ⟨a5, l6, rfl, h⟩ := h
    replace h := getI_ok h; obtain ⟨x7, rfl, h⟩ := h
    replace h := uc_ok h; obtain ⟨a8, l9, rfl, h⟩ := h
    replace h := getSl_ok h; obtain ⟨x10, rfl, h⟩ := h
    replace h := uc_ok h; obtain ⟨a11, l12, rfl, h⟩ := h
    replace h := getI_ok h; obtain ⟨x13, rfl, h⟩ := h
    replace h := uc_ok h; obtain ⟨a14, l15, rfl, h⟩ := h
    replace h := getI_ok h; obtain ⟨x16, rfl, h⟩ := h
    replace h := un_ok h; obtain ⟨rfl, h⟩ := h
    replace h := uc_ok h; obtain ⟨a17, l18, rfl, h⟩ := h
    replace h := isExt_ok h; obtain ⟨rfl, h⟩ := h
    replace h := uc_ok h; obtain ⟨a19, l20, rfl, h⟩ := h
    replace h := getBox_ok h; obtain ⟨c21, rfl, h⟩ := h
    replace h := uc_ok h; obtain ⟨a22, l23, rfl, h⟩ := h
    replace h := getSl_ok h; obtain ⟨x24, rfl, h⟩ := h
    replace h := un_ok h; obtain ⟨rfl, h⟩ := h
    replace h := uc_ok h; obtain ⟨a25, l26, rfl, h⟩ := h
    replace h := getBox_ok h; obtain ⟨c27, rfl, h⟩ := h
    replace h := uc_ok h; obtain ⟨a28, l29, rfl, h⟩ := h
    replace h := getI_ok h; obtain ⟨x30, rfl, h⟩ := h
    replace h := uc_ok h; obtain ⟨a31, l32, rfl, h⟩ := h
    replace h := getSl_ok h; obtain ⟨x33, rfl, h⟩ := h
    replace h := uc_ok h; obtain ⟨a34, l35, rfl, h⟩ := h
    replace h := getI_ok h; obtain ⟨x36, rfl, h⟩ := h
    replace h := uc_ok h; obtain ⟨a37, l38, rfl, h⟩ := h
    replace h := getB_ok h; obtain ⟨x39, rfl, h⟩ := h
    replace h := uc_ok h; obtain ⟨a40, l41, rfl, h⟩ := h
    replace h := getI_ok h; obtain ⟨x42, rfl, h⟩ := h
    replace h := uc_ok h; obtain ⟨a43, l44, rfl, h⟩ := h
    replace h := getSl_ok h; obtain ⟨x45, rfl, h⟩ := h
    replace h := uc_ok h; obtain ⟨a46, l47, rfl, h⟩ := h
    replace h := getB_ok h; obtain ⟨x48, rfl, h⟩ := h
    replace h := uc_ok h; obtain ⟨a49, l50, rfl, h⟩ := h
    replace h := getI_ok h; obtain ⟨x51, rfl, h⟩ := h
    replace h := uc_ok h; obtain ⟨a52, l53, rfl, h⟩ := h
    replace h := getI_ok h; obtain ⟨x54, rfl, h⟩ := h
    replace h := un_ok h; obtain ⟨rfl, h⟩ := h
    replace h := un_ok h; obtain ⟨rfl, h⟩ := h
    exact ⟨[(2, .box [.view .int]), (3, .box [.k, .view .iCond, .k, .k, .k, .view .int, .k, .k, .k]), (5, .k), (28, .view .iCond), (29, .k), (30, .k)], .loop A7 8, by kernel_rfl, by kernel_rfl, ⟨n, (rounds7 n κe n x7 x10 x13 x16 x24 x30 x33 x36 x39 x42 x45 x48 x51 x54).trans h⟩⟩
  | false =>
    replace h := cond_f hk7 h
    cases hk16 : Nat.beq key 16 with
    | true =>
      replace h := cond_t hk16 h
      have := beq_iff.1 hk16
      subst this
      replace h := uc_ok h; obtain ⟨a1, l2, rfl, h⟩ := h
      replace h := isPb_ok h; obtain ⟨rfl, h⟩ := h
      replace h := uc_ok h; obtain ⟨a3, l4, rfl, h⟩ := h
      replace h := isPb_ok h; obtain ⟨rfl, h⟩ := h
      replace h := uc_ok h; obtain ⟨a5, l6, rfl, h⟩ := h
      replace h := getI_ok h; obtain ⟨x7, rfl, h⟩ := h
      replace h := uc_ok h; obtain ⟨a8, l9, rfl, h⟩ := h
      replace h := getSl_ok h; obtain ⟨x10, rfl, h⟩ := h
      replace h := uc_ok h; obtain ⟨a11, l12, rfl, h⟩ := h
      replace h := getI_ok h; obtain ⟨x13, rfl, h⟩ := h
      replace h := uc_ok h; obtain ⟨a14, l15, rfl, h⟩ := h
      replace h := getI_ok h; obtain ⟨x16, rfl, h⟩ := h
      replace h := un_ok h; obtain ⟨rfl, h⟩ := h
      replace h := uc_ok h; obtain ⟨a17, l18, rfl, h⟩ := h
      replace h := isExt_ok h; obtain ⟨rfl, h⟩ := h
      replace h := uc_ok h; obtain ⟨a19, l20, rfl, h⟩ := h
      replace h := getBox_ok h; obtain ⟨c21, rfl, h⟩ := h
      replace h := uc_ok h; obtain ⟨a22, l23, rfl, h⟩ := h
      replace h := getSl_ok h; obtain ⟨x24, rfl, h⟩ := h
      replace h := un_ok h; obtain ⟨rfl, h⟩ := h
      replace h := uc_ok h; obtain ⟨a25, l26, rfl, h⟩ := h
      replace h := getBox_ok h; obtain ⟨c27, rfl, h⟩ := h
      replace h := uc_ok h; obtain ⟨a28, l29, rfl, h⟩ := h
      replace h := getI_ok h; obtain ⟨x30, rfl, h⟩ := h
      replace h := uc_ok h; obtain ⟨a31, l32, rfl, h⟩ := h
      replace h := getSl_ok h; obtain ⟨x33, rfl, h⟩ := h
      replace h := uc_ok h; obtain ⟨a34, l35, rfl, h⟩ := h
      replace h := getI_ok h; obtain ⟨x36, rfl, h⟩ := h
      replace h := uc_ok h; obtain ⟨a37, l38, rfl, h⟩ := h
      replace h := getB_ok h; obtain ⟨x39, rfl, h⟩ := h
      replace h := uc_ok h; obtain ⟨a40, l41, rfl, h⟩ := h
      replace h := getI_ok h; obtain ⟨x42, rfl, h⟩ := h
      replace h := uc_ok h; obtain ⟨a43, l44, rfl, h⟩ := h
      replace h := getSl_ok h; obtain ⟨x45, rfl, h⟩ := h
      replace h := uc_ok h; obtain ⟨a46, l47, rfl, h⟩ := h
      replace h := getB_ok h; obtain ⟨x48, rfl, h⟩ := h
      replace h := uc_ok h; obtain ⟨a49, l50, rfl, h⟩ := h
      replace h := getI_ok h; obtain ⟨x51, rfl, h⟩ := h
      replace h := uc_ok h; obtain ⟨a52, l53, rfl, h⟩ := h
      replace h := getI_ok h; obtain ⟨x54, rfl, h⟩ := h
      replace h := un_ok h; obtain ⟨rfl, h⟩ := h
      replace h := un_ok h; obtain ⟨rfl, h⟩ := h
      exact ⟨[(2, .box [.view .int]), (3, .box [.k, .view .iCond, .k, .k, .k, .view .int, .k, .k, .k]), (5, .k), (54, .view .int), (55, .k), (56, .k)], .loop A16 17, by kernel_rfl, by kernel_rfl, ⟨n, (rounds16 n κe n x7 x10 x13 x16 x24 x30 x33 x36 x39 x42 x45 x48 x51 x54).trans h⟩⟩
    | false =>
      replace h := cond_f hk16 h
      cases h
theorem top (n : Nat) (o : TSchema) (append : TQuery) : entryK 1 [.ag [.sl .v .int o.cols], .ag [.i .i64 append.table, .sl .v .iCond append.where_, .i .i64 append.order, .b append.down, .i .i64 append.first, .sl .v .int append.show_, .b append.kids, .i .i64 append.kidTable, .i .i64 append.kidCol]] (fun v b => match outOfAll [.ag [.v], .ag [.v, .v, .v, .v, .v, .v, .v, .v, .v]] v with
      | some o => cond (AV.allRoots o []) (run (cx n 112) 1 ann (lf n) (kr n) body 0 (kr n) (fun _ _ => none) (St.ofC (live0 2) v b)) none
      | none => none) = impl_QueryOk (n + 1) o append := by kernel_rfl
def Ok (n : Nat) : Prop := ∀ (o : TSchema) (append : TQuery) (res_ : R), impl_QueryOk n o append = some res_ → CallOk E 96 [.ag [.sl .v .int o.cols], .ag [.i .i64 append.table, .sl .v .iCond append.where_, .i .i64 append.order, .b append.down, .i .i64 append.first, .sl .v .int append.show_, .b append.kids, .i .i64 append.kidTable, .i .i64 append.kidCol]] (rvOf 1 (inj res_)) ((inj res_).drop 1) [.ag [.v], .ag [.v, .v, .v, .v, .v, .v, .v, .v, .v]]
theorem ok (n : Nat) (hc : CxOk E (cx n 112)) (hK : KPar (cx n 112)) : Ok (n + 1) := fun o append res_ h_ =>
  fn_sound hc hK mixedOk Try.func96 (by kernel_rfl) (by kernel_rfl) (by kernel_rfl) (by decide) fin_ok (by kernel_rfl) ((top n o append).trans h_) (cuts n)
theorem Kpar (n : Nat) {ω : Type} {avs : List AV} {κ : AV → List AV → Option ω} {q : ω} (h : impl_QueryOk.K n avs κ = some q) : ∃ rv outs, κ rv outs = some q ∧ ∀ (ω' : Type) (κ' : AV → List AV → Option ω'), impl_QueryOk.K n avs κ' = κ' rv outs := by
  unfold K at h
  generalize hf : fixes [.ag [.sl .v .int], .ag [.k, .sl .v .iCond, .k, .k, .k, .sl .v .int, .k, .k, .k]] avs = v at h
  replace h := uc_ok h; obtain ⟨a1, l2, rfl, h⟩ := h
  replace h := getAg_ok h; obtain ⟨c3, rfl, h⟩ := h
  replace h := uc_ok h; obtain ⟨a4, l5, rfl, h⟩ := h
  replace h := getSl_ok h; obtain ⟨x6, rfl, h⟩ := h
  replace h := un_ok h; obtain ⟨rfl, h⟩ := h
  replace h := uc_ok h; obtain ⟨a7, l8, rfl, h⟩ := h
  replace h := getAg_ok h; obtain ⟨c9, rfl, h⟩ := h
  replace h := uc_ok h; obtain ⟨a10, l11, rfl, h⟩ := h
  replace h := getI_ok h; obtain ⟨x12, rfl, h⟩ := h
  replace h := uc_ok h; obtain ⟨a13, l14, rfl, h⟩ := h
  replace h := getSl_ok h; obtain ⟨x15, rfl, h⟩ := h
  replace h := uc_ok h; obtain ⟨a16, l17, rfl, h⟩ := h
  replace h := getI_ok h; obtain ⟨x18, rfl, h⟩ := h
  replace h := uc_ok h; obtain ⟨a19, l20, rfl, h⟩ := h
  replace h := getB_ok h; obtain ⟨x21, rfl, h⟩ := h
  replace h := uc_ok h; obtain ⟨a22, l23, rfl, h⟩ := h
  replace h := getI_ok h; obtain ⟨x24, rfl, h⟩ := h
  replace h := uc_ok h; obtain ⟨a25, l26, rfl, h⟩ := h
  replace h := getSl_ok h; obtain ⟨x27, rfl, h⟩ := h
  replace h := uc_ok h; obtain ⟨a28, l29, rfl, h⟩ := h
  replace h := getB_ok h; obtain ⟨x30, rfl, h⟩ := h
  replace h := uc_ok h; obtain ⟨a31, l32, rfl, h⟩ := h
  replace h := getI_ok h; obtain ⟨x33, rfl, h⟩ := h
  replace h := uc_ok h; obtain ⟨a34, l35, rfl, h⟩ := h
  replace h := getI_ok h; obtain ⟨x36, rfl, h⟩ := h
  replace h := un_ok h; obtain ⟨rfl, h⟩ := h
  replace h := un_ok h; obtain ⟨rfl, h⟩ := h
  cases hr : impl_QueryOk n (TSchema.mk x6) (TQuery.mk x12 x15 x18 x21 x24 x27 x30 x33 x36) with
  | none => rw [hr] at h; cases h
  | some r =>
    rw [hr] at h
    exact ⟨_, _, h, fun ω' κ' => by unfold K; rw [hf]; exact congrArg (fun z : Option R => z.bind _) hr⟩
theorem Kok (n : Nat) (ho : Ok n) {ω : Type} {avs : List AV} {κ : AV → List AV → Option ω} {q : ω} (h : impl_QueryOk.K n avs κ = some q) : FnOk E 96 ∧ ∃ ps rv outs, (cx n 0).sig 96 = some ps ∧ κ rv outs = some q ∧ CallOk E 96 avs rv outs ps := by
  unfold K at h
  generalize hf : fixes [.ag [.sl .v .int], .ag [.k, .sl .v .iCond, .k, .k, .k, .sl .v .int, .k, .k, .k]] avs = v at h
  replace h := uc_ok h; obtain ⟨a1, l2, rfl, h⟩ := h
  replace h := getAg_ok h; obtain ⟨c3, rfl, h⟩ := h
  replace h := uc_ok h; obtain ⟨a4, l5, rfl, h⟩ := h
  replace h := getSl_ok h; obtain ⟨x6, rfl, h⟩ := h
  replace h := un_ok h; obtain ⟨rfl, h⟩ := h
  replace h := uc_ok h; obtain ⟨a7, l8, rfl, h⟩ := h
  replace h := getAg_ok h; obtain ⟨c9, rfl, h⟩ := h
  replace h := uc_ok h; obtain ⟨a10, l11, rfl, h⟩ := h
  replace h := getI_ok h; obtain ⟨x12, rfl, h⟩ := h
  replace h := uc_ok h; obtain ⟨a13, l14, rfl, h⟩ := h
  replace h := getSl_ok h; obtain ⟨x15, rfl, h⟩ := h
  replace h := uc_ok h; obtain ⟨a16, l17, rfl, h⟩ := h
  replace h := getI_ok h; obtain ⟨x18, rfl, h⟩ := h
  replace h := uc_ok h; obtain ⟨a19, l20, rfl, h⟩ := h
  replace h := getB_ok h; obtain ⟨x21, rfl, h⟩ := h
  replace h := uc_ok h; obtain ⟨a22, l23, rfl, h⟩ := h
  replace h := getI_ok h; obtain ⟨x24, rfl, h⟩ := h
  replace h := uc_ok h; obtain ⟨a25, l26, rfl, h⟩ := h
  replace h := getSl_ok h; obtain ⟨x27, rfl, h⟩ := h
  replace h := uc_ok h; obtain ⟨a28, l29, rfl, h⟩ := h
  replace h := getB_ok h; obtain ⟨x30, rfl, h⟩ := h
  replace h := uc_ok h; obtain ⟨a31, l32, rfl, h⟩ := h
  replace h := getI_ok h; obtain ⟨x33, rfl, h⟩ := h
  replace h := uc_ok h; obtain ⟨a34, l35, rfl, h⟩ := h
  replace h := getI_ok h; obtain ⟨x36, rfl, h⟩ := h
  replace h := un_ok h; obtain ⟨rfl, h⟩ := h
  replace h := un_ok h; obtain ⟨rfl, h⟩ := h
  cases hr : impl_QueryOk n (TSchema.mk x6) (TQuery.mk x12 x15 x18 x21 x24 x27 x30 x33 x36) with
  | none => rw [hr] at h; cases h
  | some r =>
    rw [hr] at h
    exact ⟨⟨_, body, Try.func96, by decide +kernel, by kernel_rfl⟩, [.ag [.v], .ag [.v, .v, .v, .v, .v, .v, .v, .v, .v]], _, _, by kernel_rfl, h, CallOk.fix (ss := [.ag [.sl .v .int], .ag [.k, .sl .v .iCond, .k, .k, .k, .sl .v .int, .k, .k, .k]]) (by rw [hf]; exact ho (TSchema.mk x6) (TQuery.mk x12 x15 x18 x21 x24 x27 x30 x33 x36) r hr)⟩
end impl_QueryOk
namespace impl_RowOk
abbrev R : Type := Bool
noncomputable def body : Code := match Try.f97.body with | some c => c | none => .skip
def ann : Ann := ⟨fun k => look2 [(3, [(1, .k), (3, .box [.view .int]), (5, .box [.k, .view .int]), (10, .view .int), (11, .k), (12, .k)])] k, fun k => match look2 [] k with | some l => l | none => [], fun k => match look2 [(0, [(1, .k), (3, .box [.view .int]), (5, .box [.k, .view .int])])] k with | some l => l | none => []⟩
def fin (o : List AV) : Option R := uc o fun a1 l2 => getB a1 fun x3 => un l2 (some (x3 : R))
def inj (r : R) : List AV := [.b r]
theorem fin_ok (o : List AV) (r : R) (h : fin o = some r) : o = inj r := by
  unfold fin at h
  replace h := uc_ok h; obtain ⟨a1, l2, rfl, h⟩ := h
  replace h := getB_ok h; obtain ⟨x3, rfl, h⟩ := h
  replace h := un_ok h; obtain ⟨rfl, h⟩ := h
  cases h
  rfl
def kr (n : Nat) : St → Option R := retK (cx n 43) [.k] [.v] [.tmp 6] [] fin
def lf (n : Nat) : LF R := fun key κd κe v b => cond (Nat.beq key 3)
    (uc v fun a1 l2 => getI .i64 a1 fun x3 => uc l2 fun a4 l5 => isPb 1 0 a4 (uc l5 fun a6 l7 => isPb 2 0 a6 (uc l7 fun a8 l9 => getSl .v .int a8 fun x10 => uc l9 fun a11 l12 => getI .i64 a11 fun x13 => uc l12 fun a14 l15 => getI .i64 a14 fun x16 => un l15 (uc b fun a17 l18 => isExt a17 (uc l18 fun a19 l20 => getBox a19 fun c21 => uc c21 fun a22 l23 => getSl .v .int a22 fun x24 => un l23 (uc l20 fun a25 l26 => getBox a25 fun c27 => uc c27 fun a28 l29 => getI .i64 a28 fun x30 => uc l29 fun a31 l32 => getSl .v .int a31 fun x33 => un l32 (un l26 (impl_RowOk.loop3 n (fun (y0 : Int) (y1 : List Int) (y2 : Int) (y3 : List Int) => κe 0 [.i .i64 y0, .pb 1 0, .pb 2 0] [some .ext, some (.box [.sl .v .int y1]), some (.box [.i .i64 y2, .sl .v .int y3])]) n x3 x10 x13 x16 x24 x30 x33))))))))
    (none)
noncomputable def A3 : Code := match pieceAt ann body 0 3 with | some (.loop a _) => a | _ => .skip
theorem round3 (n : Nat) (B : D R) (κe : Nat → D R) (table : Int) (t10 : List Int) (t11 : Int) (t12 : Int) (s0 : List Int) (r0 : Int) (r1 : List Int) : run (cx n 43) 1 ann (lf n) (kr n) A3 4 (fun s => cutK 1 [(1, .k), (3, .box [.view .int]), (5, .box [.k, .view .int]), (10, .view .int), (11, .k), (12, .k)] s B) (fun j s => cutK 1 (ann.out j) s (κe j)) (St.ofC [(1, .k), (3, .box [.view .int]), (5, .box [.k, .view .int]), (10, .view .int), (11, .k), (12, .k)] [.i .i64 table, .pb 1 0, .pb 2 0, .sl .v .int t10, .i .i64 t11, .i .i64 t12] [some .ext, some (.box [.sl .v .int s0]), some (.box [.i .i64 r0, .sl .v .int r1])]) =
    impl_RowOk.step3 n (fun (y0 : Int) (y1 : List Int) (y2 : Int) (y3 : List Int) => κe 0 [.i .i64 y0, .pb 1 0, .pb 2 0] [some .ext, some (.box [.sl .v .int y1]), some (.box [.i .i64 y2, .sl .v .int y3])]) (fun (z0 : Int) (z1 : List Int) (z2 : Int) (z3 : Int) (z4 : List Int) (z5 : Int) (z6 : List Int) => B [.i .i64 z0, .pb 1 0, .pb 2 0, .sl .v .int z1, .i .i64 z2, .i .i64 z3] [some .ext, some (.box [.sl .v .int z4]), some (.box [.i .i64 z5, .sl .v .int z6])]) table t10 t11 t12 s0 r0 r1 := by kernel_rfl
theorem rounds3 (n : Nat) (κe : Nat → D R) : ∀ (N : Nat) (table : Int) (t10 : List Int) (t11 : Int) (t12 : Int) (s0 : List Int) (r0 : Int) (r1 : List Int), rounds (cx n 43) 1 ann (lf n) (kr n) A3 4 [(1, .k), (3, .box [.view .int]), (5, .box [.k, .view .int]), (10, .view .int), (11, .k), (12, .k)] κe N [.i .i64 table, .pb 1 0, .pb 2 0, .sl .v .int t10, .i .i64 t11, .i .i64 t12] [some .ext, some (.box [.sl .v .int s0]), some (.box [.i .i64 r0, .sl .v .int r1])] = impl_RowOk.loop3 n (fun (y0 : Int) (y1 : List Int) (y2 : Int) (y3 : List Int) => κe 0 [.i .i64 y0, .pb 1 0, .pb 2 0] [some .ext, some (.box [.sl .v .int y1]), some (.box [.i .i64 y2, .sl .v .int y3])]) N table t10 t11 t12 s0 r0 r1
  | 0, _, _, _, _, _, _, _ => rfl
  | N + 1, table, t10, t11, t12, s0, r0, r1 => (round3 n (rounds (cx n 43) 1 ann (lf n) (kr n) A3 4 [(1, .k), (3, .box [.view .int]), (5, .box [.k, .view .int]), (10, .view .int), (11, .k), (12, .k)] κe N) κe table t10 t11 t12 s0 r0 r1).trans (congrArg (fun back => impl_RowOk.step3 n (fun (y0 : Int) (y1 : List Int) (y2 : Int) (y3 : List Int) => κe 0 [.i .i64 y0, .pb 1 0, .pb 2 0] [some .ext, some (.box [.sl .v .int y1]), some (.box [.i .i64 y2, .sl .v .int y3])]) back table t10 t11 t12 s0 r0 r1) (funext fun z0 => funext fun z1 => funext fun z2 => funext fun z3 => funext fun z4 => funext fun z5 => funext fun z6 => rounds3 n κe N z0 z1 z2 z3 z4 z5 z6))
theorem cuts (n : Nat) : Cuts (cx n 43) 1 ann (lf n) (kr n) body := by
  intro key κd κe v b r h
  unfold lf at h
  cases hk3 : Nat.beq key 3 with
  | true =>
    replace h := cond_t hk3 h
    have := beq_iff.1 hk3
    subst this
    replace h := uc_ok h; obtain ⟨a1, l2, rfl, h⟩ := h
    replace h := getI_ok h; obtain ⟨x3, rfl, h⟩ := h
    replace h := uc_ok h; obtain ⟨a4, l5, rfl, h⟩ := h
    replace h := isPb_ok h; obtain ⟨rfl, h⟩ := h
    replace h := uc_ok h; obtain ⟨a6, l7, rfl, h⟩ := h
    replace h := isPb_ok h; obtain ⟨rfl, h⟩ := h
    replace h := uc_ok h; obtain ⟨a8, l9, rfl, h⟩ := h
    replace h := getSl_ok h; obtain ⟨x10, rfl, h⟩ := h
    replace h := uc_ok h; obtain ⟨a11, l12, rfl, h⟩ := h
    replace h := getI_ok h; obtain ⟨x13, rfl, h⟩ := h
    replace h := uc_ok h; obtain ⟨a14, l15, rfl, h⟩ := h
    replace h := getI_ok h; obtain ⟨x16, rfl, h⟩ := h
    replace h := un_ok h; obtain ⟨rfl, h⟩ := h
    replace h := uc_ok h; obtain ⟨a17, l18, rfl, h⟩ := h
    replace h := isExt_ok h; obtain ⟨rfl, h⟩ := h
    replace h := uc_ok h; obtain ⟨a19, l20, rfl, h⟩ := h
    replace h := getBox_ok h; obtain ⟨c21, rfl, h⟩ := h
    replace h := uc_ok h; obtain ⟨a22, l23, rfl, h⟩ := h
    replace h := getSl_ok h; obtain ⟨x24, rfl, h⟩ := h
    replace h := un_ok h; obtain ⟨rfl, h⟩ := h
    replace h := uc_ok h; obtain ⟨a25, l26, rfl, h⟩ := h
    replace h := getBox_ok h; obtain ⟨c27, rfl, h⟩ := h
    replace h := uc_ok h; obtain ⟨a28, l29, rfl, h⟩ := h
    replace h := getI_ok h; obtain ⟨x30, rfl, h⟩ := h
    replace h := uc_ok h; obtain ⟨a31, l32, rfl, h⟩ := h
    replace h := getSl_ok h; obtain ⟨x33, rfl, h⟩ := h
    replace h := un_ok h; obtain ⟨rfl, h⟩ := h
    replace h := un_ok h; obtain ⟨rfl, h⟩ := h
    exact ⟨[(1, .k), (3, .box [.view .int]), (5, .box [.k, .view .int]), (10, .view .int), (11, .k), (12, .k)], .loop A3 4, by kernel_rfl, by kernel_rfl, ⟨n, (rounds3 n κe n x3 x10 x13 x16 x24 x30 x33).trans h⟩⟩
  | false =>
    replace h := cond_f hk3 h
    cases h
theorem top (n : Nat) (s : TSchema) (table : Int) (r : TRow) : entryK 1 [.ag [.sl .v .int s.cols], .i .i64 table, .ag [.i .i64 r.id_, .sl .v .int r.cells]] (fun v b => match outOfAll [.ag [.v], .v, .ag [.v, .v]] v with
      | some o => cond (AV.allRoots o []) (run (cx n 43) 1 ann (lf n) (kr n) body 0 (kr n) (fun _ _ => none) (St.ofC (live0 3) v b)) none
      | none => none) = impl_RowOk (n + 1) s table r := by kernel_rfl
def Ok (n : Nat) : Prop := ∀ (s : TSchema) (table : Int) (r : TRow) (res_ : R), impl_RowOk n s table r = some res_ → CallOk E 97 [.ag [.sl .v .int s.cols], .i .i64 table, .ag [.i .i64 r.id_, .sl .v .int r.cells]] (rvOf 1 (inj res_)) ((inj res_).drop 1) [.ag [.v], .v, .ag [.v, .v]]
theorem ok (n : Nat) (hc : CxOk E (cx n 43)) (hK : KPar (cx n 43)) : Ok (n + 1) := fun s table r res_ h_ =>
  fn_sound hc hK mixedOk Try.func97 (by kernel_rfl) (by kernel_rfl) (by kernel_rfl) (by decide) fin_ok (by kernel_rfl) ((top n s table r).trans h_) (cuts n)
theorem Kpar (n : Nat) {ω : Type} {avs : List AV} {κ : AV → List AV → Option ω} {q : ω} (h : impl_RowOk.K n avs κ = some q) : ∃ rv outs, κ rv outs = some q ∧ ∀ (ω' : Type) (κ' : AV → List AV → Option ω'), impl_RowOk.K n avs κ' = κ' rv outs := by
  unfold K at h
  generalize hf : fixes [.ag [.sl .v .int], .k, .ag [.k, .sl .v .int]] avs = v at h
  replace h := uc_ok h; obtain ⟨a1, l2, rfl, h⟩ := h
  replace h := getAg_ok h; obtain ⟨c3, rfl, h⟩ := h
  replace h := uc_ok h; obtain ⟨a4, l5, rfl, h⟩ := h
  replace h := getSl_ok h; obtain ⟨x6, rfl, h⟩ := h
  replace h := un_ok h; obtain ⟨rfl, h⟩ := h
  replace h := uc_ok h; obtain ⟨a7, l8, rfl, h⟩ := h
  replace h := getI_ok h; obtain ⟨x9, rfl, h⟩ := h
  replace h := uc_ok h; obtain ⟨a10, l11, rfl, h⟩ := h
  replace h := getAg_ok h; obtain ⟨c12, rfl, h⟩ := h
  replace h := uc_ok h; obtain ⟨a13, l14, rfl, h⟩ := h
  replace h := getI_ok h; obtain ⟨x15, rfl, h⟩ := h
  replace h := uc_ok h; obtain ⟨a16, l17, rfl, h⟩ := h
  replace h := getSl_ok h; obtain ⟨x18, rfl, h⟩ := h
  replace h := un_ok h; obtain ⟨rfl, h⟩ := h
  replace h := un_ok h; obtain ⟨rfl, h⟩ := h
  cases hr : impl_RowOk n (TSchema.mk x6) x9 (TRow.mk x15 x18) with
  | none => rw [hr] at h; cases h
  | some r =>
    rw [hr] at h
    exact ⟨_, _, h, fun ω' κ' => by unfold K; rw [hf]; exact congrArg (fun z : Option R => z.bind _) hr⟩
theorem Kok (n : Nat) (ho : Ok n) {ω : Type} {avs : List AV} {κ : AV → List AV → Option ω} {q : ω} (h : impl_RowOk.K n avs κ = some q) : FnOk E 97 ∧ ∃ ps rv outs, (cx n 0).sig 97 = some ps ∧ κ rv outs = some q ∧ CallOk E 97 avs rv outs ps := by
  unfold K at h
  generalize hf : fixes [.ag [.sl .v .int], .k, .ag [.k, .sl .v .int]] avs = v at h
  replace h := uc_ok h; obtain ⟨a1, l2, rfl, h⟩ := h
  replace h := getAg_ok h; obtain ⟨c3, rfl, h⟩ := h
  replace h := uc_ok h; obtain ⟨a4, l5, rfl, h⟩ := h
  replace h := getSl_ok h; obtain ⟨x6, rfl, h⟩ := h
  replace h := un_ok h; obtain ⟨rfl, h⟩ := h
  replace h := uc_ok h; obtain ⟨a7, l8, rfl, h⟩ := h
  replace h := getI_ok h; obtain ⟨x9, rfl, h⟩ := h
  replace h := uc_ok h; obtain ⟨a10, l11, rfl, h⟩ := h
  replace h := getAg_ok h; obtain ⟨c12, rfl, h⟩ := h
  replace h := uc_ok h; obtain ⟨a13, l14, rfl, h⟩ := h
  replace h := getI_ok h; obtain ⟨x15, rfl, h⟩ := h
  replace h := uc_ok h; obtain ⟨a16, l17, rfl, h⟩ := h
  replace h := getSl_ok h; obtain ⟨x18, rfl, h⟩ := h
  replace h := un_ok h; obtain ⟨rfl, h⟩ := h
  replace h := un_ok h; obtain ⟨rfl, h⟩ := h
  cases hr : impl_RowOk n (TSchema.mk x6) x9 (TRow.mk x15 x18) with
  | none => rw [hr] at h; cases h
  | some r =>
    rw [hr] at h
    exact ⟨⟨_, body, Try.func97, by decide +kernel, by kernel_rfl⟩, [.ag [.v], .v, .ag [.v, .v]], _, _, by kernel_rfl, h, CallOk.fix (ss := [.ag [.sl .v .int], .k, .ag [.k, .sl .v .int]]) (by rw [hf]; exact ho (TSchema.mk x6) x9 (TRow.mk x15 x18) r hr)⟩
end impl_RowOk
namespace impl_holds
abbrev R : Type := Bool
noncomputable def body : Code := match Try.f150.body with | some c => c | none => .skip
def ann : Ann := ⟨fun k => look2 [] k, fun k => match look2 [] k with | some l => l | none => [], fun k => match look2 [] k with | some l => l | none => []⟩
def fin (o : List AV) : Option R := uc o fun a1 l2 => getB a1 fun x3 => un l2 (some (x3 : R))
def inj (r : R) : List AV := [.b r]
theorem fin_ok (o : List AV) (r : R) (h : fin o = some r) : o = inj r := by
  unfold fin at h
  replace h := uc_ok h; obtain ⟨a1, l2, rfl, h⟩ := h
  replace h := getB_ok h; obtain ⟨x3, rfl, h⟩ := h
  replace h := un_ok h; obtain ⟨rfl, h⟩ := h
  cases h
  rfl
def kr (n : Nat) : St → Option R := retK (cx n 49) [.k] [.v] [.tmp 4] [] fin
def lf (n : Nat) : LF R := fun key κd κe v b => none
theorem cuts (n : Nat) : Cuts (cx n 49) 1 ann (lf n) (kr n) body := by
  intro key κd κe v b r h
  unfold lf at h
  cases h
theorem top (n : Nat) (c : TCond) (r : TRow) : entryK 1 [.ag [.i .i64 c.col, .i .i64 c.op, .i .i64 c.v], .ag [.i .i64 r.id_, .sl .v .int r.cells]] (fun v b => match outOfAll [.ag [.v, .v, .v], .ag [.v, .v]] v with
      | some o => cond (AV.allRoots o []) (run (cx n 49) 1 ann (lf n) (kr n) body 0 (kr n) (fun _ _ => none) (St.ofC (live0 2) v b)) none
      | none => none) = impl_holds (n + 1) c r := by kernel_rfl
def Ok (n : Nat) : Prop := ∀ (c : TCond) (r : TRow) (res_ : R), impl_holds n c r = some res_ → CallOk E 150 [.ag [.i .i64 c.col, .i .i64 c.op, .i .i64 c.v], .ag [.i .i64 r.id_, .sl .v .int r.cells]] (rvOf 1 (inj res_)) ((inj res_).drop 1) [.ag [.v, .v, .v], .ag [.v, .v]]
theorem ok (n : Nat) (hc : CxOk E (cx n 49)) (hK : KPar (cx n 49)) : Ok (n + 1) := fun c r res_ h_ =>
  fn_sound hc hK mixedOk Try.func150 (by kernel_rfl) (by kernel_rfl) (by kernel_rfl) (by decide) fin_ok (by kernel_rfl) ((top n c r).trans h_) (cuts n)
theorem Kpar (n : Nat) {ω : Type} {avs : List AV} {κ : AV → List AV → Option ω} {q : ω} (h : impl_holds.K n avs κ = some q) : ∃ rv outs, κ rv outs = some q ∧ ∀ (ω' : Type) (κ' : AV → List AV → Option ω'), impl_holds.K n avs κ' = κ' rv outs := by
  unfold K at h
  generalize hf : fixes [.ag [.k, .k, .k], .ag [.k, .sl .v .int]] avs = v at h
  replace h := uc_ok h; obtain ⟨a1, l2, rfl, h⟩ := h
  replace h := getAg_ok h; obtain ⟨c3, rfl, h⟩ := h
  replace h := uc_ok h; obtain ⟨a4, l5, rfl, h⟩ := h
  replace h := getI_ok h; obtain ⟨x6, rfl, h⟩ := h
  replace h := uc_ok h; obtain ⟨a7, l8, rfl, h⟩ := h
  replace h := getI_ok h; obtain ⟨x9, rfl, h⟩ := h
  replace h := uc_ok h; obtain ⟨a10, l11, rfl, h⟩ := h
  replace h := getI_ok h; obtain ⟨x12, rfl, h⟩ := h
  replace h := un_ok h; obtain ⟨rfl, h⟩ := h
  replace h := uc_ok h; obtain ⟨a13, l14, rfl, h⟩ := h
  replace h := getAg_ok h; obtain ⟨c15, rfl, h⟩ := h
  replace h := uc_ok h; obtain ⟨a16, l17, rfl, h⟩ := h
  replace h := getI_ok h; obtain ⟨x18, rfl, h⟩ := h
  replace h := uc_ok h; obtain ⟨a19, l20, rfl, h⟩ := h
  replace h := getSl_ok h; obtain ⟨x21, rfl, h⟩ := h
  replace h := un_ok h; obtain ⟨rfl, h⟩ := h
  replace h := un_ok h; obtain ⟨rfl, h⟩ := h
  cases hr : impl_holds n (TCond.mk x6 x9 x12) (TRow.mk x18 x21) with
  | none => rw [hr] at h; cases h
  | some r =>
    rw [hr] at h
    exact ⟨_, _, h, fun ω' κ' => by unfold K; rw [hf]; exact congrArg (fun z : Option R => z.bind _) hr⟩
theorem Kok (n : Nat) (ho : Ok n) {ω : Type} {avs : List AV} {κ : AV → List AV → Option ω} {q : ω} (h : impl_holds.K n avs κ = some q) : FnOk E 150 ∧ ∃ ps rv outs, (cx n 0).sig 150 = some ps ∧ κ rv outs = some q ∧ CallOk E 150 avs rv outs ps := by
  unfold K at h
  generalize hf : fixes [.ag [.k, .k, .k], .ag [.k, .sl .v .int]] avs = v at h
  replace h := uc_ok h; obtain ⟨a1, l2, rfl, h⟩ := h
  replace h := getAg_ok h; obtain ⟨c3, rfl, h⟩ := h
  replace h := uc_ok h; obtain ⟨a4, l5, rfl, h⟩ := h
  replace h := getI_ok h; obtain ⟨x6, rfl, h⟩ := h
  replace h := uc_ok h; obtain ⟨a7, l8, rfl, h⟩ := h
  replace h := getI_ok h; obtain ⟨x9, rfl, h⟩ := h
  replace h := uc_ok h; obtain ⟨a10, l11, rfl, h⟩ := h
  replace h := getI_ok h; obtain ⟨x12, rfl, h⟩ := h
  replace h := un_ok h; obtain ⟨rfl, h⟩ := h
  replace h := uc_ok h; obtain ⟨a13, l14, rfl, h⟩ := h
  replace h := getAg_ok h; obtain ⟨c15, rfl, h⟩ := h
  replace h := uc_ok h; obtain ⟨a16, l17, rfl, h⟩ := h
  replace h := getI_ok h; obtain ⟨x18, rfl, h⟩ := h
  replace h := uc_ok h; obtain ⟨a19, l20, rfl, h⟩ := h
  replace h := getSl_ok h; obtain ⟨x21, rfl, h⟩ := h
  replace h := un_ok h; obtain ⟨rfl, h⟩ := h
  replace h := un_ok h; obtain ⟨rfl, h⟩ := h
  cases hr : impl_holds n (TCond.mk x6 x9 x12) (TRow.mk x18 x21) with
  | none => rw [hr] at h; cases h
  | some r =>
    rw [hr] at h
    exact ⟨⟨_, body, Try.func150, by decide +kernel, by kernel_rfl⟩, [.ag [.v, .v, .v], .ag [.v, .v]], _, _, by kernel_rfl, h, CallOk.fix (ss := [.ag [.k, .k, .k], .ag [.k, .sl .v .int]]) (by rw [hf]; exact ho (TCond.mk x6 x9 x12) (TRow.mk x18 x21) r hr)⟩
end impl_holds
namespace impl_Matches
abbrev R : Type := Bool
noncomputable def body : Code := match Try.f98.body with | some c => c | none => .skip
def ann : Ann := ⟨fun k => look2 [(3, [(3, .box [.k, .view .int]), (8, .view .iCond), (9, .k), (10, .k)])] k, fun k => match look2 [] k with | some l => l | none => [], fun k => match look2 [(0, [])] k with | some l => l | none => []⟩
def fin (o : List AV) : Option R := uc o fun a1 l2 => getB a1 fun x3 => un l2 (some (x3 : R))
def inj (r : R) : List AV := [.b r]
theorem fin_ok (o : List AV) (r : R) (h : fin o = some r) : o = inj r := by
  unfold fin at h
  replace h := uc_ok h; obtain ⟨a1, l2, rfl, h⟩ := h
  replace h := getB_ok h; obtain ⟨x3, rfl, h⟩ := h
  replace h := un_ok h; obtain ⟨rfl, h⟩ := h
  cases h
  rfl
def kr (n : Nat) : St → Option R := retK (cx n 19) [.k] [.v] [.tmp 4] [] fin
def lf (n : Nat) : LF R := fun key κd κe v b => cond (Nat.beq key 3)
    (uc v fun a1 l2 => isPb 1 0 a1 (uc l2 fun a3 l4 => getSl .v .iCond a3 fun x5 => uc l4 fun a6 l7 => getI .i64 a6 fun x8 => uc l7 fun a9 l10 => getI .i64 a9 fun x11 => un l10 (uc b fun a12 l13 => isExt a12 (uc l13 fun a14 l15 => getBox a14 fun c16 => uc c16 fun a17 l18 => getI .i64 a17 fun x19 => uc l18 fun a20 l21 => getSl .v .int a20 fun x22 => un l21 (un l15 (impl_Matches.loop3 n (fun (_ : Unit) => κe 0 [] [some .ext]) n x5 x8 x11 x19 x22))))))
    (none)
noncomputable def A3 : Code := match pieceAt ann body 0 3 with | some (.loop a _) => a | _ => .skip
theorem round3 (n : Nat) (B : D R) (κe : Nat → D R) (t8 : List TCond) (t9 : Int) (t10 : Int) (r0 : Int) (r1 : List Int) : run (cx n 19) 1 ann (lf n) (kr n) A3 4 (fun s => cutK 1 [(3, .box [.k, .view .int]), (8, .view .iCond), (9, .k), (10, .k)] s B) (fun j s => cutK 1 (ann.out j) s (κe j)) (St.ofC [(3, .box [.k, .view .int]), (8, .view .iCond), (9, .k), (10, .k)] [.pb 1 0, .sl .v .iCond t8, .i .i64 t9, .i .i64 t10] [some .ext, some (.box [.i .i64 r0, .sl .v .int r1])]) =
    impl_Matches.step3 n (fun (_ : Unit) => κe 0 [] [some .ext]) (fun (z0 : List TCond) (z1 : Int) (z2 : Int) (z3 : Int) (z4 : List Int) => B [.pb 1 0, .sl .v .iCond z0, .i .i64 z1, .i .i64 z2] [some .ext, some (.box [.i .i64 z3, .sl .v .int z4])]) t8 t9 t10 r0 r1 := by kernel_rfl
theorem rounds3 (n : Nat) (κe : Nat → D R) : ∀ (N : Nat) (t8 : List TCond) (t9 : Int) (t10 : Int) (r0 : Int) (r1 : List Int), rounds (cx n 19) 1 ann (lf n) (kr n) A3 4 [(3, .box [.k, .view .int]), (8, .view .iCond), (9, .k), (10, .k)] κe N [.pb 1 0, .sl .v .iCond t8, .i .i64 t9, .i .i64 t10] [some .ext, some (.box [.i .i64 r0, .sl .v .int r1])] = impl_Matches.loop3 n (fun (_ : Unit) => κe 0 [] [some .ext]) N t8 t9 t10 r0 r1
  | 0, _, _, _, _, _ => rfl
  | N + 1, t8, t9, t10, r0, r1 => (round3 n (rounds (cx n 19) 1 ann (lf n) (kr n) A3 4 [(3, .box [.k, .view .int]), (8, .view .iCond), (9, .k), (10, .k)] κe N) κe t8 t9 t10 r0 r1).trans (congrArg (fun back => impl_Matches.step3 n (fun (_ : Unit) => κe 0 [] [some .ext]) back t8 t9 t10 r0 r1) (funext fun z0 => funext fun z1 => funext fun z2 => funext fun z3 => funext fun z4 => rounds3 n κe N z0 z1 z2 z3 z4))
theorem cuts (n : Nat) : Cuts (cx n 19) 1 ann (lf n) (kr n) body := by
  intro key κd κe v b r h
  unfold lf at h
  cases hk3 : Nat.beq key 3 with
  | true =>
    replace h := cond_t hk3 h
    have := beq_iff.1 hk3
    subst this
    replace h := uc_ok h; obtain ⟨a1, l2, rfl, h⟩ := h
    replace h := isPb_ok h; obtain ⟨rfl, h⟩ := h
    replace h := uc_ok h; obtain ⟨a3, l4, rfl, h⟩ := h
    replace h := getSl_ok h; obtain ⟨x5, rfl, h⟩ := h
    replace h := uc_ok h; obtain ⟨a6, l7, rfl, h⟩ := h
    replace h := getI_ok h; obtain ⟨x8, rfl, h⟩ := h
    replace h := uc_ok h; obtain ⟨a9, l10, rfl, h⟩ := h
    replace h := getI_ok h; obtain ⟨x11, rfl, h⟩ := h
    replace h := un_ok h; obtain ⟨rfl, h⟩ := h
    replace h := uc_ok h; obtain ⟨a12, l13, rfl, h⟩ := h
    replace h := isExt_ok h; obtain ⟨rfl, h⟩ := h
    replace h := uc_ok h; obtain ⟨a14, l15, rfl, h⟩ := h
    replace h := getBox_ok h; obtain ⟨c16, rfl, h⟩ := h
    replace h := uc_ok h; obtain ⟨a17, l18, rfl, h⟩ := h
    replace h := getI_ok h; obtain ⟨x19, rfl, h⟩ := h
    replace h := uc_ok h; obtain ⟨a20, l21, rfl, h⟩ := h
    replace h := getSl_ok h; obtain ⟨x22, rfl, h⟩ := h
    replace h := un_ok h; obtain ⟨rfl, h⟩ := h
    replace h := un_ok h; obtain ⟨rfl, h⟩ := h
    exact ⟨[(3, .box [.k, .view .int]), (8, .view .iCond), (9, .k), (10, .k)], .loop A3 4, by kernel_rfl, by kernel_rfl, ⟨n, (rounds3 n κe n x5 x8 x11 x19 x22).trans h⟩⟩
  | false =>
    replace h := cond_f hk3 h
    cases h
theorem top (n : Nat) (q : TQuery) (r : TRow) : entryK 1 [.ag [.i .i64 q.table, .sl .v .iCond q.where_, .i .i64 q.order, .b q.down, .i .i64 q.first, .sl .v .int q.show_, .b q.kids, .i .i64 q.kidTable, .i .i64 q.kidCol], .ag [.i .i64 r.id_, .sl .v .int r.cells]] (fun v b => match outOfAll [.ag [.v, .v, .v, .v, .v, .v, .v, .v, .v], .ag [.v, .v]] v with
      | some o => cond (AV.allRoots o []) (run (cx n 19) 1 ann (lf n) (kr n) body 0 (kr n) (fun _ _ => none) (St.ofC (live0 2) v b)) none
      | none => none) = impl_Matches (n + 1) q r := by kernel_rfl
def Ok (n : Nat) : Prop := ∀ (q : TQuery) (r : TRow) (res_ : R), impl_Matches n q r = some res_ → CallOk E 98 [.ag [.i .i64 q.table, .sl .v .iCond q.where_, .i .i64 q.order, .b q.down, .i .i64 q.first, .sl .v .int q.show_, .b q.kids, .i .i64 q.kidTable, .i .i64 q.kidCol], .ag [.i .i64 r.id_, .sl .v .int r.cells]] (rvOf 1 (inj res_)) ((inj res_).drop 1) [.ag [.v, .v, .v, .v, .v, .v, .v, .v, .v], .ag [.v, .v]]
theorem ok (n : Nat) (hc : CxOk E (cx n 19)) (hK : KPar (cx n 19)) : Ok (n + 1) := fun q r res_ h_ =>
  fn_sound hc hK mixedOk Try.func98 (by kernel_rfl) (by kernel_rfl) (by kernel_rfl) (by decide) fin_ok (by kernel_rfl) ((top n q r).trans h_) (cuts n)
theorem Kpar (n : Nat) {ω : Type} {avs : List AV} {κ : AV → List AV → Option ω} {q : ω} (h : impl_Matches.K n avs κ = some q) : ∃ rv outs, κ rv outs = some q ∧ ∀ (ω' : Type) (κ' : AV → List AV → Option ω'), impl_Matches.K n avs κ' = κ' rv outs := by
  unfold K at h
  generalize hf : fixes [.ag [.k, .sl .v .iCond, .k, .k, .k, .sl .v .int, .k, .k, .k], .ag [.k, .sl .v .int]] avs = v at h
  replace h := uc_ok h; obtain ⟨a1, l2, rfl, h⟩ := h
  replace h := getAg_ok h; obtain ⟨c3, rfl, h⟩ := h
  replace h := uc_ok h; obtain ⟨a4, l5, rfl, h⟩ := h
  replace h := getI_ok h; obtain ⟨x6, rfl, h⟩ := h
  replace h := uc_ok h; obtain ⟨a7, l8, rfl, h⟩ := h
  replace h := getSl_ok h; obtain ⟨x9, rfl, h⟩ := h
  replace h := uc_ok h; obtain ⟨a10, l11, rfl, h⟩ := h
  replace h := getI_ok h; obtain ⟨x12, rfl, h⟩ := h
  replace h := uc_ok h; obtain ⟨a13, l14, rfl, h⟩ := h
  replace h := getB_ok h; obtain ⟨x15, rfl, h⟩ := h
  replace h := uc_ok h; obtain ⟨a16, l17, rfl, h⟩ := h
  replace h := getI_ok h; obtain ⟨x18, rfl, h⟩ := h
  replace h := uc_ok h; obtain ⟨a19, l20, rfl, h⟩ := h
  replace h := getSl_ok h; obtain ⟨x21, rfl, h⟩ := h
  replace h := uc_ok h; obtain ⟨a22, l23, rfl, h⟩ := h
  replace h := getB_ok h; obtain ⟨x24, rfl, h⟩ := h
  replace h := uc_ok h; obtain ⟨a25, l26, rfl, h⟩ := h
  replace h := getI_ok h; obtain ⟨x27, rfl, h⟩ := h
  replace h := uc_ok h; obtain ⟨a28, l29, rfl, h⟩ := h
  replace h := getI_ok h; obtain ⟨x30, rfl, h⟩ := h
  replace h := un_ok h; obtain ⟨rfl, h⟩ := h
  replace h := uc_ok h; obtain ⟨a31, l32, rfl, h⟩ := h
  replace h := getAg_ok h; obtain ⟨c33, rfl, h⟩ := h
  replace h := uc_ok h; obtain ⟨a34, l35, rfl, h⟩ := h
  replace h := getI_ok h; obtain ⟨x36, rfl, h⟩ := h
  replace h := uc_ok h; obtain ⟨a37, l38, rfl, h⟩ := h
  replace h := getSl_ok h; obtain ⟨x39, rfl, h⟩ := h
  replace h := un_ok h; obtain ⟨rfl, h⟩ := h
  replace h := un_ok h; obtain ⟨rfl, h⟩ := h
  cases hr : impl_Matches n (TQuery.mk x6 x9 x12 x15 x18 x21 x24 x27 x30) (TRow.mk x36 x39) with
  | none => rw [hr] at h; cases h
  | some r =>
    rw [hr] at h
    exact ⟨_, _, h, fun ω' κ' => by unfold K; rw [hf]; exact congrArg (fun z : Option R => z.bind _) hr⟩
theorem Kok (n : Nat) (ho : Ok n) {ω : Type} {avs : List AV} {κ : AV → List AV → Option ω} {q : ω} (h : impl_Matches.K n avs κ = some q) : FnOk E 98 ∧ ∃ ps rv outs, (cx n 0).sig 98 = some ps ∧ κ rv outs = some q ∧ CallOk E 98 avs rv outs ps := by
  unfold K at h
  generalize hf : fixes [.ag [.k, .sl .v .iCond, .k, .k, .k, .sl .v .int, .k, .k, .k], .ag [.k, .sl .v .int]] avs = v at h
  replace h := uc_ok h; obtain ⟨a1, l2, rfl, h⟩ := h
  replace h := getAg_ok h; obtain ⟨c3, rfl, h⟩ := h
  replace h := uc_ok h; obtain ⟨a4, l5, rfl, h⟩ := h
  replace h := getI_ok h; obtain ⟨x6, rfl, h⟩ := h
  replace h := uc_ok h; obtain ⟨a7, l8, rfl, h⟩ := h
  replace h := getSl_ok h; obtain ⟨x9, rfl, h⟩ := h
  replace h := uc_ok h; obtain ⟨a10, l11, rfl, h⟩ := h
  replace h := getI_ok h; obtain ⟨x12, rfl, h⟩ := h
  replace h := uc_ok h; obtain ⟨a13, l14, rfl, h⟩ := h
  replace h := getB_ok h; obtain ⟨x15, rfl, h⟩ := h
  replace h := uc_ok h; obtain ⟨a16, l17, rfl, h⟩ := h
  replace h := getI_ok h; obtain ⟨x18, rfl, h⟩ := h
  replace h := uc_ok h; obtain ⟨a19, l20, rfl, h⟩ := h
  replace h := getSl_ok h; obtain ⟨x21, rfl, h⟩ := h
  replace h := uc_ok h; obtain ⟨a22, l23, rfl, h⟩ := h
  replace h := getB_ok h; obtain ⟨x24, rfl, h⟩ := h
  replace h := uc_ok h; obtain ⟨a25, l26, rfl, h⟩ := h
  replace h := getI_ok h; obtain ⟨x27, rfl, h⟩ := h
  replace h := uc_ok h; obtain ⟨a28, l29, rfl, h⟩ := h
  replace h := getI_ok h; obtain ⟨x30, rfl, h⟩ := h
  replace h := un_ok h; obtain ⟨rfl, h⟩ := h
  replace h := uc_ok h; obtain ⟨a31, l32, rfl, h⟩ := h
  replace h := getAg_ok h; obtain ⟨c33, rfl, h⟩ := h
  replace h := uc_ok h; obtain ⟨a34, l35, rfl, h⟩ := h
  replace h := getI_ok h; obtain ⟨x36, rfl, h⟩ := h
  replace h := uc_ok h; obtain ⟨a37, l38, rfl, h⟩ := h
  replace h := getSl_ok h; obtain ⟨x39, rfl, h⟩ := h
  replace h := un_ok h; obtain ⟨rfl, h⟩ := h
  replace h := un_ok h; obtain ⟨rfl, h⟩ := h
  cases hr : impl_Matches n (TQuery.mk x6 x9 x12 x15 x18 x21 x24 x27 x30) (TRow.mk x36 x39) with
  | none => rw [hr] at h; cases h
  | some r =>
    rw [hr] at h
    exact ⟨⟨_, body, Try.func98, by decide +kernel, by kernel_rfl⟩, [.ag [.v, .v, .v, .v, .v, .v, .v, .v, .v], .ag [.v, .v]], _, _, by kernel_rfl, h, CallOk.fix (ss := [.ag [.k, .sl .v .iCond, .k, .k, .k, .sl .v .int, .k, .k, .k], .ag [.k, .sl .v .int]]) (by rw [hf]; exact ho (TQuery.mk x6 x9 x12 x15 x18 x21 x24 x27 x30) (TRow.mk x36 x39) r hr)⟩
end impl_Matches
end Go.Pi
end
