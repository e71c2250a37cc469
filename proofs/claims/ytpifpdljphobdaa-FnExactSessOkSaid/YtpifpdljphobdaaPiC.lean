/- The row of FnExactSessOk: the program's SessOk returns what the reference's returns, for all arguments. No condition. Text 3 of 6. -/
import Derived.Test.YtpifpdljphobdaaPiB
import Derived.Test.YtpifpdljphobdaaChecked
section
set_option linter.unusedVariables false
set_option maxRecDepth 100000
namespace Go.Pi
open Go.Proofs
instance coding : Coding where
  enc := fun m t => match t with
    | .int => fun (x : Int) => [AV.i .i64 x]
    | .u8 => fun (x : Int) => [AV.i .u8 x]
    | .str => fun (x : Bs) => [AV.s x]
    | .lCond => fun (x : TCond) => [AV.i .i64 x.col, AV.i .i64 x.op, AV.i .i64 x.v]
    | .lRow => fun (x : TRow) => [AV.i .i64 x.id_, AV.sl m .int x.cells]
    | .lKid => fun (x : TKid) => [AV.i .i64 x.id_, AV.i .i64 x.n_]
    | .iCond => fun (x : TCond) => [AV.i .i64 x.col, AV.i .i64 x.op, AV.i .i64 x.v]
    | .iRow => fun (x : TRow) => [AV.i .i64 x.id_, AV.sl m .int x.cells]
    | .iKid => fun (x : TKid) => [AV.i .i64 x.id_, AV.i .i64 x.n_]
    | .s_iRow => fun (x : List TRow) => [AV.sl m .iRow x]
    | .iChange => fun (x : TChange) => [AV.i .i64 x.table, AV.b x.had, AV.b x.has, AV.i .i64 x.old.id_, AV.sl m .int x.old.cells, AV.i .i64 x.new.id_, AV.sl m .int x.new.cells]
    | .s_iChange => fun (x : List TChange) => [AV.sl m .iChange x]
    | .iSeat => fun (x : TSeat) => [AV.i .i64 x.sess.view.q.table, AV.sl m .iCond x.sess.view.q.where_, AV.i .i64 x.sess.view.q.order, AV.b x.sess.view.q.down, AV.i .i64 x.sess.view.q.first, AV.sl m .int x.sess.view.q.show_, AV.b x.sess.view.q.kids, AV.i .i64 x.sess.view.q.kidTable, AV.i .i64 x.sess.view.q.kidCol, AV.sl m .iRow x.sess.view.rows, AV.sl m .iKid x.sess.view.kids, AV.i .i64 x.sess.version, AV.i .i64 x.sess.last.q.table, AV.sl m .iCond x.sess.last.q.where_, AV.i .i64 x.sess.last.q.order, AV.b x.sess.last.q.down, AV.i .i64 x.sess.last.q.first, AV.sl m .int x.sess.last.q.show_, AV.b x.sess.last.q.kids, AV.i .i64 x.sess.last.q.kidTable, AV.i .i64 x.sess.last.q.kidCol, AV.sl m .iRow x.sess.last.rows, AV.sl m .iKid x.sess.last.kids, AV.i .i64 x.sess.lastVersion, AV.b x.sess.began, AV.s x.line.wait, AV.i .i64 x.line.gone, AV.s x.sent, AV.s x.came, AV.b x.gone]
  dec := fun t => match t with
    | .int => fun l => uc l fun a1 l2 => getI .i64 a1 fun x3 => un l2 (some (x3 : Int))
    | .u8 => fun l => uc l fun a1 l2 => getI .u8 a1 fun x3 => un l2 (some (x3 : Int))
    | .str => fun l => uc l fun a1 l2 => getS a1 fun x3 => un l2 (some (x3 : Bs))
    | .lCond => fun l => uc l fun a1 l2 => getI .i64 a1 fun x3 => uc l2 fun a4 l5 => getI .i64 a4 fun x6 => uc l5 fun a7 l8 => getI .i64 a7 fun x9 => un l8 (some ((TCond.mk x3 x6 x9) : TCond))
    | .lRow => fun l => uc l fun a1 l2 => getI .i64 a1 fun x3 => uc l2 fun a4 l5 => getAny .int a4 fun x6 => un l5 (some ((TRow.mk x3 x6) : TRow))
    | .lKid => fun l => uc l fun a1 l2 => getI .i64 a1 fun x3 => uc l2 fun a4 l5 => getI .i64 a4 fun x6 => un l5 (some ((TKid.mk x3 x6) : TKid))
    | .iCond => fun l => uc l fun a1 l2 => getI .i64 a1 fun x3 => uc l2 fun a4 l5 => getI .i64 a4 fun x6 => uc l5 fun a7 l8 => getI .i64 a7 fun x9 => un l8 (some ((TCond.mk x3 x6 x9) : TCond))
    | .iRow => fun l => uc l fun a1 l2 => getI .i64 a1 fun x3 => uc l2 fun a4 l5 => getAny .int a4 fun x6 => un l5 (some ((TRow.mk x3 x6) : TRow))
    | .iKid => fun l => uc l fun a1 l2 => getI .i64 a1 fun x3 => uc l2 fun a4 l5 => getI .i64 a4 fun x6 => un l5 (some ((TKid.mk x3 x6) : TKid))
    | .s_iRow => fun l => uc l fun a1 l2 => getAny .iRow a1 fun x3 => un l2 (some (x3 : List TRow))
    | .iChange => fun l => uc l fun a1 l2 => getI .i64 a1 fun x3 => uc l2 fun a4 l5 => getB a4 fun x6 => uc l5 fun a7 l8 => getB a7 fun x9 => uc l8 fun a10 l11 => getI .i64 a10 fun x12 => uc l11 fun a13 l14 => getAny .int a13 fun x15 => uc l14 fun a17 l18 => getI .i64 a17 fun x19 => uc l18 fun a20 l21 => getAny .int a20 fun x22 => un l21 (some ((TChange.mk x3 x6 x9 (TRow.mk x12 x15) (TRow.mk x19 x22)) : TChange))
    | .s_iChange => fun l => uc l fun a1 l2 => getAny .iChange a1 fun x3 => un l2 (some (x3 : List TChange))
    | .iSeat => fun l => uc l fun a1 l2 => getI .i64 a1 fun x3 => uc l2 fun a4 l5 => getAny .iCond a4 fun x6 => uc l5 fun a8 l9 => getI .i64 a8 fun x10 => uc l9 fun a11 l12 => getB a11 fun x13 => uc l12 fun a14 l15 => getI .i64 a14 fun x16 => uc l15 fun a17 l18 => getAny .int a17 fun x19 => uc l18 fun a21 l22 => getB a21 fun x23 => uc l22 fun a24 l25 => getI .i64 a24 fun x26 => uc l25 fun a27 l28 => getI .i64 a27 fun x29 => uc l28 fun a30 l31 => getAny .iRow a30 fun x32 => uc l31 fun a34 l35 => getAny .iKid a34 fun x36 => uc l35 fun a38 l39 => getI .i64 a38 fun x40 => uc l39 fun a41 l42 => getI .i64 a41 fun x43 => uc l42 fun a44 l45 => getAny .iCond a44 fun x46 => uc l45 fun a48 l49 => getI .i64 a48 fun x50 => uc l49 fun a51 l52 => getB a51 fun x53 => uc l52 fun a54 l55 => getI .i64 a54 fun x56 => uc l55 fun a57 l58 => getAny .int a57 fun x59 => uc l58 fun a61 l62 => getB a61 fun x63 => uc l62 fun a64 l65 => getI .i64 a64 fun x66 => uc l65 fun a67 l68 => getI .i64 a67 fun x69 => uc l68 fun a70 l71 => getAny .iRow a70 fun x72 => uc l71 fun a74 l75 => getAny .iKid a74 fun x76 => uc l75 fun a78 l79 => getI .i64 a78 fun x80 => uc l79 fun a81 l82 => getB a81 fun x83 => uc l82 fun a84 l85 => getS a84 fun x86 => uc l85 fun a87 l88 => getI .i64 a87 fun x89 => uc l88 fun a90 l91 => getS a90 fun x92 => uc l91 fun a93 l94 => getS a93 fun x95 => uc l94 fun a96 l97 => getB a96 fun x98 => un l97 (some ((TSeat.mk (TSess.mk (TView.mk (TQuery.mk x3 x6 x10 x13 x16 x19 x23 x26 x29) x32 x36) x40 (TView.mk (TQuery.mk x43 x46 x50 x53 x56 x59 x63 x66 x69) x72 x76) x80 x83) (TLine.mk x86 x89) x92 x95 x98) : TSeat))
instance codingOk : CodingOk where
  len := by intro m t x; cases t <;> rfl
  pos := by intro t; cases t <;> decide
  view := by intro m t x; cases t <;> rfl
  flat := by intro m m' t x h; cases t <;> first | rfl | cases h
  cell := by
    intro m t x a ha
    refine coded_of ?_ a ha
    cases t <;> cases m <;> rfl
  u8 := by intro m n; rfl
  dec := by
    intro m t l y h
    cases t with
    | int =>
      replace h : (uc l fun a1 l2 => getI .i64 a1 fun x3 => un l2 (some (x3 : Int))) = some y := h
      replace h := uc_ok h; obtain ⟨a1, l2, rfl, h⟩ := h
      replace h := getI_ok h; obtain ⟨x3, rfl, h⟩ := h
      replace h := un_ok h; obtain ⟨rfl, h⟩ := h
      cases h
      exact ⟨rfl, trivial⟩
    | u8 =>
      replace h : (uc l fun a1 l2 => getI .u8 a1 fun x3 => un l2 (some (x3 : Int))) = some y := h
      replace h := uc_ok h; obtain ⟨a1, l2, rfl, h⟩ := h
      replace h := getI_ok h; obtain ⟨x3, rfl, h⟩ := h
      replace h := un_ok h; obtain ⟨rfl, h⟩ := h
      cases h
      exact ⟨rfl, trivial⟩
    | str =>
      replace h : (uc l fun a1 l2 => getS a1 fun x3 => un l2 (some (x3 : Bs))) = some y := h
      replace h := uc_ok h; obtain ⟨a1, l2, rfl, h⟩ := h
      replace h := getS_ok h; obtain ⟨x3, rfl, h⟩ := h
      replace h := un_ok h; obtain ⟨rfl, h⟩ := h
      cases h
      exact ⟨rfl, trivial⟩
    | lCond =>
      replace h : (uc l fun a1 l2 => getI .i64 a1 fun x3 => uc l2 fun a4 l5 => getI .i64 a4 fun x6 => uc l5 fun a7 l8 => getI .i64 a7 fun x9 => un l8 (some ((TCond.mk x3 x6 x9) : TCond))) = some y := h
      replace h := uc_ok h; obtain ⟨a1, l2, rfl, h⟩ := h
      replace h := getI_ok h; obtain ⟨x3, rfl, h⟩ := h
      replace h := uc_ok h; obtain ⟨a4, l5, rfl, h⟩ := h
      replace h := getI_ok h; obtain ⟨x6, rfl, h⟩ := h
      replace h := uc_ok h; obtain ⟨a7, l8, rfl, h⟩ := h
      replace h := getI_ok h; obtain ⟨x9, rfl, h⟩ := h
      replace h := un_ok h; obtain ⟨rfl, h⟩ := h
      cases h
      exact ⟨rfl, rfl, rfl, trivial⟩
    | lRow =>
      replace h : (uc l fun a1 l2 => getI .i64 a1 fun x3 => uc l2 fun a4 l5 => getAny .int a4 fun x6 => un l5 (some ((TRow.mk x3 x6) : TRow))) = some y := h
      replace h := uc_ok h; obtain ⟨a1, l2, rfl, h⟩ := h
      replace h := getI_ok h; obtain ⟨x3, rfl, h⟩ := h
      replace h := uc_ok h; obtain ⟨a4, l5, rfl, h⟩ := h
      replace h := getAny_ok h; obtain ⟨x6, h, z7⟩ := h
      replace h := un_ok h; obtain ⟨rfl, h⟩ := h
      cases h
      exact ⟨rfl, z7 m, trivial⟩
    | lKid =>
      replace h : (uc l fun a1 l2 => getI .i64 a1 fun x3 => uc l2 fun a4 l5 => getI .i64 a4 fun x6 => un l5 (some ((TKid.mk x3 x6) : TKid))) = some y := h
      replace h := uc_ok h; obtain ⟨a1, l2, rfl, h⟩ := h
      replace h := getI_ok h; obtain ⟨x3, rfl, h⟩ := h
      replace h := uc_ok h; obtain ⟨a4, l5, rfl, h⟩ := h
      replace h := getI_ok h; obtain ⟨x6, rfl, h⟩ := h
      replace h := un_ok h; obtain ⟨rfl, h⟩ := h
      cases h
      exact ⟨rfl, rfl, trivial⟩
    | iCond =>
      replace h : (uc l fun a1 l2 => getI .i64 a1 fun x3 => uc l2 fun a4 l5 => getI .i64 a4 fun x6 => uc l5 fun a7 l8 => getI .i64 a7 fun x9 => un l8 (some ((TCond.mk x3 x6 x9) : TCond))) = some y := h
      replace h := uc_ok h; obtain ⟨a1, l2, rfl, h⟩ := h
      replace h := getI_ok h; obtain ⟨x3, rfl, h⟩ := h
      replace h := uc_ok h; obtain ⟨a4, l5, rfl, h⟩ := h
      replace h := getI_ok h; obtain ⟨x6, rfl, h⟩ := h
      replace h := uc_ok h; obtain ⟨a7, l8, rfl, h⟩ := h
      replace h := getI_ok h; obtain ⟨x9, rfl, h⟩ := h
      replace h := un_ok h; obtain ⟨rfl, h⟩ := h
      cases h
      exact ⟨rfl, rfl, rfl, trivial⟩
    | iRow =>
      replace h : (uc l fun a1 l2 => getI .i64 a1 fun x3 => uc l2 fun a4 l5 => getAny .int a4 fun x6 => un l5 (some ((TRow.mk x3 x6) : TRow))) = some y := h
      replace h := uc_ok h; obtain ⟨a1, l2, rfl, h⟩ := h
      replace h := getI_ok h; obtain ⟨x3, rfl, h⟩ := h
      replace h := uc_ok h; obtain ⟨a4, l5, rfl, h⟩ := h
      replace h := getAny_ok h; obtain ⟨x6, h, z7⟩ := h
      replace h := un_ok h; obtain ⟨rfl, h⟩ := h
      cases h
      exact ⟨rfl, z7 m, trivial⟩
    | iKid =>
      replace h : (uc l fun a1 l2 => getI .i64 a1 fun x3 => uc l2 fun a4 l5 => getI .i64 a4 fun x6 => un l5 (some ((TKid.mk x3 x6) : TKid))) = some y := h
      replace h := uc_ok h; obtain ⟨a1, l2, rfl, h⟩ := h
      replace h := getI_ok h; obtain ⟨x3, rfl, h⟩ := h
      replace h := uc_ok h; obtain ⟨a4, l5, rfl, h⟩ := h
      replace h := getI_ok h; obtain ⟨x6, rfl, h⟩ := h
      replace h := un_ok h; obtain ⟨rfl, h⟩ := h
      cases h
      exact ⟨rfl, rfl, trivial⟩
    | s_iRow =>
      replace h : (uc l fun a1 l2 => getAny .iRow a1 fun x3 => un l2 (some (x3 : List TRow))) = some y := h
      replace h := uc_ok h; obtain ⟨a1, l2, rfl, h⟩ := h
      replace h := getAny_ok h; obtain ⟨x3, h, z4⟩ := h
      replace h := un_ok h; obtain ⟨rfl, h⟩ := h
      cases h
      exact ⟨z4 m, trivial⟩
    | iChange =>
      replace h : (uc l fun a1 l2 => getI .i64 a1 fun x3 => uc l2 fun a4 l5 => getB a4 fun x6 => uc l5 fun a7 l8 => getB a7 fun x9 => uc l8 fun a10 l11 => getI .i64 a10 fun x12 => uc l11 fun a13 l14 => getAny .int a13 fun x15 => uc l14 fun a17 l18 => getI .i64 a17 fun x19 => uc l18 fun a20 l21 => getAny .int a20 fun x22 => un l21 (some ((TChange.mk x3 x6 x9 (TRow.mk x12 x15) (TRow.mk x19 x22)) : TChange))) = some y := h
      replace h := uc_ok h; obtain ⟨a1, l2, rfl, h⟩ := h
      replace h := getI_ok h; obtain ⟨x3, rfl, h⟩ := h
      replace h := uc_ok h; obtain ⟨a4, l5, rfl, h⟩ := h
      replace h := getB_ok h; obtain ⟨x6, rfl, h⟩ := h
      replace h := uc_ok h; obtain ⟨a7, l8, rfl, h⟩ := h
      replace h := getB_ok h; obtain ⟨x9, rfl, h⟩ := h
      replace h := uc_ok h; obtain ⟨a10, l11, rfl, h⟩ := h
      replace h := getI_ok h; obtain ⟨x12, rfl, h⟩ := h
      replace h := uc_ok h; obtain ⟨a13, l14, rfl, h⟩ := h
      replace h := getAny_ok h; obtain ⟨x15, h, z16⟩ := h
      replace h := uc_ok h; obtain ⟨a17, l18, rfl, h⟩ := h
      replace h := getI_ok h; obtain ⟨x19, rfl, h⟩ := h
      replace h := uc_ok h; obtain ⟨a20, l21, rfl, h⟩ := h
      replace h := getAny_ok h; obtain ⟨x22, h, z23⟩ := h
      replace h := un_ok h; obtain ⟨rfl, h⟩ := h
      cases h
      exact ⟨rfl, rfl, rfl, rfl, z16 m, rfl, z23 m, trivial⟩
    | s_iChange =>
      replace h : (uc l fun a1 l2 => getAny .iChange a1 fun x3 => un l2 (some (x3 : List TChange))) = some y := h
      replace h := uc_ok h; obtain ⟨a1, l2, rfl, h⟩ := h
      replace h := getAny_ok h; obtain ⟨x3, h, z4⟩ := h
      replace h := un_ok h; obtain ⟨rfl, h⟩ := h
      cases h
      exact ⟨z4 m, trivial⟩
    | iSeat =>
      replace h : (uc l fun a1 l2 => getI .i64 a1 fun x3 => uc l2 fun a4 l5 => getAny .iCond a4 fun x6 => uc l5 fun a8 l9 => getI .i64 a8 fun x10 => uc l9 fun a11 l12 => getB a11 fun x13 => uc l12 fun a14 l15 => getI .i64 a14 fun x16 => uc l15 fun a17 l18 => getAny .int a17 fun x19 => uc l18 fun a21 l22 => getB a21 fun x23 => uc l22 fun a24 l25 => getI .i64 a24 fun x26 => uc l25 fun a27 l28 => getI .i64 a27 fun x29 => uc l28 fun a30 l31 => getAny .iRow a30 fun x32 => uc l31 fun a34 l35 => getAny .iKid a34 fun x36 => uc l35 fun a38 l39 => getI .i64 a38 fun x40 => uc l39 fun a41 l42 => getI .i64 a41 fun x43 => uc l42 fun a44 l45 => getAny .iCond a44 fun x46 => uc l45 fun a48 l49 => getI .i64 a48 fun x50 => uc l49 fun a51 l52 => getB a51 fun x53 => uc l52 fun a54 l55 => getI .i64 a54 fun x56 => uc l55 fun a57 l58 => getAny .int a57 fun x59 => uc l58 fun a61 l62 => getB a61 fun x63 => uc l62 fun a64 l65 => getI .i64 a64 fun x66 => uc l65 fun a67 l68 => getI .i64 a67 fun x69 => uc l68 fun a70 l71 => getAny .iRow a70 fun x72 => uc l71 fun a74 l75 => getAny .iKid a74 fun x76 => uc l75 fun a78 l79 => getI .i64 a78 fun x80 => uc l79 fun a81 l82 => getB a81 fun x83 => uc l82 fun a84 l85 => getS a84 fun x86 => uc l85 fun a87 l88 => getI .i64 a87 fun x89 => uc l88 fun a90 l91 => getS a90 fun x92 => uc l91 fun a93 l94 => getS a93 fun x95 => uc l94 fun a96 l97 => getB a96 fun x98 => un l97 (some ((TSeat.mk (TSess.mk (TView.mk (TQuery.mk x3 x6 x10 x13 x16 x19 x23 x26 x29) x32 x36) x40 (TView.mk (TQuery.mk x43 x46 x50 x53 x56 x59 x63 x66 x69) x72 x76) x80 x83) (TLine.mk x86 x89) x92 x95 x98) : TSeat))) = some y := h
      replace h := uc_ok h; obtain ⟨a1, l2, rfl, h⟩ := h
      replace h := getI_ok h; obtain ⟨x3, rfl, h⟩ := h
      replace h := uc_ok h; obtain ⟨a4, l5, rfl, h⟩ := h
      replace h := getAny_ok h; obtain ⟨x6, h, z7⟩ := h
      replace h := uc_ok h; obtain ⟨a8, l9, rfl, h⟩ := h
      replace h := getI_ok h; obtain ⟨x10, rfl, h⟩ := h
      replace h := uc_ok h; obtain ⟨a11, l12, rfl, h⟩ := h
      replace h := getB_ok h; obtain ⟨x13, rfl, h⟩ := h
      replace h := uc_ok h; obtain ⟨a14, l15, rfl, h⟩ := h
      replace h := getI_ok h; obtain ⟨x16, rfl, h⟩ := h
      replace h := uc_ok h; obtain ⟨a17, l18, rfl, h⟩ := h
      replace h := getAny_ok h; obtain ⟨x19, h, z20⟩ := h
      replace h := uc_ok h; obtain ⟨a21, l22, rfl, h⟩ := h
      replace h := getB_ok h; obtain ⟨x23, rfl, h⟩ := h
      replace h := uc_ok h; obtain ⟨a24, l25, rfl, h⟩ := h
      replace h := getI_ok h; obtain ⟨x26, rfl, h⟩ := h
      replace h := uc_ok h; obtain ⟨a27, l28, rfl, h⟩ := h
      replace h := getI_ok h; obtain ⟨x29, rfl, h⟩ := h
      replace h := uc_ok h; obtain ⟨a30, l31, rfl, h⟩ := h
      replace h := getAny_ok h; obtain ⟨x32, h, z33⟩ := h
      replace h := uc_ok h; obtain ⟨a34, l35, rfl, h⟩ := h
      replace h := getAny_ok h; obtain ⟨x36, h, z37⟩ := h
      replace h := uc_ok h; obtain ⟨a38, l39, rfl, h⟩ := h
      replace h := getI_ok h; obtain ⟨x40, rfl, h⟩ := h
      replace h := uc_ok h; obtain ⟨a41, l42, rfl, h⟩ := h
      replace h := getI_ok h; obtain ⟨x43, rfl, h⟩ := h
      replace h := uc_ok h; obtain ⟨a44, l45, rfl, h⟩ := h
      replace h := getAny_ok h; obtain ⟨x46, h, z47⟩ := h
      replace h := uc_ok h; obtain ⟨a48, l49, rfl, h⟩ := h
      replace h := getI_ok h; obtain ⟨x50, rfl, h⟩ := h
      replace h := uc_ok h; obtain ⟨a51, l52, rfl, h⟩ := h
      replace h := getB_ok h; obtain ⟨x53, rfl, h⟩ := h
      replace h := uc_ok h; obtain ⟨a54, l55, rfl, h⟩ := h
      replace h := getI_ok h; obtain ⟨x56, rfl, h⟩ := h
      replace h := uc_ok h; obtain ⟨a57, l58, rfl, h⟩ := h
      replace h := getAny_ok h; obtain ⟨x59, h, z60⟩ := h
      replace h := uc_ok h; obtain ⟨a61, l62, rfl, h⟩ := h
      replace h := getB_ok h; obtain ⟨x63, rfl, h⟩ := h
      replace h := uc_ok h; obtain ⟨a64, l65, rfl, h⟩ := h
      replace h := getI_ok h; obtain ⟨x66, rfl, h⟩ := h
      replace h := uc_ok h; obtain ⟨a67, l68, rfl, h⟩ := h
      replace h := getI_ok h; obtain ⟨x69, rfl, h⟩ := h
      replace h := uc_ok h; obtain ⟨a70, l71, rfl, h⟩ := h
      replace h := getAny_ok h; obtain ⟨x72, h, z73⟩ := h
      replace h := uc_ok h; obtain ⟨a74, l75, rfl, h⟩ := h
      replace h := getAny_ok h; obtain ⟨x76, h, z77⟩ := h
      replace h := uc_ok h; obtain ⟨a78, l79, rfl, h⟩ := h
      replace h := getI_ok h; obtain ⟨x80, rfl, h⟩ := h
      replace h := uc_ok h; obtain ⟨a81, l82, rfl, h⟩ := h
      replace h := getB_ok h; obtain ⟨x83, rfl, h⟩ := h
      replace h := uc_ok h; obtain ⟨a84, l85, rfl, h⟩ := h
      replace h := getS_ok h; obtain ⟨x86, rfl, h⟩ := h
      replace h := uc_ok h; obtain ⟨a87, l88, rfl, h⟩ := h
      replace h := getI_ok h; obtain ⟨x89, rfl, h⟩ := h
      replace h := uc_ok h; obtain ⟨a90, l91, rfl, h⟩ := h
      replace h := getS_ok h; obtain ⟨x92, rfl, h⟩ := h
      replace h := uc_ok h; obtain ⟨a93, l94, rfl, h⟩ := h
      replace h := getS_ok h; obtain ⟨x95, rfl, h⟩ := h
      replace h := uc_ok h; obtain ⟨a96, l97, rfl, h⟩ := h
      replace h := getB_ok h; obtain ⟨x98, rfl, h⟩ := h
      replace h := un_ok h; obtain ⟨rfl, h⟩ := h
      cases h
      exact ⟨rfl, z7 m, rfl, rfl, rfl, z20 m, rfl, rfl, rfl, z33 m, z37 m, rfl, rfl, z47 m, rfl, rfl, rfl, z60 m, rfl, rfl, rfl, z73 m, z77 m, rfl, rfl, rfl, rfl, rfl, rfl, rfl, trivial⟩
def eid : TC → TypeId
  | .int => 3
  | .u8 => 5
  | .str => 9
  | .lCond => 167
  | .lRow => 108
  | .lKid => 172
  | .iCond => 144
  | .iRow => 113
  | .iKid => 137
  | .s_iRow => 42
  | .iChange => 115
  | .s_iChange => 70
  | .iSeat => 155
noncomputable def E : Env := ⟨Try.prog, eid⟩
def ttL : List (Nat × TD) := [
  (3, ⟨1, false, [.i .i64 0], [], none, some .i64, false, false, []⟩),
  (4, ⟨1, false, [.b false], [], none, none, false, true, []⟩),
  (22, ⟨1, false, [.nils], [], some .int, none, false, false, []⟩),
  (24, ⟨1, true, [.nils], [(0, 1)], none, none, false, false, []⟩),
  (25, ⟨1, false, [.nils], [], some .lCond, none, false, false, []⟩),
  (27, ⟨9, true, [.i .i64 0, .nils, .i .i64 0, .b false, .i .i64 0, .nils, .b false, .i .i64 0, .i .i64 0], [(0, 1), (1, 1), (2, 1), (3, 1), (4, 1), (5, 1), (6, 1), (7, 1), (8, 1)], none, none, false, false, []⟩),
  (28, ⟨1, false, [.nils], [], some .lRow, none, false, false, []⟩),
  (29, ⟨1, false, [.nils], [], some .lKid, none, false, false, []⟩),
  (31, ⟨11, true, [.i .i64 0, .nils, .i .i64 0, .b false, .i .i64 0, .nils, .b false, .i .i64 0, .i .i64 0, .nils, .nils], [(0, 9), (9, 1), (10, 1)], none, none, false, false, []⟩),
  (33, ⟨25, true, [.i .i64 0, .nils, .i .i64 0, .b false, .i .i64 0, .nils, .b false, .i .i64 0, .i .i64 0, .nils, .nils, .i .i64 0, .i .i64 0, .nils, .i .i64 0, .b false, .i .i64 0, .nils, .b false, .i .i64 0, .i .i64 0, .nils, .nils, .i .i64 0, .b false], [(0, 11), (11, 1), (12, 11), (23, 1), (24, 1)], none, none, false, false, []⟩),
  (37, ⟨1, true, [.nils], [(0, 1)], none, none, false, false, []⟩),
  (39, ⟨1, false, [.nils], [], some .iCond, none, false, false, []⟩),
  (41, ⟨9, true, [.i .i64 0, .nils, .i .i64 0, .b false, .i .i64 0, .nils, .b false, .i .i64 0, .i .i64 0], [(0, 1), (1, 1), (2, 1), (3, 1), (4, 1), (5, 1), (6, 1), (7, 1), (8, 1)], none, none, false, false, []⟩),
  (42, ⟨1, false, [.nils], [], some .iRow, none, false, false, []⟩),
  (43, ⟨1, false, [.nils], [], some .iKid, none, false, false, []⟩),
  (45, ⟨11, true, [.i .i64 0, .nils, .i .i64 0, .b false, .i .i64 0, .nils, .b false, .i .i64 0, .i .i64 0, .nils, .nils], [(0, 9), (9, 1), (10, 1)], none, none, false, false, []⟩),
  (47, ⟨25, true, [.i .i64 0, .nils, .i .i64 0, .b false, .i .i64 0, .nils, .b false, .i .i64 0, .i .i64 0, .nils, .nils, .i .i64 0, .i .i64 0, .nils, .i .i64 0, .b false, .i .i64 0, .nils, .b false, .i .i64 0, .i .i64 0, .nils, .nils, .i .i64 0, .b false], [(0, 11), (11, 1), (12, 11), (23, 1), (24, 1)], none, none, false, false, []⟩),
  (108, ⟨2, true, [.i .i64 0, .nils], [(0, 1), (1, 1)], none, none, false, false, []⟩),
  (113, ⟨2, true, [.i .i64 0, .nils], [(0, 1), (1, 1)], none, none, false, false, []⟩),
  (137, ⟨2, true, [.i .i64 0, .i .i64 0], [(0, 1), (1, 1)], none, none, false, false, [.i, .i]⟩),
  (144, ⟨3, true, [.i .i64 0, .i .i64 0, .i .i64 0], [(0, 1), (1, 1), (2, 1)], none, none, false, false, [.i, .i, .i]⟩),
  (167, ⟨3, true, [.i .i64 0, .i .i64 0, .i .i64 0], [(0, 1), (1, 1), (2, 1)], none, none, false, false, [.i, .i, .i]⟩),
  (172, ⟨2, true, [.i .i64 0, .i .i64 0], [(0, 1), (1, 1)], none, none, false, false, [.i, .i]⟩)]
def tt (T : Nat) : Option TD := look2 ttL T
theorem ttOk (T : TypeId) : TTok E T (tt T) := tt_ok (E := E) (by kernel_rfl) T
theorem tcOk (t : TC) : TCok E t := by
  cases t with
  | int => exact tcB_ok (zc := [.i .i64 0]) (by kernel_rfl) (fun m => ⟨rfl, trivial⟩)
  | u8 => exact tcB_ok (zc := [.i .u8 0]) (by kernel_rfl) (fun m => ⟨rfl, trivial⟩)
  | str => exact tcB_ok (zc := [.s []]) (by kernel_rfl) (fun m => ⟨rfl, trivial⟩)
  | lCond => exact tcB_ok (zc := [.i .i64 0, .i .i64 0, .i .i64 0]) (by kernel_rfl) (fun m => ⟨rfl, rfl, rfl, trivial⟩)
  | lRow => exact tcB_ok (zc := [.i .i64 0, .nils]) (by kernel_rfl) (fun m => ⟨rfl, ⟨_, rfl⟩, trivial⟩)
  | lKid => exact tcB_ok (zc := [.i .i64 0, .i .i64 0]) (by kernel_rfl) (fun m => ⟨rfl, rfl, trivial⟩)
  | iCond => exact tcB_ok (zc := [.i .i64 0, .i .i64 0, .i .i64 0]) (by kernel_rfl) (fun m => ⟨rfl, rfl, rfl, trivial⟩)
  | iRow => exact tcB_ok (zc := [.i .i64 0, .nils]) (by kernel_rfl) (fun m => ⟨rfl, ⟨_, rfl⟩, trivial⟩)
  | iKid => exact tcB_ok (zc := [.i .i64 0, .i .i64 0]) (by kernel_rfl) (fun m => ⟨rfl, rfl, trivial⟩)
  | s_iRow => exact tcB_ok (zc := [.nils]) (by kernel_rfl) (fun m => ⟨⟨_, rfl⟩, trivial⟩)
  | iChange => exact tcB_ok (zc := [.i .i64 0, .b false, .b false, .i .i64 0, .nils, .i .i64 0, .nils]) (by kernel_rfl) (fun m => ⟨rfl, rfl, rfl, rfl, ⟨_, rfl⟩, rfl, ⟨_, rfl⟩, trivial⟩)
  | s_iChange => exact tcB_ok (zc := [.nils]) (by kernel_rfl) (fun m => ⟨⟨_, rfl⟩, trivial⟩)
  | iSeat => exact tcB_ok (zc := [.i .i64 0, .nils, .i .i64 0, .b false, .i .i64 0, .nils, .b false, .i .i64 0, .i .i64 0, .nils, .nils, .i .i64 0, .i .i64 0, .nils, .i .i64 0, .b false, .i .i64 0, .nils, .b false, .i .i64 0, .i .i64 0, .nils, .nils, .i .i64 0, .b false, .s [], .i .i64 0, .s [], .s [], .b false]) (by kernel_rfl) (fun m => ⟨rfl, ⟨_, rfl⟩, rfl, rfl, rfl, ⟨_, rfl⟩, rfl, rfl, rfl, ⟨_, rfl⟩, ⟨_, rfl⟩, rfl, rfl, ⟨_, rfl⟩, rfl, rfl, rfl, ⟨_, rfl⟩, rfl, rfl, rfl, ⟨_, rfl⟩, ⟨_, rfl⟩, rfl, rfl, rfl, rfl, rfl, rfl, rfl, trivial⟩)
theorem u8Ok : E.P.underlying (E.eid .u8) = some (.int .u8) := by kernel_rfl
theorem mixedOk : E.P.follows .mixedOrders = true := by kernel_rfl
end Go.Pi
end
section
set_option linter.unusedVariables false
set_option maxRecDepth 100000
namespace Go.Pi
def laws_szIntS : Nat → (List Int) → Int → Option Int
  | 0, _, _ => none
  | n + 1, a, left =>
    (cond (decide ((W (left - (a.length : Int))) < 0)) (some (-1)) (some (W (left - (a.length : Int)))))
def laws_szSchema : Nat → TSchema → Int → Option Int
  | 0, _, _ => none
  | n + 1, a, left =>
    ((laws_szIntS n a.cols left).bind fun xr1 => (cond (decide (xr1 < 0)) (some (-1)) (some xr1)))
def laws_szCondS : Nat → (List TCond) → Int → Option Int
  | 0, _, _ => none
  | n + 1, a, left =>
    (cond (decide ((W (left - (a.length : Int))) < 0)) (some (-1)) (some (W (left - (a.length : Int)))))
def laws_szQuery : Nat → TQuery → Int → Option Int
  | 0, _, _ => none
  | n + 1, a, left =>
    ((laws_szCondS n a.where_ left).bind fun xr1 => (cond (decide (xr1 < 0)) (some (-1)) ((laws_szIntS n a.show_ xr1).bind fun xr2 => (cond (decide (xr2 < 0)) (some (-1)) (some xr2)))))
def laws_szRow : Nat → TRow → Int → Option Int
  | 0, _, _ => none
  | n + 1, a, left =>
    ((laws_szIntS n a.cells left).bind fun xr1 => (cond (decide (xr1 < 0)) (some (-1)) (some xr1)))
def laws_szRowS.step7 (n : Nat) (k0 : Int → Option Int) (back : (List TRow) → Int → Int → Option Int) (a : List TRow) (left : Int) (i : Int) : Option Int :=
  (cond (decide (i < (a.length : Int))) (inB i a.length ((laws_szRow n (a.getD i.toNat TRow.dflt) left).bind fun xr1 => (cond (decide (xr1 < 0)) (some (-1)) (back a xr1 (W (i + 1)))))) (k0 left))
def laws_szRowS.loop7 (n : Nat) (k0 : Int → Option Int) (N : Nat) : (List TRow) → Int → Int → Option Int :=
  iterN (fun _ _ _ => none) (fun back => laws_szRowS.step7 n k0 back) N
def laws_szRowS : Nat → (List TRow) → Int → Option Int
  | 0, _, _ => none
  | n + 1, a, left =>
    (cond (decide ((W (left - (a.length : Int))) < 0)) (some (-1)) (laws_szRowS.loop7 n (fun xy2 => (some xy2)) n a (W (left - (a.length : Int))) 0))
def laws_szKidS : Nat → (List TKid) → Int → Option Int
  | 0, _, _ => none
  | n + 1, a, left =>
    (cond (decide ((W (left - (a.length : Int))) < 0)) (some (-1)) (some (W (left - (a.length : Int)))))
def laws_szView : Nat → TView → Int → Option Int
  | 0, _, _ => none
  | n + 1, a, left =>
    ((laws_szQuery n a.q left).bind fun xr1 => (cond (decide (xr1 < 0)) (some (-1)) ((laws_szRowS n a.rows xr1).bind fun xr2 => (cond (decide (xr2 < 0)) (some (-1)) ((laws_szKidS n a.kids xr2).bind fun xr3 => (cond (decide (xr3 < 0)) (some (-1)) (some xr3)))))))
def laws_szSess : Nat → TSess → Int → Option Int
  | 0, _, _ => none
  | n + 1, a, left =>
    ((laws_szView n a.view left).bind fun xr1 => (cond (decide (xr1 < 0)) (some (-1)) ((laws_szView n a.last xr1).bind fun xr2 => (cond (decide (xr2 < 0)) (some (-1)) (some xr2)))))
def laws_toIntS.step4 (n : Nat) (k0 : (List Int) → Option (List Int)) (back : (List Int) → Int → (List Int) → Option (List Int)) (a : List Int) (i : Int) (out_1 : List Int) : Option (List Int) :=
  (cond (decide (i < (a.length : Int))) (inB i a.length (inB i out_1.length (let xa1 : List Int := out_1.set i.toNat (a.getD i.toNat 0); (back a (W (i + 1)) xa1)))) (k0 out_1))
def laws_toIntS.loop4 (n : Nat) (k0 : (List Int) → Option (List Int)) (N : Nat) : (List Int) → Int → (List Int) → Option (List Int) :=
  iterN (fun _ _ _ => none) (fun back => laws_toIntS.step4 n k0 back) N
def laws_toIntS : Nat → (List Int) → Option (List Int)
  | 0, _ => none
  | n + 1, a =>
    (cond (decide ((a.length : Int) = (a.length : Int))) (cond (decide (0 ≤ (a.length : Int))) (cond (decide ((a.length : Int) * 8 ≤ 140737488355328)) (laws_toIntS.loop4 n (fun xy2 => (some xy2)) n a 0 (List.replicate (a.length : Int).toNat 0)) none) none) none)
def laws_toSchema : Nat → TSchema → Option TSchema
  | 0, _ => none
  | n + 1, a =>
    ((laws_toIntS n a.cols).bind fun xr1 => (some (TSchema.mk xr1)))
def laws_toCond : Nat → TCond → Option TCond
  | 0, _ => none
  | n + 1, a =>
    (some a)
def laws_toCondS.step4 (n : Nat) (k0 : (List TCond) → Option (List TCond)) (back : (List TCond) → Int → (List TCond) → Option (List TCond)) (a : List TCond) (i : Int) (out_1 : List TCond) : Option (List TCond) :=
  (cond (decide (i < (a.length : Int))) (inB i a.length ((laws_toCond n (a.getD i.toNat TCond.dflt)).bind fun xr1 => (inB i out_1.length (let xa2 : List TCond := out_1.set i.toNat xr1; (back a (W (i + 1)) xa2))))) (k0 out_1))
def laws_toCondS.loop4 (n : Nat) (k0 : (List TCond) → Option (List TCond)) (N : Nat) : (List TCond) → Int → (List TCond) → Option (List TCond) :=
  iterN (fun _ _ _ => none) (fun back => laws_toCondS.step4 n k0 back) N
def laws_toCondS : Nat → (List TCond) → Option (List TCond)
  | 0, _ => none
  | n + 1, a =>
    (cond (decide ((a.length : Int) = (a.length : Int))) (cond (decide (0 ≤ (a.length : Int))) (cond (decide ((a.length : Int) * 24 ≤ 140737488355328)) (laws_toCondS.loop4 n (fun xy3 => (some xy3)) n a 0 (List.replicate (a.length : Int).toNat TCond.dflt)) none) none) none)
def laws_toQuery : Nat → TQuery → Option TQuery
  | 0, _ => none
  | n + 1, a =>
    ((laws_toCondS n a.where_).bind fun xr1 => ((laws_toIntS n a.show_).bind fun xr2 => (some (TQuery.mk a.table xr1 a.order a.down a.first xr2 a.kids a.kidTable a.kidCol))))
def laws_toRow : Nat → TRow → Option TRow
  | 0, _ => none
  | n + 1, a =>
    ((laws_toIntS n a.cells).bind fun xr1 => (some (TRow.mk a.id_ xr1)))
def laws_toRowS.step4 (n : Nat) (k0 : (List TRow) → Option (List TRow)) (back : (List TRow) → Int → (List TRow) → Option (List TRow)) (a : List TRow) (i : Int) (out_1 : List TRow) : Option (List TRow) :=
  (cond (decide (i < (a.length : Int))) (inB i a.length ((laws_toRow n (a.getD i.toNat TRow.dflt)).bind fun xr1 => (inB i out_1.length (let xa2 : List TRow := out_1.set i.toNat xr1; (back a (W (i + 1)) xa2))))) (k0 out_1))
def laws_toRowS.loop4 (n : Nat) (k0 : (List TRow) → Option (List TRow)) (N : Nat) : (List TRow) → Int → (List TRow) → Option (List TRow) :=
  iterN (fun _ _ _ => none) (fun back => laws_toRowS.step4 n k0 back) N
def laws_toRowS : Nat → (List TRow) → Option (List TRow)
  | 0, _ => none
  | n + 1, a =>
    (cond (decide ((a.length : Int) = (a.length : Int))) (cond (decide (0 ≤ (a.length : Int))) (cond (decide ((a.length : Int) * 32 ≤ 140737488355328)) (laws_toRowS.loop4 n (fun xy3 => (some xy3)) n a 0 (List.replicate (a.length : Int).toNat TRow.dflt)) none) none) none)
def laws_toKid : Nat → TKid → Option TKid
  | 0, _ => none
  | n + 1, a =>
    (some a)
def laws_toKidS.step4 (n : Nat) (k0 : (List TKid) → Option (List TKid)) (back : (List TKid) → Int → (List TKid) → Option (List TKid)) (a : List TKid) (i : Int) (out_1 : List TKid) : Option (List TKid) :=
  (cond (decide (i < (a.length : Int))) (inB i a.length ((laws_toKid n (a.getD i.toNat TKid.dflt)).bind fun xr1 => (inB i out_1.length (let xa2 : List TKid := out_1.set i.toNat xr1; (back a (W (i + 1)) xa2))))) (k0 out_1))
def laws_toKidS.loop4 (n : Nat) (k0 : (List TKid) → Option (List TKid)) (N : Nat) : (List TKid) → Int → (List TKid) → Option (List TKid) :=
  iterN (fun _ _ _ => none) (fun back => laws_toKidS.step4 n k0 back) N
def laws_toKidS : Nat → (List TKid) → Option (List TKid)
  | 0, _ => none
  | n + 1, a =>
    (cond (decide ((a.length : Int) = (a.length : Int))) (cond (decide (0 ≤ (a.length : Int))) (cond (decide ((a.length : Int) * 16 ≤ 140737488355328)) (laws_toKidS.loop4 n (fun xy3 => (some xy3)) n a 0 (List.replicate (a.length : Int).toNat TKid.dflt)) none) none) none)
def laws_toView : Nat → TView → Option TView
  | 0, _ => none
  | n + 1, a =>
    ((laws_toQuery n a.q).bind fun xr1 => ((laws_toRowS n a.rows).bind fun xr2 => ((laws_toKidS n a.kids).bind fun xr3 => (some (TView.mk xr1 xr2 xr3)))))
def laws_toSess : Nat → TSess → Option TSess
  | 0, _ => none
  | n + 1, a =>
    ((laws_toView n a.view).bind fun xr1 => ((laws_toView n a.last).bind fun xr2 => (some (TSess.mk xr1 a.version xr2 a.lastVersion a.began))))
def spec_l1In : Nat → Int → Int → Int → Option Bool
  | 0, _, _, _ => none
  | n + 1, x, lo, hi =>
    (cond (decide (x ≥ lo)) (some (decide (x ≤ hi))) (some false))
def spec_SchemaOk.step3 (n : Nat) (k0 : (List Int) → Option Bool) (back : Int → (List Int) → Option Bool) (i : Int) (s0 : List Int) : Option Bool :=
  (cond (decide (i < (s0.length : Int))) (inB i s0.length ((spec_l1In n (s0.getD i.toNat 0) 1 4).bind fun xr1 => (cond (!xr1) (some false) (back (W (i + 1)) s0)))) (k0 s0))
def spec_SchemaOk.loop3 (n : Nat) (k0 : (List Int) → Option Bool) (N : Nat) : Int → (List Int) → Option Bool :=
  iterN (fun _ _ => none) (fun back => spec_SchemaOk.step3 n k0 back) N
def spec_SchemaOk : Nat → TSchema → Option Bool
  | 0, _ => none
  | n + 1, s =>
    (spec_SchemaOk.loop3 n (fun xy2 => ((spec_l1In n (xy2.length : Int) 1 3).bind fun xr3 => (some xr3))) n 0 s.cols)
def spec_QueryOk.step7 (n : Nat) (k0 : Int → (List Int) → Int → (List TCond) → Int → Bool → Int → (List Int) → Bool → Int → Int → Option Bool) (back : Int → Int → (List Int) → Int → (List TCond) → Int → Bool → Int → (List Int) → Bool → Int → Int → Option Bool) (t5 : Int) (t6 : Int) (t20 : List Int) (t30 : Int) (t31 : List TCond) (t32 : Int) (t33 : Bool) (t34 : Int) (t35 : List Int) (t36 : Bool) (t37 : Int) (t38 : Int) : Option Bool :=
  (cond (decide (t6 < (t31.length : Int))) (inB t6 t31.length ((spec_l1In n ((t31.getD t6.toNat TCond.dflt).col) 0 (W (t5 - 1))).bind fun xr3 => (cond (!xr3) (some false) ((spec_l1In n ((t31.getD t6.toNat TCond.dflt).op) 1 4).bind fun xr4 => (cond (!xr4) (some false) ((spec_l1In n ((t31.getD t6.toNat TCond.dflt).v) (-1000000000) 1000000000).bind fun xr5 => (cond (!xr5) (some false) (back t5 (W (t6 + 1)) t20 t30 t31 t32 t33 t34 t35 t36 t37 t38)))))))) (k0 t5 t20 t30 t31 t32 t33 t34 t35 t36 t37 t38))
def spec_QueryOk.loop7 (n : Nat) (k0 : Int → (List Int) → Int → (List TCond) → Int → Bool → Int → (List Int) → Bool → Int → Int → Option Bool) (N : Nat) : Int → Int → (List Int) → Int → (List TCond) → Int → Bool → Int → (List Int) → Bool → Int → Int → Option Bool :=
  iterN (fun _ _ _ _ _ _ _ _ _ _ _ _ => none) (fun back => spec_QueryOk.step7 n k0 back) N
def spec_QueryOk.step16 (n : Nat) (k2 : Int → (List Int) → Int → (List TCond) → Int → Bool → Int → (List Int) → Bool → Int → Int → Option Bool) (back : Int → Int → (List Int) → Int → (List TCond) → Int → Bool → Int → (List Int) → Bool → Int → Int → Option Bool) (t5 : Int) (t8 : Int) (t20 : List Int) (t30 : Int) (t31 : List TCond) (t32 : Int) (t33 : Bool) (t34 : Int) (t35 : List Int) (t36 : Bool) (t37 : Int) (t38 : Int) : Option Bool :=
  (cond (decide (t8 < (t35.length : Int))) (inB t8 t35.length ((spec_l1In n (t35.getD t8.toNat 0) 0 (W (t5 - 1))).bind fun xr17 => (cond (!xr17) (some false) (cond (decide (t8 > 0)) (inB (W (t8 - 1)) t35.length (inB t8 t35.length (cond (decide ((t35.getD (W (t8 - 1)).toNat 0) ≥ (t35.getD t8.toNat 0))) (some false) (back t5 (W (t8 + 1)) t20 t30 t31 t32 t33 t34 t35 t36 t37 t38)))) (back t5 (W (t8 + 1)) t20 t30 t31 t32 t33 t34 t35 t36 t37 t38))))) (k2 t5 t20 t30 t31 t32 t33 t34 t35 t36 t37 t38))
def spec_QueryOk.loop16 (n : Nat) (k2 : Int → (List Int) → Int → (List TCond) → Int → Bool → Int → (List Int) → Bool → Int → Int → Option Bool) (N : Nat) : Int → Int → (List Int) → Int → (List TCond) → Int → Bool → Int → (List Int) → Bool → Int → Int → Option Bool :=
  iterN (fun _ _ _ _ _ _ _ _ _ _ _ _ => none) (fun back => spec_QueryOk.step16 n k2 back) N
def spec_QueryOk : Nat → TSchema → TQuery → Option Bool
  | 0, _, _ => none
  | n + 1, o, append =>
    ((spec_SchemaOk n o).bind fun xr1 => (cond (!xr1) (some false) ((spec_l1In n append.table 0 (W ((o.cols.length : Int) - 1))).bind fun xr2 => (cond (!xr2) (some false) (cond (decide ((append.where_.length : Int) > 3)) (some false) (inB append.table o.cols.length (spec_QueryOk.loop7 n (fun xy6 xy7 xy8 xy9 xy10 xy11 xy12 xy13 xy14 xy15 xy16 => (spec_QueryOk.loop16 n (fun xy18 xy19 xy20 xy21 xy22 xy23 xy24 xy25 xy26 xy27 xy28 => ((spec_l1In n xy22 0 xy18).bind fun xr29 => (cond (!xr29) (some false) ((spec_l1In n xy24 0 24).bind fun xr30 => (cond (!xr30) (some false) (cond (xy22 == 0) (cond xy23 (some false) (cond (!xy26) (cond (xy27 == 0) (some (xy28 == 0)) (some false)) ((spec_l1In n xy27 0 (W ((xy19.length : Int) - 1))).bind fun xr31 => (cond xr31 (inB xy27 xy19.length ((spec_l1In n xy28 0 (W ((xy19.getD xy27.toNat 0) - 1))).bind fun xr32 => (some xr32))) (some false))))) (cond (!xy26) (cond (xy27 == 0) (some (xy28 == 0)) (some false)) ((spec_l1In n xy27 0 (W ((xy19.length : Int) - 1))).bind fun xr33 => (cond xr33 (inB xy27 xy19.length ((spec_l1In n xy28 0 (W ((xy19.getD xy27.toNat 0) - 1))).bind fun xr34 => (some xr34))) (some false)))))))))) n xy6 0 xy7 xy8 xy9 xy10 xy11 xy12 xy13 xy14 xy15 xy16)) n (o.cols.getD append.table.toNat 0) 0 o.cols append.table append.where_ append.order append.down append.first append.show_ append.kids append.kidTable append.kidCol)))))))
def spec_RowOk.step6 (n : Nat) (k0 : Unit → Option Bool) (back : Int → Int → (List Int) → Option Bool) (i : Int) (r0 : Int) (r1 : List Int) : Option Bool :=
  (cond (decide (i < (r1.length : Int))) (inB i r1.length ((spec_l1In n (r1.getD i.toNat 0) (-1000000000) 1000000000).bind fun xr4 => (cond (!xr4) (some false) (back (W (i + 1)) r0 r1)))) (k0 ()))
def spec_RowOk.loop6 (n : Nat) (k0 : Unit → Option Bool) (N : Nat) : Int → Int → (List Int) → Option Bool :=
  iterN (fun _ _ _ => none) (fun back => spec_RowOk.step6 n k0 back) N
def spec_RowOk : Nat → TSchema → Int → TRow → Option Bool
  | 0, _, _, _ => none
  | n + 1, s, table, r =>
    ((spec_SchemaOk n s).bind fun xr1 => (cond (!xr1) (some false) ((spec_l1In n table 0 (W ((s.cols.length : Int) - 1))).bind fun xr2 => (cond (!xr2) (some false) ((spec_l1In n r.id_ 1 999).bind fun xr3 => (cond (!xr3) (some false) (inB table s.cols.length (cond ((r.cells.length : Int) != (s.cols.getD table.toNat 0)) (some false) (spec_RowOk.loop6 n (fun (_ : Unit) => (some true)) n 0 r.id_ r.cells)))))))))
def spec_l9Holds : Nat → TCond → TRow → Option Bool
  | 0, _, _ => none
  | n + 1, x, r =>
    ((spec_l1In n x.col 0 (W ((r.cells.length : Int) - 1))).bind fun xr1 => (cond (!xr1) (some false) (inB x.col r.cells.length (cond (x.op == 1) (some ((r.cells.getD x.col.toNat 0) == x.v)) (cond (x.op == 2) (some (decide ((r.cells.getD x.col.toNat 0) < x.v))) (cond (x.op == 3) (some (decide ((r.cells.getD x.col.toNat 0) > x.v))) (cond (x.op == 4) (some ((r.cells.getD x.col.toNat 0) != x.v)) (some false))))))))
def spec_Matches.step3 (n : Nat) (k0 : Unit → Option Bool) (back : Int → Int → (List TCond) → Int → Bool → Int → (List Int) → Bool → Int → Int → Int → (List Int) → Option Bool) (i : Int) (q0 : Int) (q1 : List TCond) (q2 : Int) (q3 : Bool) (q4 : Int) (q5 : List Int) (q6 : Bool) (q7 : Int) (q8 : Int) (r0 : Int) (r1 : List Int) : Option Bool :=
  (cond (decide (i < (q1.length : Int))) (inB i q1.length ((spec_l9Holds n (q1.getD i.toNat TCond.dflt) (TRow.mk r0 r1)).bind fun xr1 => (cond (!xr1) (some false) (back (W (i + 1)) q0 q1 q2 q3 q4 q5 q6 q7 q8 r0 r1)))) (k0 ()))
def spec_Matches.loop3 (n : Nat) (k0 : Unit → Option Bool) (N : Nat) : Int → Int → (List TCond) → Int → Bool → Int → (List Int) → Bool → Int → Int → Int → (List Int) → Option Bool :=
  iterN (fun _ _ _ _ _ _ _ _ _ _ _ _ => none) (fun back => spec_Matches.step3 n k0 back) N
def spec_Matches : Nat → TQuery → TRow → Option Bool
  | 0, _, _ => none
  | n + 1, q, r =>
    (spec_Matches.loop3 n (fun (_ : Unit) => (some true)) n 0 q.table q.where_ q.order q.down q.first q.show_ q.kids q.kidTable q.kidCol r.id_ r.cells)
def spec_RowAt.step3 (n : Nat) (k0 : Unit → Option Int) (back : (List TRow) → Int → Int → Option Int) (rows : List TRow) (id_1 : Int) (i : Int) : Option Int :=
  (cond (decide (i < (rows.length : Int))) (inB i rows.length (cond (((rows.getD i.toNat TRow.dflt).id_) == id_1) (some i) (back rows id_1 (W (i + 1))))) (k0 ()))
def spec_RowAt.loop3 (n : Nat) (k0 : Unit → Option Int) (N : Nat) : (List TRow) → Int → Int → Option Int :=
  iterN (fun _ _ _ => none) (fun back => spec_RowAt.step3 n k0 back) N
def spec_RowAt : Nat → (List TRow) → Int → Option Int
  | 0, _, _ => none
  | n + 1, rows, id1 =>
    (spec_RowAt.loop3 n (fun (_ : Unit) => (some (-1))) n rows id1 0)
def spec_l9Cell : Nat → TRow → Int → Option Int
  | 0, _, _ => none
  | n + 1, r, col =>
    ((spec_l1In n col 0 (W ((r.cells.length : Int) - 1))).bind fun xr1 => (cond (!xr1) (some 0) (inB col r.cells.length (some (r.cells.getD col.toNat 0)))))
def spec_Ahead : Nat → TQuery → TRow → TRow → Option Bool
  | 0, _, _, _ => none
  | n + 1, q, a, b =>
    (cond (q.order != 0) ((spec_l9Cell n a (W (q.order - 1))).bind fun xr1 => ((spec_l9Cell n b (W (q.order - 1))).bind fun xr2 => (cond (xr1 != xr2) (some (!((decide (xr1 < xr2)) == q.down))) (some (decide (a.id_ < b.id_)))))) (some (decide (a.id_ < b.id_))))
def spec_ViewOk.step6 (n : Nat) (k0 : Int → (List TCond) → Int → Bool → Int → (List Int) → Bool → Int → Int → (List TRow) → (List TKid) → Option Bool) (back : Int → (List Int) → Int → (List TCond) → Int → Bool → Int → (List Int) → Bool → Int → Int → (List TRow) → (List TKid) → Option Bool) (t5 : Int) (t20 : List Int) (t30 : Int) (t31 : List TCond) (t32 : Int) (t33 : Bool) (t34 : Int) (t35 : List Int) (t36 : Bool) (t37 : Int) (t38 : Int) (t39 : List TRow) (t310 : List TKid) : Option Bool :=
  (cond (decide (t5 < (t39.length : Int))) (inB t5 t39.length ((spec_RowOk n (TSchema.mk t20) t30 (t39.getD t5.toNat TRow.dflt)).bind fun xr2 => (cond (!xr2) (some false) ((spec_Matches n (TQuery.mk t30 t31 t32 t33 t34 t35 t36 t37 t38) (t39.getD t5.toNat TRow.dflt)).bind fun xr3 => (cond (!xr3) (some false) ((spec_RowAt n t39 ((t39.getD t5.toNat TRow.dflt).id_)).bind fun xr4 => (cond (xr4 != t5) (some false) (cond (decide (t5 > 0)) (inB (W (t5 - 1)) t39.length ((spec_Ahead n (TQuery.mk t30 t31 t32 t33 t34 t35 t36 t37 t38) (t39.getD (W (t5 - 1)).toNat TRow.dflt) (t39.getD t5.toNat TRow.dflt)).bind fun xr5 => (cond (!xr5) (some false) (back (W (t5 + 1)) t20 t30 t31 t32 t33 t34 t35 t36 t37 t38 t39 t310)))) (back (W (t5 + 1)) t20 t30 t31 t32 t33 t34 t35 t36 t37 t38 t39 t310))))))))) (k0 t30 t31 t32 t33 t34 t35 t36 t37 t38 t39 t310))
def spec_ViewOk.loop6 (n : Nat) (k0 : Int → (List TCond) → Int → Bool → Int → (List Int) → Bool → Int → Int → (List TRow) → (List TKid) → Option Bool) (N : Nat) : Int → (List Int) → Int → (List TCond) → Int → Bool → Int → (List Int) → Bool → Int → Int → (List TRow) → (List TKid) → Option Bool :=
  iterN (fun _ _ _ _ _ _ _ _ _ _ _ _ _ => none) (fun back => spec_ViewOk.step6 n k0 back) N
def spec_ViewOk.step15 (n : Nat) (k2 : Int → (List TCond) → Int → Bool → Int → (List Int) → Bool → Int → Int → (List TRow) → (List TKid) → Option Bool) (back : Int → Int → (List TCond) → Int → Bool → Int → (List Int) → Bool → Int → Int → (List TRow) → (List TKid) → Option Bool) (t7 : Int) (t30 : Int) (t31 : List TCond) (t32 : Int) (t33 : Bool) (t34 : Int) (t35 : List Int) (t36 : Bool) (t37 : Int) (t38 : Int) (t39 : List TRow) (t310 : List TKid) : Option Bool :=
  (cond (decide (t7 < (t310.length : Int))) (inB t7 t310.length ((spec_l1In n ((t310.getD t7.toNat TKid.dflt).n_) 1 24).bind fun xr17 => (cond (!xr17) (some false) (cond (decide (t7 > 0)) (inB (W (t7 - 1)) t310.length (inB t7 t310.length (let xv18 : Bool := (decide (((t310.getD (W (t7 - 1)).toNat TKid.dflt).id_) ≥ ((t310.getD t7.toNat TKid.dflt).id_))); (cond xv18 (some false) (back (W (t7 + 1)) t30 t31 t32 t33 t34 t35 t36 t37 t38 t39 t310))))) (back (W (t7 + 1)) t30 t31 t32 t33 t34 t35 t36 t37 t38 t39 t310))))) (k2 t30 t31 t32 t33 t34 t35 t36 t37 t38 t39 t310))
def spec_ViewOk.loop15 (n : Nat) (k2 : Int → (List TCond) → Int → Bool → Int → (List Int) → Bool → Int → Int → (List TRow) → (List TKid) → Option Bool) (N : Nat) : Int → Int → (List TCond) → Int → Bool → Int → (List Int) → Bool → Int → Int → (List TRow) → (List TKid) → Option Bool :=
  iterN (fun _ _ _ _ _ _ _ _ _ _ _ _ => none) (fun back => spec_ViewOk.step15 n k2 back) N
def spec_ViewOk : Nat → TSchema → TView → Option Bool
  | 0, _, _ => none
  | n + 1, o, append =>
    ((spec_QueryOk n o append.q).bind fun xr1 => (cond (!xr1) (some false) (cond (decide ((append.rows.length : Int) > 24)) (some false) (spec_ViewOk.loop6 n (fun xy6 xy7 xy8 xy9 xy10 xy11 xy12 xy13 xy14 xy15 xy16 => (spec_ViewOk.loop15 n (fun xy19 xy20 xy21 xy22 xy23 xy24 xy25 xy26 xy27 xy28 xy29 => (cond xy25 (some true) (some ((xy29.length : Int) == 0)))) n 0 xy6 xy7 xy8 xy9 xy10 xy11 xy12 xy13 xy14 xy15 xy16)) n 0 o.cols append.q.table append.q.where_ append.q.order append.q.down append.q.first append.q.show_ append.q.kids append.q.kidTable append.q.kidCol append.rows append.kids))))
def spec_l9Conds.step3 (n : Nat) (k0 : (List TCond) → (List TCond) → Option Bool) (back : (List TCond) → (List TCond) → Int → Option Bool) (a : List TCond) (b : List TCond) (i : Int) : Option Bool :=
  (cond (decide (i < (a.length : Int))) (cond (decide (i < (b.length : Int))) (inB i a.length (inB i b.length (let xv1 : Bool := (!(cond (((a.getD i.toNat TCond.dflt).col) == ((b.getD i.toNat TCond.dflt).col)) (cond (((a.getD i.toNat TCond.dflt).op) == ((b.getD i.toNat TCond.dflt).op)) (cond (((a.getD i.toNat TCond.dflt).v) == ((b.getD i.toNat TCond.dflt).v)) true false) false) false)); (cond xv1 (some false) (back a b (W (i + 1))))))) (k0 a b)) (k0 a b))
def spec_l9Conds.loop3 (n : Nat) (k0 : (List TCond) → (List TCond) → Option Bool) (N : Nat) : (List TCond) → (List TCond) → Int → Option Bool :=
  iterN (fun _ _ _ => none) (fun back => spec_l9Conds.step3 n k0 back) N
def spec_l9Conds : Nat → (List TCond) → (List TCond) → Option Bool
  | 0, _, _ => none
  | n + 1, a, b =>
    (spec_l9Conds.loop3 n (fun xy2 xy3 => (some ((xy2.length : Int) == (xy3.length : Int)))) n a b 0)
def spec_l9Ints.step3 (n : Nat) (k0 : (List Int) → (List Int) → Option Bool) (back : (List Int) → (List Int) → Int → Option Bool) (a : List Int) (b : List Int) (i : Int) : Option Bool :=
  (cond (decide (i < (a.length : Int))) (cond (decide (i < (b.length : Int))) (inB i a.length (inB i b.length (cond ((a.getD i.toNat 0) != (b.getD i.toNat 0)) (some false) (back a b (W (i + 1)))))) (k0 a b)) (k0 a b))
def spec_l9Ints.loop3 (n : Nat) (k0 : (List Int) → (List Int) → Option Bool) (N : Nat) : (List Int) → (List Int) → Int → Option Bool :=
  iterN (fun _ _ _ => none) (fun back => spec_l9Ints.step3 n k0 back) N
def spec_l9Ints : Nat → (List Int) → (List Int) → Option Bool
  | 0, _, _ => none
  | n + 1, a, b =>
    (spec_l9Ints.loop3 n (fun xy1 xy2 => (some ((xy1.length : Int) == (xy2.length : Int)))) n a b 0)
def spec_QuerySame : Nat → TQuery → TQuery → Option Bool
  | 0, _, _ => none
  | n + 1, o, append =>
    (cond (o.table == append.table) ((spec_l9Conds n o.where_ append.where_).bind fun xr1 => (cond xr1 (cond (o.order == append.order) (cond (o.down == append.down) (cond (o.first == append.first) ((spec_l9Ints n o.show_ append.show_).bind fun xr2 => (cond xr2 (cond (o.kids == append.kids) (cond (o.kidTable == append.kidTable) (some (o.kidCol == append.kidCol)) (some false)) (some false)) (some false))) (some false)) (some false)) (some false)) (some false))) (some false))
def spec_RowSame.step6 (n : Nat) (k0 : Unit → Option Bool) (back : Int → Int → (List Int) → Int → (List Int) → Option Bool) (i : Int) (a0 : Int) (a1 : List Int) (b0 : Int) (b1 : List Int) : Option Bool :=
  (cond (decide (i < (a1.length : Int))) (inB i a1.length (inB i b1.length (cond ((a1.getD i.toNat 0) != (b1.getD i.toNat 0)) (some false) (back (W (i + 1)) a0 a1 b0 b1)))) (k0 ()))
def spec_RowSame.loop6 (n : Nat) (k0 : Unit → Option Bool) (N : Nat) : Int → Int → (List Int) → Int → (List Int) → Option Bool :=
  iterN (fun _ _ _ _ _ => none) (fun back => spec_RowSame.step6 n k0 back) N
def spec_RowSame : Nat → TRow → TRow → Option Bool
  | 0, _, _ => none
  | n + 1, a, b =>
    (cond (a.id_ != b.id_) (some false) (cond ((a.cells.length : Int) != (b.cells.length : Int)) (some false) (spec_RowSame.loop6 n (fun (_ : Unit) => (some true)) n 0 a.id_ a.cells b.id_ b.cells)))
def spec_ViewSame.step6 (n : Nat) (k0 : Int → (List TCond) → Int → Bool → Int → (List Int) → Bool → Int → Int → (List TRow) → (List TKid) → Int → (List TCond) → Int → Bool → Int → (List Int) → Bool → Int → Int → (List TRow) → (List TKid) → Option Bool) (back : Int → Int → (List TCond) → Int → Bool → Int → (List Int) → Bool → Int → Int → (List TRow) → (List TKid) → Int → (List TCond) → Int → Bool → Int → (List Int) → Bool → Int → Int → (List TRow) → (List TKid) → Option Bool) (t5 : Int) (t20 : Int) (t21 : List TCond) (t22 : Int) (t23 : Bool) (t24 : Int) (t25 : List Int) (t26 : Bool) (t27 : Int) (t28 : Int) (t29 : List TRow) (t210 : List TKid) (t30 : Int) (t31 : List TCond) (t32 : Int) (t33 : Bool) (t34 : Int) (t35 : List Int) (t36 : Bool) (t37 : Int) (t38 : Int) (t39 : List TRow) (t310 : List TKid) : Option Bool :=
  (cond (decide (t5 < (t29.length : Int))) (inB t5 t29.length (inB t5 t39.length ((spec_RowSame n (t29.getD t5.toNat TRow.dflt) (t39.getD t5.toNat TRow.dflt)).bind fun xr2 => (cond (!xr2) (some false) (back (W (t5 + 1)) t20 t21 t22 t23 t24 t25 t26 t27 t28 t29 t210 t30 t31 t32 t33 t34 t35 t36 t37 t38 t39 t310))))) (k0 t20 t21 t22 t23 t24 t25 t26 t27 t28 t29 t210 t30 t31 t32 t33 t34 t35 t36 t37 t38 t39 t310))
def spec_ViewSame.loop6 (n : Nat) (k0 : Int → (List TCond) → Int → Bool → Int → (List Int) → Bool → Int → Int → (List TRow) → (List TKid) → Int → (List TCond) → Int → Bool → Int → (List Int) → Bool → Int → Int → (List TRow) → (List TKid) → Option Bool) (N : Nat) : Int → Int → (List TCond) → Int → Bool → Int → (List Int) → Bool → Int → Int → (List TRow) → (List TKid) → Int → (List TCond) → Int → Bool → Int → (List Int) → Bool → Int → Int → (List TRow) → (List TKid) → Option Bool :=
  iterN (fun _ _ _ _ _ _ _ _ _ _ _ _ _ _ _ _ _ _ _ _ _ _ _ => none) (fun back => spec_ViewSame.step6 n k0 back) N
def spec_ViewSame.step14 (n : Nat) (k2 : Unit → Option Bool) (back : Int → Int → (List TCond) → Int → Bool → Int → (List Int) → Bool → Int → Int → (List TRow) → (List TKid) → Int → (List TCond) → Int → Bool → Int → (List Int) → Bool → Int → Int → (List TRow) → (List TKid) → Option Bool) (t6 : Int) (t20 : Int) (t21 : List TCond) (t22 : Int) (t23 : Bool) (t24 : Int) (t25 : List Int) (t26 : Bool) (t27 : Int) (t28 : Int) (t29 : List TRow) (t210 : List TKid) (t30 : Int) (t31 : List TCond) (t32 : Int) (t33 : Bool) (t34 : Int) (t35 : List Int) (t36 : Bool) (t37 : Int) (t38 : Int) (t39 : List TRow) (t310 : List TKid) : Option Bool :=
  (cond (decide (t6 < (t210.length : Int))) (inB t6 t210.length (inB t6 t310.length (let xv25 : Bool := (!(cond (((t210.getD t6.toNat TKid.dflt).id_) == ((t310.getD t6.toNat TKid.dflt).id_)) (cond (((t210.getD t6.toNat TKid.dflt).n_) == ((t310.getD t6.toNat TKid.dflt).n_)) true false) false)); (cond xv25 (some false) (back (W (t6 + 1)) t20 t21 t22 t23 t24 t25 t26 t27 t28 t29 t210 t30 t31 t32 t33 t34 t35 t36 t37 t38 t39 t310))))) (k2 ()))
def spec_ViewSame.loop14 (n : Nat) (k2 : Unit → Option Bool) (N : Nat) : Int → Int → (List TCond) → Int → Bool → Int → (List Int) → Bool → Int → Int → (List TRow) → (List TKid) → Int → (List TCond) → Int → Bool → Int → (List Int) → Bool → Int → Int → (List TRow) → (List TKid) → Option Bool :=
  iterN (fun _ _ _ _ _ _ _ _ _ _ _ _ _ _ _ _ _ _ _ _ _ _ _ => none) (fun back => spec_ViewSame.step14 n k2 back) N
def spec_ViewSame : Nat → TView → TView → Option Bool
  | 0, _, _ => none
  | n + 1, o, append =>
    ((spec_QuerySame n o.q append.q).bind fun xr1 => (cond (!xr1) (some false) (cond ((o.rows.length : Int) != (append.rows.length : Int)) (some false) (cond ((o.kids.length : Int) != (append.kids.length : Int)) (some false) (spec_ViewSame.loop6 n (fun xy3 xy4 xy5 xy6 xy7 xy8 xy9 xy10 xy11 xy12 xy13 xy14 xy15 xy16 xy17 xy18 xy19 xy20 xy21 xy22 xy23 xy24 => (spec_ViewSame.loop14 n (fun (_ : Unit) => (some true)) n 0 xy3 xy4 xy5 xy6 xy7 xy8 xy9 xy10 xy11 xy12 xy13 xy14 xy15 xy16 xy17 xy18 xy19 xy20 xy21 xy22 xy23 xy24)) n 0 o.q.table o.q.where_ o.q.order o.q.down o.q.first o.q.show_ o.q.kids o.q.kidTable o.q.kidCol o.rows o.kids append.q.table append.q.where_ append.q.order append.q.down append.q.first append.q.show_ append.q.kids append.q.kidTable append.q.kidCol append.rows append.kids)))))
def spec_SessOk : Nat → TSchema → TSess → Option Bool
  | 0, _, _ => none
  | n + 1, s, x =>
    ((spec_ViewOk n s x.view).bind fun xr1 => (cond (!xr1) (some false) ((spec_l1In n x.version 0 100000).bind fun xr2 => (cond (!xr2) (some false) (cond (!x.began) (cond (x.lastVersion == 0) ((spec_ViewSame n x.last (TView.mk (TQuery.mk 0 [] 0 false 0 [] false 0 0) [] [])).bind fun xr3 => (some xr3)) (some false)) ((spec_ViewOk n s x.last).bind fun xr4 => (cond xr4 ((spec_QuerySame n x.last.q x.view.q).bind fun xr5 => (cond xr5 ((spec_l1In n x.lastVersion 0 x.version).bind fun xr6 => (some xr6)) (some false))) (some false))))))))
def impl_within : Nat → Int → Int → Int → Option Bool
  | 0, _, _, _ => none
  | n + 1, n1, low, high =>
    (cond (decide (n1 ≥ low)) (some (decide (n1 ≤ high))) (some false))
def impl_SchemaOk.step3 (n : Nat) (k0 : (List Int) → Option Bool) (back : (List Int) → Int → Int → (List Int) → Option Bool) (t6 : List Int) (t7 : Int) (t8 : Int) (s0 : List Int) : Option Bool :=
  (cond (decide (t8 < t7)) (inB t8 t6.length ((impl_within n (t6.getD t8.toNat 0) 1 4).bind fun xr1 => (cond (!xr1) (some false) (back t6 t7 (W (t8 + 1)) s0)))) (k0 s0))
def impl_SchemaOk.loop3 (n : Nat) (k0 : (List Int) → Option Bool) (N : Nat) : (List Int) → Int → Int → (List Int) → Option Bool :=
  iterN (fun _ _ _ _ => none) (fun back => impl_SchemaOk.step3 n k0 back) N
def impl_SchemaOk : Nat → TSchema → Option Bool
  | 0, _ => none
  | n + 1, s =>
    (impl_SchemaOk.loop3 n (fun xy2 => ((impl_within n (xy2.length : Int) 1 3).bind fun xr3 => (some xr3))) n s.cols (s.cols.length : Int) 0 s.cols)
def impl_hasTable : Nat → TSchema → Int → Option Bool
  | 0, _, _ => none
  | n + 1, s, table =>
    ((impl_within n table 0 (W ((s.cols.length : Int) - 1))).bind fun xr1 => (some xr1))
def impl_isNum : Nat → Int → Option Bool
  | 0, _ => none
  | n + 1, n1 =>
    ((impl_within n n1 (-1000000000) 1000000000).bind fun xr1 => (some xr1))
def impl_kidsFit : Nat → TSchema → TQuery → Option Bool
  | 0, _, _ => none
  | n + 1, s, q =>
    (cond (!q.kids) (cond (q.kidTable == 0) (some (q.kidCol == 0)) (some false)) ((impl_hasTable n s q.kidTable).bind fun xr1 => (cond xr1 (inB q.kidTable s.cols.length ((impl_within n q.kidCol 0 (W ((s.cols.getD q.kidTable.toNat 0) - 1))).bind fun xr2 => (some xr2))) (some false))))
def impl_QueryOk.step7 (n : Nat) (k0 : Int → (List Int) → Int → (List TCond) → Int → Bool → Int → (List Int) → Bool → Int → Int → Option Bool) (back : Int → (List TCond) → Int → Int → (List Int) → Int → (List TCond) → Int → Bool → Int → (List Int) → Bool → Int → Int → Option Bool) (t5 : Int) (t28 : List TCond) (t29 : Int) (t30 : Int) (t20 : List Int) (t30_1 : Int) (t31 : List TCond) (t32 : Int) (t33 : Bool) (t34 : Int) (t35 : List Int) (t36 : Bool) (t37 : Int) (t38 : Int) : Option Bool :=
  (cond (decide (t30 < t29)) (inB t30 t28.length ((impl_within n ((t28.getD t30.toNat TCond.dflt).col) 0 (W (t5 - 1))).bind fun xr3 => (cond (!xr3) (some false) ((impl_within n ((t28.getD t30.toNat TCond.dflt).op) 1 4).bind fun xr4 => (cond (!xr4) (some false) ((impl_isNum n ((t28.getD t30.toNat TCond.dflt).v)).bind fun xr5 => (cond (!xr5) (some false) (back t5 t28 t29 (W (t30 + 1)) t20 t30_1 t31 t32 t33 t34 t35 t36 t37 t38)))))))) (k0 t5 t20 t30_1 t31 t32 t33 t34 t35 t36 t37 t38))
def impl_QueryOk.loop7 (n : Nat) (k0 : Int → (List Int) → Int → (List TCond) → Int → Bool → Int → (List Int) → Bool → Int → Int → Option Bool) (N : Nat) : Int → (List TCond) → Int → Int → (List Int) → Int → (List TCond) → Int → Bool → Int → (List Int) → Bool → Int → Int → Option Bool :=
  iterN (fun _ _ _ _ _ _ _ _ _ _ _ _ _ _ => none) (fun back => impl_QueryOk.step7 n k0 back) N
def impl_QueryOk.step16 (n : Nat) (k2 : Int → (List Int) → Int → (List TCond) → Int → Bool → Int → (List Int) → Bool → Int → Int → Option Bool) (back : Int → (List Int) → Int → Int → (List Int) → Int → (List TCond) → Int → Bool → Int → (List Int) → Bool → Int → Int → Option Bool) (t5 : Int) (t54 : List Int) (t55 : Int) (t56 : Int) (t20 : List Int) (t30 : Int) (t31 : List TCond) (t32 : Int) (t33 : Bool) (t34 : Int) (t35 : List Int) (t36 : Bool) (t37 : Int) (t38 : Int) : Option Bool :=
  (cond (decide (t56 < t55)) (inB t56 t54.length ((impl_within n (t54.getD t56.toNat 0) 0 (W (t5 - 1))).bind fun xr17 => (cond (!xr17) (some false) (cond (decide (t56 > 0)) (inB (W (t56 - 1)) t35.length (cond (decide ((t35.getD (W (t56 - 1)).toNat 0) ≥ (t54.getD t56.toNat 0))) (some false) (back t5 t54 t55 (W (t56 + 1)) t20 t30 t31 t32 t33 t34 t35 t36 t37 t38))) (back t5 t54 t55 (W (t56 + 1)) t20 t30 t31 t32 t33 t34 t35 t36 t37 t38))))) (k2 t5 t20 t30 t31 t32 t33 t34 t35 t36 t37 t38))
def impl_QueryOk.loop16 (n : Nat) (k2 : Int → (List Int) → Int → (List TCond) → Int → Bool → Int → (List Int) → Bool → Int → Int → Option Bool) (N : Nat) : Int → (List Int) → Int → Int → (List Int) → Int → (List TCond) → Int → Bool → Int → (List Int) → Bool → Int → Int → Option Bool :=
  iterN (fun _ _ _ _ _ _ _ _ _ _ _ _ _ _ => none) (fun back => impl_QueryOk.step16 n k2 back) N
def impl_QueryOk : Nat → TSchema → TQuery → Option Bool
  | 0, _, _ => none
  | n + 1, o, append =>
    ((impl_SchemaOk n o).bind fun xr1 => (cond (!xr1) (some false) ((impl_hasTable n o append.table).bind fun xr2 => (cond (!xr2) (some false) (inB append.table o.cols.length (impl_QueryOk.loop7 n (fun xy6 xy7 xy8 xy9 xy10 xy11 xy12 xy13 xy14 xy15 xy16 => (impl_QueryOk.loop16 n (fun xy18 xy19 xy20 xy21 xy22 xy23 xy24 xy25 xy26 xy27 xy28 => ((impl_within n xy22 0 xy18).bind fun xr29 => (cond xr29 (cond (!xy23) (cond (decide ((xy21.length : Int) ≤ 3)) ((impl_within n xy24 0 24).bind fun xr30 => (cond xr30 ((impl_kidsFit n (TSchema.mk xy19) (TQuery.mk xy20 xy21 xy22 xy23 xy24 xy25 xy26 xy27 xy28)).bind fun xr31 => (some xr31)) (some false))) (some false)) (cond (decide ((xy21.length : Int) ≤ 3)) (cond (decide (xy22 > 0)) ((impl_within n xy24 0 24).bind fun xr32 => (cond xr32 ((impl_kidsFit n (TSchema.mk xy19) (TQuery.mk xy20 xy21 xy22 xy23 xy24 xy25 xy26 xy27 xy28)).bind fun xr33 => (some xr33)) (some false))) (some false)) (some false))) (cond (decide ((xy21.length : Int) ≤ 3)) (some false) (some false))))) n xy6 xy13 (xy13.length : Int) 0 xy7 xy8 xy9 xy10 xy11 xy12 xy13 xy14 xy15 xy16)) n (o.cols.getD append.table.toNat 0) append.where_ (append.where_.length : Int) 0 o.cols append.table append.where_ append.order append.down append.first append.show_ append.kids append.kidTable append.kidCol))))))
def impl_RowOk.step3 (n : Nat) (k0 : Int → (List Int) → Int → (List Int) → Option Bool) (back : Int → (List Int) → Int → Int → (List Int) → Int → (List Int) → Option Bool) (table : Int) (t10 : List Int) (t11 : Int) (t12 : Int) (s0 : List Int) (r0 : Int) (r1 : List Int) : Option Bool :=
  (cond (decide (t12 < t11)) (inB t12 t10.length ((impl_isNum n (t10.getD t12.toNat 0)).bind fun xr1 => (cond (!xr1) (some false) (back table t10 t11 (W (t12 + 1)) s0 r0 r1)))) (k0 table s0 r0 r1))
def impl_RowOk.loop3 (n : Nat) (k0 : Int → (List Int) → Int → (List Int) → Option Bool) (N : Nat) : Int → (List Int) → Int → Int → (List Int) → Int → (List Int) → Option Bool :=
  iterN (fun _ _ _ _ _ _ _ => none) (fun back => impl_RowOk.step3 n k0 back) N
def impl_RowOk : Nat → TSchema → Int → TRow → Option Bool
  | 0, _, _, _ => none
  | n + 1, s, table, r =>
    (impl_RowOk.loop3 n (fun xy2 xy3 xy4 xy5 => ((impl_SchemaOk n (TSchema.mk xy3)).bind fun xr6 => (cond xr6 ((impl_hasTable n (TSchema.mk xy3) xy2).bind fun xr7 => (cond xr7 (inB xy2 xy3.length (cond ((xy5.length : Int) == (xy3.getD xy2.toNat 0)) ((impl_within n xy4 1 999).bind fun xr8 => (some xr8)) (some false))) (some false))) (some false)))) n table r.cells (r.cells.length : Int) 0 s.cols r.id_ r.cells)
def impl_holds : Nat → TCond → TRow → Option Bool
  | 0, _, _ => none
  | n + 1, c, r =>
    ((impl_within n c.col 0 (W ((r.cells.length : Int) - 1))).bind fun xr1 => (cond (!xr1) (some false) (inB c.col r.cells.length (cond (c.op == 1) (some ((r.cells.getD c.col.toNat 0) == c.v)) (cond (c.op == 2) (some (decide ((r.cells.getD c.col.toNat 0) < c.v))) (cond (c.op == 3) (some (decide ((r.cells.getD c.col.toNat 0) > c.v))) (cond (c.op == 4) (some ((r.cells.getD c.col.toNat 0) != c.v)) (some false))))))))
def impl_Matches.step3 (n : Nat) (k0 : Unit → Option Bool) (back : (List TCond) → Int → Int → Int → (List Int) → Option Bool) (t8 : List TCond) (t9 : Int) (t10 : Int) (r0 : Int) (r1 : List Int) : Option Bool :=
  (cond (decide (t10 < t9)) (inB t10 t8.length ((impl_holds n (t8.getD t10.toNat TCond.dflt) (TRow.mk r0 r1)).bind fun xr1 => (cond (!xr1) (some false) (back t8 t9 (W (t10 + 1)) r0 r1)))) (k0 ()))
def impl_Matches.loop3 (n : Nat) (k0 : Unit → Option Bool) (N : Nat) : (List TCond) → Int → Int → Int → (List Int) → Option Bool :=
  iterN (fun _ _ _ _ _ => none) (fun back => impl_Matches.step3 n k0 back) N
def impl_Matches : Nat → TQuery → TRow → Option Bool
  | 0, _, _ => none
  | n + 1, q, r =>
    (impl_Matches.loop3 n (fun (_ : Unit) => (some true)) n q.where_ (q.where_.length : Int) 0 r.id_ r.cells)
def impl_cellOf : Nat → TRow → Int → Option Int
  | 0, _, _ => none
  | n + 1, r, col =>
    ((impl_within n col 0 (W ((r.cells.length : Int) - 1))).bind fun xr1 => (cond (!xr1) (some 0) (inB col r.cells.length (some (r.cells.getD col.toNat 0)))))
def impl_Ahead : Nat → TQuery → TRow → TRow → Option Bool
  | 0, _, _, _ => none
  | n + 1, q, a, b =>
    (cond (q.order == 0) (some (decide (a.id_ < b.id_))) ((impl_cellOf n a (W (q.order - 1))).bind fun xr1 => ((impl_cellOf n b (W (q.order - 1))).bind fun xr2 => (cond (xr1 == xr2) (some (decide (a.id_ < b.id_))) (cond q.down (some (decide (xr1 > xr2))) (some (decide (xr1 < xr2))))))))
def impl_RowAt_f1 : Nat → TRow → Int → Option Bool
  | 0, _, _ => none
  | n + 1, r, c =>
    (some (r.id_ == c))
def slices_IndexFunc_Row_c153.step3 (n : Nat) (k0 : Unit → Option Int) (back : (List TRow) → Int → Int → Int → Option Int) (s : List TRow) (f00 : Int) (t7 : Int) (t8 : Int) : Option Int :=
  (cond (decide (t8 < t7)) (inB t8 s.length ((impl_RowAt_f1 n (s.getD t8.toNat TRow.dflt) f00).bind fun xr1 => (cond xr1 (some t8) (back s f00 t7 (W (t8 + 1)))))) (k0 ()))
def slices_IndexFunc_Row_c153.loop3 (n : Nat) (k0 : Unit → Option Int) (N : Nat) : (List TRow) → Int → Int → Int → Option Int :=
  iterN (fun _ _ _ _ => none) (fun back => slices_IndexFunc_Row_c153.step3 n k0 back) N
def slices_IndexFunc_Row_c153 : Nat → (List TRow) → Int → Option Int
  | 0, _, _ => none
  | n + 1, s, c =>
    (slices_IndexFunc_Row_c153.loop3 n (fun (_ : Unit) => (some (-1))) n s c (s.length : Int) 0)
def impl_RowAt : Nat → (List TRow) → Int → Option Int
  | 0, _, _ => none
  | n + 1, rows, id1 =>
    ((slices_IndexFunc_Row_c153 n rows id1).bind fun xr1 => (some xr1))
def impl_ViewOk.step6 (n : Nat) (k0 : Int → (List TCond) → Int → Bool → Int → (List Int) → Bool → Int → Int → (List TRow) → (List TKid) → Option Bool) (back : (List TRow) → Int → Int → (List Int) → Int → (List TCond) → Int → Bool → Int → (List Int) → Bool → Int → Int → (List TRow) → (List TKid) → Option Bool) (t33 : List TRow) (t34 : Int) (t35 : Int) (t20 : List Int) (t30 : Int) (t31 : List TCond) (t32 : Int) (t33_1 : Bool) (t34_1 : Int) (t35_1 : List Int) (t36 : Bool) (t37 : Int) (t38 : Int) (t39 : List TRow) (t310 : List TKid) : Option Bool :=
  (cond (decide (t35 < t34)) (inB t35 t33.length ((impl_RowOk n (TSchema.mk t20) t30 (t33.getD t35.toNat TRow.dflt)).bind fun xr2 => (cond (!xr2) (some false) ((impl_Matches n (TQuery.mk t30 t31 t32 t33_1 t34_1 t35_1 t36 t37 t38) (t33.getD t35.toNat TRow.dflt)).bind fun xr3 => (cond (!xr3) (some false) (cond (decide (t35 > 0)) (inB (W (t35 - 1)) t39.length ((impl_Ahead n (TQuery.mk t30 t31 t32 t33_1 t34_1 t35_1 t36 t37 t38) (t39.getD (W (t35 - 1)).toNat TRow.dflt) (t33.getD t35.toNat TRow.dflt)).bind fun xr4 => (cond (!xr4) (some false) ((impl_RowAt n t39 ((t33.getD t35.toNat TRow.dflt).id_)).bind fun xr5 => (cond (xr5 != t35) (some false) (back t33 t34 (W (t35 + 1)) t20 t30 t31 t32 t33_1 t34_1 t35_1 t36 t37 t38 t39 t310)))))) ((impl_RowAt n t39 ((t33.getD t35.toNat TRow.dflt).id_)).bind fun xr6 => (cond (xr6 != t35) (some false) (back t33 t34 (W (t35 + 1)) t20 t30 t31 t32 t33_1 t34_1 t35_1 t36 t37 t38 t39 t310))))))))) (k0 t30 t31 t32 t33_1 t34_1 t35_1 t36 t37 t38 t39 t310))
def impl_ViewOk.loop6 (n : Nat) (k0 : Int → (List TCond) → Int → Bool → Int → (List Int) → Bool → Int → Int → (List TRow) → (List TKid) → Option Bool) (N : Nat) : (List TRow) → Int → Int → (List Int) → Int → (List TCond) → Int → Bool → Int → (List Int) → Bool → Int → Int → (List TRow) → (List TKid) → Option Bool :=
  iterN (fun _ _ _ _ _ _ _ _ _ _ _ _ _ _ _ => none) (fun back => impl_ViewOk.step6 n k0 back) N
def impl_ViewOk.step15 (n : Nat) (k2 : Unit → Option Bool) (back : (List TKid) → Int → Int → Int → (List TCond) → Int → Bool → Int → (List Int) → Bool → Int → Int → (List TRow) → (List TKid) → Option Bool) (t82 : List TKid) (t83 : Int) (t84 : Int) (t30 : Int) (t31 : List TCond) (t32 : Int) (t33 : Bool) (t34 : Int) (t35 : List Int) (t36 : Bool) (t37 : Int) (t38 : Int) (t39 : List TRow) (t310 : List TKid) : Option Bool :=
  (cond (decide (t84 < t83)) (inB t84 t82.length ((impl_within n ((t82.getD t84.toNat TKid.dflt).n_) 1 24).bind fun xr18 => (cond (!xr18) (some false) (cond (decide (t84 > 0)) (inB (W (t84 - 1)) t310.length (let xv19 : Bool := (decide (((t310.getD (W (t84 - 1)).toNat TKid.dflt).id_) ≥ ((t82.getD t84.toNat TKid.dflt).id_))); (cond xv19 (some false) (back t82 t83 (W (t84 + 1)) t30 t31 t32 t33 t34 t35 t36 t37 t38 t39 t310)))) (back t82 t83 (W (t84 + 1)) t30 t31 t32 t33 t34 t35 t36 t37 t38 t39 t310))))) (k2 ()))
def impl_ViewOk.loop15 (n : Nat) (k2 : Unit → Option Bool) (N : Nat) : (List TKid) → Int → Int → Int → (List TCond) → Int → Bool → Int → (List Int) → Bool → Int → Int → (List TRow) → (List TKid) → Option Bool :=
  iterN (fun _ _ _ _ _ _ _ _ _ _ _ _ _ _ => none) (fun back => impl_ViewOk.step15 n k2 back) N
def impl_ViewOk : Nat → TSchema → TView → Option Bool
  | 0, _, _ => none
  | n + 1, o, append =>
    ((impl_QueryOk n o append.q).bind fun xr1 => (cond (!xr1) (some false) (cond (decide ((append.rows.length : Int) > 24)) (some false) (cond (decide ((append.kids.length : Int) > 0)) (cond (!append.q.kids) (some false) (impl_ViewOk.loop6 n (fun xy7 xy8 xy9 xy10 xy11 xy12 xy13 xy14 xy15 xy16 xy17 => (impl_ViewOk.loop15 n (fun (_ : Unit) => (some true)) n xy17 (xy17.length : Int) 0 xy7 xy8 xy9 xy10 xy11 xy12 xy13 xy14 xy15 xy16 xy17)) n append.rows (append.rows.length : Int) 0 o.cols append.q.table append.q.where_ append.q.order append.q.down append.q.first append.q.show_ append.q.kids append.q.kidTable append.q.kidCol append.rows append.kids)) (impl_ViewOk.loop6 n (fun xy20 xy21 xy22 xy23 xy24 xy25 xy26 xy27 xy28 xy29 xy30 => (impl_ViewOk.loop15 n (fun (_ : Unit) => (some true)) n xy30 (xy30.length : Int) 0 xy20 xy21 xy22 xy23 xy24 xy25 xy26 xy27 xy28 xy29 xy30)) n append.rows (append.rows.length : Int) 0 o.cols append.q.table append.q.where_ append.q.order append.q.down append.q.first append.q.show_ append.q.kids append.q.kidTable append.q.kidCol append.rows append.kids)))))
def impl_isVersion : Nat → Int → Option Bool
  | 0, _ => none
  | n + 1, n1 =>
    ((impl_within n n1 0 100000).bind fun xr1 => (some xr1))
def slices_Equal_Cond.step6 (n : Nat) (k0 : Unit → Option Bool) (back : (List TCond) → (List TCond) → Int → Int → Option Bool) (s1 : List TCond) (s2 : List TCond) (t12 : Int) (t13 : Int) : Option Bool :=
  (cond (decide (t13 < t12)) (inB t13 s1.length (inB t13 s2.length (let xv1 : Bool := (!(cond (((s1.getD t13.toNat TCond.dflt).col) == ((s2.getD t13.toNat TCond.dflt).col)) (cond (((s1.getD t13.toNat TCond.dflt).op) == ((s2.getD t13.toNat TCond.dflt).op)) (cond (((s1.getD t13.toNat TCond.dflt).v) == ((s2.getD t13.toNat TCond.dflt).v)) true false) false) false)); (cond xv1 (some false) (back s1 s2 t12 (W (t13 + 1))))))) (k0 ()))
def slices_Equal_Cond.loop6 (n : Nat) (k0 : Unit → Option Bool) (N : Nat) : (List TCond) → (List TCond) → Int → Int → Option Bool :=
  iterN (fun _ _ _ _ => none) (fun back => slices_Equal_Cond.step6 n k0 back) N
def slices_Equal_Cond : Nat → (List TCond) → (List TCond) → Option Bool
  | 0, _, _ => none
  | n + 1, s1, s2 =>
    (cond ((s1.length : Int) != (s2.length : Int)) (some false) (slices_Equal_Cond.loop6 n (fun (_ : Unit) => (some true)) n s1 s2 (s1.length : Int) 0))
def slices_Equal_int.step6 (n : Nat) (k0 : Unit → Option Bool) (back : (List Int) → (List Int) → Int → Int → Option Bool) (s1 : List Int) (s2 : List Int) (t12 : Int) (t13 : Int) : Option Bool :=
  (cond (decide (t13 < t12)) (inB t13 s1.length (inB t13 s2.length (cond ((s1.getD t13.toNat 0) != (s2.getD t13.toNat 0)) (some false) (back s1 s2 t12 (W (t13 + 1)))))) (k0 ()))
def slices_Equal_int.loop6 (n : Nat) (k0 : Unit → Option Bool) (N : Nat) : (List Int) → (List Int) → Int → Int → Option Bool :=
  iterN (fun _ _ _ _ => none) (fun back => slices_Equal_int.step6 n k0 back) N
def slices_Equal_int : Nat → (List Int) → (List Int) → Option Bool
  | 0, _, _ => none
  | n + 1, s1, s2 =>
    (cond ((s1.length : Int) != (s2.length : Int)) (some false) (slices_Equal_int.loop6 n (fun (_ : Unit) => (some true)) n s1 s2 (s1.length : Int) 0))
def impl_QuerySame : Nat → TQuery → TQuery → Option Bool
  | 0, _, _ => none
  | n + 1, o, append =>
    (cond (o.table == append.table) (cond (o.order == append.order) (cond (o.down == append.down) (cond (o.kids == append.kids) (cond (o.kidTable == append.kidTable) (cond (o.first == append.first) (cond (o.kidCol == append.kidCol) ((slices_Equal_Cond n o.where_ append.where_).bind fun xr1 => (cond xr1 ((slices_Equal_int n o.show_ append.show_).bind fun xr2 => (some xr2)) (some false))) (some false)) (some false)) (cond (o.first == append.first) (some false) (some false))) (cond (o.first == append.first) (some false) (some false))) (cond (o.kids == append.kids) (cond (o.kidTable == append.kidTable) (some false) (some false)) (some false))) (cond (o.kids == append.kids) (cond (o.kidTable == append.kidTable) (some false) (some false)) (some false))) (cond (o.kids == append.kids) (cond (o.kidTable == append.kidTable) (some false) (some false)) (some false)))
def impl_RowSame : Nat → TRow → TRow → Option Bool
  | 0, _, _ => none
  | n + 1, a, b =>
    (cond (a.id_ == b.id_) ((slices_Equal_int n a.cells b.cells).bind fun xr1 => (some xr1)) (some false))
def slices_EqualFunc_Row_c102.step6 (n : Nat) (k0 : Unit → Option Bool) (back : (List TRow) → (List TRow) → Int → Int → Option Bool) (s2 : List TRow) (t15 : List TRow) (t16 : Int) (t17 : Int) : Option Bool :=
  (cond (decide (t17 < t16)) (inB t17 t15.length (inB t17 s2.length ((impl_RowSame n (t15.getD t17.toNat TRow.dflt) (s2.getD t17.toNat TRow.dflt)).bind fun xr1 => (cond (!xr1) (some false) (back s2 t15 t16 (W (t17 + 1))))))) (k0 ()))
def slices_EqualFunc_Row_c102.loop6 (n : Nat) (k0 : Unit → Option Bool) (N : Nat) : (List TRow) → (List TRow) → Int → Int → Option Bool :=
  iterN (fun _ _ _ _ => none) (fun back => slices_EqualFunc_Row_c102.step6 n k0 back) N
def slices_EqualFunc_Row_c102 : Nat → (List TRow) → (List TRow) → Option Bool
  | 0, _, _ => none
  | n + 1, s1, s2 =>
    (cond ((s1.length : Int) != (s2.length : Int)) (some false) (slices_EqualFunc_Row_c102.loop6 n (fun (_ : Unit) => (some true)) n s2 s1 (s1.length : Int) 0))
def slices_Equal_Kid.step6 (n : Nat) (k0 : Unit → Option Bool) (back : (List TKid) → (List TKid) → Int → Int → Option Bool) (s1 : List TKid) (s2 : List TKid) (t12 : Int) (t13 : Int) : Option Bool :=
  (cond (decide (t13 < t12)) (inB t13 s1.length (inB t13 s2.length (let xv1 : Bool := (!(cond (((s1.getD t13.toNat TKid.dflt).id_) == ((s2.getD t13.toNat TKid.dflt).id_)) (cond (((s1.getD t13.toNat TKid.dflt).n_) == ((s2.getD t13.toNat TKid.dflt).n_)) true false) false)); (cond xv1 (some false) (back s1 s2 t12 (W (t13 + 1))))))) (k0 ()))
def slices_Equal_Kid.loop6 (n : Nat) (k0 : Unit → Option Bool) (N : Nat) : (List TKid) → (List TKid) → Int → Int → Option Bool :=
  iterN (fun _ _ _ _ => none) (fun back => slices_Equal_Kid.step6 n k0 back) N
def slices_Equal_Kid : Nat → (List TKid) → (List TKid) → Option Bool
  | 0, _, _ => none
  | n + 1, s1, s2 =>
    (cond ((s1.length : Int) != (s2.length : Int)) (some false) (slices_Equal_Kid.loop6 n (fun (_ : Unit) => (some true)) n s1 s2 (s1.length : Int) 0))
def impl_ViewSame : Nat → TView → TView → Option Bool
  | 0, _, _ => none
  | n + 1, a, b =>
    ((impl_QuerySame n a.q b.q).bind fun xr1 => (cond xr1 ((slices_EqualFunc_Row_c102 n a.rows b.rows).bind fun xr2 => (cond xr2 ((slices_Equal_Kid n a.kids b.kids).bind fun xr3 => (some xr3)) (some false))) (some false)))
def impl_SessOk : Nat → TSchema → TSess → Option Bool
  | 0, _, _ => none
  | n + 1, s, x =>
    ((impl_ViewOk n s x.view).bind fun xr1 => (cond (!xr1) (some false) ((impl_isVersion n x.version).bind fun xr2 => (cond (!xr2) (some false) (cond (!x.began) ((impl_ViewSame n x.last (TView.mk (TQuery.mk 0 [] 0 false 0 [] false 0 0) [] [])).bind fun xr3 => (cond xr3 (some (x.lastVersion == 0)) (some false))) ((impl_ViewOk n s x.last).bind fun xr4 => (cond xr4 ((impl_QuerySame n x.view.q x.last.q).bind fun xr5 => (cond xr5 ((impl_within n x.lastVersion 0 x.version).bind fun xr6 => (some xr6)) (some false))) (some false))))))))
def laws_eqIntS.step6 (n : Nat) (k0 : Unit → Option Bool) (back : (List Int) → (List Int) → Int → Option Bool) (a : List Int) (b : List Int) (i : Int) : Option Bool :=
  (cond (decide (i < (a.length : Int))) (inB i a.length (inB i b.length (cond ((a.getD i.toNat 0) != (b.getD i.toNat 0)) (some false) (back a b (W (i + 1)))))) (k0 ()))
def laws_eqIntS.loop6 (n : Nat) (k0 : Unit → Option Bool) (N : Nat) : (List Int) → (List Int) → Int → Option Bool :=
  iterN (fun _ _ _ => none) (fun back => laws_eqIntS.step6 n k0 back) N
def laws_eqIntS : Nat → (List Int) → (List Int) → Option Bool
  | 0, _, _ => none
  | n + 1, a, b =>
    (cond ((a.length : Int) != (b.length : Int)) (some false) (laws_eqIntS.loop6 n (fun (_ : Unit) => (some true)) n a b 0))
def laws_eqSchema : Nat → TSchema → TSchema → Option Bool
  | 0, _, _ => none
  | n + 1, a, b =>
    ((laws_eqIntS n a.cols b.cols).bind fun xr1 => (cond (!xr1) (some false) (some true)))
def laws_eqCond : Nat → TCond → TCond → Option Bool
  | 0, _, _ => none
  | n + 1, a, b =>
    (cond (a.col != b.col) (some false) (cond (a.op != b.op) (some false) (cond (a.v != b.v) (some false) (some true))))
def laws_eqCondS.step6 (n : Nat) (k0 : Unit → Option Bool) (back : (List TCond) → (List TCond) → Int → Option Bool) (a : List TCond) (b : List TCond) (i : Int) : Option Bool :=
  (cond (decide (i < (a.length : Int))) (inB i a.length (inB i b.length ((laws_eqCond n (a.getD i.toNat TCond.dflt) (b.getD i.toNat TCond.dflt)).bind fun xr1 => (cond (!xr1) (some false) (back a b (W (i + 1))))))) (k0 ()))
def laws_eqCondS.loop6 (n : Nat) (k0 : Unit → Option Bool) (N : Nat) : (List TCond) → (List TCond) → Int → Option Bool :=
  iterN (fun _ _ _ => none) (fun back => laws_eqCondS.step6 n k0 back) N
def laws_eqCondS : Nat → (List TCond) → (List TCond) → Option Bool
  | 0, _, _ => none
  | n + 1, a, b =>
    (cond ((a.length : Int) != (b.length : Int)) (some false) (laws_eqCondS.loop6 n (fun (_ : Unit) => (some true)) n a b 0))
def laws_eqQuery : Nat → TQuery → TQuery → Option Bool
  | 0, _, _ => none
  | n + 1, a, b =>
    (cond (a.table != b.table) (some false) ((laws_eqCondS n a.where_ b.where_).bind fun xr1 => (cond (!xr1) (some false) (cond (a.order != b.order) (some false) (cond (!(a.down == b.down)) (some false) (cond (a.first != b.first) (some false) ((laws_eqIntS n a.show_ b.show_).bind fun xr2 => (cond (!xr2) (some false) (cond (!(a.kids == b.kids)) (some false) (cond (a.kidTable != b.kidTable) (some false) (cond (a.kidCol != b.kidCol) (some false) (some true))))))))))))
def laws_eqRow : Nat → TRow → TRow → Option Bool
  | 0, _, _ => none
  | n + 1, a, b =>
    (cond (a.id_ != b.id_) (some false) ((laws_eqIntS n a.cells b.cells).bind fun xr1 => (cond (!xr1) (some false) (some true))))
def laws_eqRowS.step6 (n : Nat) (k0 : Unit → Option Bool) (back : (List TRow) → (List TRow) → Int → Option Bool) (a : List TRow) (b : List TRow) (i : Int) : Option Bool :=
  (cond (decide (i < (a.length : Int))) (inB i a.length (inB i b.length ((laws_eqRow n (a.getD i.toNat TRow.dflt) (b.getD i.toNat TRow.dflt)).bind fun xr1 => (cond (!xr1) (some false) (back a b (W (i + 1))))))) (k0 ()))
def laws_eqRowS.loop6 (n : Nat) (k0 : Unit → Option Bool) (N : Nat) : (List TRow) → (List TRow) → Int → Option Bool :=
  iterN (fun _ _ _ => none) (fun back => laws_eqRowS.step6 n k0 back) N
def laws_eqRowS : Nat → (List TRow) → (List TRow) → Option Bool
  | 0, _, _ => none
  | n + 1, a, b =>
    (cond ((a.length : Int) != (b.length : Int)) (some false) (laws_eqRowS.loop6 n (fun (_ : Unit) => (some true)) n a b 0))
def laws_eqKid : Nat → TKid → TKid → Option Bool
  | 0, _, _ => none
  | n + 1, a, b =>
    (cond (a.id_ != b.id_) (some false) (cond (a.n_ != b.n_) (some false) (some true)))
def laws_eqKidS.step6 (n : Nat) (k0 : Unit → Option Bool) (back : (List TKid) → (List TKid) → Int → Option Bool) (a : List TKid) (b : List TKid) (i : Int) : Option Bool :=
  (cond (decide (i < (a.length : Int))) (inB i a.length (inB i b.length ((laws_eqKid n (a.getD i.toNat TKid.dflt) (b.getD i.toNat TKid.dflt)).bind fun xr1 => (cond (!xr1) (some false) (back a b (W (i + 1))))))) (k0 ()))
def laws_eqKidS.loop6 (n : Nat) (k0 : Unit → Option Bool) (N : Nat) : (List TKid) → (List TKid) → Int → Option Bool :=
  iterN (fun _ _ _ => none) (fun back => laws_eqKidS.step6 n k0 back) N
def laws_eqKidS : Nat → (List TKid) → (List TKid) → Option Bool
  | 0, _, _ => none
  | n + 1, a, b =>
    (cond ((a.length : Int) != (b.length : Int)) (some false) (laws_eqKidS.loop6 n (fun (_ : Unit) => (some true)) n a b 0))
def laws_eqView : Nat → TView → TView → Option Bool
  | 0, _, _ => none
  | n + 1, a, b =>
    ((laws_eqQuery n a.q b.q).bind fun xr1 => (cond (!xr1) (some false) ((laws_eqRowS n a.rows b.rows).bind fun xr2 => (cond (!xr2) (some false) ((laws_eqKidS n a.kids b.kids).bind fun xr3 => (cond (!xr3) (some false) (some true)))))))
def laws_eqSess : Nat → TSess → TSess → Option Bool
  | 0, _, _ => none
  | n + 1, a, b =>
    ((laws_eqView n a.view b.view).bind fun xr1 => (cond (!xr1) (some false) (cond (a.version != b.version) (some false) ((laws_eqView n a.last b.last).bind fun xr2 => (cond (!xr2) (some false) (cond (a.lastVersion != b.lastVersion) (some false) (cond (!(a.began == b.began)) (some false) (some true))))))))
def laws_FnExactSessOk : Nat → TSchema → TSess → Option Bool
  | 0, _, _ => none
  | n + 1, aS, aX =>
    ((laws_szSchema n aS 1048576).bind fun xr1 => (cond (decide (xr1 < 0)) (some true) ((laws_szSess n aX xr1).bind fun xr2 => (cond (decide (xr2 < 0)) (some true) ((laws_toSchema n aS).bind fun xr3 => ((laws_toSess n aX).bind fun xr4 => ((spec_SessOk n xr3 xr4).bind fun xr5 => ((laws_toSchema n aS).bind fun xr6 => ((laws_toSess n aX).bind fun xr7 => ((impl_SessOk n xr6 xr7).bind fun xr8 => (cond (!(xr8 == xr5)) (some false) ((laws_toSchema n aS).bind fun xr9 => ((laws_eqSchema n xr6 xr9).bind fun xr10 => (cond (!xr10) (some false) ((laws_toSess n aX).bind fun xr11 => ((laws_eqSess n xr7 xr11).bind fun xr12 => (cond (!xr12) (some false) (some true))))))))))))))))))
end Go.Pi
end
section
set_option linter.unusedVariables false
set_option maxRecDepth 100000
namespace Go.Pi
def laws_szIntS.K (n : Nat) {ω : Type} (avs : List AV) (κ : AV → List AV → Option ω) : Option ω :=
  uc (fixes [.sl .v .int, .k] avs) fun a1 l2 => getSl .v .int a1 fun x3 => uc l2 fun a4 l5 => getI .i64 a4 fun x6 => un l5 ((laws_szIntS n x3 x6).bind fun r => κ (.i .i64 r) [])

def laws_szSchema.K (n : Nat) {ω : Type} (avs : List AV) (κ : AV → List AV → Option ω) : Option ω :=
  uc (fixes [.ag [.sl .v .int], .k] avs) fun a1 l2 => getAg a1 fun c3 => uc c3 fun a4 l5 => getSl .v .int a4 fun x6 => un l5 (uc l2 fun a7 l8 => getI .i64 a7 fun x9 => un l8 ((laws_szSchema n (TSchema.mk x6) x9).bind fun r => κ (.i .i64 r) []))

def laws_szCondS.K (n : Nat) {ω : Type} (avs : List AV) (κ : AV → List AV → Option ω) : Option ω :=
  uc (fixes [.sl .v .lCond, .k] avs) fun a1 l2 => getSl .v .lCond a1 fun x3 => uc l2 fun a4 l5 => getI .i64 a4 fun x6 => un l5 ((laws_szCondS n x3 x6).bind fun r => κ (.i .i64 r) [])

def laws_szQuery.K (n : Nat) {ω : Type} (avs : List AV) (κ : AV → List AV → Option ω) : Option ω :=
  uc (fixes [.ag [.k, .sl .v .lCond, .k, .k, .k, .sl .v .int, .k, .k, .k], .k] avs) fun a1 l2 => getAg a1 fun c3 => uc c3 fun a4 l5 => getI .i64 a4 fun x6 => uc l5 fun a7 l8 => getSl .v .lCond a7 fun x9 => uc l8 fun a10 l11 => getI .i64 a10 fun x12 => uc l11 fun a13 l14 => getB a13 fun x15 => uc l14 fun a16 l17 => getI .i64 a16 fun x18 => uc l17 fun a19 l20 => getSl .v .int a19 fun x21 => uc l20 fun a22 l23 => getB a22 fun x24 => uc l23 fun a25 l26 => getI .i64 a25 fun x27 => uc l26 fun a28 l29 => getI .i64 a28 fun x30 => un l29 (uc l2 fun a31 l32 => getI .i64 a31 fun x33 => un l32 ((laws_szQuery n (TQuery.mk x6 x9 x12 x15 x18 x21 x24 x27 x30) x33).bind fun r => κ (.i .i64 r) []))

def laws_szRow.K (n : Nat) {ω : Type} (avs : List AV) (κ : AV → List AV → Option ω) : Option ω :=
  uc (fixes [.ag [.k, .sl .v .int], .k] avs) fun a1 l2 => getAg a1 fun c3 => uc c3 fun a4 l5 => getI .i64 a4 fun x6 => uc l5 fun a7 l8 => getSl .v .int a7 fun x9 => un l8 (uc l2 fun a10 l11 => getI .i64 a10 fun x12 => un l11 ((laws_szRow n (TRow.mk x6 x9) x12).bind fun r => κ (.i .i64 r) []))

def laws_szRowS.K (n : Nat) {ω : Type} (avs : List AV) (κ : AV → List AV → Option ω) : Option ω :=
  uc (fixes [.sl .v .lRow, .k] avs) fun a1 l2 => getSl .v .lRow a1 fun x3 => uc l2 fun a4 l5 => getI .i64 a4 fun x6 => un l5 ((laws_szRowS n x3 x6).bind fun r => κ (.i .i64 r) [])

def laws_szKidS.K (n : Nat) {ω : Type} (avs : List AV) (κ : AV → List AV → Option ω) : Option ω :=
  uc (fixes [.sl .v .lKid, .k] avs) fun a1 l2 => getSl .v .lKid a1 fun x3 => uc l2 fun a4 l5 => getI .i64 a4 fun x6 => un l5 ((laws_szKidS n x3 x6).bind fun r => κ (.i .i64 r) [])

def laws_szView.K (n : Nat) {ω : Type} (avs : List AV) (κ : AV → List AV → Option ω) : Option ω :=
  uc (fixes [.ag [.k, .sl .v .lCond, .k, .k, .k, .sl .v .int, .k, .k, .k, .sl .v .lRow, .sl .v .lKid], .k] avs) fun a1 l2 => getAg a1 fun c3 => uc c3 fun a4 l5 => getI .i64 a4 fun x6 => uc l5 fun a7 l8 => getSl .v .lCond a7 fun x9 => uc l8 fun a10 l11 => getI .i64 a10 fun x12 => uc l11 fun a13 l14 => getB a13 fun x15 => uc l14 fun a16 l17 => getI .i64 a16 fun x18 => uc l17 fun a19 l20 => getSl .v .int a19 fun x21 => uc l20 fun a22 l23 => getB a22 fun x24 => uc l23 fun a25 l26 => getI .i64 a25 fun x27 => uc l26 fun a28 l29 => getI .i64 a28 fun x30 => uc l29 fun a31 l32 => getSl .v .lRow a31 fun x33 => uc l32 fun a34 l35 => getSl .v .lKid a34 fun x36 => un l35 (uc l2 fun a37 l38 => getI .i64 a37 fun x39 => un l38 ((laws_szView n (TView.mk (TQuery.mk x6 x9 x12 x15 x18 x21 x24 x27 x30) x33 x36) x39).bind fun r => κ (.i .i64 r) []))

def laws_szSess.K (n : Nat) {ω : Type} (avs : List AV) (κ : AV → List AV → Option ω) : Option ω :=
  uc (fixes [.ag [.k, .sl .v .lCond, .k, .k, .k, .sl .v .int, .k, .k, .k, .sl .v .lRow, .sl .v .lKid, .k, .k, .sl .v .lCond, .k, .k, .k, .sl .v .int, .k, .k, .k, .sl .v .lRow, .sl .v .lKid, .k, .k], .k] avs) fun a1 l2 => getAg a1 fun c3 => uc c3 fun a4 l5 => getI .i64 a4 fun x6 => uc l5 fun a7 l8 => getSl .v .lCond a7 fun x9 => uc l8 fun a10 l11 => getI .i64 a10 fun x12 => uc l11 fun a13 l14 => getB a13 fun x15 => uc l14 fun a16 l17 => getI .i64 a16 fun x18 => uc l17 fun a19 l20 => getSl .v .int a19 fun x21 => uc l20 fun a22 l23 => getB a22 fun x24 => uc l23 fun a25 l26 => getI .i64 a25 fun x27 => uc l26 fun a28 l29 => getI .i64 a28 fun x30 => uc l29 fun a31 l32 => getSl .v .lRow a31 fun x33 => uc l32 fun a34 l35 => getSl .v .lKid a34 fun x36 => uc l35 fun a37 l38 => getI .i64 a37 fun x39 => uc l38 fun a40 l41 => getI .i64 a40 fun x42 => uc l41 fun a43 l44 => getSl .v .lCond a43 fun x45 => uc l44 fun a46 l47 => getI .i64 a46 fun x48 => uc l47 fun a49 l50 => getB a49 fun x51 => uc l50 fun a52 l53 => getI .i64 a52 fun x54 => uc l53 fun a55 l56 => getSl .v .int a55 fun x57 => uc l56 fun a58 l59 => getB a58 fun x60 => uc l59 fun a61 l62 => getI .i64 a61 fun x63 => uc l62 fun a64 l65 => getI .i64 a64 fun x66 => uc l65 fun a67 l68 => getSl .v .lRow a67 fun x69 => uc l68 fun a70 l71 => getSl .v .lKid a70 fun x72 => uc l71 fun a73 l74 => getI .i64 a73 fun x75 => uc l74 fun a76 l77 => getB a76 fun x78 => un l77 (uc l2 fun a79 l80 => getI .i64 a79 fun x81 => un l80 ((laws_szSess n (TSess.mk (TView.mk (TQuery.mk x6 x9 x12 x15 x18 x21 x24 x27 x30) x33 x36) x39 (TView.mk (TQuery.mk x42 x45 x48 x51 x54 x57 x60 x63 x66) x69 x72) x75 x78) x81).bind fun r => κ (.i .i64 r) []))

def laws_toIntS.K (n : Nat) {ω : Type} (avs : List AV) (κ : AV → List AV → Option ω) : Option ω :=
  uc (fixes [.sl .v .int] avs) fun a1 l2 => getSl .v .int a1 fun x3 => un l2 ((laws_toIntS n x3).bind fun r => κ (.sl .d .int r) [])

def laws_toSchema.K (n : Nat) {ω : Type} (avs : List AV) (κ : AV → List AV → Option ω) : Option ω :=
  uc (fixes [.ag [.sl .v .int]] avs) fun a1 l2 => getAg a1 fun c3 => uc c3 fun a4 l5 => getSl .v .int a4 fun x6 => un l5 (un l2 ((laws_toSchema n (TSchema.mk x6)).bind fun r => κ (.ag [.sl .d .int r.cols]) []))

def laws_toCond.K (n : Nat) {ω : Type} (avs : List AV) (κ : AV → List AV → Option ω) : Option ω :=
  uc (fixes [.ag [.k, .k, .k]] avs) fun a1 l2 => getAg a1 fun c3 => uc c3 fun a4 l5 => getI .i64 a4 fun x6 => uc l5 fun a7 l8 => getI .i64 a7 fun x9 => uc l8 fun a10 l11 => getI .i64 a10 fun x12 => un l11 (un l2 ((laws_toCond n (TCond.mk x6 x9 x12)).bind fun r => κ (.ag [.i .i64 r.col, .i .i64 r.op, .i .i64 r.v]) []))

def laws_toCondS.K (n : Nat) {ω : Type} (avs : List AV) (κ : AV → List AV → Option ω) : Option ω :=
  uc (fixes [.sl .v .lCond] avs) fun a1 l2 => getSl .v .lCond a1 fun x3 => un l2 ((laws_toCondS n x3).bind fun r => κ (.sl .d .iCond r) [])

def laws_toQuery.K (n : Nat) {ω : Type} (avs : List AV) (κ : AV → List AV → Option ω) : Option ω :=
  uc (fixes [.ag [.k, .sl .v .lCond, .k, .k, .k, .sl .v .int, .k, .k, .k]] avs) fun a1 l2 => getAg a1 fun c3 => uc c3 fun a4 l5 => getI .i64 a4 fun x6 => uc l5 fun a7 l8 => getSl .v .lCond a7 fun x9 => uc l8 fun a10 l11 => getI .i64 a10 fun x12 => uc l11 fun a13 l14 => getB a13 fun x15 => uc l14 fun a16 l17 => getI .i64 a16 fun x18 => uc l17 fun a19 l20 => getSl .v .int a19 fun x21 => uc l20 fun a22 l23 => getB a22 fun x24 => uc l23 fun a25 l26 => getI .i64 a25 fun x27 => uc l26 fun a28 l29 => getI .i64 a28 fun x30 => un l29 (un l2 ((laws_toQuery n (TQuery.mk x6 x9 x12 x15 x18 x21 x24 x27 x30)).bind fun r => κ (.ag [.i .i64 r.table, .sl .d .iCond r.where_, .i .i64 r.order, .b r.down, .i .i64 r.first, .sl .d .int r.show_, .b r.kids, .i .i64 r.kidTable, .i .i64 r.kidCol]) []))

def laws_toRow.K (n : Nat) {ω : Type} (avs : List AV) (κ : AV → List AV → Option ω) : Option ω :=
  uc (fixes [.ag [.k, .sl .v .int]] avs) fun a1 l2 => getAg a1 fun c3 => uc c3 fun a4 l5 => getI .i64 a4 fun x6 => uc l5 fun a7 l8 => getSl .v .int a7 fun x9 => un l8 (un l2 ((laws_toRow n (TRow.mk x6 x9)).bind fun r => κ (.ag [.i .i64 r.id_, .sl .d .int r.cells]) []))

def laws_toRowS.K (n : Nat) {ω : Type} (avs : List AV) (κ : AV → List AV → Option ω) : Option ω :=
  uc (fixes [.sl .v .lRow] avs) fun a1 l2 => getSl .v .lRow a1 fun x3 => un l2 ((laws_toRowS n x3).bind fun r => κ (.sl .d .iRow r) [])

def laws_toKid.K (n : Nat) {ω : Type} (avs : List AV) (κ : AV → List AV → Option ω) : Option ω :=
  uc (fixes [.ag [.k, .k]] avs) fun a1 l2 => getAg a1 fun c3 => uc c3 fun a4 l5 => getI .i64 a4 fun x6 => uc l5 fun a7 l8 => getI .i64 a7 fun x9 => un l8 (un l2 ((laws_toKid n (TKid.mk x6 x9)).bind fun r => κ (.ag [.i .i64 r.id_, .i .i64 r.n_]) []))

def laws_toKidS.K (n : Nat) {ω : Type} (avs : List AV) (κ : AV → List AV → Option ω) : Option ω :=
  uc (fixes [.sl .v .lKid] avs) fun a1 l2 => getSl .v .lKid a1 fun x3 => un l2 ((laws_toKidS n x3).bind fun r => κ (.sl .d .iKid r) [])

def laws_toView.K (n : Nat) {ω : Type} (avs : List AV) (κ : AV → List AV → Option ω) : Option ω :=
  uc (fixes [.ag [.k, .sl .v .lCond, .k, .k, .k, .sl .v .int, .k, .k, .k, .sl .v .lRow, .sl .v .lKid]] avs) fun a1 l2 => getAg a1 fun c3 => uc c3 fun a4 l5 => getI .i64 a4 fun x6 => uc l5 fun a7 l8 => getSl .v .lCond a7 fun x9 => uc l8 fun a10 l11 => getI .i64 a10 fun x12 => uc l11 fun a13 l14 => getB a13 fun x15 => uc l14 fun a16 l17 => getI .i64 a16 fun x18 => uc l17 fun a19 l20 => getSl .v .int a19 fun x21 => uc l20 fun a22 l23 => getB a22 fun x24 => uc l23 fun a25 l26 => getI .i64 a25 fun x27 => uc l26 fun a28 l29 => getI .i64 a28 fun x30 => uc l29 fun a31 l32 => getSl .v .lRow a31 fun x33 => uc l32 fun a34 l35 => getSl .v .lKid a34 fun x36 => un l35 (un l2 ((laws_toView n (TView.mk (TQuery.mk x6 x9 x12 x15 x18 x21 x24 x27 x30) x33 x36)).bind fun r => κ (.ag [.i .i64 r.q.table, .sl .d .iCond r.q.where_, .i .i64 r.q.order, .b r.q.down, .i .i64 r.q.first, .sl .d .int r.q.show_, .b r.q.kids, .i .i64 r.q.kidTable, .i .i64 r.q.kidCol, .sl .d .iRow r.rows, .sl .d .iKid r.kids]) []))

def laws_toSess.K (n : Nat) {ω : Type} (avs : List AV) (κ : AV → List AV → Option ω) : Option ω :=
  uc (fixes [.ag [.k, .sl .v .lCond, .k, .k, .k, .sl .v .int, .k, .k, .k, .sl .v .lRow, .sl .v .lKid, .k, .k, .sl .v .lCond, .k, .k, .k, .sl .v .int, .k, .k, .k, .sl .v .lRow, .sl .v .lKid, .k, .k]] avs) fun a1 l2 => getAg a1 fun c3 => uc c3 fun a4 l5 => getI .i64 a4 fun x6 => uc l5 fun a7 l8 => getSl .v .lCond a7 fun x9 => uc l8 fun a10 l11 => getI .i64 a10 fun x12 => uc l11 fun a13 l14 => getB a13 fun x15 => uc l14 fun a16 l17 => getI .i64 a16 fun x18 => uc l17 fun a19 l20 => getSl .v .int a19 fun x21 => uc l20 fun a22 l23 => getB a22 fun x24 => uc l23 fun a25 l26 => getI .i64 a25 fun x27 => uc l26 fun a28 l29 => getI .i64 a28 fun x30 => uc l29 fun a31 l32 => getSl .v .lRow a31 fun x33 => uc l32 fun a34 l35 => getSl .v .lKid a34 fun x36 => uc l35 fun a37 l38 => getI .i64 a37 fun x39 => uc l38 fun a40 l41 => getI .i64 a40 fun x42 => uc l41 fun a43 l44 => getSl .v .lCond a43 fun x45 => uc l44 fun a46 l47 => getI .i64 a46 fun x48 => uc l47 fun a49 l50 => getB a49 fun x51 => uc l50 fun a52 l53 => getI .i64 a52 fun x54 => uc l53 fun a55 l56 => getSl .v .int a55 fun x57 => uc l56 fun a58 l59 => getB a58 fun x60 => uc l59 fun a61 l62 => getI .i64 a61 fun x63 => uc l62 fun a64 l65 => getI .i64 a64 fun x66 => uc l65 fun a67 l68 => getSl .v .lRow a67 fun x69 => uc l68 fun a70 l71 => getSl .v .lKid a70 fun x72 => uc l71 fun a73 l74 => getI .i64 a73 fun x75 => uc l74 fun a76 l77 => getB a76 fun x78 => un l77 (un l2 ((laws_toSess n (TSess.mk (TView.mk (TQuery.mk x6 x9 x12 x15 x18 x21 x24 x27 x30) x33 x36) x39 (TView.mk (TQuery.mk x42 x45 x48 x51 x54 x57 x60 x63 x66) x69 x72) x75 x78)).bind fun r => κ (.ag [.i .i64 r.view.q.table, .sl .d .iCond r.view.q.where_, .i .i64 r.view.q.order, .b r.view.q.down, .i .i64 r.view.q.first, .sl .d .int r.view.q.show_, .b r.view.q.kids, .i .i64 r.view.q.kidTable, .i .i64 r.view.q.kidCol, .sl .d .iRow r.view.rows, .sl .d .iKid r.view.kids, .i .i64 r.version, .i .i64 r.last.q.table, .sl .d .iCond r.last.q.where_, .i .i64 r.last.q.order, .b r.last.q.down, .i .i64 r.last.q.first, .sl .d .int r.last.q.show_, .b r.last.q.kids, .i .i64 r.last.q.kidTable, .i .i64 r.last.q.kidCol, .sl .d .iRow r.last.rows, .sl .d .iKid r.last.kids, .i .i64 r.lastVersion, .b r.began]) []))

def spec_l1In.K (n : Nat) {ω : Type} (avs : List AV) (κ : AV → List AV → Option ω) : Option ω :=
  uc (fixes [.k, .k, .k] avs) fun a1 l2 => getI .i64 a1 fun x3 => uc l2 fun a4 l5 => getI .i64 a4 fun x6 => uc l5 fun a7 l8 => getI .i64 a7 fun x9 => un l8 ((spec_l1In n x3 x6 x9).bind fun r => κ (.b r) [])

def spec_SchemaOk.K (n : Nat) {ω : Type} (avs : List AV) (κ : AV → List AV → Option ω) : Option ω :=
  uc (fixes [.ag [.sl .v .int]] avs) fun a1 l2 => getAg a1 fun c3 => uc c3 fun a4 l5 => getSl .v .int a4 fun x6 => un l5 (un l2 ((spec_SchemaOk n (TSchema.mk x6)).bind fun r => κ (.b r) []))

def spec_QueryOk.K (n : Nat) {ω : Type} (avs : List AV) (κ : AV → List AV → Option ω) : Option ω :=
  uc (fixes [.ag [.sl .v .int], .ag [.k, .sl .v .iCond, .k, .k, .k, .sl .v .int, .k, .k, .k]] avs) fun a1 l2 => getAg a1 fun c3 => uc c3 fun a4 l5 => getSl .v .int a4 fun x6 => un l5 (uc l2 fun a7 l8 => getAg a7 fun c9 => uc c9 fun a10 l11 => getI .i64 a10 fun x12 => uc l11 fun a13 l14 => getSl .v .iCond a13 fun x15 => uc l14 fun a16 l17 => getI .i64 a16 fun x18 => uc l17 fun a19 l20 => getB a19 fun x21 => uc l20 fun a22 l23 => getI .i64 a22 fun x24 => uc l23 fun a25 l26 => getSl .v .int a25 fun x27 => uc l26 fun a28 l29 => getB a28 fun x30 => uc l29 fun a31 l32 => getI .i64 a31 fun x33 => uc l32 fun a34 l35 => getI .i64 a34 fun x36 => un l35 (un l8 ((spec_QueryOk n (TSchema.mk x6) (TQuery.mk x12 x15 x18 x21 x24 x27 x30 x33 x36)).bind fun r => κ (.b r) [])))

def spec_RowOk.K (n : Nat) {ω : Type} (avs : List AV) (κ : AV → List AV → Option ω) : Option ω :=
  uc (fixes [.ag [.sl .v .int], .k, .ag [.k, .sl .v .int]] avs) fun a1 l2 => getAg a1 fun c3 => uc c3 fun a4 l5 => getSl .v .int a4 fun x6 => un l5 (uc l2 fun a7 l8 => getI .i64 a7 fun x9 => uc l8 fun a10 l11 => getAg a10 fun c12 => uc c12 fun a13 l14 => getI .i64 a13 fun x15 => uc l14 fun a16 l17 => getSl .v .int a16 fun x18 => un l17 (un l11 ((spec_RowOk n (TSchema.mk x6) x9 (TRow.mk x15 x18)).bind fun r => κ (.b r) [])))

def spec_l9Holds.K (n : Nat) {ω : Type} (avs : List AV) (κ : AV → List AV → Option ω) : Option ω :=
  uc (fixes [.ag [.k, .k, .k], .ag [.k, .sl .v .int]] avs) fun a1 l2 => getAg a1 fun c3 => uc c3 fun a4 l5 => getI .i64 a4 fun x6 => uc l5 fun a7 l8 => getI .i64 a7 fun x9 => uc l8 fun a10 l11 => getI .i64 a10 fun x12 => un l11 (uc l2 fun a13 l14 => getAg a13 fun c15 => uc c15 fun a16 l17 => getI .i64 a16 fun x18 => uc l17 fun a19 l20 => getSl .v .int a19 fun x21 => un l20 (un l14 ((spec_l9Holds n (TCond.mk x6 x9 x12) (TRow.mk x18 x21)).bind fun r => κ (.b r) [])))

def spec_Matches.K (n : Nat) {ω : Type} (avs : List AV) (κ : AV → List AV → Option ω) : Option ω :=
  uc (fixes [.ag [.k, .sl .v .iCond, .k, .k, .k, .sl .v .int, .k, .k, .k], .ag [.k, .sl .v .int]] avs) fun a1 l2 => getAg a1 fun c3 => uc c3 fun a4 l5 => getI .i64 a4 fun x6 => uc l5 fun a7 l8 => getSl .v .iCond a7 fun x9 => uc l8 fun a10 l11 => getI .i64 a10 fun x12 => uc l11 fun a13 l14 => getB a13 fun x15 => uc l14 fun a16 l17 => getI .i64 a16 fun x18 => uc l17 fun a19 l20 => getSl .v .int a19 fun x21 => uc l20 fun a22 l23 => getB a22 fun x24 => uc l23 fun a25 l26 => getI .i64 a25 fun x27 => uc l26 fun a28 l29 => getI .i64 a28 fun x30 => un l29 (uc l2 fun a31 l32 => getAg a31 fun c33 => uc c33 fun a34 l35 => getI .i64 a34 fun x36 => uc l35 fun a37 l38 => getSl .v .int a37 fun x39 => un l38 (un l32 ((spec_Matches n (TQuery.mk x6 x9 x12 x15 x18 x21 x24 x27 x30) (TRow.mk x36 x39)).bind fun r => κ (.b r) [])))

def spec_RowAt.K (n : Nat) {ω : Type} (avs : List AV) (κ : AV → List AV → Option ω) : Option ω :=
  uc (fixes [.sl .v .iRow, .k] avs) fun a1 l2 => getSl .v .iRow a1 fun x3 => uc l2 fun a4 l5 => getI .i64 a4 fun x6 => un l5 ((spec_RowAt n x3 x6).bind fun r => κ (.i .i64 r) [])

def spec_l9Cell.K (n : Nat) {ω : Type} (avs : List AV) (κ : AV → List AV → Option ω) : Option ω :=
  uc (fixes [.ag [.k, .sl .v .int], .k] avs) fun a1 l2 => getAg a1 fun c3 => uc c3 fun a4 l5 => getI .i64 a4 fun x6 => uc l5 fun a7 l8 => getSl .v .int a7 fun x9 => un l8 (uc l2 fun a10 l11 => getI .i64 a10 fun x12 => un l11 ((spec_l9Cell n (TRow.mk x6 x9) x12).bind fun r => κ (.i .i64 r) []))

def spec_Ahead.K (n : Nat) {ω : Type} (avs : List AV) (κ : AV → List AV → Option ω) : Option ω :=
  uc (fixes [.ag [.k, .sl .v .iCond, .k, .k, .k, .sl .v .int, .k, .k, .k], .ag [.k, .sl .v .int], .ag [.k, .sl .v .int]] avs) fun a1 l2 => getAg a1 fun c3 => uc c3 fun a4 l5 => getI .i64 a4 fun x6 => uc l5 fun a7 l8 => getSl .v .iCond a7 fun x9 => uc l8 fun a10 l11 => getI .i64 a10 fun x12 => uc l11 fun a13 l14 => getB a13 fun x15 => uc l14 fun a16 l17 => getI .i64 a16 fun x18 => uc l17 fun a19 l20 => getSl .v .int a19 fun x21 => uc l20 fun a22 l23 => getB a22 fun x24 => uc l23 fun a25 l26 => getI .i64 a25 fun x27 => uc l26 fun a28 l29 => getI .i64 a28 fun x30 => un l29 (uc l2 fun a31 l32 => getAg a31 fun c33 => uc c33 fun a34 l35 => getI .i64 a34 fun x36 => uc l35 fun a37 l38 => getSl .v .int a37 fun x39 => un l38 (uc l32 fun a40 l41 => getAg a40 fun c42 => uc c42 fun a43 l44 => getI .i64 a43 fun x45 => uc l44 fun a46 l47 => getSl .v .int a46 fun x48 => un l47 (un l41 ((spec_Ahead n (TQuery.mk x6 x9 x12 x15 x18 x21 x24 x27 x30) (TRow.mk x36 x39) (TRow.mk x45 x48)).bind fun r => κ (.b r) []))))

def spec_ViewOk.K (n : Nat) {ω : Type} (avs : List AV) (κ : AV → List AV → Option ω) : Option ω :=
  uc (fixes [.ag [.sl .v .int], .ag [.k, .sl .v .iCond, .k, .k, .k, .sl .v .int, .k, .k, .k, .sl .v .iRow, .sl .v .iKid]] avs) fun a1 l2 => getAg a1 fun c3 => uc c3 fun a4 l5 => getSl .v .int a4 fun x6 => un l5 (uc l2 fun a7 l8 => getAg a7 fun c9 => uc c9 fun a10 l11 => getI .i64 a10 fun x12 => uc l11 fun a13 l14 => getSl .v .iCond a13 fun x15 => uc l14 fun a16 l17 => getI .i64 a16 fun x18 => uc l17 fun a19 l20 => getB a19 fun x21 => uc l20 fun a22 l23 => getI .i64 a22 fun x24 => uc l23 fun a25 l26 => getSl .v .int a25 fun x27 => uc l26 fun a28 l29 => getB a28 fun x30 => uc l29 fun a31 l32 => getI .i64 a31 fun x33 => uc l32 fun a34 l35 => getI .i64 a34 fun x36 => uc l35 fun a37 l38 => getSl .v .iRow a37 fun x39 => uc l38 fun a40 l41 => getSl .v .iKid a40 fun x42 => un l41 (un l8 ((spec_ViewOk n (TSchema.mk x6) (TView.mk (TQuery.mk x12 x15 x18 x21 x24 x27 x30 x33 x36) x39 x42)).bind fun r => κ (.b r) [])))

def spec_l9Conds.K (n : Nat) {ω : Type} (avs : List AV) (κ : AV → List AV → Option ω) : Option ω :=
  uc (fixes [.sl .v .iCond, .sl .v .iCond] avs) fun a1 l2 => getSl .v .iCond a1 fun x3 => uc l2 fun a4 l5 => getSl .v .iCond a4 fun x6 => un l5 ((spec_l9Conds n x3 x6).bind fun r => κ (.b r) [])

def spec_l9Ints.K (n : Nat) {ω : Type} (avs : List AV) (κ : AV → List AV → Option ω) : Option ω :=
  uc (fixes [.sl .v .int, .sl .v .int] avs) fun a1 l2 => getSl .v .int a1 fun x3 => uc l2 fun a4 l5 => getSl .v .int a4 fun x6 => un l5 ((spec_l9Ints n x3 x6).bind fun r => κ (.b r) [])

def spec_QuerySame.K (n : Nat) {ω : Type} (avs : List AV) (κ : AV → List AV → Option ω) : Option ω :=
  uc (fixes [.ag [.k, .sl .v .iCond, .k, .k, .k, .sl .v .int, .k, .k, .k], .ag [.k, .sl .v .iCond, .k, .k, .k, .sl .v .int, .k, .k, .k]] avs) fun a1 l2 => getAg a1 fun c3 => uc c3 fun a4 l5 => getI .i64 a4 fun x6 => uc l5 fun a7 l8 => getSl .v .iCond a7 fun x9 => uc l8 fun a10 l11 => getI .i64 a10 fun x12 => uc l11 fun a13 l14 => getB a13 fun x15 => uc l14 fun a16 l17 => getI .i64 a16 fun x18 => uc l17 fun a19 l20 => getSl .v .int a19 fun x21 => uc l20 fun a22 l23 => getB a22 fun x24 => uc l23 fun a25 l26 => getI .i64 a25 fun x27 => uc l26 fun a28 l29 => getI .i64 a28 fun x30 => un l29 (uc l2 fun a31 l32 => getAg a31 fun c33 => uc c33 fun a34 l35 => getI .i64 a34 fun x36 => uc l35 fun a37 l38 => getSl .v .iCond a37 fun x39 => uc l38 fun a40 l41 => getI .i64 a40 fun x42 => uc l41 fun a43 l44 => getB a43 fun x45 => uc l44 fun a46 l47 => getI .i64 a46 fun x48 => uc l47 fun a49 l50 => getSl .v .int a49 fun x51 => uc l50 fun a52 l53 => getB a52 fun x54 => uc l53 fun a55 l56 => getI .i64 a55 fun x57 => uc l56 fun a58 l59 => getI .i64 a58 fun x60 => un l59 (un l32 ((spec_QuerySame n (TQuery.mk x6 x9 x12 x15 x18 x21 x24 x27 x30) (TQuery.mk x36 x39 x42 x45 x48 x51 x54 x57 x60)).bind fun r => κ (.b r) [])))

def spec_RowSame.K (n : Nat) {ω : Type} (avs : List AV) (κ : AV → List AV → Option ω) : Option ω :=
  uc (fixes [.ag [.k, .sl .v .int], .ag [.k, .sl .v .int]] avs) fun a1 l2 => getAg a1 fun c3 => uc c3 fun a4 l5 => getI .i64 a4 fun x6 => uc l5 fun a7 l8 => getSl .v .int a7 fun x9 => un l8 (uc l2 fun a10 l11 => getAg a10 fun c12 => uc c12 fun a13 l14 => getI .i64 a13 fun x15 => uc l14 fun a16 l17 => getSl .v .int a16 fun x18 => un l17 (un l11 ((spec_RowSame n (TRow.mk x6 x9) (TRow.mk x15 x18)).bind fun r => κ (.b r) [])))

def spec_ViewSame.K (n : Nat) {ω : Type} (avs : List AV) (κ : AV → List AV → Option ω) : Option ω :=
  uc (fixes [.ag [.k, .sl .v .iCond, .k, .k, .k, .sl .v .int, .k, .k, .k, .sl .v .iRow, .sl .v .iKid], .ag [.k, .sl .v .iCond, .k, .k, .k, .sl .v .int, .k, .k, .k, .sl .v .iRow, .sl .v .iKid]] avs) fun a1 l2 => getAg a1 fun c3 => uc c3 fun a4 l5 => getI .i64 a4 fun x6 => uc l5 fun a7 l8 => getSl .v .iCond a7 fun x9 => uc l8 fun a10 l11 => getI .i64 a10 fun x12 => uc l11 fun a13 l14 => getB a13 fun x15 => uc l14 fun a16 l17 => getI .i64 a16 fun x18 => uc l17 fun a19 l20 => getSl .v .int a19 fun x21 => uc l20 fun a22 l23 => getB a22 fun x24 => uc l23 fun a25 l26 => getI .i64 a25 fun x27 => uc l26 fun a28 l29 => getI .i64 a28 fun x30 => uc l29 fun a31 l32 => getSl .v .iRow a31 fun x33 => uc l32 fun a34 l35 => getSl .v .iKid a34 fun x36 => un l35 (uc l2 fun a37 l38 => getAg a37 fun c39 => uc c39 fun a40 l41 => getI .i64 a40 fun x42 => uc l41 fun a43 l44 => getSl .v .iCond a43 fun x45 => uc l44 fun a46 l47 => getI .i64 a46 fun x48 => uc l47 fun a49 l50 => getB a49 fun x51 => uc l50 fun a52 l53 => getI .i64 a52 fun x54 => uc l53 fun a55 l56 => getSl .v .int a55 fun x57 => uc l56 fun a58 l59 => getB a58 fun x60 => uc l59 fun a61 l62 => getI .i64 a61 fun x63 => uc l62 fun a64 l65 => getI .i64 a64 fun x66 => uc l65 fun a67 l68 => getSl .v .iRow a67 fun x69 => uc l68 fun a70 l71 => getSl .v .iKid a70 fun x72 => un l71 (un l38 ((spec_ViewSame n (TView.mk (TQuery.mk x6 x9 x12 x15 x18 x21 x24 x27 x30) x33 x36) (TView.mk (TQuery.mk x42 x45 x48 x51 x54 x57 x60 x63 x66) x69 x72)).bind fun r => κ (.b r) [])))

def spec_SessOk.K (n : Nat) {ω : Type} (avs : List AV) (κ : AV → List AV → Option ω) : Option ω :=
  uc (fixes [.ag [.sl .v .int], .ag [.k, .sl .v .iCond, .k, .k, .k, .sl .v .int, .k, .k, .k, .sl .v .iRow, .sl .v .iKid, .k, .k, .sl .v .iCond, .k, .k, .k, .sl .v .int, .k, .k, .k, .sl .v .iRow, .sl .v .iKid, .k, .k]] avs) fun a1 l2 => getAg a1 fun c3 => uc c3 fun a4 l5 => getSl .v .int a4 fun x6 => un l5 (uc l2 fun a7 l8 => getAg a7 fun c9 => uc c9 fun a10 l11 => getI .i64 a10 fun x12 => uc l11 fun a13 l14 => getSl .v .iCond a13 fun x15 => uc l14 fun a16 l17 => getI .i64 a16 fun x18 => uc l17 fun a19 l20 => getB a19 fun x21 => uc l20 fun a22 l23 => getI .i64 a22 fun x24 => uc l23 fun a25 l26 => getSl .v .int a25 fun x27 => uc l26 fun a28 l29 => getB a28 fun x30 => uc l29 fun a31 l32 => getI .i64 a31 fun x33 => uc l32 fun a34 l35 => getI .i64 a34 fun x36 => uc l35 fun a37 l38 => getSl .v .iRow a37 fun x39 => uc l38 fun a40 l41 => getSl .v .iKid a40 fun x42 => uc l41 fun a43 l44 => getI .i64 a43 fun x45 => uc l44 fun a46 l47 => getI .i64 a46 fun x48 => uc l47 fun a49 l50 => getSl .v .iCond a49 fun x51 => uc l50 fun a52 l53 => getI .i64 a52 fun x54 => uc l53 fun a55 l56 => getB a55 fun x57 => uc l56 fun a58 l59 => getI .i64 a58 fun x60 => uc l59 fun a61 l62 => getSl .v .int a61 fun x63 => uc l62 fun a64 l65 => getB a64 fun x66 => uc l65 fun a67 l68 => getI .i64 a67 fun x69 => uc l68 fun a70 l71 => getI .i64 a70 fun x72 => uc l71 fun a73 l74 => getSl .v .iRow a73 fun x75 => uc l74 fun a76 l77 => getSl .v .iKid a76 fun x78 => uc l77 fun a79 l80 => getI .i64 a79 fun x81 => uc l80 fun a82 l83 => getB a82 fun x84 => un l83 (un l8 ((spec_SessOk n (TSchema.mk x6) (TSess.mk (TView.mk (TQuery.mk x12 x15 x18 x21 x24 x27 x30 x33 x36) x39 x42) x45 (TView.mk (TQuery.mk x48 x51 x54 x57 x60 x63 x66 x69 x72) x75 x78) x81 x84)).bind fun r => κ (.b r) [])))

def impl_within.K (n : Nat) {ω : Type} (avs : List AV) (κ : AV → List AV → Option ω) : Option ω :=
  uc (fixes [.k, .k, .k] avs) fun a1 l2 => getI .i64 a1 fun x3 => uc l2 fun a4 l5 => getI .i64 a4 fun x6 => uc l5 fun a7 l8 => getI .i64 a7 fun x9 => un l8 ((impl_within n x3 x6 x9).bind fun r => κ (.b r) [])

def impl_SchemaOk.K (n : Nat) {ω : Type} (avs : List AV) (κ : AV → List AV → Option ω) : Option ω :=
  uc (fixes [.ag [.sl .v .int]] avs) fun a1 l2 => getAg a1 fun c3 => uc c3 fun a4 l5 => getSl .v .int a4 fun x6 => un l5 (un l2 ((impl_SchemaOk n (TSchema.mk x6)).bind fun r => κ (.b r) []))

def impl_hasTable.K (n : Nat) {ω : Type} (avs : List AV) (κ : AV → List AV → Option ω) : Option ω :=
  uc (fixes [.ag [.sl .v .int], .k] avs) fun a1 l2 => getAg a1 fun c3 => uc c3 fun a4 l5 => getSl .v .int a4 fun x6 => un l5 (uc l2 fun a7 l8 => getI .i64 a7 fun x9 => un l8 ((impl_hasTable n (TSchema.mk x6) x9).bind fun r => κ (.b r) []))

def impl_isNum.K (n : Nat) {ω : Type} (avs : List AV) (κ : AV → List AV → Option ω) : Option ω :=
  uc (fixes [.k] avs) fun a1 l2 => getI .i64 a1 fun x3 => un l2 ((impl_isNum n x3).bind fun r => κ (.b r) [])

def impl_kidsFit.K (n : Nat) {ω : Type} (avs : List AV) (κ : AV → List AV → Option ω) : Option ω :=
  uc (fixes [.ag [.sl .v .int], .ag [.k, .sl .v .iCond, .k, .k, .k, .sl .v .int, .k, .k, .k]] avs) fun a1 l2 => getAg a1 fun c3 => uc c3 fun a4 l5 => getSl .v .int a4 fun x6 => un l5 (uc l2 fun a7 l8 => getAg a7 fun c9 => uc c9 fun a10 l11 => getI .i64 a10 fun x12 => uc l11 fun a13 l14 => getSl .v .iCond a13 fun x15 => uc l14 fun a16 l17 => getI .i64 a16 fun x18 => uc l17 fun a19 l20 => getB a19 fun x21 => uc l20 fun a22 l23 => getI .i64 a22 fun x24 => uc l23 fun a25 l26 => getSl .v .int a25 fun x27 => uc l26 fun a28 l29 => getB a28 fun x30 => uc l29 fun a31 l32 => getI .i64 a31 fun x33 => uc l32 fun a34 l35 => getI .i64 a34 fun x36 => un l35 (un l8 ((impl_kidsFit n (TSchema.mk x6) (TQuery.mk x12 x15 x18 x21 x24 x27 x30 x33 x36)).bind fun r => κ (.b r) [])))

def impl_QueryOk.K (n : Nat) {ω : Type} (avs : List AV) (κ : AV → List AV → Option ω) : Option ω :=
  uc (fixes [.ag [.sl .v .int], .ag [.k, .sl .v .iCond, .k, .k, .k, .sl .v .int, .k, .k, .k]] avs) fun a1 l2 => getAg a1 fun c3 => uc c3 fun a4 l5 => getSl .v .int a4 fun x6 => un l5 (uc l2 fun a7 l8 => getAg a7 fun c9 => uc c9 fun a10 l11 => getI .i64 a10 fun x12 => uc l11 fun a13 l14 => getSl .v .iCond a13 fun x15 => uc l14 fun a16 l17 => getI .i64 a16 fun x18 => uc l17 fun a19 l20 => getB a19 fun x21 => uc l20 fun a22 l23 => getI .i64 a22 fun x24 => uc l23 fun a25 l26 => getSl .v .int a25 fun x27 => uc l26 fun a28 l29 => getB a28 fun x30 => uc l29 fun a31 l32 => getI .i64 a31 fun x33 => uc l32 fun a34 l35 => getI .i64 a34 fun x36 => un l35 (un l8 ((impl_QueryOk n (TSchema.mk x6) (TQuery.mk x12 x15 x18 x21 x24 x27 x30 x33 x36)).bind fun r => κ (.b r) [])))

def impl_RowOk.K (n : Nat) {ω : Type} (avs : List AV) (κ : AV → List AV → Option ω) : Option ω :=
  uc (fixes [.ag [.sl .v .int], .k, .ag [.k, .sl .v .int]] avs) fun a1 l2 => getAg a1 fun c3 => uc c3 fun a4 l5 => getSl .v .int a4 fun x6 => un l5 (uc l2 fun a7 l8 => getI .i64 a7 fun x9 => uc l8 fun a10 l11 => getAg a10 fun c12 => uc c12 fun a13 l14 => getI .i64 a13 fun x15 => uc l14 fun a16 l17 => getSl .v .int a16 fun x18 => un l17 (un l11 ((impl_RowOk n (TSchema.mk x6) x9 (TRow.mk x15 x18)).bind fun r => κ (.b r) [])))

def impl_holds.K (n : Nat) {ω : Type} (avs : List AV) (κ : AV → List AV → Option ω) : Option ω :=
  uc (fixes [.ag [.k, .k, .k], .ag [.k, .sl .v .int]] avs) fun a1 l2 => getAg a1 fun c3 => uc c3 fun a4 l5 => getI .i64 a4 fun x6 => uc l5 fun a7 l8 => getI .i64 a7 fun x9 => uc l8 fun a10 l11 => getI .i64 a10 fun x12 => un l11 (uc l2 fun a13 l14 => getAg a13 fun c15 => uc c15 fun a16 l17 => getI .i64 a16 fun x18 => uc l17 fun a19 l20 => getSl .v .int a19 fun x21 => un l20 (un l14 ((impl_holds n (TCond.mk x6 x9 x12) (TRow.mk x18 x21)).bind fun r => κ (.b r) [])))

def impl_Matches.K (n : Nat) {ω : Type} (avs : List AV) (κ : AV → List AV → Option ω) : Option ω :=
  uc (fixes [.ag [.k, .sl .v .iCond, .k, .k, .k, .sl .v .int, .k, .k, .k], .ag [.k, .sl .v .int]] avs) fun a1 l2 => getAg a1 fun c3 => uc c3 fun a4 l5 => getI .i64 a4 fun x6 => uc l5 fun a7 l8 => getSl .v .iCond a7 fun x9 => uc l8 fun a10 l11 => getI .i64 a10 fun x12 => uc l11 fun a13 l14 => getB a13 fun x15 => uc l14 fun a16 l17 => getI .i64 a16 fun x18 => uc l17 fun a19 l20 => getSl .v .int a19 fun x21 => uc l20 fun a22 l23 => getB a22 fun x24 => uc l23 fun a25 l26 => getI .i64 a25 fun x27 => uc l26 fun a28 l29 => getI .i64 a28 fun x30 => un l29 (uc l2 fun a31 l32 => getAg a31 fun c33 => uc c33 fun a34 l35 => getI .i64 a34 fun x36 => uc l35 fun a37 l38 => getSl .v .int a37 fun x39 => un l38 (un l32 ((impl_Matches n (TQuery.mk x6 x9 x12 x15 x18 x21 x24 x27 x30) (TRow.mk x36 x39)).bind fun r => κ (.b r) [])))

def impl_cellOf.K (n : Nat) {ω : Type} (avs : List AV) (κ : AV → List AV → Option ω) : Option ω :=
  uc (fixes [.ag [.k, .sl .v .int], .k] avs) fun a1 l2 => getAg a1 fun c3 => uc c3 fun a4 l5 => getI .i64 a4 fun x6 => uc l5 fun a7 l8 => getSl .v .int a7 fun x9 => un l8 (uc l2 fun a10 l11 => getI .i64 a10 fun x12 => un l11 ((impl_cellOf n (TRow.mk x6 x9) x12).bind fun r => κ (.i .i64 r) []))

def impl_Ahead.K (n : Nat) {ω : Type} (avs : List AV) (κ : AV → List AV → Option ω) : Option ω :=
  uc (fixes [.ag [.k, .sl .v .iCond, .k, .k, .k, .sl .v .int, .k, .k, .k], .ag [.k, .sl .v .int], .ag [.k, .sl .v .int]] avs) fun a1 l2 => getAg a1 fun c3 => uc c3 fun a4 l5 => getI .i64 a4 fun x6 => uc l5 fun a7 l8 => getSl .v .iCond a7 fun x9 => uc l8 fun a10 l11 => getI .i64 a10 fun x12 => uc l11 fun a13 l14 => getB a13 fun x15 => uc l14 fun a16 l17 => getI .i64 a16 fun x18 => uc l17 fun a19 l20 => getSl .v .int a19 fun x21 => uc l20 fun a22 l23 => getB a22 fun x24 => uc l23 fun a25 l26 => getI .i64 a25 fun x27 => uc l26 fun a28 l29 => getI .i64 a28 fun x30 => un l29 (uc l2 fun a31 l32 => getAg a31 fun c33 => uc c33 fun a34 l35 => getI .i64 a34 fun x36 => uc l35 fun a37 l38 => getSl .v .int a37 fun x39 => un l38 (uc l32 fun a40 l41 => getAg a40 fun c42 => uc c42 fun a43 l44 => getI .i64 a43 fun x45 => uc l44 fun a46 l47 => getSl .v .int a46 fun x48 => un l47 (un l41 ((impl_Ahead n (TQuery.mk x6 x9 x12 x15 x18 x21 x24 x27 x30) (TRow.mk x36 x39) (TRow.mk x45 x48)).bind fun r => κ (.b r) []))))

def impl_RowAt_f1.K (n : Nat) {ω : Type} (avs : List AV) (κ : AV → List AV → Option ω) : Option ω :=
  uc (fixes [.ag [.k, .sl .v .int], .k] avs) fun a1 l2 => getAg a1 fun c3 => uc c3 fun a4 l5 => getI .i64 a4 fun x6 => uc l5 fun a7 l8 => getSl .v .int a7 fun x9 => un l8 (uc l2 fun a10 l11 => getPc 0 a10 fun c12 => uc c12 fun a13 l14 => getI .i64 a13 fun x15 => un l14 (un l11 ((impl_RowAt_f1 n (TRow.mk x6 x9) x15).bind fun r => κ (.b r) [])))

def slices_IndexFunc_Row_c153.K (n : Nat) {ω : Type} (avs : List AV) (κ : AV → List AV → Option ω) : Option ω :=
  uc (fixes [.sl .v .iRow, .k] avs) fun a1 l2 => getSl .v .iRow a1 fun x3 => uc l2 fun a4 l5 => getClo 153 a4 fun c6 => uc c6 fun a7 l8 => getPc 0 a7 fun c9 => uc c9 fun a10 l11 => getI .i64 a10 fun x12 => un l11 (un l8 (un l5 ((slices_IndexFunc_Row_c153 n x3 x12).bind fun r => κ (.i .i64 r) [])))

def impl_RowAt.K (n : Nat) {ω : Type} (avs : List AV) (κ : AV → List AV → Option ω) : Option ω :=
  uc (fixes [.sl .v .iRow, .k] avs) fun a1 l2 => getSl .v .iRow a1 fun x3 => uc l2 fun a4 l5 => getI .i64 a4 fun x6 => un l5 ((impl_RowAt n x3 x6).bind fun r => κ (.i .i64 r) [])

def impl_ViewOk.K (n : Nat) {ω : Type} (avs : List AV) (κ : AV → List AV → Option ω) : Option ω :=
  uc (fixes [.ag [.sl .v .int], .ag [.k, .sl .v .iCond, .k, .k, .k, .sl .v .int, .k, .k, .k, .sl .v .iRow, .sl .v .iKid]] avs) fun a1 l2 => getAg a1 fun c3 => uc c3 fun a4 l5 => getSl .v .int a4 fun x6 => un l5 (uc l2 fun a7 l8 => getAg a7 fun c9 => uc c9 fun a10 l11 => getI .i64 a10 fun x12 => uc l11 fun a13 l14 => getSl .v .iCond a13 fun x15 => uc l14 fun a16 l17 => getI .i64 a16 fun x18 => uc l17 fun a19 l20 => getB a19 fun x21 => uc l20 fun a22 l23 => getI .i64 a22 fun x24 => uc l23 fun a25 l26 => getSl .v .int a25 fun x27 => uc l26 fun a28 l29 => getB a28 fun x30 => uc l29 fun a31 l32 => getI .i64 a31 fun x33 => uc l32 fun a34 l35 => getI .i64 a34 fun x36 => uc l35 fun a37 l38 => getSl .v .iRow a37 fun x39 => uc l38 fun a40 l41 => getSl .v .iKid a40 fun x42 => un l41 (un l8 ((impl_ViewOk n (TSchema.mk x6) (TView.mk (TQuery.mk x12 x15 x18 x21 x24 x27 x30 x33 x36) x39 x42)).bind fun r => κ (.b r) [])))

def impl_isVersion.K (n : Nat) {ω : Type} (avs : List AV) (κ : AV → List AV → Option ω) : Option ω :=
  uc (fixes [.k] avs) fun a1 l2 => getI .i64 a1 fun x3 => un l2 ((impl_isVersion n x3).bind fun r => κ (.b r) [])

def slices_Equal_Cond.K (n : Nat) {ω : Type} (avs : List AV) (κ : AV → List AV → Option ω) : Option ω :=
  uc (fixes [.sl .v .iCond, .sl .v .iCond] avs) fun a1 l2 => getSl .v .iCond a1 fun x3 => uc l2 fun a4 l5 => getSl .v .iCond a4 fun x6 => un l5 ((slices_Equal_Cond n x3 x6).bind fun r => κ (.b r) [])

def slices_Equal_int.K (n : Nat) {ω : Type} (avs : List AV) (κ : AV → List AV → Option ω) : Option ω :=
  uc (fixes [.sl .v .int, .sl .v .int] avs) fun a1 l2 => getSl .v .int a1 fun x3 => uc l2 fun a4 l5 => getSl .v .int a4 fun x6 => un l5 ((slices_Equal_int n x3 x6).bind fun r => κ (.b r) [])

def impl_QuerySame.K (n : Nat) {ω : Type} (avs : List AV) (κ : AV → List AV → Option ω) : Option ω :=
  uc (fixes [.ag [.k, .sl .v .iCond, .k, .k, .k, .sl .v .int, .k, .k, .k], .ag [.k, .sl .v .iCond, .k, .k, .k, .sl .v .int, .k, .k, .k]] avs) fun a1 l2 => getAg a1 fun c3 => uc c3 fun a4 l5 => getI .i64 a4 fun x6 => uc l5 fun a7 l8 => getSl .v .iCond a7 fun x9 => uc l8 fun a10 l11 => getI .i64 a10 fun x12 => uc l11 fun a13 l14 => getB a13 fun x15 => uc l14 fun a16 l17 => getI .i64 a16 fun x18 => uc l17 fun a19 l20 => getSl .v .int a19 fun x21 => uc l20 fun a22 l23 => getB a22 fun x24 => uc l23 fun a25 l26 => getI .i64 a25 fun x27 => uc l26 fun a28 l29 => getI .i64 a28 fun x30 => un l29 (uc l2 fun a31 l32 => getAg a31 fun c33 => uc c33 fun a34 l35 => getI .i64 a34 fun x36 => uc l35 fun a37 l38 => getSl .v .iCond a37 fun x39 => uc l38 fun a40 l41 => getI .i64 a40 fun x42 => uc l41 fun a43 l44 => getB a43 fun x45 => uc l44 fun a46 l47 => getI .i64 a46 fun x48 => uc l47 fun a49 l50 => getSl .v .int a49 fun x51 => uc l50 fun a52 l53 => getB a52 fun x54 => uc l53 fun a55 l56 => getI .i64 a55 fun x57 => uc l56 fun a58 l59 => getI .i64 a58 fun x60 => un l59 (un l32 ((impl_QuerySame n (TQuery.mk x6 x9 x12 x15 x18 x21 x24 x27 x30) (TQuery.mk x36 x39 x42 x45 x48 x51 x54 x57 x60)).bind fun r => κ (.b r) [])))

def impl_RowSame.K (n : Nat) {ω : Type} (avs : List AV) (κ : AV → List AV → Option ω) : Option ω :=
  uc (fixes [.ag [.k, .sl .v .int], .ag [.k, .sl .v .int]] avs) fun a1 l2 => getAg a1 fun c3 => uc c3 fun a4 l5 => getI .i64 a4 fun x6 => uc l5 fun a7 l8 => getSl .v .int a7 fun x9 => un l8 (uc l2 fun a10 l11 => getAg a10 fun c12 => uc c12 fun a13 l14 => getI .i64 a13 fun x15 => uc l14 fun a16 l17 => getSl .v .int a16 fun x18 => un l17 (un l11 ((impl_RowSame n (TRow.mk x6 x9) (TRow.mk x15 x18)).bind fun r => κ (.b r) [])))

def slices_EqualFunc_Row_c102.K (n : Nat) {ω : Type} (avs : List AV) (κ : AV → List AV → Option ω) : Option ω :=
  uc (fixes [.sl .v .iRow, .sl .v .iRow, .k] avs) fun a1 l2 => getSl .v .iRow a1 fun x3 => uc l2 fun a4 l5 => getSl .v .iRow a4 fun x6 => uc l5 fun a7 l8 => getClo 102 a7 fun c9 => un c9 (un l8 ((slices_EqualFunc_Row_c102 n x3 x6).bind fun r => κ (.b r) []))

def slices_Equal_Kid.K (n : Nat) {ω : Type} (avs : List AV) (κ : AV → List AV → Option ω) : Option ω :=
  uc (fixes [.sl .v .iKid, .sl .v .iKid] avs) fun a1 l2 => getSl .v .iKid a1 fun x3 => uc l2 fun a4 l5 => getSl .v .iKid a4 fun x6 => un l5 ((slices_Equal_Kid n x3 x6).bind fun r => κ (.b r) [])

def impl_ViewSame.K (n : Nat) {ω : Type} (avs : List AV) (κ : AV → List AV → Option ω) : Option ω :=
  uc (fixes [.ag [.k, .sl .v .iCond, .k, .k, .k, .sl .v .int, .k, .k, .k, .sl .v .iRow, .sl .v .iKid], .ag [.k, .sl .v .iCond, .k, .k, .k, .sl .v .int, .k, .k, .k, .sl .v .iRow, .sl .v .iKid]] avs) fun a1 l2 => getAg a1 fun c3 => uc c3 fun a4 l5 => getI .i64 a4 fun x6 => uc l5 fun a7 l8 => getSl .v .iCond a7 fun x9 => uc l8 fun a10 l11 => getI .i64 a10 fun x12 => uc l11 fun a13 l14 => getB a13 fun x15 => uc l14 fun a16 l17 => getI .i64 a16 fun x18 => uc l17 fun a19 l20 => getSl .v .int a19 fun x21 => uc l20 fun a22 l23 => getB a22 fun x24 => uc l23 fun a25 l26 => getI .i64 a25 fun x27 => uc l26 fun a28 l29 => getI .i64 a28 fun x30 => uc l29 fun a31 l32 => getSl .v .iRow a31 fun x33 => uc l32 fun a34 l35 => getSl .v .iKid a34 fun x36 => un l35 (uc l2 fun a37 l38 => getAg a37 fun c39 => uc c39 fun a40 l41 => getI .i64 a40 fun x42 => uc l41 fun a43 l44 => getSl .v .iCond a43 fun x45 => uc l44 fun a46 l47 => getI .i64 a46 fun x48 => uc l47 fun a49 l50 => getB a49 fun x51 => uc l50 fun a52 l53 => getI .i64 a52 fun x54 => uc l53 fun a55 l56 => getSl .v .int a55 fun x57 => uc l56 fun a58 l59 => getB a58 fun x60 => uc l59 fun a61 l62 => getI .i64 a61 fun x63 => uc l62 fun a64 l65 => getI .i64 a64 fun x66 => uc l65 fun a67 l68 => getSl .v .iRow a67 fun x69 => uc l68 fun a70 l71 => getSl .v .iKid a70 fun x72 => un l71 (un l38 ((impl_ViewSame n (TView.mk (TQuery.mk x6 x9 x12 x15 x18 x21 x24 x27 x30) x33 x36) (TView.mk (TQuery.mk x42 x45 x48 x51 x54 x57 x60 x63 x66) x69 x72)).bind fun r => κ (.b r) [])))

def impl_SessOk.K (n : Nat) {ω : Type} (avs : List AV) (κ : AV → List AV → Option ω) : Option ω :=
  uc (fixes [.ag [.sl .v .int], .ag [.k, .sl .v .iCond, .k, .k, .k, .sl .v .int, .k, .k, .k, .sl .v .iRow, .sl .v .iKid, .k, .k, .sl .v .iCond, .k, .k, .k, .sl .v .int, .k, .k, .k, .sl .v .iRow, .sl .v .iKid, .k, .k]] avs) fun a1 l2 => getAg a1 fun c3 => uc c3 fun a4 l5 => getSl .v .int a4 fun x6 => un l5 (uc l2 fun a7 l8 => getAg a7 fun c9 => uc c9 fun a10 l11 => getI .i64 a10 fun x12 => uc l11 fun a13 l14 => getSl .v .iCond a13 fun x15 => uc l14 fun a16 l17 => getI .i64 a16 fun x18 => uc l17 fun a19 l20 => getB a19 fun x21 => uc l20 fun a22 l23 => getI .i64 a22 fun x24 => uc l23 fun a25 l26 => getSl .v .int a25 fun x27 => uc l26 fun a28 l29 => getB a28 fun x30 => uc l29 fun a31 l32 => getI .i64 a31 fun x33 => uc l32 fun a34 l35 => getI .i64 a34 fun x36 => uc l35 fun a37 l38 => getSl .v .iRow a37 fun x39 => uc l38 fun a40 l41 => getSl .v .iKid a40 fun x42 => uc l41 fun a43 l44 => getI .i64 a43 fun x45 => uc l44 fun a46 l47 => getI .i64 a46 fun x48 => uc l47 fun a49 l50 => getSl .v .iCond a49 fun x51 => uc l50 fun a52 l53 => getI .i64 a52 fun x54 => uc l53 fun a55 l56 => getB a55 fun x57 => uc l56 fun a58 l59 => getI .i64 a58 fun x60 => uc l59 fun a61 l62 => getSl .v .int a61 fun x63 => uc l62 fun a64 l65 => getB a64 fun x66 => uc l65 fun a67 l68 => getI .i64 a67 fun x69 => uc l68 fun a70 l71 => getI .i64 a70 fun x72 => uc l71 fun a73 l74 => getSl .v .iRow a73 fun x75 => uc l74 fun a76 l77 => getSl .v .iKid a76 fun x78 => uc l77 fun a79 l80 => getI .i64 a79 fun x81 => uc l80 fun a82 l83 => getB a82 fun x84 => un l83 (un l8 ((impl_SessOk n (TSchema.mk x6) (TSess.mk (TView.mk (TQuery.mk x12 x15 x18 x21 x24 x27 x30 x33 x36) x39 x42) x45 (TView.mk (TQuery.mk x48 x51 x54 x57 x60 x63 x66 x69 x72) x75 x78) x81 x84)).bind fun r => κ (.b r) [])))

def laws_eqIntS.K (n : Nat) {ω : Type} (avs : List AV) (κ : AV → List AV → Option ω) : Option ω :=
  uc (fixes [.sl .v .int, .sl .v .int] avs) fun a1 l2 => getSl .v .int a1 fun x3 => uc l2 fun a4 l5 => getSl .v .int a4 fun x6 => un l5 ((laws_eqIntS n x3 x6).bind fun r => κ (.b r) [])

def laws_eqSchema.K (n : Nat) {ω : Type} (avs : List AV) (κ : AV → List AV → Option ω) : Option ω :=
  uc (fixes [.ag [.sl .v .int], .ag [.sl .v .int]] avs) fun a1 l2 => getAg a1 fun c3 => uc c3 fun a4 l5 => getSl .v .int a4 fun x6 => un l5 (uc l2 fun a7 l8 => getAg a7 fun c9 => uc c9 fun a10 l11 => getSl .v .int a10 fun x12 => un l11 (un l8 ((laws_eqSchema n (TSchema.mk x6) (TSchema.mk x12)).bind fun r => κ (.b r) [])))

def laws_eqCond.K (n : Nat) {ω : Type} (avs : List AV) (κ : AV → List AV → Option ω) : Option ω :=
  uc (fixes [.ag [.k, .k, .k], .ag [.k, .k, .k]] avs) fun a1 l2 => getAg a1 fun c3 => uc c3 fun a4 l5 => getI .i64 a4 fun x6 => uc l5 fun a7 l8 => getI .i64 a7 fun x9 => uc l8 fun a10 l11 => getI .i64 a10 fun x12 => un l11 (uc l2 fun a13 l14 => getAg a13 fun c15 => uc c15 fun a16 l17 => getI .i64 a16 fun x18 => uc l17 fun a19 l20 => getI .i64 a19 fun x21 => uc l20 fun a22 l23 => getI .i64 a22 fun x24 => un l23 (un l14 ((laws_eqCond n (TCond.mk x6 x9 x12) (TCond.mk x18 x21 x24)).bind fun r => κ (.b r) [])))

def laws_eqCondS.K (n : Nat) {ω : Type} (avs : List AV) (κ : AV → List AV → Option ω) : Option ω :=
  uc (fixes [.sl .v .iCond, .sl .v .iCond] avs) fun a1 l2 => getSl .v .iCond a1 fun x3 => uc l2 fun a4 l5 => getSl .v .iCond a4 fun x6 => un l5 ((laws_eqCondS n x3 x6).bind fun r => κ (.b r) [])

def laws_eqQuery.K (n : Nat) {ω : Type} (avs : List AV) (κ : AV → List AV → Option ω) : Option ω :=
  uc (fixes [.ag [.k, .sl .v .iCond, .k, .k, .k, .sl .v .int, .k, .k, .k], .ag [.k, .sl .v .iCond, .k, .k, .k, .sl .v .int, .k, .k, .k]] avs) fun a1 l2 => getAg a1 fun c3 => uc c3 fun a4 l5 => getI .i64 a4 fun x6 => uc l5 fun a7 l8 => getSl .v .iCond a7 fun x9 => uc l8 fun a10 l11 => getI .i64 a10 fun x12 => uc l11 fun a13 l14 => getB a13 fun x15 => uc l14 fun a16 l17 => getI .i64 a16 fun x18 => uc l17 fun a19 l20 => getSl .v .int a19 fun x21 => uc l20 fun a22 l23 => getB a22 fun x24 => uc l23 fun a25 l26 => getI .i64 a25 fun x27 => uc l26 fun a28 l29 => getI .i64 a28 fun x30 => un l29 (uc l2 fun a31 l32 => getAg a31 fun c33 => uc c33 fun a34 l35 => getI .i64 a34 fun x36 => uc l35 fun a37 l38 => getSl .v .iCond a37 fun x39 => uc l38 fun a40 l41 => getI .i64 a40 fun x42 => uc l41 fun a43 l44 => getB a43 fun x45 => uc l44 fun a46 l47 => getI .i64 a46 fun x48 => uc l47 fun a49 l50 => getSl .v .int a49 fun x51 => uc l50 fun a52 l53 => getB a52 fun x54 => uc l53 fun a55 l56 => getI .i64 a55 fun x57 => uc l56 fun a58 l59 => getI .i64 a58 fun x60 => un l59 (un l32 ((laws_eqQuery n (TQuery.mk x6 x9 x12 x15 x18 x21 x24 x27 x30) (TQuery.mk x36 x39 x42 x45 x48 x51 x54 x57 x60)).bind fun r => κ (.b r) [])))

def laws_eqRow.K (n : Nat) {ω : Type} (avs : List AV) (κ : AV → List AV → Option ω) : Option ω :=
  uc (fixes [.ag [.k, .sl .v .int], .ag [.k, .sl .v .int]] avs) fun a1 l2 => getAg a1 fun c3 => uc c3 fun a4 l5 => getI .i64 a4 fun x6 => uc l5 fun a7 l8 => getSl .v .int a7 fun x9 => un l8 (uc l2 fun a10 l11 => getAg a10 fun c12 => uc c12 fun a13 l14 => getI .i64 a13 fun x15 => uc l14 fun a16 l17 => getSl .v .int a16 fun x18 => un l17 (un l11 ((laws_eqRow n (TRow.mk x6 x9) (TRow.mk x15 x18)).bind fun r => κ (.b r) [])))

def laws_eqRowS.K (n : Nat) {ω : Type} (avs : List AV) (κ : AV → List AV → Option ω) : Option ω :=
  uc (fixes [.sl .v .iRow, .sl .v .iRow] avs) fun a1 l2 => getSl .v .iRow a1 fun x3 => uc l2 fun a4 l5 => getSl .v .iRow a4 fun x6 => un l5 ((laws_eqRowS n x3 x6).bind fun r => κ (.b r) [])

def laws_eqKid.K (n : Nat) {ω : Type} (avs : List AV) (κ : AV → List AV → Option ω) : Option ω :=
  uc (fixes [.ag [.k, .k], .ag [.k, .k]] avs) fun a1 l2 => getAg a1 fun c3 => uc c3 fun a4 l5 => getI .i64 a4 fun x6 => uc l5 fun a7 l8 => getI .i64 a7 fun x9 => un l8 (uc l2 fun a10 l11 => getAg a10 fun c12 => uc c12 fun a13 l14 => getI .i64 a13 fun x15 => uc l14 fun a16 l17 => getI .i64 a16 fun x18 => un l17 (un l11 ((laws_eqKid n (TKid.mk x6 x9) (TKid.mk x15 x18)).bind fun r => κ (.b r) [])))

def laws_eqKidS.K (n : Nat) {ω : Type} (avs : List AV) (κ : AV → List AV → Option ω) : Option ω :=
  uc (fixes [.sl .v .iKid, .sl .v .iKid] avs) fun a1 l2 => getSl .v .iKid a1 fun x3 => uc l2 fun a4 l5 => getSl .v .iKid a4 fun x6 => un l5 ((laws_eqKidS n x3 x6).bind fun r => κ (.b r) [])

def laws_eqView.K (n : Nat) {ω : Type} (avs : List AV) (κ : AV → List AV → Option ω) : Option ω :=
  uc (fixes [.ag [.k, .sl .v .iCond, .k, .k, .k, .sl .v .int, .k, .k, .k, .sl .v .iRow, .sl .v .iKid], .ag [.k, .sl .v .iCond, .k, .k, .k, .sl .v .int, .k, .k, .k, .sl .v .iRow, .sl .v .iKid]] avs) fun a1 l2 => getAg a1 fun c3 => uc c3 fun a4 l5 => getI .i64 a4 fun x6 => uc l5 fun a7 l8 => getSl .v .iCond a7 fun x9 => uc l8 fun a10 l11 => getI .i64 a10 fun x12 => uc l11 fun a13 l14 => getB a13 fun x15 => uc l14 fun a16 l17 => getI .i64 a16 fun x18 => uc l17 fun a19 l20 => getSl .v .int a19 fun x21 => uc l20 fun a22 l23 => getB a22 fun x24 => uc l23 fun a25 l26 => getI .i64 a25 fun x27 => uc l26 fun a28 l29 => getI .i64 a28 fun x30 => uc l29 fun a31 l32 => getSl .v .iRow a31 fun x33 => uc l32 fun a34 l35 => getSl .v .iKid a34 fun x36 => un l35 (uc l2 fun a37 l38 => getAg a37 fun c39 => uc c39 fun a40 l41 => getI .i64 a40 fun x42 => uc l41 fun a43 l44 => getSl .v .iCond a43 fun x45 => uc l44 fun a46 l47 => getI .i64 a46 fun x48 => uc l47 fun a49 l50 => getB a49 fun x51 => uc l50 fun a52 l53 => getI .i64 a52 fun x54 => uc l53 fun a55 l56 => getSl .v .int a55 fun x57 => uc l56 fun a58 l59 => getB a58 fun x60 => uc l59 fun a61 l62 => getI .i64 a61 fun x63 => uc l62 fun a64 l65 => getI .i64 a64 fun x66 => uc l65 fun a67 l68 => getSl .v .iRow a67 fun x69 => uc l68 fun a70 l71 => getSl .v .iKid a70 fun x72 => un l71 (un l38 ((laws_eqView n (TView.mk (TQuery.mk x6 x9 x12 x15 x18 x21 x24 x27 x30) x33 x36) (TView.mk (TQuery.mk x42 x45 x48 x51 x54 x57 x60 x63 x66) x69 x72)).bind fun r => κ (.b r) [])))

def laws_eqSess.K (n : Nat) {ω : Type} (avs : List AV) (κ : AV → List AV → Option ω) : Option ω :=
  uc (fixes [.ag [.k, .sl .v .iCond, .k, .k, .k, .sl .v .int, .k, .k, .k, .sl .v .iRow, .sl .v .iKid, .k, .k, .sl .v .iCond, .k, .k, .k, .sl .v .int, .k, .k, .k, .sl .v .iRow, .sl .v .iKid, .k, .k], .ag [.k, .sl .v .iCond, .k, .k, .k, .sl .v .int, .k, .k, .k, .sl .v .iRow, .sl .v .iKid, .k, .k, .sl .v .iCond, .k, .k, .k, .sl .v .int, .k, .k, .k, .sl .v .iRow, .sl .v .iKid, .k, .k]] avs) fun a1 l2 => getAg a1 fun c3 => uc c3 fun a4 l5 => getI .i64 a4 fun x6 => uc l5 fun a7 l8 => getSl .v .iCond a7 fun x9 => uc l8 fun a10 l11 => getI .i64 a10 fun x12 => uc l11 fun a13 l14 => getB a13 fun x15 => uc l14 fun a16 l17 => getI .i64 a16 fun x18 => uc l17 fun a19 l20 => getSl .v .int a19 fun x21 => uc l20 fun a22 l23 => getB a22 fun x24 => uc l23 fun a25 l26 => getI .i64 a25 fun x27 => uc l26 fun a28 l29 => getI .i64 a28 fun x30 => uc l29 fun a31 l32 => getSl .v .iRow a31 fun x33 => uc l32 fun a34 l35 => getSl .v .iKid a34 fun x36 => uc l35 fun a37 l38 => getI .i64 a37 fun x39 => uc l38 fun a40 l41 => getI .i64 a40 fun x42 => uc l41 fun a43 l44 => getSl .v .iCond a43 fun x45 => uc l44 fun a46 l47 => getI .i64 a46 fun x48 => uc l47 fun a49 l50 => getB a49 fun x51 => uc l50 fun a52 l53 => getI .i64 a52 fun x54 => uc l53 fun a55 l56 => getSl .v .int a55 fun x57 => uc l56 fun a58 l59 => getB a58 fun x60 => uc l59 fun a61 l62 => getI .i64 a61 fun x63 => uc l62 fun a64 l65 => getI .i64 a64 fun x66 => uc l65 fun a67 l68 => getSl .v .iRow a67 fun x69 => uc l68 fun a70 l71 => getSl .v .iKid a70 fun x72 => uc l71 fun a73 l74 => getI .i64 a73 fun x75 => uc l74 fun a76 l77 => getB a76 fun x78 => un l77 (uc l2 fun a79 l80 => getAg a79 fun c81 => uc c81 fun a82 l83 => getI .i64 a82 fun x84 => uc l83 fun a85 l86 => getSl .v .iCond a85 fun x87 => uc l86 fun a88 l89 => getI .i64 a88 fun x90 => uc l89 fun a91 l92 => getB a91 fun x93 => uc l92 fun a94 l95 => getI .i64 a94 fun x96 => uc l95 fun a97 l98 => getSl .v .int a97 fun x99 => uc l98 fun a100 l101 => getB a100 fun x102 => uc l101 fun a103 l104 => getI .i64 a103 fun x105 => uc l104 fun a106 l107 => getI .i64 a106 fun x108 => uc l107 fun a109 l110 => getSl .v .iRow a109 fun x111 => uc l110 fun a112 l113 => getSl .v .iKid a112 fun x114 => uc l113 fun a115 l116 => getI .i64 a115 fun x117 => uc l116 fun a118 l119 => getI .i64 a118 fun x120 => uc l119 fun a121 l122 => getSl .v .iCond a121 fun x123 => uc l122 fun a124 l125 => getI .i64 a124 fun x126 => uc l125 fun a127 l128 => getB a127 fun x129 => uc l128 fun a130 l131 => getI .i64 a130 fun x132 => uc l131 fun a133 l134 => getSl .v .int a133 fun x135 => uc l134 fun a136 l137 => getB a136 fun x138 => uc l137 fun a139 l140 => getI .i64 a139 fun x141 => uc l140 fun a142 l143 => getI .i64 a142 fun x144 => uc l143 fun a145 l146 => getSl .v .iRow a145 fun x147 => uc l146 fun a148 l149 => getSl .v .iKid a148 fun x150 => uc l149 fun a151 l152 => getI .i64 a151 fun x153 => uc l152 fun a154 l155 => getB a154 fun x156 => un l155 (un l80 ((laws_eqSess n (TSess.mk (TView.mk (TQuery.mk x6 x9 x12 x15 x18 x21 x24 x27 x30) x33 x36) x39 (TView.mk (TQuery.mk x42 x45 x48 x51 x54 x57 x60 x63 x66) x69 x72) x75 x78) (TSess.mk (TView.mk (TQuery.mk x84 x87 x90 x93 x96 x99 x102 x105 x108) x111 x114) x117 (TView.mk (TQuery.mk x120 x123 x126 x129 x132 x135 x138 x141 x144) x147 x150) x153 x156)).bind fun r => κ (.b r) [])))

def laws_FnExactSessOk.K (n : Nat) {ω : Type} (avs : List AV) (κ : AV → List AV → Option ω) : Option ω :=
  uc (fixes [.ag [.sl .v .int], .ag [.k, .sl .v .lCond, .k, .k, .k, .sl .v .int, .k, .k, .k, .sl .v .lRow, .sl .v .lKid, .k, .k, .sl .v .lCond, .k, .k, .k, .sl .v .int, .k, .k, .k, .sl .v .lRow, .sl .v .lKid, .k, .k]] avs) fun a1 l2 => getAg a1 fun c3 => uc c3 fun a4 l5 => getSl .v .int a4 fun x6 => un l5 (uc l2 fun a7 l8 => getAg a7 fun c9 => uc c9 fun a10 l11 => getI .i64 a10 fun x12 => uc l11 fun a13 l14 => getSl .v .lCond a13 fun x15 => uc l14 fun a16 l17 => getI .i64 a16 fun x18 => uc l17 fun a19 l20 => getB a19 fun x21 => uc l20 fun a22 l23 => getI .i64 a22 fun x24 => uc l23 fun a25 l26 => getSl .v .int a25 fun x27 => uc l26 fun a28 l29 => getB a28 fun x30 => uc l29 fun a31 l32 => getI .i64 a31 fun x33 => uc l32 fun a34 l35 => getI .i64 a34 fun x36 => uc l35 fun a37 l38 => getSl .v .lRow a37 fun x39 => uc l38 fun a40 l41 => getSl .v .lKid a40 fun x42 => uc l41 fun a43 l44 => getI .i64 a43 fun x45 => uc l44 fun a46 l47 => getI .i64 a46 fun x48 => uc l47 fun a49 l50 => getSl .v .lCond a49 fun x51 => uc l50 fun a52 l53 => getI .i64 a52 fun x54 => uc l53 fun a55 l56 => getB a55 fun x57 => uc l56 fun a58 l59 => getI .i64 a58 fun x60 => uc l59 fun a61 l62 => getSl .v .int a61 fun x63 => uc l62 fun a64 l65 => getB a64 fun x66 => uc l65 fun a67 l68 => getI .i64 a67 fun x69 => uc l68 fun a70 l71 => getI .i64 a70 fun x72 => uc l71 fun a73 l74 => getSl .v .lRow a73 fun x75 => uc l74 fun a76 l77 => getSl .v .lKid a76 fun x78 => uc l77 fun a79 l80 => getI .i64 a79 fun x81 => uc l80 fun a82 l83 => getB a82 fun x84 => un l83 (un l8 ((laws_FnExactSessOk n (TSchema.mk x6) (TSess.mk (TView.mk (TQuery.mk x12 x15 x18 x21 x24 x27 x30 x33 x36) x39 x42) x45 (TView.mk (TQuery.mk x48 x51 x54 x57 x60 x63 x66 x69 x72) x75 x78) x81 x84)).bind fun r => κ (.b r) [])))

def KL (n : Nat) : List (Nat × Hd) := [
  (3, ⟨fun _ avs κ => laws_FnExactSessOk.K n avs κ⟩),
  (7, ⟨fun _ avs κ => laws_szSchema.K n avs κ⟩),
  (8, ⟨fun _ avs κ => laws_szSess.K n avs κ⟩),
  (9, ⟨fun _ avs κ => spec_SessOk.K n avs κ⟩),
  (10, ⟨fun _ avs κ => laws_toSchema.K n avs κ⟩),
  (11, ⟨fun _ avs κ => laws_toSess.K n avs κ⟩),
  (12, ⟨fun _ avs κ => impl_SessOk.K n avs κ⟩),
  (13, ⟨fun _ avs κ => laws_eqSchema.K n avs κ⟩),
  (14, ⟨fun _ avs κ => laws_eqSess.K n avs κ⟩),
  (30, ⟨fun _ avs κ => laws_szQuery.K n avs κ⟩),
  (33, ⟨fun _ avs κ => laws_toQuery.K n avs κ⟩),
  (36, ⟨fun _ avs κ => laws_eqQuery.K n avs κ⟩),
  (39, ⟨fun _ avs κ => laws_szIntS.K n avs κ⟩),
  (40, ⟨fun _ avs κ => laws_szView.K n avs κ⟩),
  (41, ⟨fun _ avs κ => spec_ViewOk.K n avs κ⟩),
  (42, ⟨fun _ avs κ => spec_l1In.K n avs κ⟩),
  (43, ⟨fun _ avs κ => spec_ViewSame.K n avs κ⟩),
  (44, ⟨fun _ avs κ => spec_QuerySame.K n avs κ⟩),
  (45, ⟨fun _ avs κ => laws_toIntS.K n avs κ⟩),
  (46, ⟨fun _ avs κ => laws_toView.K n avs κ⟩),
  (47, ⟨fun _ avs κ => impl_ViewOk.K n avs κ⟩),
  (48, ⟨fun _ avs κ => impl_isVersion.K n avs κ⟩),
  (49, ⟨fun _ avs κ => impl_ViewSame.K n avs κ⟩),
  (50, ⟨fun _ avs κ => impl_QuerySame.K n avs κ⟩),
  (51, ⟨fun _ avs κ => impl_within.K n avs κ⟩),
  (52, ⟨fun _ avs κ => laws_eqIntS.K n avs κ⟩),
  (53, ⟨fun _ avs κ => laws_eqView.K n avs κ⟩),
  (75, ⟨fun _ avs κ => laws_szCondS.K n avs κ⟩),
  (78, ⟨fun _ avs κ => laws_toCondS.K n avs κ⟩),
  (81, ⟨fun _ avs κ => laws_eqCondS.K n avs κ⟩),
  (84, ⟨fun _ avs κ => laws_szRowS.K n avs κ⟩),
  (85, ⟨fun _ avs κ => laws_szKidS.K n avs κ⟩),
  (86, ⟨fun _ avs κ => spec_QueryOk.K n avs κ⟩),
  (87, ⟨fun _ avs κ => spec_RowOk.K n avs κ⟩),
  (88, ⟨fun _ avs κ => spec_Matches.K n avs κ⟩),
  (89, ⟨fun _ avs κ => spec_RowAt.K n avs κ⟩),
  (90, ⟨fun _ avs κ => spec_Ahead.K n avs κ⟩),
  (91, ⟨fun _ avs κ => spec_RowSame.K n avs κ⟩),
  (92, ⟨fun _ avs κ => spec_l9Conds.K n avs κ⟩),
  (93, ⟨fun _ avs κ => spec_l9Ints.K n avs κ⟩),
  (94, ⟨fun _ avs κ => laws_toRowS.K n avs κ⟩),
  (95, ⟨fun _ avs κ => laws_toKidS.K n avs κ⟩),
  (96, ⟨fun _ avs κ => impl_QueryOk.K n avs κ⟩),
  (97, ⟨fun _ avs κ => impl_RowOk.K n avs κ⟩),
  (98, ⟨fun _ avs κ => impl_Matches.K n avs κ⟩),
  (99, ⟨fun _ avs κ => impl_Ahead.K n avs κ⟩),
  (100, ⟨fun _ avs κ => impl_RowAt.K n avs κ⟩),
  (101, ⟨fun _ avs κ => slices_EqualFunc_Row_c102.K n avs κ⟩),
  (102, ⟨fun _ avs κ => impl_RowSame.K n avs κ⟩),
  (103, ⟨fun _ avs κ => slices_Equal_Kid.K n avs κ⟩),
  (104, ⟨fun _ avs κ => slices_Equal_Cond.K n avs κ⟩),
  (105, ⟨fun _ avs κ => slices_Equal_int.K n avs κ⟩),
  (106, ⟨fun _ avs κ => laws_eqRowS.K n avs κ⟩),
  (107, ⟨fun _ avs κ => laws_eqKidS.K n avs κ⟩),
  (108, ⟨fun _ avs κ => spec_SchemaOk.K n avs κ⟩),
  (127, ⟨fun _ avs κ => laws_szRow.K n avs κ⟩),
  (130, ⟨fun _ avs κ => laws_toRow.K n avs κ⟩),
  (133, ⟨fun _ avs κ => laws_eqRow.K n avs κ⟩),
  (138, ⟨fun _ avs κ => laws_toCond.K n avs κ⟩),
  (142, ⟨fun _ avs κ => laws_eqCond.K n avs κ⟩),
  (143, ⟨fun _ avs κ => spec_l9Holds.K n avs κ⟩),
  (144, ⟨fun _ avs κ => spec_l9Cell.K n avs κ⟩),
  (145, ⟨fun _ avs κ => laws_toKid.K n avs κ⟩),
  (146, ⟨fun _ avs κ => impl_SchemaOk.K n avs κ⟩),
  (147, ⟨fun _ avs κ => impl_hasTable.K n avs κ⟩),
  (148, ⟨fun _ avs κ => impl_isNum.K n avs κ⟩),
  (149, ⟨fun _ avs κ => impl_kidsFit.K n avs κ⟩),
  (150, ⟨fun _ avs κ => impl_holds.K n avs κ⟩),
  (151, ⟨fun _ avs κ => impl_cellOf.K n avs κ⟩),
  (152, ⟨fun _ avs κ => slices_IndexFunc_Row_c153.K n avs κ⟩),
  (153, ⟨fun _ avs κ => impl_RowAt_f1.K n avs κ⟩),
  (154, ⟨fun _ avs κ => laws_eqKid.K n avs κ⟩)]
def sigL : List (Nat × List PS) := [
  (3, [.ag [.v], .ag [.v, .v, .v, .v, .v, .v, .v, .v, .v, .v, .v, .v, .v, .v, .v, .v, .v, .v, .v, .v, .v, .v, .v, .v, .v]]),
  (7, [.ag [.v], .v]),
  (8, [.ag [.v, .v, .v, .v, .v, .v, .v, .v, .v, .v, .v, .v, .v, .v, .v, .v, .v, .v, .v, .v, .v, .v, .v, .v, .v], .v]),
  (9, [.ag [.v], .ag [.v, .v, .v, .v, .v, .v, .v, .v, .v, .v, .v, .v, .v, .v, .v, .v, .v, .v, .v, .v, .v, .v, .v, .v, .v]]),
  (10, [.ag [.v]]),
  (11, [.ag [.v, .v, .v, .v, .v, .v, .v, .v, .v, .v, .v, .v, .v, .v, .v, .v, .v, .v, .v, .v, .v, .v, .v, .v, .v]]),
  (12, [.ag [.v], .ag [.v, .v, .v, .v, .v, .v, .v, .v, .v, .v, .v, .v, .v, .v, .v, .v, .v, .v, .v, .v, .v, .v, .v, .v, .v]]),
  (13, [.ag [.v], .ag [.v]]),
  (14, [.ag [.v, .v, .v, .v, .v, .v, .v, .v, .v, .v, .v, .v, .v, .v, .v, .v, .v, .v, .v, .v, .v, .v, .v, .v, .v], .ag [.v, .v, .v, .v, .v, .v, .v, .v, .v, .v, .v, .v, .v, .v, .v, .v, .v, .v, .v, .v, .v, .v, .v, .v, .v]]),
  (30, [.ag [.v, .v, .v, .v, .v, .v, .v, .v, .v], .v]),
  (33, [.ag [.v, .v, .v, .v, .v, .v, .v, .v, .v]]),
  (36, [.ag [.v, .v, .v, .v, .v, .v, .v, .v, .v], .ag [.v, .v, .v, .v, .v, .v, .v, .v, .v]]),
  (39, [.v, .v]),
  (40, [.ag [.v, .v, .v, .v, .v, .v, .v, .v, .v, .v, .v], .v]),
  (41, [.ag [.v], .ag [.v, .v, .v, .v, .v, .v, .v, .v, .v, .v, .v]]),
  (42, [.v, .v, .v]),
  (43, [.ag [.v, .v, .v, .v, .v, .v, .v, .v, .v, .v, .v], .ag [.v, .v, .v, .v, .v, .v, .v, .v, .v, .v, .v]]),
  (44, [.ag [.v, .v, .v, .v, .v, .v, .v, .v, .v], .ag [.v, .v, .v, .v, .v, .v, .v, .v, .v]]),
  (45, [.v]),
  (46, [.ag [.v, .v, .v, .v, .v, .v, .v, .v, .v, .v, .v]]),
  (47, [.ag [.v], .ag [.v, .v, .v, .v, .v, .v, .v, .v, .v, .v, .v]]),
  (48, [.v]),
  (49, [.ag [.v, .v, .v, .v, .v, .v, .v, .v, .v, .v, .v], .ag [.v, .v, .v, .v, .v, .v, .v, .v, .v, .v, .v]]),
  (50, [.ag [.v, .v, .v, .v, .v, .v, .v, .v, .v], .ag [.v, .v, .v, .v, .v, .v, .v, .v, .v]]),
  (51, [.v, .v, .v]),
  (52, [.v, .v]),
  (53, [.ag [.v, .v, .v, .v, .v, .v, .v, .v, .v, .v, .v], .ag [.v, .v, .v, .v, .v, .v, .v, .v, .v, .v, .v]]),
  (75, [.v, .v]),
  (78, [.v]),
  (81, [.v, .v]),
  (84, [.v, .v]),
  (85, [.v, .v]),
  (86, [.ag [.v], .ag [.v, .v, .v, .v, .v, .v, .v, .v, .v]]),
  (87, [.ag [.v], .v, .ag [.v, .v]]),
  (88, [.ag [.v, .v, .v, .v, .v, .v, .v, .v, .v], .ag [.v, .v]]),
  (89, [.v, .v]),
  (90, [.ag [.v, .v, .v, .v, .v, .v, .v, .v, .v], .ag [.v, .v], .ag [.v, .v]]),
  (91, [.ag [.v, .v], .ag [.v, .v]]),
  (92, [.v, .v]),
  (93, [.v, .v]),
  (94, [.v]),
  (95, [.v]),
  (96, [.ag [.v], .ag [.v, .v, .v, .v, .v, .v, .v, .v, .v]]),
  (97, [.ag [.v], .v, .ag [.v, .v]]),
  (98, [.ag [.v, .v, .v, .v, .v, .v, .v, .v, .v], .ag [.v, .v]]),
  (99, [.ag [.v, .v, .v, .v, .v, .v, .v, .v, .v], .ag [.v, .v], .ag [.v, .v]]),
  (100, [.v, .v]),
  (101, [.v, .v, .v]),
  (102, [.ag [.v, .v], .ag [.v, .v]]),
  (103, [.v, .v]),
  (104, [.v, .v]),
  (105, [.v, .v]),
  (106, [.v, .v]),
  (107, [.v, .v]),
  (108, [.ag [.v]]),
  (127, [.ag [.v, .v], .v]),
  (130, [.ag [.v, .v]]),
  (133, [.ag [.v, .v], .ag [.v, .v]]),
  (138, [.ag [.v, .v, .v]]),
  (142, [.ag [.v, .v, .v], .ag [.v, .v, .v]]),
  (143, [.ag [.v, .v, .v], .ag [.v, .v]]),
  (144, [.ag [.v, .v], .v]),
  (145, [.ag [.v, .v]]),
  (146, [.ag [.v]]),
  (147, [.ag [.v], .v]),
  (148, [.v]),
  (149, [.ag [.v], .ag [.v, .v, .v, .v, .v, .v, .v, .v, .v]]),
  (150, [.ag [.v, .v, .v], .ag [.v, .v]]),
  (151, [.ag [.v, .v], .v]),
  (152, [.v, .v]),
  (153, [.ag [.v, .v], .v]),
  (154, [.ag [.v, .v], .ag [.v, .v]])]
def cx (n nt : Nat) : Cx := ⟨nt, tt, fun f => look2 sigL f, KH (KL n)⟩
end Go.Pi
end
section
set_option linter.unusedVariables false
set_option maxRecDepth 100000
namespace Go.Pi
open Go.Proofs
namespace laws_szIntS
abbrev R : Type := Int
noncomputable def body : Code := match Try.f39.body with | some c => c | none => .skip
def ann : Ann := ⟨fun k => look2 [] k, fun k => match look2 [] k with | some l => l | none => [], fun k => match look2 [] k with | some l => l | none => []⟩
def fin (o : List AV) : Option R := uc o fun a1 l2 => getI .i64 a1 fun x3 => un l2 (some (x3 : R))
def inj (r : R) : List AV := [.i .i64 r]
theorem fin_ok (o : List AV) (r : R) (h : fin o = some r) : o = inj r := by
  unfold fin at h
  replace h := uc_ok h; obtain ⟨a1, l2, rfl, h⟩ := h
  replace h := getI_ok h; obtain ⟨x3, rfl, h⟩ := h
  replace h := un_ok h; obtain ⟨rfl, h⟩ := h
  cases h
  rfl
def kr (n : Nat) : St → Option R := retK (cx n 12) [.k] [.v] [.tmp 4] [] fin
def lf (n : Nat) : LF R := fun key κd κe v b => none
theorem cuts (n : Nat) : Cuts (cx n 12) 1 ann (lf n) (kr n) body := by
  intro key κd κe v b r h
  unfold lf at h
  cases h
theorem top (n : Nat) (a : List Int) (left : Int) : entryK 1 [.sl .v .int a, .i .i64 left] (fun v b => match outOfAll [.v, .v] v with
      | some o => cond (AV.allRoots o []) (run (cx n 12) 1 ann (lf n) (kr n) body 0 (kr n) (fun _ _ => none) (St.ofC (live0 2) v b)) none
      | none => none) = laws_szIntS (n + 1) a left := by kernel_rfl
def Ok (n : Nat) : Prop := ∀ (a : List Int) (left : Int) (res_ : R), laws_szIntS n a left = some res_ → CallOk E 39 [.sl .v .int a, .i .i64 left] (rvOf 1 (inj res_)) ((inj res_).drop 1) [.v, .v]
theorem ok (n : Nat) (hc : CxOk E (cx n 12)) (hK : KPar (cx n 12)) : Ok (n + 1) := fun a left res_ h_ =>
  fn_sound hc hK mixedOk Try.func39 (by kernel_rfl) (by kernel_rfl) (by kernel_rfl) (by decide) fin_ok (by kernel_rfl) ((top n a left).trans h_) (cuts n)
theorem Kpar (n : Nat) {ω : Type} {avs : List AV} {κ : AV → List AV → Option ω} {q : ω} (h : laws_szIntS.K n avs κ = some q) : ∃ rv outs, κ rv outs = some q ∧ ∀ (ω' : Type) (κ' : AV → List AV → Option ω'), laws_szIntS.K n avs κ' = κ' rv outs := by
  unfold K at h
  generalize hf : fixes [.sl .v .int, .k] avs = v at h
  replace h := uc_ok h; obtain ⟨a1, l2, rfl, h⟩ := h
  replace h := getSl_ok h; obtain ⟨x3, rfl, h⟩ := h
  replace h := uc_ok h; obtain ⟨a4, l5, rfl, h⟩ := h
  replace h := getI_ok h; obtain ⟨x6, rfl, h⟩ := h
  replace h := un_ok h; obtain ⟨rfl, h⟩ := h
  cases hr : laws_szIntS n x3 x6 with
  | none => rw [hr] at h; cases h
  | some r =>
    rw [hr] at h
    exact ⟨_, _, h, fun ω' κ' => by unfold K; rw [hf]; exact congrArg (fun z : Option R => z.bind _) hr⟩
theorem Kok (n : Nat) (ho : Ok n) {ω : Type} {avs : List AV} {κ : AV → List AV → Option ω} {q : ω} (h : laws_szIntS.K n avs κ = some q) : FnOk E 39 ∧ ∃ ps rv outs, (cx n 0).sig 39 = some ps ∧ κ rv outs = some q ∧ CallOk E 39 avs rv outs ps := by
  unfold K at h
  generalize hf : fixes [.sl .v .int, .k] avs = v at h
  replace h := uc_ok h; obtain ⟨a1, l2, rfl, h⟩ := h
  replace h := getSl_ok h; obtain ⟨x3, rfl, h⟩ := h
  replace h := uc_ok h; obtain ⟨a4, l5, rfl, h⟩ := h
  replace h := getI_ok h; obtain ⟨x6, rfl, h⟩ := h
  replace h := un_ok h; obtain ⟨rfl, h⟩ := h
  cases hr : laws_szIntS n x3 x6 with
  | none => rw [hr] at h; cases h
  | some r =>
    rw [hr] at h
    exact ⟨⟨_, body, Try.func39, by decide +kernel, by kernel_rfl⟩, [.v, .v], _, _, by kernel_rfl, h, CallOk.fix (ss := [.sl .v .int, .k]) (by rw [hf]; exact ho x3 x6 r hr)⟩
end laws_szIntS
namespace laws_szSchema
abbrev R : Type := Int
noncomputable def body : Code := match Try.f7.body with | some c => c | none => .skip
def ann : Ann := ⟨fun k => look2 [] k, fun k => match look2 [] k with | some l => l | none => [], fun k => match look2 [] k with | some l => l | none => []⟩
def fin (o : List AV) : Option R := uc o fun a1 l2 => getI .i64 a1 fun x3 => un l2 (some (x3 : R))
def inj (r : R) : List AV := [.i .i64 r]
theorem fin_ok (o : List AV) (r : R) (h : fin o = some r) : o = inj r := by
  unfold fin at h
  replace h := uc_ok h; obtain ⟨a1, l2, rfl, h⟩ := h
  replace h := getI_ok h; obtain ⟨x3, rfl, h⟩ := h
  replace h := un_ok h; obtain ⟨rfl, h⟩ := h
  cases h
  rfl
def kr (n : Nat) : St → Option R := retK (cx n 12) [.k] [.v] [.tmp 4] [] fin
def lf (n : Nat) : LF R := fun key κd κe v b => none
theorem cuts (n : Nat) : Cuts (cx n 12) 1 ann (lf n) (kr n) body := by
  intro key κd κe v b r h
  unfold lf at h
  cases h
theorem top (n : Nat) (a : TSchema) (left : Int) : entryK 1 [.ag [.sl .v .int a.cols], .i .i64 left] (fun v b => match outOfAll [.ag [.v], .v] v with
      | some o => cond (AV.allRoots o []) (run (cx n 12) 1 ann (lf n) (kr n) body 0 (kr n) (fun _ _ => none) (St.ofC (live0 2) v b)) none
      | none => none) = laws_szSchema (n + 1) a left := by kernel_rfl
def Ok (n : Nat) : Prop := ∀ (a : TSchema) (left : Int) (res_ : R), laws_szSchema n a left = some res_ → CallOk E 7 [.ag [.sl .v .int a.cols], .i .i64 left] (rvOf 1 (inj res_)) ((inj res_).drop 1) [.ag [.v], .v]
theorem ok (n : Nat) (hc : CxOk E (cx n 12)) (hK : KPar (cx n 12)) : Ok (n + 1) := fun a left res_ h_ =>
  fn_sound hc hK mixedOk Try.func7 (by kernel_rfl) (by kernel_rfl) (by kernel_rfl) (by decide) fin_ok (by kernel_rfl) ((top n a left).trans h_) (cuts n)
theorem Kpar (n : Nat) {ω : Type} {avs : List AV} {κ : AV → List AV → Option ω} {q : ω} (h : laws_szSchema.K n avs κ = some q) : ∃ rv outs, κ rv outs = some q ∧ ∀ (ω' : Type) (κ' : AV → List AV → Option ω'), laws_szSchema.K n avs κ' = κ' rv outs := by
  unfold K at h
  generalize hf : fixes [.ag [.sl .v .int], .k] avs = v at h
  replace h := uc_ok h; obtain ⟨a1, l2, rfl, h⟩ := h
  replace h := getAg_ok h; obtain ⟨c3, rfl, h⟩ := h
  replace h := uc_ok h; obtain ⟨a4, l5, rfl, h⟩ := h
  replace h := getSl_ok h; obtain ⟨x6, rfl, h⟩ := h
  replace h := un_ok h; obtain ⟨rfl, h⟩ := h
  replace h := uc_ok h; obtain ⟨a7, l8, rfl, h⟩ := h
  replace h := getI_ok h; obtain ⟨x9, rfl, h⟩ := h
  replace h := un_ok h; obtain ⟨rfl, h⟩ := h
  cases hr : laws_szSchema n (TSchema.mk x6) x9 with
  | none => rw [hr] at h; cases h
  | some r =>
    rw [hr] at h
    exact ⟨_, _, h, fun ω' κ' => by unfold K; rw [hf]; exact congrArg (fun z : Option R => z.bind _) hr⟩
theorem Kok (n : Nat) (ho : Ok n) {ω : Type} {avs : List AV} {κ : AV → List AV → Option ω} {q : ω} (h : laws_szSchema.K n avs κ = some q) : FnOk E 7 ∧ ∃ ps rv outs, (cx n 0).sig 7 = some ps ∧ κ rv outs = some q ∧ CallOk E 7 avs rv outs ps := by
  unfold K at h
  generalize hf : fixes [.ag [.sl .v .int], .k] avs = v at h
  replace h := uc_ok h; obtain ⟨a1, l2, rfl, h⟩ := h
  replace h := getAg_ok h; obtain ⟨c3, rfl, h⟩ := h
  replace h := uc_ok h; obtain ⟨a4, l5, rfl, h⟩ := h
  replace h := getSl_ok h; obtain ⟨x6, rfl, h⟩ := h
  replace h := un_ok h; obtain ⟨rfl, h⟩ := h
  replace h := uc_ok h; obtain ⟨a7, l8, rfl, h⟩ := h
  replace h := getI_ok h; obtain ⟨x9, rfl, h⟩ := h
  replace h := un_ok h; obtain ⟨rfl, h⟩ := h
  cases hr : laws_szSchema n (TSchema.mk x6) x9 with
  | none => rw [hr] at h; cases h
  | some r =>
    rw [hr] at h
    exact ⟨⟨_, body, Try.func7, by decide +kernel, by kernel_rfl⟩, [.ag [.v], .v], _, _, by kernel_rfl, h, CallOk.fix (ss := [.ag [.sl .v .int], .k]) (by rw [hf]; exact ho (TSchema.mk x6) x9 r hr)⟩
end laws_szSchema
namespace laws_szCondS
abbrev R : Type := Int
noncomputable def body : Code := match Try.f75.body with | some c => c | none => .skip
def ann : Ann := ⟨fun k => look2 [] k, fun k => match look2 [] k with | some l => l | none => [], fun k => match look2 [] k with | some l => l | none => []⟩
def fin (o : List AV) : Option R := uc o fun a1 l2 => getI .i64 a1 fun x3 => un l2 (some (x3 : R))
def inj (r : R) : List AV := [.i .i64 r]
theorem fin_ok (o : List AV) (r : R) (h : fin o = some r) : o = inj r := by
  unfold fin at h
  replace h := uc_ok h; obtain ⟨a1, l2, rfl, h⟩ := h
  replace h := getI_ok h; obtain ⟨x3, rfl, h⟩ := h
  replace h := un_ok h; obtain ⟨rfl, h⟩ := h
  cases h
  rfl
def kr (n : Nat) : St → Option R := retK (cx n 12) [.k] [.v] [.tmp 4] [] fin
def lf (n : Nat) : LF R := fun key κd κe v b => none
theorem cuts (n : Nat) : Cuts (cx n 12) 1 ann (lf n) (kr n) body := by
  intro key κd κe v b r h
  unfold lf at h
  cases h
theorem top (n : Nat) (a : List TCond) (left : Int) : entryK 1 [.sl .v .lCond a, .i .i64 left] (fun v b => match outOfAll [.v, .v] v with
      | some o => cond (AV.allRoots o []) (run (cx n 12) 1 ann (lf n) (kr n) body 0 (kr n) (fun _ _ => none) (St.ofC (live0 2) v b)) none
      | none => none) = laws_szCondS (n + 1) a left := by kernel_rfl
def Ok (n : Nat) : Prop := ∀ (a : List TCond) (left : Int) (res_ : R), laws_szCondS n a left = some res_ → CallOk E 75 [.sl .v .lCond a, .i .i64 left] (rvOf 1 (inj res_)) ((inj res_).drop 1) [.v, .v]
theorem ok (n : Nat) (hc : CxOk E (cx n 12)) (hK : KPar (cx n 12)) : Ok (n + 1) := fun a left res_ h_ =>
  fn_sound hc hK mixedOk Try.func75 (by kernel_rfl) (by kernel_rfl) (by kernel_rfl) (by decide) fin_ok (by kernel_rfl) ((top n a left).trans h_) (cuts n)
theorem Kpar (n : Nat) {ω : Type} {avs : List AV} {κ : AV → List AV → Option ω} {q : ω} (h : laws_szCondS.K n avs κ = some q) : ∃ rv outs, κ rv outs = some q ∧ ∀ (ω' : Type) (κ' : AV → List AV → Option ω'), laws_szCondS.K n avs κ' = κ' rv outs := by
  unfold K at h
  generalize hf : fixes [.sl .v .lCond, .k] avs = v at h
  replace h := uc_ok h; obtain ⟨a1, l2, rfl, h⟩ := h
  replace h := getSl_ok h; obtain ⟨x3, rfl, h⟩ := h
  replace h := uc_ok h; obtain ⟨a4, l5, rfl, h⟩ := h
  replace h := getI_ok h; obtain ⟨x6, rfl, h⟩ := h
  replace h := un_ok h; obtain ⟨rfl, h⟩ := h
  cases hr : laws_szCondS n x3 x6 with
  | none => rw [hr] at h; cases h
  | some r =>
    rw [hr] at h
    exact ⟨_, _, h, fun ω' κ' => by unfold K; rw [hf]; exact congrArg (fun z : Option R => z.bind _) hr⟩
theorem Kok (n : Nat) (ho : Ok n) {ω : Type} {avs : List AV} {κ : AV → List AV → Option ω} {q : ω} (h : laws_szCondS.K n avs κ = some q) : FnOk E 75 ∧ ∃ ps rv outs, (cx n 0).sig 75 = some ps ∧ κ rv outs = some q ∧ CallOk E 75 avs rv outs ps := by
  unfold K at h
  generalize hf : fixes [.sl .v .lCond, .k] avs = v at h
  replace h := uc_ok h; obtain ⟨a1, l2, rfl, h⟩ := h
  replace h := getSl_ok h; obtain ⟨x3, rfl, h⟩ := h
  replace h := uc_ok h; obtain ⟨a4, l5, rfl, h⟩ := h
  replace h := getI_ok h; obtain ⟨x6, rfl, h⟩ := h
  replace h := un_ok h; obtain ⟨rfl, h⟩ := h
  cases hr : laws_szCondS n x3 x6 with
  | none => rw [hr] at h; cases h
  | some r =>
    rw [hr] at h
    exact ⟨⟨_, body, Try.func75, by decide +kernel, by kernel_rfl⟩, [.v, .v], _, _, by kernel_rfl, h, CallOk.fix (ss := [.sl .v .lCond, .k]) (by rw [hf]; exact ho x3 x6 r hr)⟩
end laws_szCondS
namespace laws_szQuery
abbrev R : Type := Int
noncomputable def body : Code := match Try.f30.body with | some c => c | none => .skip
def ann : Ann := ⟨fun k => look2 [] k, fun k => match look2 [] k with | some l => l | none => [], fun k => match look2 [] k with | some l => l | none => []⟩
def fin (o : List AV) : Option R := uc o fun a1 l2 => getI .i64 a1 fun x3 => un l2 (some (x3 : R))
def inj (r : R) : List AV := [.i .i64 r]
theorem fin_ok (o : List AV) (r : R) (h : fin o = some r) : o = inj r := by
  unfold fin at h
  replace h := uc_ok h; obtain ⟨a1, l2, rfl, h⟩ := h
  replace h := getI_ok h; obtain ⟨x3, rfl, h⟩ := h
  replace h := un_ok h; obtain ⟨rfl, h⟩ := h
  cases h
  rfl
def kr (n : Nat) : St → Option R := retK (cx n 18) [.k] [.v] [.tmp 4] [] fin
def lf (n : Nat) : LF R := fun key κd κe v b => none
theorem cuts (n : Nat) : Cuts (cx n 18) 1 ann (lf n) (kr n) body := by
  intro key κd κe v b r h
  unfold lf at h
  cases h
theorem top (n : Nat) (a : TQuery) (left : Int) : entryK 1 [.ag [.i .i64 a.table, .sl .v .lCond a.where_, .i .i64 a.order, .b a.down, .i .i64 a.first, .sl .v .int a.show_, .b a.kids, .i .i64 a.kidTable, .i .i64 a.kidCol], .i .i64 left] (fun v b => match outOfAll [.ag [.v, .v, .v, .v, .v, .v, .v, .v, .v], .v] v with
      | some o => cond (AV.allRoots o []) (run (cx n 18) 1 ann (lf n) (kr n) body 0 (kr n) (fun _ _ => none) (St.ofC (live0 2) v b)) none
      | none => none) = laws_szQuery (n + 1) a left := by kernel_rfl
def Ok (n : Nat) : Prop := ∀ (a : TQuery) (left : Int) (res_ : R), laws_szQuery n a left = some res_ → CallOk E 30 [.ag [.i .i64 a.table, .sl .v .lCond a.where_, .i .i64 a.order, .b a.down, .i .i64 a.first, .sl .v .int a.show_, .b a.kids, .i .i64 a.kidTable, .i .i64 a.kidCol], .i .i64 left] (rvOf 1 (inj res_)) ((inj res_).drop 1) [.ag [.v, .v, .v, .v, .v, .v, .v, .v, .v], .v]
theorem ok (n : Nat) (hc : CxOk E (cx n 18)) (hK : KPar (cx n 18)) : Ok (n + 1) := fun a left res_ h_ =>
  fn_sound hc hK mixedOk Try.func30 (by kernel_rfl) (by kernel_rfl) (by kernel_rfl) (by decide) fin_ok (by kernel_rfl) ((top n a left).trans h_) (cuts n)
theorem Kpar (n : Nat) {ω : Type} {avs : List AV} {κ : AV → List AV → Option ω} {q : ω} (h : laws_szQuery.K n avs κ = some q) : ∃ rv outs, κ rv outs = some q ∧ ∀ (ω' : Type) (κ' : AV → List AV → Option ω'), laws_szQuery.K n avs κ' = κ' rv outs := by
  unfold K at h
  generalize hf : fixes [.ag [.k, .sl .v .lCond, .k, .k, .k, .sl .v .int, .k, .k, .k], .k] avs = v at h
  replace h := uc_ok h; obtain ⟨a1, l2, rfl, h⟩ := h
  replace h := getAg_ok h; obtain ⟨c3, rfl, h⟩ := h
  replace h := uc_ok h; obtain ⟨a4, l5, rfl, h⟩ := h
  replace h := getI_ok h; obtain ⟨x6, rfl, h⟩ := h
  replace h := uc_ok h; obtain ⟨a7, l8, rfl, h⟩ := h
  replace h := getSl_ok h; obtain ⟨x9, rfl, h⟩ := h
  replace h := uc_ok h; obtain ⟨a10, l11, rfl, h⟩ := h
  replace h := getI_ok h; obtain ⟨x12, rfl, h⟩ := h
  replace h := uc_ok h; obtain ⟨a13, l14, rfl, h⟩ := h
  replace h := getB_ok h; obtain ⟨x15, rfl, h⟩ := h
  replace h := uc_ok h; obtain ⟨a16, l17, rfl, h⟩ := h
  replace h := getI_ok h; obtain ⟨x18, rfl, h⟩ := h
  replace h := uc_ok h; obtain ⟨a19, l20, rfl, h⟩ := h
  replace h := getSl_ok h; obtain ⟨x21, rfl, h⟩ := h
  replace h := uc_ok h; obtain ⟨a22, l23, rfl, h⟩ := h
  replace h := getB_ok h; obtain ⟨x24, rfl, h⟩ := h
  replace h := uc_ok h; obtain ⟨a25, l26, rfl, h⟩ := h
  replace h := getI_ok h; obtain ⟨x27, rfl, h⟩ := h
  replace h := uc_ok h; obtain ⟨a28, l29, rfl, h⟩ := h
  replace h := getI_ok h; obtain ⟨x30, rfl, h⟩ := h
  replace h := un_ok h; obtain ⟨rfl, h⟩ := h
  replace h := uc_ok h; obtain ⟨a31, l32, rfl, h⟩ := h
  replace h := getI_ok h; obtain ⟨x33, rfl, h⟩ := h
  replace h := un_ok h; obtain ⟨rfl, h⟩ := h
  cases hr : laws_szQuery n (TQuery.mk x6 x9 x12 x15 x18 x21 x24 x27 x30) x33 with
  | none => rw [hr] at h; cases h
  | some r =>
    rw [hr] at h
    exact ⟨_, _, h, fun ω' κ' => by unfold K; rw [hf]; exact congrArg (fun z : Option R => z.bind _) hr⟩
theorem Kok (n : Nat) (ho : Ok n) {ω : Type} {avs : List AV} {κ : AV → List AV → Option ω} {q : ω} (h : laws_szQuery.K n avs κ = some q) : FnOk E 30 ∧ ∃ ps rv outs, (cx n 0).sig 30 = some ps ∧ κ rv outs = some q ∧ CallOk E 30 avs rv outs ps := by
  unfold K at h
  generalize hf : fixes [.ag [.k, .sl .v .lCond, .k, .k, .k, .sl .v .int, .k, .k, .k], .k] avs = v at h
  replace h := uc_ok h; obtain ⟨a1, l2, rfl, h⟩ := h
  replace h := getAg_ok h; obtain ⟨c3, rfl, h⟩ := h
  replace h := uc_ok h; obtain ⟨a4, l5, rfl, h⟩ := h
  replace h := getI_ok h; obtain ⟨x6, rfl, h⟩ := h
  replace h := uc_ok h; obtain ⟨a7, l8, rfl, h⟩ := h
  replace h := getSl_ok h; obtain ⟨x9, rfl, h⟩ := h
  replace h := uc_ok h; obtain ⟨a10, l11, rfl, h⟩ := h
  replace h := getI_ok h; obtain ⟨x12, rfl, h⟩ := h
  replace h := uc_ok h; obtain ⟨a13, l14, rfl, h⟩ := h
  replace h := getB_ok h; obtain ⟨x15, rfl, h⟩ := h
  replace h := uc_ok h; obtain ⟨a16, l17, rfl, h⟩ := h
  replace h := getI_ok h; obtain ⟨x18, rfl, h⟩ := h
  replace h := uc_ok h; obtain ⟨a19, l20, rfl, h⟩ := h
  replace h := getSl_ok h; obtain ⟨x21, rfl, h⟩ := h
  replace h := uc_ok h; obtain ⟨a22, l23, rfl, h⟩ := h
  replace h := getB_ok h; obtain ⟨x24, rfl, h⟩ := h
  replace h := uc_ok h; obtain ⟨a25, l26, rfl, h⟩ := h
  replace h := getI_ok h; obtain ⟨x27, rfl, h⟩ := h
  replace h := uc_ok h; obtain ⟨a28, l29, rfl, h⟩ := h
  replace h := getI_ok h; obtain ⟨x30, rfl, h⟩ := h
  replace h := un_ok h; obtain ⟨rfl, h⟩ := h
  replace h := uc_ok h; obtain ⟨a31, l32, rfl, h⟩ := h
  replace h := getI_ok h; obtain ⟨x33, rfl, h⟩ := h
  replace h := un_ok h; obtain ⟨rfl, h⟩ := h
  cases hr : laws_szQuery n (TQuery.mk x6 x9 x12 x15 x18 x21 x24 x27 x30) x33 with
  | none => rw [hr] at h; cases h
  | some r =>
    rw [hr] at h
    exact ⟨⟨_, body, Try.func30, by decide +kernel, by kernel_rfl⟩, [.ag [.v, .v, .v, .v, .v, .v, .v, .v, .v], .v], _, _, by kernel_rfl, h, CallOk.fix (ss := [.ag [.k, .sl .v .lCond, .k, .k, .k, .sl .v .int, .k, .k, .k], .k]) (by rw [hf]; exact ho (TQuery.mk x6 x9 x12 x15 x18 x21 x24 x27 x30) x33 r hr)⟩
end laws_szQuery
namespace laws_szRow
abbrev R : Type := Int
noncomputable def body : Code := match Try.f127.body with | some c => c | none => .skip
def ann : Ann := ⟨fun k => look2 [] k, fun k => match look2 [] k with | some l => l | none => [], fun k => match look2 [] k with | some l => l | none => []⟩
def fin (o : List AV) : Option R := uc o fun a1 l2 => getI .i64 a1 fun x3 => un l2 (some (x3 : R))
def inj (r : R) : List AV := [.i .i64 r]
theorem fin_ok (o : List AV) (r : R) (h : fin o = some r) : o = inj r := by
  unfold fin at h
  replace h := uc_ok h; obtain ⟨a1, l2, rfl, h⟩ := h
  replace h := getI_ok h; obtain ⟨x3, rfl, h⟩ := h
  replace h := un_ok h; obtain ⟨rfl, h⟩ := h
  cases h
  rfl
def kr (n : Nat) : St → Option R := retK (cx n 12) [.k] [.v] [.tmp 4] [] fin
def lf (n : Nat) : LF R := fun key κd κe v b => none
theorem cuts (n : Nat) : Cuts (cx n 12) 1 ann (lf n) (kr n) body := by
  intro key κd κe v b r h
  unfold lf at h
  cases h
theorem top (n : Nat) (a : TRow) (left : Int) : entryK 1 [.ag [.i .i64 a.id_, .sl .v .int a.cells], .i .i64 left] (fun v b => match outOfAll [.ag [.v, .v], .v] v with
      | some o => cond (AV.allRoots o []) (run (cx n 12) 1 ann (lf n) (kr n) body 0 (kr n) (fun _ _ => none) (St.ofC (live0 2) v b)) none
      | none => none) = laws_szRow (n + 1) a left := by kernel_rfl
def Ok (n : Nat) : Prop := ∀ (a : TRow) (left : Int) (res_ : R), laws_szRow n a left = some res_ → CallOk E 127 [.ag [.i .i64 a.id_, .sl .v .int a.cells], .i .i64 left] (rvOf 1 (inj res_)) ((inj res_).drop 1) [.ag [.v, .v], .v]
theorem ok (n : Nat) (hc : CxOk E (cx n 12)) (hK : KPar (cx n 12)) : Ok (n + 1) := fun a left res_ h_ =>
  fn_sound hc hK mixedOk Try.func127 (by kernel_rfl) (by kernel_rfl) (by kernel_rfl) (by decide) fin_ok (by kernel_rfl) ((top n a left).trans h_) (cuts n)
theorem Kpar (n : Nat) {ω : Type} {avs : List AV} {κ : AV → List AV → Option ω} {q : ω} (h : laws_szRow.K n avs κ = some q) : ∃ rv outs, κ rv outs = some q ∧ ∀ (ω' : Type) (κ' : AV → List AV → Option ω'), laws_szRow.K n avs κ' = κ' rv outs := by
  unfold K at h
  generalize hf : fixes [.ag [.k, .sl .v .int], .k] avs = v at h
  replace h := uc_ok h; obtain ⟨a1, l2, rfl, h⟩ := h
  replace h := getAg_ok h; obtain ⟨c3, rfl, h⟩ := h
  replace h := uc_ok h; obtain ⟨a4, l5, rfl, h⟩ := h
  replace h := getI_ok h; obtain ⟨x6, rfl, h⟩ := h
  replace h := uc_ok h; obtain ⟨a7, l8, rfl, h⟩ := h
  replace h := getSl_ok h; obtain ⟨x9, rfl, h⟩ := h
  replace h := un_ok h; obtain ⟨rfl, h⟩ := h
  replace h := uc_ok h; obtain ⟨a10, l11, rfl, h⟩ := h
  replace h := getI_ok h; obtain ⟨x12, rfl, h⟩ := h
  replace h := un_ok h; obtain ⟨rfl, h⟩ := h
  cases hr : laws_szRow n (TRow.mk x6 x9) x12 with
  | none => rw [hr] at h; cases h
  | some r =>
    rw [hr] at h
    exact ⟨_, _, h, fun ω' κ' => by unfold K; rw [hf]; exact congrArg (fun z : Option R => z.bind _) hr⟩
theorem Kok (n : Nat) (ho : Ok n) {ω : Type} {avs : List AV} {κ : AV → List AV → Option ω} {q : ω} (h : laws_szRow.K n avs κ = some q) : FnOk E 127 ∧ ∃ ps rv outs, (cx n 0).sig 127 = some ps ∧ κ rv outs = some q ∧ CallOk E 127 avs rv outs ps := by
  unfold K at h
  generalize hf : fixes [.ag [.k, .sl .v .int], .k] avs = v at h
  replace h := uc_ok h; obtain ⟨a1, l2, rfl, h⟩ := h
  replace h := getAg_ok h; obtain ⟨c3, rfl, h⟩ := h
  replace h := uc_ok h; obtain ⟨a4, l5, rfl, h⟩ := h
  replace h := getI_ok h; obtain ⟨x6, rfl, h⟩ := h
  replace h := uc_ok h; obtain ⟨a7, l8, rfl, h⟩ := h
  replace h := getSl_ok h; obtain ⟨x9, rfl, h⟩ := h
  replace h := un_ok h; obtain ⟨rfl, h⟩ := h
  replace h := uc_ok h; obtain ⟨a10, l11, rfl, h⟩ := h
  replace h := getI_ok h; obtain ⟨x12, rfl, h⟩ := h
  replace h := un_ok h; obtain ⟨rfl, h⟩ := h
  cases hr : laws_szRow n (TRow.mk x6 x9) x12 with
  | none => rw [hr] at h; cases h
  | some r =>
    rw [hr] at h
    exact ⟨⟨_, body, Try.func127, by decide +kernel, by kernel_rfl⟩, [.ag [.v, .v], .v], _, _, by kernel_rfl, h, CallOk.fix (ss := [.ag [.k, .sl .v .int], .k]) (by rw [hf]; exact ho (TRow.mk x6 x9) x12 r hr)⟩
end laws_szRow
namespace laws_szRowS
abbrev R : Type := Int
noncomputable def body : Code := match Try.f84.body with | some c => c | none => .skip
def ann : Ann := ⟨fun k => look2 [(7, [(0, .view .lRow), (1, .k), (5, .k)])] k, fun k => match look2 [] k with | some l => l | none => [], fun k => match look2 [(0, [(1, .k)])] k with | some l => l | none => []⟩
def fin (o : List AV) : Option R := uc o fun a1 l2 => getI .i64 a1 fun x3 => un l2 (some (x3 : R))
def inj (r : R) : List AV := [.i .i64 r]
theorem fin_ok (o : List AV) (r : R) (h : fin o = some r) : o = inj r := by
  unfold fin at h
  replace h := uc_ok h; obtain ⟨a1, l2, rfl, h⟩ := h
  replace h := getI_ok h; obtain ⟨x3, rfl, h⟩ := h
  replace h := un_ok h; obtain ⟨rfl, h⟩ := h
  cases h
  rfl
def kr (n : Nat) : St → Option R := retK (cx n 27) [.k] [.v] [.tmp 4] [] fin
def lf (n : Nat) : LF R := fun key κd κe v b => cond (Nat.beq key 7)
    (uc v fun a1 l2 => getSl .v .lRow a1 fun x3 => uc l2 fun a4 l5 => getI .i64 a4 fun x6 => uc l5 fun a7 l8 => getI .i64 a7 fun x9 => un l8 (uc b fun a10 l11 => isExt a10 (un l11 (laws_szRowS.loop7 n (fun (y0 : Int) => κe 0 [.i .i64 y0] [some .ext]) n x3 x6 x9))))
    (none)
noncomputable def A7 : Code := match pieceAt ann body 0 7 with | some (.loop a _) => a | _ => .skip
theorem round7 (n : Nat) (B : D R) (κe : Nat → D R) (a : List TRow) (left : Int) (i : Int) : run (cx n 27) 1 ann (lf n) (kr n) A7 8 (fun s => cutK 1 [(0, .view .lRow), (1, .k), (5, .k)] s B) (fun j s => cutK 1 (ann.out j) s (κe j)) (St.ofC [(0, .view .lRow), (1, .k), (5, .k)] [.sl .v .lRow a, .i .i64 left, .i .i64 i] [some .ext]) =
    laws_szRowS.step7 n (fun (y0 : Int) => κe 0 [.i .i64 y0] [some .ext]) (fun (z0 : List TRow) (z1 : Int) (z2 : Int) => B [.sl .v .lRow z0, .i .i64 z1, .i .i64 z2] [some .ext]) a left i := by kernel_rfl
theorem rounds7 (n : Nat) (κe : Nat → D R) : ∀ (N : Nat) (a : List TRow) (left : Int) (i : Int), rounds (cx n 27) 1 ann (lf n) (kr n) A7 8 [(0, .view .lRow), (1, .k), (5, .k)] κe N [.sl .v .lRow a, .i .i64 left, .i .i64 i] [some .ext] = laws_szRowS.loop7 n (fun (y0 : Int) => κe 0 [.i .i64 y0] [some .ext]) N a left i
  | 0, _, _, _ => rfl
  | N + 1, a, left, i => (round7 n (rounds (cx n 27) 1 ann (lf n) (kr n) A7 8 [(0, .view .lRow), (1, .k), (5, .k)] κe N) κe a left i).trans (congrArg (fun back => laws_szRowS.step7 n (fun (y0 : Int) => κe 0 [.i .i64 y0] [some .ext]) back a left i) (funext fun z0 => funext fun z1 => funext fun z2 => rounds7 n κe N z0 z1 z2))
theorem cuts (n : Nat) : Cuts (cx n 27) 1 ann (lf n) (kr n) body := by
  intro key κd κe v b r h
  unfold lf at h
  cases hk7 : Nat.beq key 7 with
  | true =>
    replace h := cond_t hk7 h
    have := beq_iff.1 hk7
    subst this
    replace h := uc_ok h; obtain ⟨a1, l2, rfl, h⟩ := h
    replace h := getSl_ok h; obtain ⟨x3, rfl, h⟩ := h
    replace h := uc_ok h; obtain ⟨a4, l5, rfl, h⟩ := h
    replace h := getI_ok h; obtain ⟨x6, rfl, h⟩ := h
    replace h := uc_ok h; obtain ⟨a7, l8, rfl, h⟩ := h
    replace h := getI_ok h; obtain ⟨x9, rfl, h⟩ := h
    replace h := un_ok h; obtain ⟨rfl, h⟩ := h
    replace h := uc_ok h; obtain ⟨a10, l11, rfl, h⟩ := h
    replace h := isExt_ok h; obtain ⟨rfl, h⟩ := h
    replace h := un_ok h; obtain ⟨rfl, h⟩ := h
    exact ⟨[(0, .view .lRow), (1, .k), (5, .k)], .loop A7 8, by kernel_rfl, by kernel_rfl, ⟨n, (rounds7 n κe n x3 x6 x9).trans h⟩⟩
  | false =>
    replace h := cond_f hk7 h
    cases h
theorem top (n : Nat) (a : List TRow) (left : Int) : entryK 1 [.sl .v .lRow a, .i .i64 left] (fun v b => match outOfAll [.v, .v] v with
      | some o => cond (AV.allRoots o []) (run (cx n 27) 1 ann (lf n) (kr n) body 0 (kr n) (fun _ _ => none) (St.ofC (live0 2) v b)) none
      | none => none) = laws_szRowS (n + 1) a left := by kernel_rfl
def Ok (n : Nat) : Prop := ∀ (a : List TRow) (left : Int) (res_ : R), laws_szRowS n a left = some res_ → CallOk E 84 [.sl .v .lRow a, .i .i64 left] (rvOf 1 (inj res_)) ((inj res_).drop 1) [.v, .v]
theorem ok (n : Nat) (hc : CxOk E (cx n 27)) (hK : KPar (cx n 27)) : Ok (n + 1) := fun a left res_ h_ =>
  fn_sound hc hK mixedOk Try.func84 (by kernel_rfl) (by kernel_rfl) (by kernel_rfl) (by decide) fin_ok (by kernel_rfl) ((top n a left).trans h_) (cuts n)
theorem Kpar (n : Nat) {ω : Type} {avs : List AV} {κ : AV → List AV → Option ω} {q : ω} (h : laws_szRowS.K n avs κ = some q) : ∃ rv outs, κ rv outs = some q ∧ ∀ (ω' : Type) (κ' : AV → List AV → Option ω'), laws_szRowS.K n avs κ' = κ' rv outs := by
  unfold K at h
  generalize hf : fixes [.sl .v .lRow, .k] avs = v at h
  replace h := uc_ok h; obtain ⟨a1, l2, rfl, h⟩ := h
  replace h := getSl_ok h; obtain ⟨x3, rfl, h⟩ := h
  replace h := uc_ok h; obtain ⟨a4, l5, rfl, h⟩ := h
  replace h := getI_ok h; obtain ⟨x6, rfl, h⟩ := h
  replace h := un_ok h; obtain ⟨rfl, h⟩ := h
  cases hr : laws_szRowS n x3 x6 with
  | none => rw [hr] at h; cases h
  | some r =>
    rw [hr] at h
    exact ⟨_, _, h, fun ω' κ' => by unfold K; rw [hf]; exact congrArg (fun z : Option R => z.bind _) hr⟩
theorem Kok (n : Nat) (ho : Ok n) {ω : Type} {avs : List AV} {κ : AV → List AV → Option ω} {q : ω} (h : laws_szRowS.K n avs κ = some q) : FnOk E 84 ∧ ∃ ps rv outs, (cx n 0).sig 84 = some ps ∧ κ rv outs = some q ∧ CallOk E 84 avs rv outs ps := by
  unfold K at h
  generalize hf : fixes [.sl .v .lRow, .k] avs = v at h
  replace h := uc_ok h; obtain ⟨a1, l2, rfl, h⟩ := h
  replace h := getSl_ok h; obtain ⟨x3, rfl, h⟩ := h
  replace h := uc_ok h; obtain ⟨a4, l5, rfl, h⟩ := h
  replace h := getI_ok h; obtain ⟨x6, rfl, h⟩ := h
  replace h := un_ok h; obtain ⟨rfl, h⟩ := h
  cases hr : laws_szRowS n x3 x6 with
  | none => rw [hr] at h; cases h
  | some r =>
    rw [hr] at h
    exact ⟨⟨_, body, Try.func84, by decide +kernel, by kernel_rfl⟩, [.v, .v], _, _, by kernel_rfl, h, CallOk.fix (ss := [.sl .v .lRow, .k]) (by rw [hf]; exact ho x3 x6 r hr)⟩
end laws_szRowS
namespace laws_szKidS
abbrev R : Type := Int
noncomputable def body : Code := match Try.f85.body with | some c => c | none => .skip
def ann : Ann := ⟨fun k => look2 [] k, fun k => match look2 [] k with | some l => l | none => [], fun k => match look2 [] k with | some l => l | none => []⟩
def fin (o : List AV) : Option R := uc o fun a1 l2 => getI .i64 a1 fun x3 => un l2 (some (x3 : R))
def inj (r : R) : List AV := [.i .i64 r]
theorem fin_ok (o : List AV) (r : R) (h : fin o = some r) : o = inj r := by
  unfold fin at h
  replace h := uc_ok h; obtain ⟨a1, l2, rfl, h⟩ := h
  replace h := getI_ok h; obtain ⟨x3, rfl, h⟩ := h
  replace h := un_ok h; obtain ⟨rfl, h⟩ := h
  cases h
  rfl
def kr (n : Nat) : St → Option R := retK (cx n 12) [.k] [.v] [.tmp 4] [] fin
def lf (n : Nat) : LF R := fun key κd κe v b => none
theorem cuts (n : Nat) : Cuts (cx n 12) 1 ann (lf n) (kr n) body := by
  intro key κd κe v b r h
  unfold lf at h
  cases h
theorem top (n : Nat) (a : List TKid) (left : Int) : entryK 1 [.sl .v .lKid a, .i .i64 left] (fun v b => match outOfAll [.v, .v] v with
      | some o => cond (AV.allRoots o []) (run (cx n 12) 1 ann (lf n) (kr n) body 0 (kr n) (fun _ _ => none) (St.ofC (live0 2) v b)) none
      | none => none) = laws_szKidS (n + 1) a left := by kernel_rfl
def Ok (n : Nat) : Prop := ∀ (a : List TKid) (left : Int) (res_ : R), laws_szKidS n a left = some res_ → CallOk E 85 [.sl .v .lKid a, .i .i64 left] (rvOf 1 (inj res_)) ((inj res_).drop 1) [.v, .v]
theorem ok (n : Nat) (hc : CxOk E (cx n 12)) (hK : KPar (cx n 12)) : Ok (n + 1) := fun a left res_ h_ =>
  fn_sound hc hK mixedOk Try.func85 (by kernel_rfl) (by kernel_rfl) (by kernel_rfl) (by decide) fin_ok (by kernel_rfl) ((top n a left).trans h_) (cuts n)
theorem Kpar (n : Nat) {ω : Type} {avs : List AV} {κ : AV → List AV → Option ω} {q : ω} (h : laws_szKidS.K n avs κ = some q) : ∃ rv outs, κ rv outs = some q ∧ ∀ (ω' : Type) (κ' : AV → List AV → Option ω'), laws_szKidS.K n avs κ' = κ' rv outs := by
  unfold K at h
  generalize hf : fixes [.sl .v .lKid, .k] avs = v at h
  replace h := uc_ok h; obtain ⟨a1, l2, rfl, h⟩ := h
  replace h := getSl_ok h; obtain ⟨x3, rfl, h⟩ := h
  replace h := uc_ok h; obtain ⟨a4, l5, rfl, h⟩ := h
  replace h := getI_ok h; obtain ⟨x6, rfl, h⟩ := h
  replace h := un_ok h; obtain ⟨rfl, h⟩ := h
  cases hr : laws_szKidS n x3 x6 with
  | none => rw [hr] at h; cases h
  | some r =>
    rw [hr] at h
    exact ⟨_, _, h, fun ω' κ' => by unfold K; rw [hf]; exact congrArg (fun z : Option R => z.bind _) hr⟩
theorem Kok (n : Nat) (ho : Ok n) {ω : Type} {avs : List AV} {κ : AV → List AV → Option ω} {q : ω} (h : laws_szKidS.K n avs κ = some q) : FnOk E 85 ∧ ∃ ps rv outs, (cx n 0).sig 85 = some ps ∧ κ rv outs = some q ∧ CallOk E 85 avs rv outs ps := by
  unfold K at h
  generalize hf : fixes [.sl .v .lKid, .k] avs = v at h
  replace h := uc_ok h; obtain ⟨a1, l2, rfl, h⟩ := h
  replace h := getSl_ok h; obtain ⟨x3, rfl, h⟩ := h
  replace h := uc_ok h; obtain ⟨a4, l5, rfl, h⟩ := h
  replace h := getI_ok h; obtain ⟨x6, rfl, h⟩ := h
  replace h := un_ok h; obtain ⟨rfl, h⟩ := h
  cases hr : laws_szKidS n x3 x6 with
  | none => rw [hr] at h; cases h
  | some r =>
    rw [hr] at h
    exact ⟨⟨_, body, Try.func85, by decide +kernel, by kernel_rfl⟩, [.v, .v], _, _, by kernel_rfl, h, CallOk.fix (ss := [.sl .v .lKid, .k]) (by rw [hf]; exact ho x3 x6 r hr)⟩
end laws_szKidS
namespace laws_szView
abbrev R : Type := Int
noncomputable def body : Code := match Try.f40.body with | some c => c | none => .skip
def ann : Ann := ⟨fun k => look2 [] k, fun k => match look2 [] k with | some l => l | none => [], fun k => match look2 [] k with | some l => l | none => []⟩
def fin (o : List AV) : Option R := uc o fun a1 l2 => getI .i64 a1 fun x3 => un l2 (some (x3 : R))
def inj (r : R) : List AV := [.i .i64 r]
theorem fin_ok (o : List AV) (r : R) (h : fin o = some r) : o = inj r := by
  unfold fin at h
  replace h := uc_ok h; obtain ⟨a1, l2, rfl, h⟩ := h
  replace h := getI_ok h; obtain ⟨x3, rfl, h⟩ := h
  replace h := un_ok h; obtain ⟨rfl, h⟩ := h
  cases h
  rfl
def kr (n : Nat) : St → Option R := retK (cx n 24) [.k] [.v] [.tmp 4] [] fin
def lf (n : Nat) : LF R := fun key κd κe v b => none
theorem cuts (n : Nat) : Cuts (cx n 24) 1 ann (lf n) (kr n) body := by
  intro key κd κe v b r h
  unfold lf at h
  cases h
theorem top (n : Nat) (a : TView) (left : Int) : entryK 1 [.ag [.i .i64 a.q.table, .sl .v .lCond a.q.where_, .i .i64 a.q.order, .b a.q.down, .i .i64 a.q.first, .sl .v .int a.q.show_, .b a.q.kids, .i .i64 a.q.kidTable, .i .i64 a.q.kidCol, .sl .v .lRow a.rows, .sl .v .lKid a.kids], .i .i64 left] (fun v b => match outOfAll [.ag [.v, .v, .v, .v, .v, .v, .v, .v, .v, .v, .v], .v] v with
      | some o => cond (AV.allRoots o []) (run (cx n 24) 1 ann (lf n) (kr n) body 0 (kr n) (fun _ _ => none) (St.ofC (live0 2) v b)) none
      | none => none) = laws_szView (n + 1) a left := by kernel_rfl
def Ok (n : Nat) : Prop := ∀ (a : TView) (left : Int) (res_ : R), laws_szView n a left = some res_ → CallOk E 40 [.ag [.i .i64 a.q.table, .sl .v .lCond a.q.where_, .i .i64 a.q.order, .b a.q.down, .i .i64 a.q.first, .sl .v .int a.q.show_, .b a.q.kids, .i .i64 a.q.kidTable, .i .i64 a.q.kidCol, .sl .v .lRow a.rows, .sl .v .lKid a.kids], .i .i64 left] (rvOf 1 (inj res_)) ((inj res_).drop 1) [.ag [.v, .v, .v, .v, .v, .v, .v, .v, .v, .v, .v], .v]
theorem ok (n : Nat) (hc : CxOk E (cx n 24)) (hK : KPar (cx n 24)) : Ok (n + 1) := fun a left res_ h_ =>
  fn_sound hc hK mixedOk Try.func40 (by kernel_rfl) (by kernel_rfl) (by kernel_rfl) (by decide) fin_ok (by kernel_rfl) ((top n a left).trans h_) (cuts n)
theorem Kpar (n : Nat) {ω : Type} {avs : List AV} {κ : AV → List AV → Option ω} {q : ω} (h : laws_szView.K n avs κ = some q) : ∃ rv outs, κ rv outs = some q ∧ ∀ (ω' : Type) (κ' : AV → List AV → Option ω'), laws_szView.K n avs κ' = κ' rv outs := by
  unfold K at h
  generalize hf : fixes [.ag [.k, .sl .v .lCond, .k, .k, .k, .sl .v .int, .k, .k, .k, .sl .v .lRow, .sl .v .lKid], .k] avs = v at h
  replace h := uc_ok h; obtain ⟨a1, l2, rfl, h⟩ := h
  replace h := getAg_ok h; obtain ⟨c3, rfl, h⟩ := h
  replace h := uc_ok h; obtain ⟨a4, l5, rfl, h⟩ := h
  replace h := getI_ok h; obtain ⟨x6, rfl, h⟩ := h
  replace h := uc_ok h; obtain ⟨a7, l8, rfl, h⟩ := h
  replace h := getSl_ok h; obtain ⟨x9, rfl, h⟩ := h
  replace h := uc_ok h; obtain ⟨a10, l11, rfl, h⟩ := h
  replace h := getI_ok h; obtain ⟨x12, rfl, h⟩ := h
  replace h := uc_ok h; obtain ⟨a13, l14, rfl, h⟩ := h
  replace h := getB_ok h; obtain ⟨x15, rfl, h⟩ := h
  replace h := uc_ok h; obtain ⟨a16, l17, rfl, h⟩ := h
  replace h := getI_ok h; obtain ⟨x18, rfl, h⟩ := h
  replace h := uc_ok h; obtain ⟨a19, l20, rfl, h⟩ := h
  replace h := getSl_ok h; obtain ⟨x21, rfl, h⟩ := h
  replace h := uc_ok h; obtain ⟨a22, l23, rfl, h⟩ := h
  replace h := getB_ok h; obtain ⟨x24, rfl, h⟩ := h
  replace h := uc_ok h; obtain ⟨a25, l26, rfl, h⟩ := h
  replace h := getI_ok h; obtain ⟨x27, rfl, h⟩ := h
  replace h := uc_ok h; obtain ⟨a28, l29, rfl, h⟩ := h
  replace h := getI_ok h; obtain ⟨x30, rfl, h⟩ := h
  replace h := uc_ok h; obtain ⟨a31, l32, rfl, h⟩ := h
  replace h := getSl_ok h; obtain ⟨x33, rfl, h⟩ := h
  replace h := uc_ok h; obtain ⟨a34, l35, rfl, h⟩ := h
  replace h := getSl_ok h; obtain ⟨x36, rfl, h⟩ := h
  replace h := un_ok h; obtain ⟨rfl, h⟩ := h
  replace h := uc_ok h; obtain ⟨a37, l38, rfl, h⟩ := h
  replace h := getI_ok h; obtain ⟨x39, rfl, h⟩ := h
  replace h := un_ok h; obtain ⟨rfl, h⟩ := h
  cases hr : laws_szView n (TView.mk (TQuery.mk x6 x9 x12 x15 x18 x21 x24 x27 x30) x33 x36) x39 with
  | none => rw [hr] at h; cases h
  | some r =>
    rw [hr] at h
    exact ⟨_, _, h, fun ω' κ' => by unfold K; rw [hf]; exact congrArg (fun z : Option R => z.bind _) hr⟩
theorem Kok (n : Nat) (ho : Ok n) {ω : Type} {avs : List AV} {κ : AV → List AV → Option ω} {q : ω} (h : laws_szView.K n avs κ = some q) : FnOk E 40 ∧ ∃ ps rv outs, (cx n 0).sig 40 = some ps ∧ κ rv outs = some q ∧ CallOk E 40 avs rv outs ps := by
  unfold K at h
  generalize hf : fixes [.ag [.k, .sl .v .lCond, .k, .k, .k, .sl .v .int, .k, .k, .k, .sl .v .lRow, .sl .v .lKid], .k] avs = v at h
  replace h := uc_ok h; obtain ⟨a1, l2, rfl, h⟩ := h
  replace h := getAg_ok h; obtain ⟨c3, rfl, h⟩ := h
  replace h := uc_ok h; obtain ⟨a4, l5, rfl, h⟩ := h
  replace h := getI_ok h; obtain ⟨x6, rfl, h⟩ := h
  replace h := uc_ok h; obtain ⟨a7, l8, rfl, h⟩ := h
  replace h := getSl_ok h; obtain ⟨x9, rfl, h⟩ := h
  replace h := uc_ok h; obtain ⟨a10, l11, rfl, h⟩ := h
  replace h := getI_ok h; obtain ⟨x12, rfl, h⟩ := h
  replace h := uc_ok h; obtain ⟨a13, l14, rfl, h⟩ := h
  replace h := getB_ok h; obtain ⟨x15, rfl, h⟩ := h
  replace h := uc_ok h; obtain ⟨a16, l17, rfl, h⟩ := h
  replace h := getI_ok h; obtain ⟨x18, rfl, h⟩ := h
  replace h := uc_ok h; obtain ⟨a19, l20, rfl, h⟩ := h
  replace h := getSl_ok h; obtain ⟨x21, rfl, h⟩ := h
  replace h := uc_ok h; obtain ⟨a22, l23, rfl, h⟩ := h
  replace h := getB_ok h; obtain ⟨x24, rfl, h⟩ := h
  replace h := uc_ok h; obtain ⟨a25, l26, rfl, h⟩ := h
  replace h := getI_ok h; obtain ⟨x27, rfl, h⟩ := h
  replace h := uc_ok h; obtain ⟨a28, l29, rfl, h⟩ := h
  replace h := getI_ok h; obtain ⟨x30, rfl, h⟩ := h
  replace h := uc_ok h; obtain ⟨a31, l32, rfl, h⟩ := h
  replace h := getSl_ok h; obtain ⟨x33, rfl, h⟩ := h
  replace h := uc_ok h; obtain ⟨a34, l35, rfl, h⟩ := h
  replace h := getSl_ok h; obtain ⟨x36, rfl, h⟩ := h
  replace h := un_ok h; obtain ⟨rfl, h⟩ := h
  replace h := uc_ok h; obtain ⟨a37, l38, rfl, h⟩ := h
  replace h := getI_ok h; obtain ⟨x39, rfl, h⟩ := h
  replace h := un_ok h; obtain ⟨rfl, h⟩ := h
  cases hr : laws_szView n (TView.mk (TQuery.mk x6 x9 x12 x15 x18 x21 x24 x27 x30) x33 x36) x39 with
  | none => rw [hr] at h; cases h
  | some r =>
    rw [hr] at h
    exact ⟨⟨_, body, Try.func40, by decide +kernel, by kernel_rfl⟩, [.ag [.v, .v, .v, .v, .v, .v, .v, .v, .v, .v, .v], .v], _, _, by kernel_rfl, h, CallOk.fix (ss := [.ag [.k, .sl .v .lCond, .k, .k, .k, .sl .v .int, .k, .k, .k, .sl .v .lRow, .sl .v .lKid], .k]) (by rw [hf]; exact ho (TView.mk (TQuery.mk x6 x9 x12 x15 x18 x21 x24 x27 x30) x33 x36) x39 r hr)⟩
end laws_szView
namespace laws_szSess
abbrev R : Type := Int
noncomputable def body : Code := match Try.f8.body with | some c => c | none => .skip
def ann : Ann := ⟨fun k => look2 [] k, fun k => match look2 [] k with | some l => l | none => [], fun k => match look2 [] k with | some l => l | none => []⟩
def fin (o : List AV) : Option R := uc o fun a1 l2 => getI .i64 a1 fun x3 => un l2 (some (x3 : R))
def inj (r : R) : List AV := [.i .i64 r]
theorem fin_ok (o : List AV) (r : R) (h : fin o = some r) : o = inj r := by
  unfold fin at h
  replace h := uc_ok h; obtain ⟨a1, l2, rfl, h⟩ := h
  replace h := getI_ok h; obtain ⟨x3, rfl, h⟩ := h
  replace h := un_ok h; obtain ⟨rfl, h⟩ := h
  cases h
  rfl
def kr (n : Nat) : St → Option R := retK (cx n 18) [.k] [.v] [.tmp 4] [] fin
def lf (n : Nat) : LF R := fun key κd κe v b => none
theorem cuts (n : Nat) : Cuts (cx n 18) 1 ann (lf n) (kr n) body := by
  intro key κd κe v b r h
  unfold lf at h
  cases h
theorem top (n : Nat) (a : TSess) (left : Int) : entryK 1 [.ag [.i .i64 a.view.q.table, .sl .v .lCond a.view.q.where_, .i .i64 a.view.q.order, .b a.view.q.down, .i .i64 a.view.q.first, .sl .v .int a.view.q.show_, .b a.view.q.kids, .i .i64 a.view.q.kidTable, .i .i64 a.view.q.kidCol, .sl .v .lRow a.view.rows, .sl .v .lKid a.view.kids, .i .i64 a.version, .i .i64 a.last.q.table, .sl .v .lCond a.last.q.where_, .i .i64 a.last.q.order, .b a.last.q.down, .i .i64 a.last.q.first, .sl .v .int a.last.q.show_, .b a.last.q.kids, .i .i64 a.last.q.kidTable, .i .i64 a.last.q.kidCol, .sl .v .lRow a.last.rows, .sl .v .lKid a.last.kids, .i .i64 a.lastVersion, .b a.began], .i .i64 left] (fun v b => match outOfAll [.ag [.v, .v, .v, .v, .v, .v, .v, .v, .v, .v, .v, .v, .v, .v, .v, .v, .v, .v, .v, .v, .v, .v, .v, .v, .v], .v] v with
      | some o => cond (AV.allRoots o []) (run (cx n 18) 1 ann (lf n) (kr n) body 0 (kr n) (fun _ _ => none) (St.ofC (live0 2) v b)) none
      | none => none) = laws_szSess (n + 1) a left := by kernel_rfl
def Ok (n : Nat) : Prop := ∀ (a : TSess) (left : Int) (res_ : R), laws_szSess n a left = some res_ → CallOk E 8 [.ag [.i .i64 a.view.q.table, .sl .v .lCond a.view.q.where_, .i .i64 a.view.q.order, .b a.view.q.down, .i .i64 a.view.q.first, .sl .v .int a.view.q.show_, .b a.view.q.kids, .i .i64 a.view.q.kidTable, .i .i64 a.view.q.kidCol, .sl .v .lRow a.view.rows, .sl .v .lKid a.view.kids, .i .i64 a.version, .i .i64 a.last.q.table, .sl .v .lCond a.last.q.where_, .i .i64 a.last.q.order, .b a.last.q.down, .i .i64 a.last.q.first, .sl .v .int a.last.q.show_, .b a.last.q.kids, .i .i64 a.last.q.kidTable, .i .i64 a.last.q.kidCol, .sl .v .lRow a.last.rows, .sl .v .lKid a.last.kids, .i .i64 a.lastVersion, .b a.began], .i .i64 left] (rvOf 1 (inj res_)) ((inj res_).drop 1) [.ag [.v, .v, .v, .v, .v, .v, .v, .v, .v, .v, .v, .v, .v, .v, .v, .v, .v, .v, .v, .v, .v, .v, .v, .v, .v], .v]
theorem ok (n : Nat) (hc : CxOk E (cx n 18)) (hK : KPar (cx n 18)) : Ok (n + 1) := fun a left res_ h_ =>
  fn_sound hc hK mixedOk Try.func8 (by kernel_rfl) (by kernel_rfl) (by kernel_rfl) (by decide) fin_ok (by kernel_rfl) ((top n a left).trans h_) (cuts n)
theorem Kpar (n : Nat) {ω : Type} {avs : List AV} {κ : AV → List AV → Option ω} {q : ω} (h : laws_szSess.K n avs κ = some q) : ∃ rv outs, κ rv outs = some q ∧ ∀ (ω' : Type) (κ' : AV → List AV → Option ω'), laws_szSess.K n avs κ' = κ' rv outs := by
  unfold K at h
  generalize hf : fixes [.ag [.k, .sl .v .lCond, .k, .k, .k, .sl .v .int, .k, .k, .k, .sl .v .lRow, .sl .v .lKid, .k, .k, .sl .v .lCond, .k, .k, .k, .sl .v .int, .k, .k, .k, .sl .v .lRow, .sl .v .lKid, .k, .k], .k] avs = v at h
  replace h := uc_ok h; obtain ⟨a1, l2, rfl, h⟩ := h
  replace h := getAg_ok h; obtain ⟨c3, rfl, h⟩ := h
  replace h := uc_ok h; obtain ⟨a4, l5, rfl, h⟩ := h
  replace h := getI_ok h; obtain ⟨x6, rfl, h⟩ := h
  replace h := uc_ok h; obtain ⟨a7, l8, rfl, h⟩ := h
  replace h := getSl_ok h; obtain ⟨x9, rfl, h⟩ := h
  replace h := uc_ok h; obtain ⟨a10, l11, rfl, h⟩ := h
  replace h := getI_ok h; obtain ⟨x12, rfl, h⟩ := h
  replace h := uc_ok h; obtain ⟨a13, l14, rfl, h⟩ := h
  replace h := getB_ok h; obtain ⟨x15, rfl, h⟩ := h
  replace h := uc_ok h; obtain ⟨a16, l17, rfl, h⟩ := h
  replace h := getI_ok h; obtain ⟨x18, rfl, h⟩ := h
  replace h := uc_ok h; obtain ⟨a19, l20, rfl, h⟩ := h
  replace h := getSl_ok h; obtain ⟨x21, rfl, h⟩ := h
  replace h := uc_ok h; obtain ⟨a22, l23, rfl, h⟩ := h
  replace h := getB_ok h; obtain ⟨x24, rfl, h⟩ := h
  replace h := uc_ok h; obtain ⟨a25, l26, rfl, h⟩ := h
  replace h := getI_ok h; obtain ⟨x27, rfl, h⟩ := h
  replace h := uc_ok h; obtain ⟨a28, l29, rfl, h⟩ := h
  replace h := getI_ok h; obtain ⟨x30, rfl, h⟩ := h
  replace h := uc_ok h; obtain ⟨a31, l32, rfl, h⟩ := h
  replace h := getSl_ok h; obtain ⟨x33, rfl, h⟩ := h
  replace h := uc_ok h; obtain ⟨a34, l35, rfl, h⟩ := h
  replace h := getSl_ok h; obtain ⟨x36, rfl, h⟩ := h
  replace h := uc_ok h; obtain ⟨a37, l38, rfl, h⟩ := h
  replace h := getI_ok h; obtain ⟨x39, rfl, h⟩ := h
  replace h := uc_ok h; obtain ⟨a40, l41, rfl, h⟩ := h
  replace h := getI_ok h; obtain ⟨x42, rfl, h⟩ := h
  replace h := uc_ok h; obtain ⟨a43, l44, rfl, h⟩ := h
  replace h := getSl_ok h; obtain ⟨x45, rfl, h⟩ := h
  replace h := uc_ok h; obtain ⟨a46, l47, rfl, h⟩ := h
  replace h := getI_ok h; obtain ⟨x48, rfl, h⟩ := h
  replace h := uc_ok h; obtain ⟨a49, l50, rfl, h⟩ := h
  replace h := getB_ok h; obtain ⟨x51, rfl, h⟩ := h
  replace h := uc_ok h; obtain ⟨a52, l53, rfl, h⟩ := h
  replace h := getI_ok h; obtain ⟨x54, rfl, h⟩ := h
  replace h := uc_ok h; obtain ⟨a55, l56, rfl, h⟩ := h
  replace h := getSl_ok h; obtain ⟨x57, rfl, h⟩ := h
  replace h := uc_ok h; obtain ⟨a58, l59, rfl, h⟩ := h
  replace h := getB_ok h; obtain ⟨x60, rfl, h⟩ := h
  replace h := uc_ok h; obtain ⟨a61, l62, rfl, h⟩ := h
  replace h := getI_ok h; obtain ⟨x63, rfl, h⟩ := h
  replace h := uc_ok h; obtain ⟨a64, l65, rfl, h⟩ := h
  replace h := getI_ok h; obtain ⟨x66, rfl, h⟩ := h
  replace h := uc_ok h; obtain ⟨a67, l68, rfl, h⟩ := h
  replace h := getSl_ok h; obtain ⟨x69, rfl, h⟩ := h
  replace h := uc_ok h; obtain ⟨a70, l71, rfl, h⟩ := h
  replace h := getSl_ok h; obtain ⟨x72, rfl, h⟩ := h
  replace h := uc_ok h; obtain ⟨a73, l74, rfl, h⟩ := h
  replace h := getI_ok h; obtain ⟨x75, rfl, h⟩ := h
  replace h := uc_ok h; obtain ⟨a76, l77, rfl, h⟩ := h
  replace h := getB_ok h; obtain ⟨x78, rfl, h⟩ := h
  replace h := un_ok h; obtain ⟨rfl, h⟩ := h
  replace h := uc_ok h; obtain ⟨a79, l80, rfl, h⟩ := h
  replace h := getI_ok h; obtain ⟨x81, rfl, h⟩ := h
  replace h := un_ok h; obtain ⟨rfl, h⟩ := h
  cases hr : laws_szSess n (TSess.mk (TView.mk (TQuery.mk x6 x9 x12 x15 x18 x21 x24 x27 x30) x33 x36) x39 (TView.mk (TQuery.mk x42 x45 x48 x51 x54 x57 x60 x63 x66) x69 x72) x75 x78) x81 with
  | none => rw [hr] at h; cases h
  | some r =>
    rw [hr] at h
    exact ⟨_, _, h, fun ω' κ' => by unfold K; rw [hf]; exact congrArg (fun z : Option R => z.bind _) hr⟩
theorem Kok (n : Nat) (ho : Ok n) {ω : Type} {avs : List AV} {κ : AV → List AV → Option ω} {q : ω} (h : laws_szSess.K n avs κ = some q) : FnOk E 8 ∧ ∃ ps rv outs, (cx n 0).sig 8 = some ps ∧ κ rv outs = some q ∧ CallOk E 8 avs rv outs ps := by
  unfold K at h
  generalize hf : fixes [.ag [.k, .sl .v .lCond, .k, .k, .k, .sl .v .int, .k, .k, .k, .sl .v .lRow, .sl .v .lKid, .k, .k, .sl .v .lCond, .k, .k, .k, .sl .v .int, .k, .k, .k, .sl .v .lRow, .sl .v .lKid, .k, .k], .k] avs = v at h
  replace h := uc_ok h; obtain ⟨a1, l2, rfl, h⟩ := h
  replace h := getAg_ok h; obtain ⟨c3, rfl, h⟩ := h
  replace h := uc_ok h; obtain ⟨a4, l5, rfl, h⟩ := h
  replace h := getI_ok h; obtain ⟨x6, rfl, h⟩ := h
  replace h := uc_ok h; obtain ⟨a7, l8, rfl, h⟩ := h
  replace h := getSl_ok h; obtain ⟨x9, rfl, h⟩ := h
  replace h := uc_ok h; obtain ⟨a10, l11, rfl, h⟩ := h
  replace h := getI_ok h; obtain ⟨x12, rfl, h⟩ := h
  replace h := uc_ok h; obtain ⟨a13, l14, rfl, h⟩ := h
  replace h := getB_ok h; obtain ⟨x15, rfl, h⟩ := h
  replace h := uc_ok h; obtain ⟨a16, l17, rfl, h⟩ := h
  replace h := getI_ok h; obtain ⟨x18, rfl, h⟩ := h
  replace h := uc_ok h; obtain ⟨a19, l20, rfl, h⟩ := h
  replace h := getSl_ok h; obtain ⟨x21, rfl, h⟩ := h
  replace h := uc_ok h; obtain ⟨a22, l23, rfl, h⟩ := h
  replace h := getB_ok h; obtain ⟨x24, rfl, h⟩ := h
  replace h := uc_ok h; obtain ⟨a25, l26, rfl, h⟩ := h
  replace h := getI_ok h; obtain ⟨x27, rfl, h⟩ := h
  replace h := uc_ok h; obtain ⟨a28, l29, rfl, h⟩ := h
  replace h := getI_ok h; obtain ⟨x30, rfl, h⟩ := h
  replace h := uc_ok h; obtain ⟨a31, l32, rfl, h⟩ := h
  replace h := getSl_ok h; obtain ⟨x33, rfl, h⟩ := h
  replace h := uc_ok h; obtain ⟨a34, l35, rfl, h⟩ := h
  replace h := getSl_ok h; obtain ⟨x36, rfl, h⟩ := h
  replace h := uc_ok h; obtain ⟨a37, l38, rfl, h⟩ := h
  replace h := getI_ok h; obtain ⟨x39, rfl, h⟩ := h
  replace h := uc_ok h; obtain ⟨a40, l41, rfl, h⟩ := h
  replace h := getI_ok h; obtain ⟨x42, rfl, h⟩ := h
  replace h := uc_ok h; obtain ⟨a43, l44, rfl, h⟩ := h
  replace h := getSl_ok h; obtain ⟨x45, rfl, h⟩ := h
  replace h := uc_ok h; obtain ⟨a46, l47, rfl, h⟩ := h
  replace h := getI_ok h; obtain ⟨x48, rfl, h⟩ := h
  replace h := uc_ok h; obtain ⟨a49, l50, rfl, h⟩ := h
  replace h := getB_ok h; obtain ⟨x51, rfl, h⟩ := h
  replace h := uc_ok h; obtain ⟨a52, l53, rfl, h⟩ := h
  replace h := getI_ok h; obtain ⟨x54, rfl, h⟩ := h
  replace h := uc_ok h; obtain ⟨a55, l56, rfl, h⟩ := h
  replace h := getSl_ok h; obtain ⟨x57, rfl, h⟩ := h
  replace h := uc_ok h; obtain ⟨a58, l59, rfl, h⟩ := h
  replace h := getB_ok h; obtain ⟨x60, rfl, h⟩ := h
  replace h := uc_ok h; obtain ⟨a61, l62, rfl, h⟩ := h
  replace h := getI_ok h; obtain ⟨x63, rfl, h⟩ := h
  replace h := uc_ok h; obtain ⟨a64, l65, rfl, h⟩ := h
  replace h := getI_ok h; obtain ⟨x66, rfl, h⟩ := h
  replace h := uc_ok h; obtain ⟨a67, l68, rfl, h⟩ := h
  replace h := getSl_ok h; obtain ⟨x69, rfl, h⟩ := h
  replace h := uc_ok h; obtain ⟨a70, l71, rfl, h⟩ := h
  replace h := getSl_ok h; obtain ⟨x72, rfl, h⟩ := h
  replace h := uc_ok h; obtain ⟨a73, l74, rfl, h⟩ := h
  replace h := getI_ok h; obtain ⟨x75, rfl, h⟩ := h
  replace h := uc_ok h; obtain ⟨a76, l77, rfl, h⟩ := h
  replace h := getB_ok h; obtain ⟨x78, rfl, h⟩ := h
  replace h := un_ok h; obtain ⟨rfl, h⟩ := h
  replace h := uc_ok h; obtain ⟨a79, l80, rfl, h⟩ := h
  replace h := getI_ok h; obtain ⟨x81, rfl, h⟩ := h
  replace h := un_ok h; obtain ⟨rfl, h⟩ := h
  cases hr : laws_szSess n (TSess.mk (TView.mk (TQuery.mk x6 x9 x12 x15 x18 x21 x24 x27 x30) x33 x36) x39 (TView.mk (TQuery.mk x42 x45 x48 x51 x54 x57 x60 x63 x66) x69 x72) x75 x78) x81 with
  | none => rw [hr] at h; cases h
  | some r =>
    rw [hr] at h
    exact ⟨⟨_, body, Try.func8, by decide +kernel, by kernel_rfl⟩, [.ag [.v, .v, .v, .v, .v, .v, .v, .v, .v, .v, .v, .v, .v, .v, .v, .v, .v, .v, .v, .v, .v, .v, .v, .v, .v], .v], _, _, by kernel_rfl, h, CallOk.fix (ss := [.ag [.k, .sl .v .lCond, .k, .k, .k, .sl .v .int, .k, .k, .k, .sl .v .lRow, .sl .v .lKid, .k, .k, .sl .v .lCond, .k, .k, .k, .sl .v .int, .k, .k, .k, .sl .v .lRow, .sl .v .lKid, .k, .k], .k]) (by rw [hf]; exact ho (TSess.mk (TView.mk (TQuery.mk x6 x9 x12 x15 x18 x21 x24 x27 x30) x33 x36) x39 (TView.mk (TQuery.mk x42 x45 x48 x51 x54 x57 x60 x63 x66) x69 x72) x75 x78) x81 r hr)⟩
end laws_szSess
namespace laws_toIntS
abbrev R : Type := (List Int)
noncomputable def body : Code := match Try.f45.body with | some c => c | none => .skip
def ann : Ann := ⟨fun k => look2 [(4, [(0, .view .int), (3, .own .d .int), (4, .k)])] k, fun k => match look2 [] k with | some l => l | none => [], fun k => match look2 [(0, [(3, .own .d .int)])] k with | some l => l | none => []⟩
def fin (o : List AV) : Option R := uc o fun a1 l2 => getSl .d .int a1 fun x3 => un l2 (some (x3 : R))
def inj (r : R) : List AV := [.sl .d .int r]
theorem fin_ok (o : List AV) (r : R) (h : fin o = some r) : o = inj r := by
  unfold fin at h
  replace h := uc_ok h; obtain ⟨a1, l2, rfl, h⟩ := h
  replace h := getSl_ok h; obtain ⟨x3, rfl, h⟩ := h
  replace h := un_ok h; obtain ⟨rfl, h⟩ := h
  cases h
  rfl
def kr (n : Nat) : St → Option R := retK (cx n 22) [.own .d .int] [.o] [.tmp 2] [] fin
def lf (n : Nat) : LF R := fun key κd κe v b => cond (Nat.beq key 4)
    (uc v fun a1 l2 => getSl .v .int a1 fun x3 => uc l2 fun a4 l5 => isRt 1 a4 (uc l5 fun a6 l7 => getI .i64 a6 fun x8 => un l7 (uc b fun a9 l10 => isExt a9 (uc l10 fun a11 l12 => getArr .d .int 2 a11 fun x13 => un l12 (laws_toIntS.loop4 n (fun (y0 : List Int) => κe 0 [.rt 1] [some .ext, some (.arr .d .int 2 y0)]) n x3 x8 x13)))))
    (none)
noncomputable def A4 : Code := match pieceAt ann body 0 4 with | some (.loop a _) => a | _ => .skip
theorem round4 (n : Nat) (B : D R) (κe : Nat → D R) (a : List Int) (i : Int) (out_1 : List Int) : run (cx n 22) 1 ann (lf n) (kr n) A4 5 (fun s => cutK 1 [(0, .view .int), (3, .own .d .int), (4, .k)] s B) (fun j s => cutK 1 (ann.out j) s (κe j)) (St.ofC [(0, .view .int), (3, .own .d .int), (4, .k)] [.sl .v .int a, .rt 1, .i .i64 i] [some .ext, some (.arr .d .int 2 out_1)]) =
    laws_toIntS.step4 n (fun (y0 : List Int) => κe 0 [.rt 1] [some .ext, some (.arr .d .int 2 y0)]) (fun (z0 : List Int) (z1 : Int) (z2 : List Int) => B [.sl .v .int z0, .rt 1, .i .i64 z1] [some .ext, some (.arr .d .int 2 z2)]) a i out_1 := by kernel_rfl
theorem rounds4 (n : Nat) (κe : Nat → D R) : ∀ (N : Nat) (a : List Int) (i : Int) (out_1 : List Int), rounds (cx n 22) 1 ann (lf n) (kr n) A4 5 [(0, .view .int), (3, .own .d .int), (4, .k)] κe N [.sl .v .int a, .rt 1, .i .i64 i] [some .ext, some (.arr .d .int 2 out_1)] = laws_toIntS.loop4 n (fun (y0 : List Int) => κe 0 [.rt 1] [some .ext, some (.arr .d .int 2 y0)]) N a i out_1
  | 0, _, _, _ => rfl
  | N + 1, a, i, out_1 => (round4 n (rounds (cx n 22) 1 ann (lf n) (kr n) A4 5 [(0, .view .int), (3, .own .d .int), (4, .k)] κe N) κe a i out_1).trans (congrArg (fun back => laws_toIntS.step4 n (fun (y0 : List Int) => κe 0 [.rt 1] [some .ext, some (.arr .d .int 2 y0)]) back a i out_1) (funext fun z0 => funext fun z1 => funext fun z2 => rounds4 n κe N z0 z1 z2))
theorem cuts (n : Nat) : Cuts (cx n 22) 1 ann (lf n) (kr n) body := by
  intro key κd κe v b r h
  unfold lf at h
  cases hk4 : Nat.beq key 4 with
  | true =>
    replace h := cond_t hk4 h
    have := beq_iff.1 hk4
    subst this
    replace h := uc_ok h; obtain ⟨a1, l2, rfl, h⟩ := h
    replace h := getSl_ok h; obtain ⟨x3, rfl, h⟩ := h
    replace h := uc_ok h; obtain ⟨a4, l5, rfl, h⟩ := h
    replace h := isRt_ok h; obtain ⟨rfl, h⟩ := h
    replace h := uc_ok h; obtain ⟨a6, l7, rfl, h⟩ := h
    replace h := getI_ok h; obtain ⟨x8, rfl, h⟩ := h
    replace h := un_ok h; obtain ⟨rfl, h⟩ := h
    replace h := uc_ok h; obtain ⟨a9, l10, rfl, h⟩ := h
    replace h := isExt_ok h; obtain ⟨rfl, h⟩ := h
    replace h := uc_ok h; obtain ⟨a11, l12, rfl, h⟩ := h
    replace h := getArr_ok h; obtain ⟨x13, rfl, h⟩ := h
    replace h := un_ok h; obtain ⟨rfl, h⟩ := h
    exact ⟨[(0, .view .int), (3, .own .d .int), (4, .k)], .loop A4 5, by kernel_rfl, by kernel_rfl, ⟨n, (rounds4 n κe n x3 x8 x13).trans h⟩⟩
  | false =>
    replace h := cond_f hk4 h
    cases h
theorem top (n : Nat) (a : List Int) : entryK 1 [.sl .v .int a] (fun v b => match outOfAll [.v] v with
      | some o => cond (AV.allRoots o []) (run (cx n 22) 1 ann (lf n) (kr n) body 0 (kr n) (fun _ _ => none) (St.ofC (live0 1) v b)) none
      | none => none) = laws_toIntS (n + 1) a := by kernel_rfl
def Ok (n : Nat) : Prop := ∀ (a : List Int) (res_ : R), laws_toIntS n a = some res_ → CallOk E 45 [.sl .v .int a] (rvOf 1 (inj res_)) ((inj res_).drop 1) [.v]
theorem ok (n : Nat) (hc : CxOk E (cx n 22)) (hK : KPar (cx n 22)) : Ok (n + 1) := fun a res_ h_ =>
  fn_sound hc hK mixedOk Try.func45 (by kernel_rfl) (by kernel_rfl) (by kernel_rfl) (by decide) fin_ok (by kernel_rfl) ((top n a).trans h_) (cuts n)
theorem Kpar (n : Nat) {ω : Type} {avs : List AV} {κ : AV → List AV → Option ω} {q : ω} (h : laws_toIntS.K n avs κ = some q) : ∃ rv outs, κ rv outs = some q ∧ ∀ (ω' : Type) (κ' : AV → List AV → Option ω'), laws_toIntS.K n avs κ' = κ' rv outs := by
  unfold K at h
  generalize hf : fixes [.sl .v .int] avs = v at h
  replace h := uc_ok h; obtain ⟨a1, l2, rfl, h⟩ := h
  replace h := getSl_ok h; obtain ⟨x3, rfl, h⟩ := h
  replace h := un_ok h; obtain ⟨rfl, h⟩ := h
  cases hr : laws_toIntS n x3 with
  | none => rw [hr] at h; cases h
  | some r =>
    rw [hr] at h
    exact ⟨_, _, h, fun ω' κ' => by unfold K; rw [hf]; exact congrArg (fun z : Option R => z.bind _) hr⟩
theorem Kok (n : Nat) (ho : Ok n) {ω : Type} {avs : List AV} {κ : AV → List AV → Option ω} {q : ω} (h : laws_toIntS.K n avs κ = some q) : FnOk E 45 ∧ ∃ ps rv outs, (cx n 0).sig 45 = some ps ∧ κ rv outs = some q ∧ CallOk E 45 avs rv outs ps := by
  unfold K at h
  generalize hf : fixes [.sl .v .int] avs = v at h
  replace h := uc_ok h; obtain ⟨a1, l2, rfl, h⟩ := h
  replace h := getSl_ok h; obtain ⟨x3, rfl, h⟩ := h
  replace h := un_ok h; obtain ⟨rfl, h⟩ := h
  cases hr : laws_toIntS n x3 with
  | none => rw [hr] at h; cases h
  | some r =>
    rw [hr] at h
    exact ⟨⟨_, body, Try.func45, by decide +kernel, by kernel_rfl⟩, [.v], _, _, by kernel_rfl, h, CallOk.fix (ss := [.sl .v .int]) (by rw [hf]; exact ho x3 r hr)⟩
end laws_toIntS
namespace laws_toSchema
abbrev R : Type := TSchema
noncomputable def body : Code := match Try.f10.body with | some c => c | none => .skip
def ann : Ann := ⟨fun k => look2 [] k, fun k => match look2 [] k with | some l => l | none => [], fun k => match look2 [] k with | some l => l | none => []⟩
def fin (o : List AV) : Option R := uc o fun a1 l2 => getAg a1 fun c3 => uc c3 fun a4 l5 => getSl .d .int a4 fun x6 => un l5 (un l2 (some ((TSchema.mk x6) : R)))
def inj (r : R) : List AV := [.ag [.sl .d .int r.cols]]
theorem fin_ok (o : List AV) (r : R) (h : fin o = some r) : o = inj r := by
  unfold fin at h
  replace h := uc_ok h; obtain ⟨a1, l2, rfl, h⟩ := h
  replace h := getAg_ok h; obtain ⟨c3, rfl, h⟩ := h
  replace h := uc_ok h; obtain ⟨a4, l5, rfl, h⟩ := h
  replace h := getSl_ok h; obtain ⟨x6, rfl, h⟩ := h
  replace h := un_ok h; obtain ⟨rfl, h⟩ := h
  replace h := un_ok h; obtain ⟨rfl, h⟩ := h
  cases h
  rfl
def kr (n : Nat) : St → Option R := retK (cx n 9) [.ag [.own .d .int]] [.ag [.o]] [.cell 2 37] [] fin
def lf (n : Nat) : LF R := fun key κd κe v b => none
theorem cuts (n : Nat) : Cuts (cx n 9) 1 ann (lf n) (kr n) body := by
  intro key κd κe v b r h
  unfold lf at h
  cases h
theorem top (n : Nat) (a : TSchema) : entryK 1 [.ag [.sl .v .int a.cols]] (fun v b => match outOfAll [.ag [.v]] v with
      | some o => cond (AV.allRoots o []) (run (cx n 9) 1 ann (lf n) (kr n) body 0 (kr n) (fun _ _ => none) (St.ofC (live0 1) v b)) none
      | none => none) = laws_toSchema (n + 1) a := by kernel_rfl
def Ok (n : Nat) : Prop := ∀ (a : TSchema) (res_ : R), laws_toSchema n a = some res_ → CallOk E 10 [.ag [.sl .v .int a.cols]] (rvOf 1 (inj res_)) ((inj res_).drop 1) [.ag [.v]]
theorem ok (n : Nat) (hc : CxOk E (cx n 9)) (hK : KPar (cx n 9)) : Ok (n + 1) := fun a res_ h_ =>
  fn_sound hc hK mixedOk Try.func10 (by kernel_rfl) (by kernel_rfl) (by kernel_rfl) (by decide) fin_ok (by kernel_rfl) ((top n a).trans h_) (cuts n)
theorem Kpar (n : Nat) {ω : Type} {avs : List AV} {κ : AV → List AV → Option ω} {q : ω} (h : laws_toSchema.K n avs κ = some q) : ∃ rv outs, κ rv outs = some q ∧ ∀ (ω' : Type) (κ' : AV → List AV → Option ω'), laws_toSchema.K n avs κ' = κ' rv outs := by
  unfold K at h
  generalize hf : fixes [.ag [.sl .v .int]] avs = v at h
  replace h := uc_ok h; obtain ⟨a1, l2, rfl, h⟩ := h
  replace h := getAg_ok h; obtain ⟨c3, rfl, h⟩ := h
  replace h := uc_ok h; obtain ⟨a4, l5, rfl, h⟩ := h
  replace h := getSl_ok h; obtain ⟨x6, rfl, h⟩ := h
  replace h := un_ok h; obtain ⟨rfl, h⟩ := h
  replace h := un_ok h; obtain ⟨rfl, h⟩ := h
  cases hr : laws_toSchema n (TSchema.mk x6) with
  | none => rw [hr] at h; cases h
  | some r =>
    rw [hr] at h
    exact ⟨_, _, h, fun ω' κ' => by unfold K; rw [hf]; exact congrArg (fun z : Option R => z.bind _) hr⟩
theorem Kok (n : Nat) (ho : Ok n) {ω : Type} {avs : List AV} {κ : AV → List AV → Option ω} {q : ω} (h : laws_toSchema.K n avs κ = some q) : FnOk E 10 ∧ ∃ ps rv outs, (cx n 0).sig 10 = some ps ∧ κ rv outs = some q ∧ CallOk E 10 avs rv outs ps := by
  unfold K at h
  generalize hf : fixes [.ag [.sl .v .int]] avs = v at h
  replace h := uc_ok h; obtain ⟨a1, l2, rfl, h⟩ := h
  replace h := getAg_ok h; obtain ⟨c3, rfl, h⟩ := h
  replace h := uc_ok h; obtain ⟨a4, l5, rfl, h⟩ := h
  replace h := getSl_ok h; obtain ⟨x6, rfl, h⟩ := h
  replace h := un_ok h; obtain ⟨rfl, h⟩ := h
  replace h := un_ok h; obtain ⟨rfl, h⟩ := h
  cases hr : laws_toSchema n (TSchema.mk x6) with
  | none => rw [hr] at h; cases h
  | some r =>
    rw [hr] at h
    exact ⟨⟨_, body, Try.func10, by decide +kernel, by kernel_rfl⟩, [.ag [.v]], _, _, by kernel_rfl, h, CallOk.fix (ss := [.ag [.sl .v .int]]) (by rw [hf]; exact ho (TSchema.mk x6) r hr)⟩
end laws_toSchema
end Go.Pi
end
section
set_option linter.unusedVariables false
set_option maxRecDepth 100000
namespace Go.Pi
open Go.Proofs
namespace laws_toCond
abbrev R : Type := TCond
noncomputable def body : Code := match Try.f138.body with | some c => c | none => .skip
def ann : Ann := ⟨fun k => look2 [] k, fun k => match look2 [] k with | some l => l | none => [], fun k => match look2 [] k with | some l => l | none => []⟩
def fin (o : List AV) : Option R := uc o fun a1 l2 => getAg a1 fun c3 => uc c3 fun a4 l5 => getI .i64 a4 fun x6 => uc l5 fun a7 l8 => getI .i64 a7 fun x9 => uc l8 fun a10 l11 => getI .i64 a10 fun x12 => un l11 (un l2 (some ((TCond.mk x6 x9 x12) : R)))
def inj (r : R) : List AV := [.ag [.i .i64 r.col, .i .i64 r.op, .i .i64 r.v]]
theorem fin_ok (o : List AV) (r : R) (h : fin o = some r) : o = inj r := by
  unfold fin at h
  replace h := uc_ok h; obtain ⟨a1, l2, rfl, h⟩ := h
  replace h := getAg_ok h; obtain ⟨c3, rfl, h⟩ := h
  replace h := uc_ok h; obtain ⟨a4, l5, rfl, h⟩ := h
  replace h := getI_ok h; obtain ⟨x6, rfl, h⟩ := h
  replace h := uc_ok h; obtain ⟨a7, l8, rfl, h⟩ := h
  replace h := getI_ok h; obtain ⟨x9, rfl, h⟩ := h
  replace h := uc_ok h; obtain ⟨a10, l11, rfl, h⟩ := h
  replace h := getI_ok h; obtain ⟨x12, rfl, h⟩ := h
  replace h := un_ok h; obtain ⟨rfl, h⟩ := h
  replace h := un_ok h; obtain ⟨rfl, h⟩ := h
  cases h
  rfl
def kr (n : Nat) : St → Option R := retK (cx n 14) [.ag [.k, .k, .k]] [.ag [.v, .v, .v]] [.cell 2 144] [] fin
def lf (n : Nat) : LF R := fun key κd κe v b => none
theorem cuts (n : Nat) : Cuts (cx n 14) 1 ann (lf n) (kr n) body := by
  intro key κd κe v b r h
  unfold lf at h
  cases h
theorem top (n : Nat) (a : TCond) : entryK 1 [.ag [.i .i64 a.col, .i .i64 a.op, .i .i64 a.v]] (fun v b => match outOfAll [.ag [.v, .v, .v]] v with
      | some o => cond (AV.allRoots o []) (run (cx n 14) 1 ann (lf n) (kr n) body 0 (kr n) (fun _ _ => none) (St.ofC (live0 1) v b)) none
      | none => none) = laws_toCond (n + 1) a := by kernel_rfl
def Ok (n : Nat) : Prop := ∀ (a : TCond) (res_ : R), laws_toCond n a = some res_ → CallOk E 138 [.ag [.i .i64 a.col, .i .i64 a.op, .i .i64 a.v]] (rvOf 1 (inj res_)) ((inj res_).drop 1) [.ag [.v, .v, .v]]
theorem ok (n : Nat) (hc : CxOk E (cx n 14)) (hK : KPar (cx n 14)) : Ok (n + 1) := fun a res_ h_ =>
  fn_sound hc hK mixedOk Try.func138 (by kernel_rfl) (by kernel_rfl) (by kernel_rfl) (by decide) fin_ok (by kernel_rfl) ((top n a).trans h_) (cuts n)
theorem Kpar (n : Nat) {ω : Type} {avs : List AV} {κ : AV → List AV → Option ω} {q : ω} (h : laws_toCond.K n avs κ = some q) : ∃ rv outs, κ rv outs = some q ∧ ∀ (ω' : Type) (κ' : AV → List AV → Option ω'), laws_toCond.K n avs κ' = κ' rv outs := by
  unfold K at h
  generalize hf : fixes [.ag [.k, .k, .k]] avs = v at h
  replace h := uc_ok h; obtain ⟨a1, l2, rfl, h⟩ := h
  replace h := getAg_ok h; obtain ⟨c3, rfl, h⟩ := h
  replace h := uc_ok h; obtain ⟨a4, l5, rfl, h⟩ := h
  replace h := getI_ok h; obtain ⟨x6, rfl, h⟩ := h
  replace h := uc_ok h; obtain ⟨a7, l8, rfl, h⟩ := h
  replace h := getI_ok h; obtain ⟨x9, rfl, h⟩ := h
  replace h := uc_ok h; obtain ⟨a10, l11, rfl, h⟩ := h
  replace h := getI_ok h; obtain ⟨x12, rfl, h⟩ := h
  replace h := un_ok h; obtain ⟨rfl, h⟩ := h
  replace h := un_ok h; obtain ⟨rfl, h⟩ := h
  cases hr : laws_toCond n (TCond.mk x6 x9 x12) with
  | none => rw [hr] at h; cases h
  | some r =>
    rw [hr] at h
    exact ⟨_, _, h, fun ω' κ' => by unfold K; rw [hf]; exact congrArg (fun z : Option R => z.bind _) hr⟩
theorem Kok (n : Nat) (ho : Ok n) {ω : Type} {avs : List AV} {κ : AV → List AV → Option ω} {q : ω} (h : laws_toCond.K n avs κ = some q) : FnOk E 138 ∧ ∃ ps rv outs, (cx n 0).sig 138 = some ps ∧ κ rv outs = some q ∧ CallOk E 138 avs rv outs ps := by
  unfold K at h
  generalize hf : fixes [.ag [.k, .k, .k]] avs = v at h
  replace h := uc_ok h; obtain ⟨a1, l2, rfl, h⟩ := h
  replace h := getAg_ok h; obtain ⟨c3, rfl, h⟩ := h
  replace h := uc_ok h; obtain ⟨a4, l5, rfl, h⟩ := h
  replace h := getI_ok h; obtain ⟨x6, rfl, h⟩ := h
  replace h := uc_ok h; obtain ⟨a7, l8, rfl, h⟩ := h
  replace h := getI_ok h; obtain ⟨x9, rfl, h⟩ := h
  replace h := uc_ok h; obtain ⟨a10, l11, rfl, h⟩ := h
  replace h := getI_ok h; obtain ⟨x12, rfl, h⟩ := h
  replace h := un_ok h; obtain ⟨rfl, h⟩ := h
  replace h := un_ok h; obtain ⟨rfl, h⟩ := h
  cases hr : laws_toCond n (TCond.mk x6 x9 x12) with
  | none => rw [hr] at h; cases h
  | some r =>
    rw [hr] at h
    exact ⟨⟨_, body, Try.func138, by decide +kernel, by kernel_rfl⟩, [.ag [.v, .v, .v]], _, _, by kernel_rfl, h, CallOk.fix (ss := [.ag [.k, .k, .k]]) (by rw [hf]; exact ho (TCond.mk x6 x9 x12) r hr)⟩
end laws_toCond
namespace laws_toCondS
abbrev R : Type := (List TCond)
noncomputable def body : Code := match Try.f78.body with | some c => c | none => .skip
def ann : Ann := ⟨fun k => look2 [(4, [(0, .view .lCond), (3, .own .d .iCond), (4, .k)])] k, fun k => match look2 [] k with | some l => l | none => [], fun k => match look2 [(0, [(3, .own .d .iCond)])] k with | some l => l | none => []⟩
def fin (o : List AV) : Option R := uc o fun a1 l2 => getSl .d .iCond a1 fun x3 => un l2 (some (x3 : R))
def inj (r : R) : List AV := [.sl .d .iCond r]
theorem fin_ok (o : List AV) (r : R) (h : fin o = some r) : o = inj r := by
  unfold fin at h
  replace h := uc_ok h; obtain ⟨a1, l2, rfl, h⟩ := h
  replace h := getSl_ok h; obtain ⟨x3, rfl, h⟩ := h
  replace h := un_ok h; obtain ⟨rfl, h⟩ := h
  cases h
  rfl
def kr (n : Nat) : St → Option R := retK (cx n 23) [.own .d .iCond] [.o] [.tmp 2] [] fin
def lf (n : Nat) : LF R := fun key κd κe v b => cond (Nat.beq key 4)
    (uc v fun a1 l2 => getSl .v .lCond a1 fun x3 => uc l2 fun a4 l5 => isRt 1 a4 (uc l5 fun a6 l7 => getI .i64 a6 fun x8 => un l7 (uc b fun a9 l10 => isExt a9 (uc l10 fun a11 l12 => getArr .d .iCond 2 a11 fun x13 => un l12 (laws_toCondS.loop4 n (fun (y0 : List TCond) => κe 0 [.rt 1] [some .ext, some (.arr .d .iCond 2 y0)]) n x3 x8 x13)))))
    (none)
noncomputable def A4 : Code := match pieceAt ann body 0 4 with | some (.loop a _) => a | _ => .skip
theorem round4 (n : Nat) (B : D R) (κe : Nat → D R) (a : List TCond) (i : Int) (out_1 : List TCond) : run (cx n 23) 1 ann (lf n) (kr n) A4 5 (fun s => cutK 1 [(0, .view .lCond), (3, .own .d .iCond), (4, .k)] s B) (fun j s => cutK 1 (ann.out j) s (κe j)) (St.ofC [(0, .view .lCond), (3, .own .d .iCond), (4, .k)] [.sl .v .lCond a, .rt 1, .i .i64 i] [some .ext, some (.arr .d .iCond 2 out_1)]) =
    laws_toCondS.step4 n (fun (y0 : List TCond) => κe 0 [.rt 1] [some .ext, some (.arr .d .iCond 2 y0)]) (fun (z0 : List TCond) (z1 : Int) (z2 : List TCond) => B [.sl .v .lCond z0, .rt 1, .i .i64 z1] [some .ext, some (.arr .d .iCond 2 z2)]) a i out_1 := by kernel_rfl
theorem rounds4 (n : Nat) (κe : Nat → D R) : ∀ (N : Nat) (a : List TCond) (i : Int) (out_1 : List TCond), rounds (cx n 23) 1 ann (lf n) (kr n) A4 5 [(0, .view .lCond), (3, .own .d .iCond), (4, .k)] κe N [.sl .v .lCond a, .rt 1, .i .i64 i] [some .ext, some (.arr .d .iCond 2 out_1)] = laws_toCondS.loop4 n (fun (y0 : List TCond) => κe 0 [.rt 1] [some .ext, some (.arr .d .iCond 2 y0)]) N a i out_1
  | 0, _, _, _ => rfl
  | N + 1, a, i, out_1 => (round4 n (rounds (cx n 23) 1 ann (lf n) (kr n) A4 5 [(0, .view .lCond), (3, .own .d .iCond), (4, .k)] κe N) κe a i out_1).trans (congrArg (fun back => laws_toCondS.step4 n (fun (y0 : List TCond) => κe 0 [.rt 1] [some .ext, some (.arr .d .iCond 2 y0)]) back a i out_1) (funext fun z0 => funext fun z1 => funext fun z2 => rounds4 n κe N z0 z1 z2))
theorem cuts (n : Nat) : Cuts (cx n 23) 1 ann (lf n) (kr n) body := by
  intro key κd κe v b r h
  unfold lf at h
  cases hk4 : Nat.beq key 4 with
  | true =>
    replace h := cond_t hk4 h
    have := beq_iff.1 hk4
    subst this
    replace h := uc_ok h; obtain ⟨a1, l2, rfl, h⟩ := h
    replace h := getSl_ok h; obtain ⟨x3, rfl, h⟩ := h
    replace h := uc_ok h; obtain ⟨a4, l5, rfl, h⟩ := h
    replace h := isRt_ok h; obtain ⟨rfl, h⟩ := h
    replace h := uc_ok h; obtain ⟨a6, l7, rfl, h⟩ := h
    replace h := getI_ok h; obtain ⟨x8, rfl, h⟩ := h
    replace h := un_ok h; obtain ⟨rfl, h⟩ := h
    replace h := uc_ok h; obtain ⟨a9, l10, rfl, h⟩ := h
    replace h := isExt_ok h; obtain ⟨rfl, h⟩ := h
    replace h := uc_ok h; obtain ⟨a11, l12, rfl, h⟩ := h
    replace h := getArr_ok h; obtain ⟨x13, rfl, h⟩ := h
    replace h := un_ok h; obtain ⟨rfl, h⟩ := h
    exact ⟨[(0, .view .lCond), (3, .own .d .iCond), (4, .k)], .loop A4 5, by kernel_rfl, by kernel_rfl, ⟨n, (rounds4 n κe n x3 x8 x13).trans h⟩⟩
  | false =>
    replace h := cond_f hk4 h
    cases h
theorem top (n : Nat) (a : List TCond) : entryK 1 [.sl .v .lCond a] (fun v b => match outOfAll [.v] v with
      | some o => cond (AV.allRoots o []) (run (cx n 23) 1 ann (lf n) (kr n) body 0 (kr n) (fun _ _ => none) (St.ofC (live0 1) v b)) none
      | none => none) = laws_toCondS (n + 1) a := by kernel_rfl
def Ok (n : Nat) : Prop := ∀ (a : List TCond) (res_ : R), laws_toCondS n a = some res_ → CallOk E 78 [.sl .v .lCond a] (rvOf 1 (inj res_)) ((inj res_).drop 1) [.v]
theorem ok (n : Nat) (hc : CxOk E (cx n 23)) (hK : KPar (cx n 23)) : Ok (n + 1) := fun a res_ h_ =>
  fn_sound hc hK mixedOk Try.func78 (by kernel_rfl) (by kernel_rfl) (by kernel_rfl) (by decide) fin_ok (by kernel_rfl) ((top n a).trans h_) (cuts n)
theorem Kpar (n : Nat) {ω : Type} {avs : List AV} {κ : AV → List AV → Option ω} {q : ω} (h : laws_toCondS.K n avs κ = some q) : ∃ rv outs, κ rv outs = some q ∧ ∀ (ω' : Type) (κ' : AV → List AV → Option ω'), laws_toCondS.K n avs κ' = κ' rv outs := by
  unfold K at h
  generalize hf : fixes [.sl .v .lCond] avs = v at h
  replace h := uc_ok h; obtain ⟨a1, l2, rfl, h⟩ := h
  replace h := getSl_ok h; obtain ⟨x3, rfl, h⟩ := h
  replace h := un_ok h; obtain ⟨rfl, h⟩ := h
  cases hr : laws_toCondS n x3 with
  | none => rw [hr] at h; cases h
  | some r =>
    rw [hr] at h
    exact ⟨_, _, h, fun ω' κ' => by unfold K; rw [hf]; exact congrArg (fun z : Option R => z.bind _) hr⟩
theorem Kok (n : Nat) (ho : Ok n) {ω : Type} {avs : List AV} {κ : AV → List AV → Option ω} {q : ω} (h : laws_toCondS.K n avs κ = some q) : FnOk E 78 ∧ ∃ ps rv outs, (cx n 0).sig 78 = some ps ∧ κ rv outs = some q ∧ CallOk E 78 avs rv outs ps := by
  unfold K at h
  generalize hf : fixes [.sl .v .lCond] avs = v at h
  replace h := uc_ok h; obtain ⟨a1, l2, rfl, h⟩ := h
  replace h := getSl_ok h; obtain ⟨x3, rfl, h⟩ := h
  replace h := un_ok h; obtain ⟨rfl, h⟩ := h
  cases hr : laws_toCondS n x3 with
  | none => rw [hr] at h; cases h
  | some r =>
    rw [hr] at h
    exact ⟨⟨_, body, Try.func78, by decide +kernel, by kernel_rfl⟩, [.v], _, _, by kernel_rfl, h, CallOk.fix (ss := [.sl .v .lCond]) (by rw [hf]; exact ho x3 r hr)⟩
end laws_toCondS
namespace laws_toQuery
abbrev R : Type := TQuery
noncomputable def body : Code := match Try.f33.body with | some c => c | none => .skip
def ann : Ann := ⟨fun k => look2 [] k, fun k => match look2 [] k with | some l => l | none => [], fun k => match look2 [] k with | some l => l | none => []⟩
def fin (o : List AV) : Option R := uc o fun a1 l2 => getAg a1 fun c3 => uc c3 fun a4 l5 => getI .i64 a4 fun x6 => uc l5 fun a7 l8 => getSl .d .iCond a7 fun x9 => uc l8 fun a10 l11 => getI .i64 a10 fun x12 => uc l11 fun a13 l14 => getB a13 fun x15 => uc l14 fun a16 l17 => getI .i64 a16 fun x18 => uc l17 fun a19 l20 => getSl .d .int a19 fun x21 => uc l20 fun a22 l23 => getB a22 fun x24 => uc l23 fun a25 l26 => getI .i64 a25 fun x27 => uc l26 fun a28 l29 => getI .i64 a28 fun x30 => un l29 (un l2 (some ((TQuery.mk x6 x9 x12 x15 x18 x21 x24 x27 x30) : R)))
def inj (r : R) : List AV := [.ag [.i .i64 r.table, .sl .d .iCond r.where_, .i .i64 r.order, .b r.down, .i .i64 r.first, .sl .d .int r.show_, .b r.kids, .i .i64 r.kidTable, .i .i64 r.kidCol]]
theorem fin_ok (o : List AV) (r : R) (h : fin o = some r) : o = inj r := by
  unfold fin at h
  replace h := uc_ok h; obtain ⟨a1, l2, rfl, h⟩ := h
  replace h := getAg_ok h; obtain ⟨c3, rfl, h⟩ := h
  replace h := uc_ok h; obtain ⟨a4, l5, rfl, h⟩ := h
  replace h := getI_ok h; obtain ⟨x6, rfl, h⟩ := h
  replace h := uc_ok h; obtain ⟨a7, l8, rfl, h⟩ := h
  replace h := getSl_ok h; obtain ⟨x9, rfl, h⟩ := h
  replace h := uc_ok h; obtain ⟨a10, l11, rfl, h⟩ := h
  replace h := getI_ok h; obtain ⟨x12, rfl, h⟩ := h
  replace h := uc_ok h; obtain ⟨a13, l14, rfl, h⟩ := h
  replace h := getB_ok h; obtain ⟨x15, rfl, h⟩ := h
  replace h := uc_ok h; obtain ⟨a16, l17, rfl, h⟩ := h
  replace h := getI_ok h; obtain ⟨x18, rfl, h⟩ := h
  replace h := uc_ok h; obtain ⟨a19, l20, rfl, h⟩ := h
  replace h := getSl_ok h; obtain ⟨x21, rfl, h⟩ := h
  replace h := uc_ok h; obtain ⟨a22, l23, rfl, h⟩ := h
  replace h := getB_ok h; obtain ⟨x24, rfl, h⟩ := h
  replace h := uc_ok h; obtain ⟨a25, l26, rfl, h⟩ := h
  replace h := getI_ok h; obtain ⟨x27, rfl, h⟩ := h
  replace h := uc_ok h; obtain ⟨a28, l29, rfl, h⟩ := h
  replace h := getI_ok h; obtain ⟨x30, rfl, h⟩ := h
  replace h := un_ok h; obtain ⟨rfl, h⟩ := h
  replace h := un_ok h; obtain ⟨rfl, h⟩ := h
  cases h
  rfl
def kr (n : Nat) : St → Option R := retK (cx n 34) [.ag [.k, .own .d .iCond, .k, .k, .k, .own .d .int, .k, .k, .k]] [.ag [.v, .o, .v, .v, .v, .o, .v, .v, .v]] [.cell 2 41] [] fin
def lf (n : Nat) : LF R := fun key κd κe v b => none
theorem cuts (n : Nat) : Cuts (cx n 34) 1 ann (lf n) (kr n) body := by
  intro key κd κe v b r h
  unfold lf at h
  cases h
theorem top (n : Nat) (a : TQuery) : entryK 1 [.ag [.i .i64 a.table, .sl .v .lCond a.where_, .i .i64 a.order, .b a.down, .i .i64 a.first, .sl .v .int a.show_, .b a.kids, .i .i64 a.kidTable, .i .i64 a.kidCol]] (fun v b => match outOfAll [.ag [.v, .v, .v, .v, .v, .v, .v, .v, .v]] v with
      | some o => cond (AV.allRoots o []) (run (cx n 34) 1 ann (lf n) (kr n) body 0 (kr n) (fun _ _ => none) (St.ofC (live0 1) v b)) none
      | none => none) = laws_toQuery (n + 1) a := by kernel_rfl
def Ok (n : Nat) : Prop := ∀ (a : TQuery) (res_ : R), laws_toQuery n a = some res_ → CallOk E 33 [.ag [.i .i64 a.table, .sl .v .lCond a.where_, .i .i64 a.order, .b a.down, .i .i64 a.first, .sl .v .int a.show_, .b a.kids, .i .i64 a.kidTable, .i .i64 a.kidCol]] (rvOf 1 (inj res_)) ((inj res_).drop 1) [.ag [.v, .v, .v, .v, .v, .v, .v, .v, .v]]
theorem ok (n : Nat) (hc : CxOk E (cx n 34)) (hK : KPar (cx n 34)) : Ok (n + 1) := fun a res_ h_ =>
  fn_sound hc hK mixedOk Try.func33 (by kernel_rfl) (by kernel_rfl) (by kernel_rfl) (by decide) fin_ok (by kernel_rfl) ((top n a).trans h_) (cuts n)
theorem Kpar (n : Nat) {ω : Type} {avs : List AV} {κ : AV → List AV → Option ω} {q : ω} (h : laws_toQuery.K n avs κ = some q) : ∃ rv outs, κ rv outs = some q ∧ ∀ (ω' : Type) (κ' : AV → List AV → Option ω'), laws_toQuery.K n avs κ' = κ' rv outs := by
  unfold K at h
  generalize hf : fixes [.ag [.k, .sl .v .lCond, .k, .k, .k, .sl .v .int, .k, .k, .k]] avs = v at h
  replace h := uc_ok h; obtain ⟨a1, l2, rfl, h⟩ := h
  replace h := getAg_ok h; obtain ⟨c3, rfl, h⟩ := h
  replace h := uc_ok h; obtain ⟨a4, l5, rfl, h⟩ := h
  replace h := getI_ok h; obtain ⟨x6, rfl, h⟩ := h
  replace h := uc_ok h; obtain ⟨a7, l8, rfl, h⟩ := h
  replace h := getSl_ok h; obtain ⟨x9, rfl, h⟩ := h
  replace h := uc_ok h; obtain ⟨a10, l11, rfl, h⟩ := h
  replace h := getI_ok h; obtain ⟨x12, rfl, h⟩ := h
  replace h := uc_ok h; obtain ⟨a13, l14, rfl, h⟩ := h
  replace h := getB_ok h; obtain ⟨x15, rfl, h⟩ := h
  replace h := uc_ok h; obtain ⟨a16, l17, rfl, h⟩ := h
  replace h := getI_ok h; obtain ⟨x18, rfl, h⟩ := h
  replace h := uc_ok h; obtain ⟨a19, l20, rfl, h⟩ := h
  replace h := getSl_ok h; obtain ⟨x21, rfl, h⟩ := h
  replace h := uc_ok h; obtain ⟨a22, l23, rfl, h⟩ := h
  replace h := getB_ok h; obtain ⟨x24, rfl, h⟩ := h
  replace h := uc_ok h; obtain ⟨a25, l26, rfl, h⟩ := h
  replace h := getI_ok h; obtain ⟨x27, rfl, h⟩ := h
  replace h := uc_ok h; obtain ⟨a28, l29, rfl, h⟩ := h
  replace h := getI_ok h; obtain ⟨x30, rfl, h⟩ := h
  replace h := un_ok h; obtain ⟨rfl, h⟩ := h
  replace h := un_ok h; obtain ⟨rfl, h⟩ := h
  cases hr : laws_toQuery n (TQuery.mk x6 x9 x12 x15 x18 x21 x24 x27 x30) with
  | none => rw [hr] at h; cases h
  | some r =>
    rw [hr] at h
    exact ⟨_, _, h, fun ω' κ' => by unfold K; rw [hf]; exact congrArg (fun z : Option R => z.bind _) hr⟩
theorem Kok (n : Nat) (ho : Ok n) {ω : Type} {avs : List AV} {κ : AV → List AV → Option ω} {q : ω} (h : laws_toQuery.K n avs κ = some q) : FnOk E 33 ∧ ∃ ps rv outs, (cx n 0).sig 33 = some ps ∧ κ rv outs = some q ∧ CallOk E 33 avs rv outs ps := by
  unfold K at h
  generalize hf : fixes [.ag [.k, .sl .v .lCond, .k, .k, .k, .sl .v .int, .k, .k, .k]] avs = v at h
  replace h := uc_ok h; obtain ⟨a1, l2, rfl, h⟩ := h
  replace h := getAg_ok h; obtain ⟨c3, rfl, h⟩ := h
  replace h := uc_ok h; obtain ⟨a4, l5, rfl, h⟩ := h
  replace h := getI_ok h; obtain ⟨x6, rfl, h⟩ := h
  replace h := uc_ok h; obtain ⟨a7, l8, rfl, h⟩ := h
  replace h := getSl_ok h; obtain ⟨x9, rfl, h⟩ := h
  replace h := uc_ok h; obtain ⟨a10, l11, rfl, h⟩ := h
  replace h := getI_ok h; obtain ⟨x12, rfl, h⟩ := h
  replace h := uc_ok h; obtain ⟨a13, l14, rfl, h⟩ := h
  replace h := getB_ok h; obtain ⟨x15, rfl, h⟩ := h
  replace h := uc_ok h; obtain ⟨a16, l17, rfl, h⟩ := h
  replace h := getI_ok h; obtain ⟨x18, rfl, h⟩ := h
  replace h := uc_ok h; obtain ⟨a19, l20, rfl, h⟩ := h
  replace h := getSl_ok h; obtain ⟨x21, rfl, h⟩ := h
  replace h := uc_ok h; obtain ⟨a22, l23, rfl, h⟩ := h
  replace h := getB_ok h; obtain ⟨x24, rfl, h⟩ := h
  replace h := uc_ok h; obtain ⟨a25, l26, rfl, h⟩ := h
  replace h := getI_ok h; obtain ⟨x27, rfl, h⟩ := h
  replace h := uc_ok h; obtain ⟨a28, l29, rfl, h⟩ := h
  replace h := getI_ok h; obtain ⟨x30, rfl, h⟩ := h
  replace h := un_ok h; obtain ⟨rfl, h⟩ := h
  replace h := un_ok h; obtain ⟨rfl, h⟩ := h
  cases hr : laws_toQuery n (TQuery.mk x6 x9 x12 x15 x18 x21 x24 x27 x30) with
  | none => rw [hr] at h; cases h
  | some r =>
    rw [hr] at h
    exact ⟨⟨_, body, Try.func33, by decide +kernel, by kernel_rfl⟩, [.ag [.v, .v, .v, .v, .v, .v, .v, .v, .v]], _, _, by kernel_rfl, h, CallOk.fix (ss := [.ag [.k, .sl .v .lCond, .k, .k, .k, .sl .v .int, .k, .k, .k]]) (by rw [hf]; exact ho (TQuery.mk x6 x9 x12 x15 x18 x21 x24 x27 x30) r hr)⟩
end laws_toQuery
namespace laws_toRow
abbrev R : Type := TRow
noncomputable def body : Code := match Try.f130.body with | some c => c | none => .skip
def ann : Ann := ⟨fun k => look2 [] k, fun k => match look2 [] k with | some l => l | none => [], fun k => match look2 [] k with | some l => l | none => []⟩
def fin (o : List AV) : Option R := uc o fun a1 l2 => getAg a1 fun c3 => uc c3 fun a4 l5 => getI .i64 a4 fun x6 => uc l5 fun a7 l8 => getSl .d .int a7 fun x9 => un l8 (un l2 (some ((TRow.mk x6 x9) : R)))
def inj (r : R) : List AV := [.ag [.i .i64 r.id_, .sl .d .int r.cells]]
theorem fin_ok (o : List AV) (r : R) (h : fin o = some r) : o = inj r := by
  unfold fin at h
  replace h := uc_ok h; obtain ⟨a1, l2, rfl, h⟩ := h
  replace h := getAg_ok h; obtain ⟨c3, rfl, h⟩ := h
  replace h := uc_ok h; obtain ⟨a4, l5, rfl, h⟩ := h
  replace h := getI_ok h; obtain ⟨x6, rfl, h⟩ := h
  replace h := uc_ok h; obtain ⟨a7, l8, rfl, h⟩ := h
  replace h := getSl_ok h; obtain ⟨x9, rfl, h⟩ := h
  replace h := un_ok h; obtain ⟨rfl, h⟩ := h
  replace h := un_ok h; obtain ⟨rfl, h⟩ := h
  cases h
  rfl
def kr (n : Nat) : St → Option R := retK (cx n 12) [.ag [.k, .own .d .int]] [.ag [.v, .o]] [.cell 2 113] [] fin
def lf (n : Nat) : LF R := fun key κd κe v b => none
theorem cuts (n : Nat) : Cuts (cx n 12) 1 ann (lf n) (kr n) body := by
  intro key κd κe v b r h
  unfold lf at h
  cases h
theorem top (n : Nat) (a : TRow) : entryK 1 [.ag [.i .i64 a.id_, .sl .v .int a.cells]] (fun v b => match outOfAll [.ag [.v, .v]] v with
      | some o => cond (AV.allRoots o []) (run (cx n 12) 1 ann (lf n) (kr n) body 0 (kr n) (fun _ _ => none) (St.ofC (live0 1) v b)) none
      | none => none) = laws_toRow (n + 1) a := by kernel_rfl
def Ok (n : Nat) : Prop := ∀ (a : TRow) (res_ : R), laws_toRow n a = some res_ → CallOk E 130 [.ag [.i .i64 a.id_, .sl .v .int a.cells]] (rvOf 1 (inj res_)) ((inj res_).drop 1) [.ag [.v, .v]]
theorem ok (n : Nat) (hc : CxOk E (cx n 12)) (hK : KPar (cx n 12)) : Ok (n + 1) := fun a res_ h_ =>
  fn_sound hc hK mixedOk Try.func130 (by kernel_rfl) (by kernel_rfl) (by kernel_rfl) (by decide) fin_ok (by kernel_rfl) ((top n a).trans h_) (cuts n)
theorem Kpar (n : Nat) {ω : Type} {avs : List AV} {κ : AV → List AV → Option ω} {q : ω} (h : laws_toRow.K n avs κ = some q) : ∃ rv outs, κ rv outs = some q ∧ ∀ (ω' : Type) (κ' : AV → List AV → Option ω'), laws_toRow.K n avs κ' = κ' rv outs := by
  unfold K at h
  generalize hf : fixes [.ag [.k, .sl .v .int]] avs = v at h
  replace h := uc_ok h; obtain ⟨a1, l2, rfl, h⟩ := h
  replace h := getAg_ok h; obtain ⟨c3, rfl, h⟩ := h
  replace h := uc_ok h; obtain ⟨a4, l5, rfl, h⟩ := h
  replace h := getI_ok h; obtain ⟨x6, rfl, h⟩ := h
  replace h := uc_ok h; obtain ⟨a7, l8, rfl, h⟩ := h
  replace h := getSl_ok h; obtain ⟨x9, rfl, h⟩ := h
  replace h := un_ok h; obtain ⟨rfl, h⟩ := h
  replace h := un_ok h; obtain ⟨rfl, h⟩ := h
  cases hr : laws_toRow n (TRow.mk x6 x9) with
  | none => rw [hr] at h; cases h
  | some r =>
    rw [hr] at h
    exact ⟨_, _, h, fun ω' κ' => by unfold K; rw [hf]; exact congrArg (fun z : Option R => z.bind _) hr⟩
theorem Kok (n : Nat) (ho : Ok n) {ω : Type} {avs : List AV} {κ : AV → List AV → Option ω} {q : ω} (h : laws_toRow.K n avs κ = some q) : FnOk E 130 ∧ ∃ ps rv outs, (cx n 0).sig 130 = some ps ∧ κ rv outs = some q ∧ CallOk E 130 avs rv outs ps := by
  unfold K at h
  generalize hf : fixes [.ag [.k, .sl .v .int]] avs = v at h
  replace h := uc_ok h; obtain ⟨a1, l2, rfl, h⟩ := h
  replace h := getAg_ok h; obtain ⟨c3, rfl, h⟩ := h
  replace h := uc_ok h; obtain ⟨a4, l5, rfl, h⟩ := h
  replace h := getI_ok h; obtain ⟨x6, rfl, h⟩ := h
  replace h := uc_ok h; obtain ⟨a7, l8, rfl, h⟩ := h
  replace h := getSl_ok h; obtain ⟨x9, rfl, h⟩ := h
  replace h := un_ok h; obtain ⟨rfl, h⟩ := h
  replace h := un_ok h; obtain ⟨rfl, h⟩ := h
  cases hr : laws_toRow n (TRow.mk x6 x9) with
  | none => rw [hr] at h; cases h
  | some r =>
    rw [hr] at h
    exact ⟨⟨_, body, Try.func130, by decide +kernel, by kernel_rfl⟩, [.ag [.v, .v]], _, _, by kernel_rfl, h, CallOk.fix (ss := [.ag [.k, .sl .v .int]]) (by rw [hf]; exact ho (TRow.mk x6 x9) r hr)⟩
end laws_toRow
namespace laws_toRowS
abbrev R : Type := (List TRow)
noncomputable def body : Code := match Try.f94.body with | some c => c | none => .skip
def ann : Ann := ⟨fun k => look2 [(4, [(0, .view .lRow), (3, .own .d .iRow), (4, .k)])] k, fun k => match look2 [] k with | some l => l | none => [], fun k => match look2 [(0, [(3, .own .d .iRow)])] k with | some l => l | none => []⟩
def fin (o : List AV) : Option R := uc o fun a1 l2 => getSl .d .iRow a1 fun x3 => un l2 (some (x3 : R))
def inj (r : R) : List AV := [.sl .d .iRow r]
theorem fin_ok (o : List AV) (r : R) (h : fin o = some r) : o = inj r := by
  unfold fin at h
  replace h := uc_ok h; obtain ⟨a1, l2, rfl, h⟩ := h
  replace h := getSl_ok h; obtain ⟨x3, rfl, h⟩ := h
  replace h := un_ok h; obtain ⟨rfl, h⟩ := h
  cases h
  rfl
def kr (n : Nat) : St → Option R := retK (cx n 23) [.own .d .iRow] [.o] [.tmp 2] [] fin
def lf (n : Nat) : LF R := fun key κd κe v b => cond (Nat.beq key 4)
    (uc v fun a1 l2 => getSl .v .lRow a1 fun x3 => uc l2 fun a4 l5 => isRt 1 a4 (uc l5 fun a6 l7 => getI .i64 a6 fun x8 => un l7 (uc b fun a9 l10 => isExt a9 (uc l10 fun a11 l12 => getArr .d .iRow 2 a11 fun x13 => un l12 (laws_toRowS.loop4 n (fun (y0 : List TRow) => κe 0 [.rt 1] [some .ext, some (.arr .d .iRow 2 y0)]) n x3 x8 x13)))))
    (none)
noncomputable def A4 : Code := match pieceAt ann body 0 4 with | some (.loop a _) => a | _ => .skip
theorem round4 (n : Nat) (B : D R) (κe : Nat → D R) (a : List TRow) (i : Int) (out_1 : List TRow) : run (cx n 23) 1 ann (lf n) (kr n) A4 5 (fun s => cutK 1 [(0, .view .lRow), (3, .own .d .iRow), (4, .k)] s B) (fun j s => cutK 1 (ann.out j) s (κe j)) (St.ofC [(0, .view .lRow), (3, .own .d .iRow), (4, .k)] [.sl .v .lRow a, .rt 1, .i .i64 i] [some .ext, some (.arr .d .iRow 2 out_1)]) =
    laws_toRowS.step4 n (fun (y0 : List TRow) => κe 0 [.rt 1] [some .ext, some (.arr .d .iRow 2 y0)]) (fun (z0 : List TRow) (z1 : Int) (z2 : List TRow) => B [.sl .v .lRow z0, .rt 1, .i .i64 z1] [some .ext, some (.arr .d .iRow 2 z2)]) a i out_1 := by kernel_rfl
theorem rounds4 (n : Nat) (κe : Nat → D R) : ∀ (N : Nat) (a : List TRow) (i : Int) (out_1 : List TRow), rounds (cx n 23) 1 ann (lf n) (kr n) A4 5 [(0, .view .lRow), (3, .own .d .iRow), (4, .k)] κe N [.sl .v .lRow a, .rt 1, .i .i64 i] [some .ext, some (.arr .d .iRow 2 out_1)] = laws_toRowS.loop4 n (fun (y0 : List TRow) => κe 0 [.rt 1] [some .ext, some (.arr .d .iRow 2 y0)]) N a i out_1
  | 0, _, _, _ => rfl
  | N + 1, a, i, out_1 => (round4 n (rounds (cx n 23) 1 ann (lf n) (kr n) A4 5 [(0, .view .lRow), (3, .own .d .iRow), (4, .k)] κe N) κe a i out_1).trans (congrArg (fun back => laws_toRowS.step4 n (fun (y0 : List TRow) => κe 0 [.rt 1] [some .ext, some (.arr .d .iRow 2 y0)]) back a i out_1) (funext fun z0 => funext fun z1 => funext fun z2 => rounds4 n κe N z0 z1 z2))
theorem cuts (n : Nat) : Cuts (cx n 23) 1 ann (lf n) (kr n) body := by
  intro key κd κe v b r h
  unfold lf at h
  cases hk4 : Nat.beq key 4 with
  | true =>
    replace h := cond_t hk4 h
    have := beq_iff.1 hk4
    subst this
    replace h := uc_ok h; obtain ⟨a1, l2, rfl, h⟩ := h
    replace h := getSl_ok h; obtain ⟨x3, rfl, h⟩ := h
    replace h := uc_ok h; obtain ⟨a4, l5, rfl, h⟩ := h
    replace h := isRt_ok h; obtain ⟨rfl, h⟩ := h
    replace h := uc_ok h; obtain ⟨a6, l7, rfl, h⟩ := h
    replace h := getI_ok h; obtain ⟨x8, rfl, h⟩ := h
    replace h := un_ok h; obtain ⟨rfl, h⟩ := h
    replace h := uc_ok h; obtain ⟨a9, l10, rfl, h⟩ := h
    replace h := isExt_ok h; obtain ⟨rfl, h⟩ := h
    replace h := uc_ok h; obtain ⟨a11, l12, rfl, h⟩ := h
    replace h := getArr_ok h; obtain ⟨x13, rfl, h⟩ := h
    replace h := un_ok h; obtain ⟨rfl, h⟩ := h
    exact ⟨[(0, .view .lRow), (3, .own .d .iRow), (4, .k)], .loop A4 5, by kernel_rfl, by kernel_rfl, ⟨n, (rounds4 n κe n x3 x8 x13).trans h⟩⟩
  | false =>
    replace h := cond_f hk4 h
    cases h
theorem top (n : Nat) (a : List TRow) : entryK 1 [.sl .v .lRow a] (fun v b => match outOfAll [.v] v with
      | some o => cond (AV.allRoots o []) (run (cx n 23) 1 ann (lf n) (kr n) body 0 (kr n) (fun _ _ => none) (St.ofC (live0 1) v b)) none
      | none => none) = laws_toRowS (n + 1) a := by kernel_rfl
def Ok (n : Nat) : Prop := ∀ (a : List TRow) (res_ : R), laws_toRowS n a = some res_ → CallOk E 94 [.sl .v .lRow a] (rvOf 1 (inj res_)) ((inj res_).drop 1) [.v]
theorem ok (n : Nat) (hc : CxOk E (cx n 23)) (hK : KPar (cx n 23)) : Ok (n + 1) := fun a res_ h_ =>
  fn_sound hc hK mixedOk Try.func94 (by kernel_rfl) (by kernel_rfl) (by kernel_rfl) (by decide) fin_ok (by kernel_rfl) ((top n a).trans h_) (cuts n)
theorem Kpar (n : Nat) {ω : Type} {avs : List AV} {κ : AV → List AV → Option ω} {q : ω} (h : laws_toRowS.K n avs κ = some q) : ∃ rv outs, κ rv outs = some q ∧ ∀ (ω' : Type) (κ' : AV → List AV → Option ω'), laws_toRowS.K n avs κ' = κ' rv outs := by
  unfold K at h
  generalize hf : fixes [.sl .v .lRow] avs = v at h
  replace h := uc_ok h; obtain ⟨a1, l2, rfl, h⟩ := h
  replace h := getSl_ok h; obtain ⟨x3, rfl, h⟩ := h
  replace h := un_ok h; obtain ⟨rfl, h⟩ := h
  cases hr : laws_toRowS n x3 with
  | none => rw [hr] at h; cases h
  | some r =>
    rw [hr] at h
    exact ⟨_, _, h, fun ω' κ' => by unfold K; rw [hf]; exact congrArg (fun z : Option R => z.bind _) hr⟩
theorem Kok (n : Nat) (ho : Ok n) {ω : Type} {avs : List AV} {κ : AV → List AV → Option ω} {q : ω} (h : laws_toRowS.K n avs κ = some q) : FnOk E 94 ∧ ∃ ps rv outs, (cx n 0).sig 94 = some ps ∧ κ rv outs = some q ∧ CallOk E 94 avs rv outs ps := by
  unfold K at h
  generalize hf : fixes [.sl .v .lRow] avs = v at h
  replace h := uc_ok h; obtain ⟨a1, l2, rfl, h⟩ := h
  replace h := getSl_ok h; obtain ⟨x3, rfl, h⟩ := h
  replace h := un_ok h; obtain ⟨rfl, h⟩ := h
  cases hr : laws_toRowS n x3 with
  | none => rw [hr] at h; cases h
  | some r =>
    rw [hr] at h
    exact ⟨⟨_, body, Try.func94, by decide +kernel, by kernel_rfl⟩, [.v], _, _, by kernel_rfl, h, CallOk.fix (ss := [.sl .v .lRow]) (by rw [hf]; exact ho x3 r hr)⟩
end laws_toRowS
namespace laws_toKid
abbrev R : Type := TKid
noncomputable def body : Code := match Try.f145.body with | some c => c | none => .skip
def ann : Ann := ⟨fun k => look2 [] k, fun k => match look2 [] k with | some l => l | none => [], fun k => match look2 [] k with | some l => l | none => []⟩
def fin (o : List AV) : Option R := uc o fun a1 l2 => getAg a1 fun c3 => uc c3 fun a4 l5 => getI .i64 a4 fun x6 => uc l5 fun a7 l8 => getI .i64 a7 fun x9 => un l8 (un l2 (some ((TKid.mk x6 x9) : R)))
def inj (r : R) : List AV := [.ag [.i .i64 r.id_, .i .i64 r.n_]]
theorem fin_ok (o : List AV) (r : R) (h : fin o = some r) : o = inj r := by
  unfold fin at h
  replace h := uc_ok h; obtain ⟨a1, l2, rfl, h⟩ := h
  replace h := getAg_ok h; obtain ⟨c3, rfl, h⟩ := h
  replace h := uc_ok h; obtain ⟨a4, l5, rfl, h⟩ := h
  replace h := getI_ok h; obtain ⟨x6, rfl, h⟩ := h
  replace h := uc_ok h; obtain ⟨a7, l8, rfl, h⟩ := h
  replace h := getI_ok h; obtain ⟨x9, rfl, h⟩ := h
  replace h := un_ok h; obtain ⟨rfl, h⟩ := h
  replace h := un_ok h; obtain ⟨rfl, h⟩ := h
  cases h
  rfl
def kr (n : Nat) : St → Option R := retK (cx n 11) [.ag [.k, .k]] [.ag [.v, .v]] [.cell 2 137] [] fin
def lf (n : Nat) : LF R := fun key κd κe v b => none
theorem cuts (n : Nat) : Cuts (cx n 11) 1 ann (lf n) (kr n) body := by
  intro key κd κe v b r h
  unfold lf at h
  cases h
theorem top (n : Nat) (a : TKid) : entryK 1 [.ag [.i .i64 a.id_, .i .i64 a.n_]] (fun v b => match outOfAll [.ag [.v, .v]] v with
      | some o => cond (AV.allRoots o []) (run (cx n 11) 1 ann (lf n) (kr n) body 0 (kr n) (fun _ _ => none) (St.ofC (live0 1) v b)) none
      | none => none) = laws_toKid (n + 1) a := by kernel_rfl
def Ok (n : Nat) : Prop := ∀ (a : TKid) (res_ : R), laws_toKid n a = some res_ → CallOk E 145 [.ag [.i .i64 a.id_, .i .i64 a.n_]] (rvOf 1 (inj res_)) ((inj res_).drop 1) [.ag [.v, .v]]
theorem ok (n : Nat) (hc : CxOk E (cx n 11)) (hK : KPar (cx n 11)) : Ok (n + 1) := fun a res_ h_ =>
  fn_sound hc hK mixedOk Try.func145 (by kernel_rfl) (by kernel_rfl) (by kernel_rfl) (by decide) fin_ok (by kernel_rfl) ((top n a).trans h_) (cuts n)
theorem Kpar (n : Nat) {ω : Type} {avs : List AV} {κ : AV → List AV → Option ω} {q : ω} (h : laws_toKid.K n avs κ = some q) : ∃ rv outs, κ rv outs = some q ∧ ∀ (ω' : Type) (κ' : AV → List AV → Option ω'), laws_toKid.K n avs κ' = κ' rv outs := by
  unfold K at h
  generalize hf : fixes [.ag [.k, .k]] avs = v at h
  replace h := uc_ok h; obtain ⟨a1, l2, rfl, h⟩ := h
  replace h := getAg_ok h; obtain ⟨c3, rfl, h⟩ := h
  replace h := uc_ok h; obtain ⟨a4, l5, rfl, h⟩ := h
  replace h := getI_ok h; obtain ⟨x6, rfl, h⟩ := h
  replace h := uc_ok h; obtain ⟨a7, l8, rfl, h⟩ := h
  replace h := getI_ok h; obtain ⟨x9, rfl, h⟩ := h
  replace h := un_ok h; obtain ⟨rfl, h⟩ := h
  replace h := un_ok h; obtain ⟨rfl, h⟩ := h
  cases hr : laws_toKid n (TKid.mk x6 x9) with
  | none => rw [hr] at h; cases h
  | some r =>
    rw [hr] at h
    exact ⟨_, _, h, fun ω' κ' => by unfold K; rw [hf]; exact congrArg (fun z : Option R => z.bind _) hr⟩
theorem Kok (n : Nat) (ho : Ok n) {ω : Type} {avs : List AV} {κ : AV → List AV → Option ω} {q : ω} (h : laws_toKid.K n avs κ = some q) : FnOk E 145 ∧ ∃ ps rv outs, (cx n 0).sig 145 = some ps ∧ κ rv outs = some q ∧ CallOk E 145 avs rv outs ps := by
  unfold K at h
  generalize hf : fixes [.ag [.k, .k]] avs = v at h
  replace h := uc_ok h; obtain ⟨a1, l2, rfl, h⟩ := h
  replace h := getAg_ok h; obtain ⟨c3, rfl, h⟩ := h
  replace h := uc_ok h; obtain ⟨a4, l5, rfl, h⟩ := h
  replace h := getI_ok h; obtain ⟨x6, rfl, h⟩ := h
  replace h := uc_ok h; obtain ⟨a7, l8, rfl, h⟩ := h
  replace h := getI_ok h; obtain ⟨x9, rfl, h⟩ := h
  replace h := un_ok h; obtain ⟨rfl, h⟩ := h
  replace h := un_ok h; obtain ⟨rfl, h⟩ := h
  cases hr : laws_toKid n (TKid.mk x6 x9) with
  | none => rw [hr] at h; cases h
  | some r =>
    rw [hr] at h
    exact ⟨⟨_, body, Try.func145, by decide +kernel, by kernel_rfl⟩, [.ag [.v, .v]], _, _, by kernel_rfl, h, CallOk.fix (ss := [.ag [.k, .k]]) (by rw [hf]; exact ho (TKid.mk x6 x9) r hr)⟩
end laws_toKid
namespace laws_toKidS
abbrev R : Type := (List TKid)
noncomputable def body : Code := match Try.f95.body with | some c => c | none => .skip
def ann : Ann := ⟨fun k => look2 [(4, [(0, .view .lKid), (3, .own .d .iKid), (4, .k)])] k, fun k => match look2 [] k with | some l => l | none => [], fun k => match look2 [(0, [(3, .own .d .iKid)])] k with | some l => l | none => []⟩
def fin (o : List AV) : Option R := uc o fun a1 l2 => getSl .d .iKid a1 fun x3 => un l2 (some (x3 : R))
def inj (r : R) : List AV := [.sl .d .iKid r]
theorem fin_ok (o : List AV) (r : R) (h : fin o = some r) : o = inj r := by
  unfold fin at h
  replace h := uc_ok h; obtain ⟨a1, l2, rfl, h⟩ := h
  replace h := getSl_ok h; obtain ⟨x3, rfl, h⟩ := h
  replace h := un_ok h; obtain ⟨rfl, h⟩ := h
  cases h
  rfl
def kr (n : Nat) : St → Option R := retK (cx n 23) [.own .d .iKid] [.o] [.tmp 2] [] fin
def lf (n : Nat) : LF R := fun key κd κe v b => cond (Nat.beq key 4)
    (uc v fun a1 l2 => getSl .v .lKid a1 fun x3 => uc l2 fun a4 l5 => isRt 1 a4 (uc l5 fun a6 l7 => getI .i64 a6 fun x8 => un l7 (uc b fun a9 l10 => isExt a9 (uc l10 fun a11 l12 => getArr .d .iKid 2 a11 fun x13 => un l12 (laws_toKidS.loop4 n (fun (y0 : List TKid) => κe 0 [.rt 1] [some .ext, some (.arr .d .iKid 2 y0)]) n x3 x8 x13)))))
    (none)
noncomputable def A4 : Code := match pieceAt ann body 0 4 with | some (.loop a _) => a | _ => .skip
theorem round4 (n : Nat) (B : D R) (κe : Nat → D R) (a : List TKid) (i : Int) (out_1 : List TKid) : run (cx n 23) 1 ann (lf n) (kr n) A4 5 (fun s => cutK 1 [(0, .view .lKid), (3, .own .d .iKid), (4, .k)] s B) (fun j s => cutK 1 (ann.out j) s (κe j)) (St.ofC [(0, .view .lKid), (3, .own .d .iKid), (4, .k)] [.sl .v .lKid a, .rt 1, .i .i64 i] [some .ext, some (.arr .d .iKid 2 out_1)]) =
    laws_toKidS.step4 n (fun (y0 : List TKid) => κe 0 [.rt 1] [some .ext, some (.arr .d .iKid 2 y0)]) (fun (z0 : List TKid) (z1 : Int) (z2 : List TKid) => B [.sl .v .lKid z0, .rt 1, .i .i64 z1] [some .ext, some (.arr .d .iKid 2 z2)]) a i out_1 := by kernel_rfl
theorem rounds4 (n : Nat) (κe : Nat → D R) : ∀ (N : Nat) (a : List TKid) (i : Int) (out_1 : List TKid), rounds (cx n 23) 1 ann (lf n) (kr n) A4 5 [(0, .view .lKid), (3, .own .d .iKid), (4, .k)] κe N [.sl .v .lKid a, .rt 1, .i .i64 i] [some .ext, some (.arr .d .iKid 2 out_1)] = laws_toKidS.loop4 n (fun (y0 : List TKid) => κe 0 [.rt 1] [some .ext, some (.arr .d .iKid 2 y0)]) N a i out_1
  | 0, _, _, _ => rfl
  | N + 1, a, i, out_1 => (round4 n (rounds (cx n 23) 1 ann (lf n) (kr n) A4 5 [(0, .view .lKid), (3, .own .d .iKid), (4, .k)] κe N) κe a i out_1).trans (congrArg (fun back => laws_toKidS.step4 n (fun (y0 : List TKid) => κe 0 [.rt 1] [some .ext, some (.arr .d .iKid 2 y0)]) back a i out_1) (funext fun z0 => funext fun z1 => funext fun z2 => rounds4 n κe N z0 z1 z2))
theorem cuts (n : Nat) : Cuts (cx n 23) 1 ann (lf n) (kr n) body := by
  intro key κd κe v b r h
  unfold lf at h
  cases hk4 : Nat.beq key 4 with
  | true =>
    replace h := cond_t hk4 h
    have := beq_iff.1 hk4
    subst this
    replace h := uc_ok h; obtain ⟨a1, l2, rfl, h⟩ := h
    replace h := getSl_ok h; obtain ⟨x3, rfl, h⟩ := h
    replace h := uc_ok h; obtain ⟨a4, l5, rfl, h⟩ := h
    replace h := isRt_ok h; obtain ⟨rfl, h⟩ := h
    replace h := uc_ok h; obtain ⟨a6, l7, rfl, h⟩ := h
    replace h := getI_ok h; obtain ⟨x8, rfl, h⟩ := h
    replace h := un_ok h; obtain ⟨rfl, h⟩ := h
    replace h := uc_ok h; obtain ⟨a9, l10, rfl, h⟩ := h
    replace h := isExt_ok h; obtain ⟨rfl, h⟩ := h
    replace h := uc_ok h; obtain ⟨a11, l12, rfl, h⟩ := h
    replace h := getArr_ok h; obtain ⟨x13, rfl, h⟩ := h
    replace h := un_ok h; obtain ⟨rfl, h⟩ := h
    exact ⟨[(0, .view .lKid), (3, .own .d .iKid), (4, .k)], .loop A4 5, by kernel_rfl, by kernel_rfl, ⟨n, (rounds4 n κe n x3 x8 x13).trans h⟩⟩
  | false =>
    replace h := cond_f hk4 h
    cases h
theorem top (n : Nat) (a : List TKid) : entryK 1 [.sl .v .lKid a] (fun v b => match outOfAll [.v] v with
      | some o => cond (AV.allRoots o []) (run (cx n 23) 1 ann (lf n) (kr n) body 0 (kr n) (fun _ _ => none) (St.ofC (live0 1) v b)) none
      | none => none) = laws_toKidS (n + 1) a := by kernel_rfl
def Ok (n : Nat) : Prop := ∀ (a : List TKid) (res_ : R), laws_toKidS n a = some res_ → CallOk E 95 [.sl .v .lKid a] (rvOf 1 (inj res_)) ((inj res_).drop 1) [.v]
theorem ok (n : Nat) (hc : CxOk E (cx n 23)) (hK : KPar (cx n 23)) : Ok (n + 1) := fun a res_ h_ =>
  fn_sound hc hK mixedOk Try.func95 (by kernel_rfl) (by kernel_rfl) (by kernel_rfl) (by decide) fin_ok (by kernel_rfl) ((top n a).trans h_) (cuts n)
theorem Kpar (n : Nat) {ω : Type} {avs : List AV} {κ : AV → List AV → Option ω} {q : ω} (h : laws_toKidS.K n avs κ = some q) : ∃ rv outs, κ rv outs = some q ∧ ∀ (ω' : Type) (κ' : AV → List AV → Option ω'), laws_toKidS.K n avs κ' = κ' rv outs := by
  unfold K at h
  generalize hf : fixes [.sl .v .lKid] avs = v at h
  replace h := uc_ok h; obtain ⟨a1, l2, rfl, h⟩ := h
  replace h := getSl_ok h; obtain ⟨x3, rfl, h⟩ := h
  replace h := un_ok h; obtain ⟨rfl, h⟩ := h
  cases hr : laws_toKidS n x3 with
  | none => rw [hr] at h; cases h
  | some r =>
    rw [hr] at h
    exact ⟨_, _, h, fun ω' κ' => by unfold K; rw [hf]; exact congrArg (fun z : Option R => z.bind _) hr⟩
theorem Kok (n : Nat) (ho : Ok n) {ω : Type} {avs : List AV} {κ : AV → List AV → Option ω} {q : ω} (h : laws_toKidS.K n avs κ = some q) : FnOk E 95 ∧ ∃ ps rv outs, (cx n 0).sig 95 = some ps ∧ κ rv outs = some q ∧ CallOk E 95 avs rv outs ps := by
  unfold K at h
  generalize hf : fixes [.sl .v .lKid] avs = v at h
  replace h := uc_ok h; obtain ⟨a1, l2, rfl, h⟩ := h
  replace h := getSl_ok h; obtain ⟨x3, rfl, h⟩ := h
  replace h := un_ok h; obtain ⟨rfl, h⟩ := h
  cases hr : laws_toKidS n x3 with
  | none => rw [hr] at h; cases h
  | some r =>
    rw [hr] at h
    exact ⟨⟨_, body, Try.func95, by decide +kernel, by kernel_rfl⟩, [.v], _, _, by kernel_rfl, h, CallOk.fix (ss := [.sl .v .lKid]) (by rw [hf]; exact ho x3 r hr)⟩
end laws_toKidS
namespace laws_toView
abbrev R : Type := TView
noncomputable def body : Code := match Try.f46.body with | some c => c | none => .skip
def ann : Ann := ⟨fun k => look2 [] k, fun k => match look2 [] k with | some l => l | none => [], fun k => match look2 [] k with | some l => l | none => []⟩
def fin (o : List AV) : Option R := uc o fun a1 l2 => getAg a1 fun c3 => uc c3 fun a4 l5 => getI .i64 a4 fun x6 => uc l5 fun a7 l8 => getSl .d .iCond a7 fun x9 => uc l8 fun a10 l11 => getI .i64 a10 fun x12 => uc l11 fun a13 l14 => getB a13 fun x15 => uc l14 fun a16 l17 => getI .i64 a16 fun x18 => uc l17 fun a19 l20 => getSl .d .int a19 fun x21 => uc l20 fun a22 l23 => getB a22 fun x24 => uc l23 fun a25 l26 => getI .i64 a25 fun x27 => uc l26 fun a28 l29 => getI .i64 a28 fun x30 => uc l29 fun a31 l32 => getSl .d .iRow a31 fun x33 => uc l32 fun a34 l35 => getSl .d .iKid a34 fun x36 => un l35 (un l2 (some ((TView.mk (TQuery.mk x6 x9 x12 x15 x18 x21 x24 x27 x30) x33 x36) : R)))
def inj (r : R) : List AV := [.ag [.i .i64 r.q.table, .sl .d .iCond r.q.where_, .i .i64 r.q.order, .b r.q.down, .i .i64 r.q.first, .sl .d .int r.q.show_, .b r.q.kids, .i .i64 r.q.kidTable, .i .i64 r.q.kidCol, .sl .d .iRow r.rows, .sl .d .iKid r.kids]]
theorem fin_ok (o : List AV) (r : R) (h : fin o = some r) : o = inj r := by
  unfold fin at h
  replace h := uc_ok h; obtain ⟨a1, l2, rfl, h⟩ := h
  replace h := getAg_ok h; obtain ⟨c3, rfl, h⟩ := h
  replace h := uc_ok h; obtain ⟨a4, l5, rfl, h⟩ := h
  replace h := getI_ok h; obtain ⟨x6, rfl, h⟩ := h
  replace h := uc_ok h; obtain ⟨a7, l8, rfl, h⟩ := h
  replace h := getSl_ok h; obtain ⟨x9, rfl, h⟩ := h
  replace h := uc_ok h; obtain ⟨a10, l11, rfl, h⟩ := h
  replace h := getI_ok h; obtain ⟨x12, rfl, h⟩ := h
  replace h := uc_ok h; obtain ⟨a13, l14, rfl, h⟩ := h
  replace h := getB_ok h; obtain ⟨x15, rfl, h⟩ := h
  replace h := uc_ok h; obtain ⟨a16, l17, rfl, h⟩ := h
  replace h := getI_ok h; obtain ⟨x18, rfl, h⟩ := h
  replace h := uc_ok h; obtain ⟨a19, l20, rfl, h⟩ := h
  replace h := getSl_ok h; obtain ⟨x21, rfl, h⟩ := h
  replace h := uc_ok h; obtain ⟨a22, l23, rfl, h⟩ := h
  replace h := getB_ok h; obtain ⟨x24, rfl, h⟩ := h
  replace h := uc_ok h; obtain ⟨a25, l26, rfl, h⟩ := h
  replace h := getI_ok h; obtain ⟨x27, rfl, h⟩ := h
  replace h := uc_ok h; obtain ⟨a28, l29, rfl, h⟩ := h
  replace h := getI_ok h; obtain ⟨x30, rfl, h⟩ := h
  replace h := uc_ok h; obtain ⟨a31, l32, rfl, h⟩ := h
  replace h := getSl_ok h; obtain ⟨x33, rfl, h⟩ := h
  replace h := uc_ok h; obtain ⟨a34, l35, rfl, h⟩ := h
  replace h := getSl_ok h; obtain ⟨x36, rfl, h⟩ := h
  replace h := un_ok h; obtain ⟨rfl, h⟩ := h
  replace h := un_ok h; obtain ⟨rfl, h⟩ := h
  cases h
  rfl
def kr (n : Nat) : St → Option R := retK (cx n 17) [.ag [.k, .own .d .iCond, .k, .k, .k, .own .d .int, .k, .k, .k, .own .d .iRow, .own .d .iKid]] [.ag [.v, .o, .v, .v, .v, .o, .v, .v, .v, .o, .o]] [.cell 2 45] [] fin
def lf (n : Nat) : LF R := fun key κd κe v b => none
theorem cuts (n : Nat) : Cuts (cx n 17) 1 ann (lf n) (kr n) body := by
  intro key κd κe v b r h
  unfold lf at h
  cases h
theorem top (n : Nat) (a : TView) : entryK 1 [.ag [.i .i64 a.q.table, .sl .v .lCond a.q.where_, .i .i64 a.q.order, .b a.q.down, .i .i64 a.q.first, .sl .v .int a.q.show_, .b a.q.kids, .i .i64 a.q.kidTable, .i .i64 a.q.kidCol, .sl .v .lRow a.rows, .sl .v .lKid a.kids]] (fun v b => match outOfAll [.ag [.v, .v, .v, .v, .v, .v, .v, .v, .v, .v, .v]] v with
      | some o => cond (AV.allRoots o []) (run (cx n 17) 1 ann (lf n) (kr n) body 0 (kr n) (fun _ _ => none) (St.ofC (live0 1) v b)) none
      | none => none) = laws_toView (n + 1) a := by kernel_rfl
def Ok (n : Nat) : Prop := ∀ (a : TView) (res_ : R), laws_toView n a = some res_ → CallOk E 46 [.ag [.i .i64 a.q.table, .sl .v .lCond a.q.where_, .i .i64 a.q.order, .b a.q.down, .i .i64 a.q.first, .sl .v .int a.q.show_, .b a.q.kids, .i .i64 a.q.kidTable, .i .i64 a.q.kidCol, .sl .v .lRow a.rows, .sl .v .lKid a.kids]] (rvOf 1 (inj res_)) ((inj res_).drop 1) [.ag [.v, .v, .v, .v, .v, .v, .v, .v, .v, .v, .v]]
theorem ok (n : Nat) (hc : CxOk E (cx n 17)) (hK : KPar (cx n 17)) : Ok (n + 1) := fun a res_ h_ =>
  fn_sound hc hK mixedOk Try.func46 (by kernel_rfl) (by kernel_rfl) (by kernel_rfl) (by decide) fin_ok (by kernel_rfl) ((top n a).trans h_) (cuts n)
theorem Kpar (n : Nat) {ω : Type} {avs : List AV} {κ : AV → List AV → Option ω} {q : ω} (h : laws_toView.K n avs κ = some q) : ∃ rv outs, κ rv outs = some q ∧ ∀ (ω' : Type) (κ' : AV → List AV → Option ω'), laws_toView.K n avs κ' = κ' rv outs := by
  unfold K at h
  generalize hf : fixes [.ag [.k, .sl .v .lCond, .k, .k, .k, .sl .v .int, .k, .k, .k, .sl .v .lRow, .sl .v .lKid]] avs = v at h
  replace h := uc_ok h; obtain ⟨a1, l2, rfl, h⟩ := h
  replace h := getAg_ok h; obtain ⟨c3, rfl, h⟩ := h
  replace h := uc_ok h; obtain ⟨a4, l5, rfl, h⟩ := h
  replace h := getI_ok h; obtain ⟨x6, rfl, h⟩ := h
  replace h := uc_ok h; obtain ⟨a7, l8, rfl, h⟩ := h
  replace h := getSl_ok h; obtain ⟨x9, rfl, h⟩ := h
  replace h := uc_ok h; obtain ⟨a10, l11, rfl, h⟩ := h
  replace h := getI_ok h; obtain ⟨x12, rfl, h⟩ := h
  replace h := uc_ok h; obtain ⟨a13, l14, rfl, h⟩ := h
  replace h := getB_ok h; obtain ⟨x15, rfl, h⟩ := h
  replace h := uc_ok h; obtain ⟨a16, l17, rfl, h⟩ := h
  replace h := getI_ok h; obtain ⟨x18, rfl, h⟩ := h
  replace h := uc_ok h; obtain ⟨a19, l20, rfl, h⟩ := h
  replace h := getSl_ok h; obtain ⟨x21, rfl, h⟩ := h
  replace h := uc_ok h; obtain ⟨a22, l23, rfl, h⟩ := h
  replace h := getB_ok h; obtain ⟨x24, rfl, h⟩ := h
  replace h := uc_ok h; obtain ⟨a25, l26, rfl, h⟩ := h
  replace h := getI_ok h; obtain ⟨x27, rfl, h⟩ := h
  replace h := uc_ok h; obtain ⟨a28, l29, rfl, h⟩ := h
  replace h := getI_ok h; obtain ⟨x30, rfl, h⟩ := h
  replace h := uc_ok h; obtain ⟨a31, l32, rfl, h⟩ := h
  replace h := getSl_ok h; obtain ⟨x33, rfl, h⟩ := h
  replace h := uc_ok h; obtain ⟨a34, l35, rfl, h⟩ := h
  replace h := getSl_ok h; obtain ⟨x36, rfl, h⟩ := h
  replace h := un_ok h; obtain ⟨rfl, h⟩ := h
  replace h := un_ok h; obtain ⟨rfl, h⟩ := h
  cases hr : laws_toView n (TView.mk (TQuery.mk x6 x9 x12 x15 x18 x21 x24 x27 x30) x33 x36) with
  | none => rw [hr] at h; cases h
  | some r =>
    rw [hr] at h
    exact ⟨_, _, h, fun ω' κ' => by unfold K; rw [hf]; exact congrArg (fun z : Option R => z.bind _) hr⟩
theorem Kok (n : Nat) (ho : Ok n) {ω : Type} {avs : List AV} {κ : AV → List AV → Option ω} {q : ω} (h : laws_toView.K n avs κ = some q) : FnOk E 46 ∧ ∃ ps rv outs, (cx n 0).sig 46 = some ps ∧ κ rv outs = some q ∧ CallOk E 46 avs rv outs ps := by
  unfold K at h
  generalize hf : fixes [.ag [.k, .sl .v .lCond, .k, .k, .k, .sl .v .int, .k, .k, .k, .sl .v .lRow, .sl .v .lKid]] avs = v at h
  replace h := uc_ok h; obtain ⟨a1, l2, rfl, h⟩ := h
  replace h := getAg_ok h; obtain ⟨c3, rfl, h⟩ := h
  replace h := uc_ok h; obtain ⟨a4, l5, rfl, h⟩ := h
  replace h := getI_ok h; obtain ⟨x6, rfl, h⟩ := h
  replace h := uc_ok h; obtain ⟨a7, l8, rfl, h⟩ := h
  replace h := getSl_ok h; obtain ⟨x9, rfl, h⟩ := h
  replace h := uc_ok h; obtain ⟨a10, l11, rfl, h⟩ := h
  replace h := getI_ok h; obtain ⟨x12, rfl, h⟩ := h
  replace h := uc_ok h; obtain ⟨a13, l14, rfl, h⟩ := h
  replace h := getB_ok h; obtain ⟨x15, rfl, h⟩ := h
  replace h := uc_ok h; obtain ⟨a16, l17, rfl, h⟩ := h
  replace h := getI_ok h; obtain ⟨x18, rfl, h⟩ := h
  replace h := uc_ok h; obtain ⟨a19, l20, rfl, h⟩ := h
  replace h := getSl_ok h; obtain ⟨x21, rfl, h⟩ := h
  replace h := uc_ok h; obtain ⟨a22, l23, rfl, h⟩ := h
  replace h := getB_ok h; obtain ⟨x24, rfl, h⟩ := h
  replace h := uc_ok h; obtain ⟨a25, l26, rfl, h⟩ := h
  replace h := getI_ok h; obtain ⟨x27, rfl, h⟩ := h
  replace h := uc_ok h; obtain ⟨a28, l29, rfl, h⟩ := h
  replace h := getI_ok h; obtain ⟨x30, rfl, h⟩ := h
  replace h := uc_ok h; obtain ⟨a31, l32, rfl, h⟩ := h
  replace h := getSl_ok h; obtain ⟨x33, rfl, h⟩ := h
  replace h := uc_ok h; obtain ⟨a34, l35, rfl, h⟩ := h
  replace h := getSl_ok h; obtain ⟨x36, rfl, h⟩ := h
  replace h := un_ok h; obtain ⟨rfl, h⟩ := h
  replace h := un_ok h; obtain ⟨rfl, h⟩ := h
  cases hr : laws_toView n (TView.mk (TQuery.mk x6 x9 x12 x15 x18 x21 x24 x27 x30) x33 x36) with
  | none => rw [hr] at h; cases h
  | some r =>
    rw [hr] at h
    exact ⟨⟨_, body, Try.func46, by decide +kernel, by kernel_rfl⟩, [.ag [.v, .v, .v, .v, .v, .v, .v, .v, .v, .v, .v]], _, _, by kernel_rfl, h, CallOk.fix (ss := [.ag [.k, .sl .v .lCond, .k, .k, .k, .sl .v .int, .k, .k, .k, .sl .v .lRow, .sl .v .lKid]]) (by rw [hf]; exact ho (TView.mk (TQuery.mk x6 x9 x12 x15 x18 x21 x24 x27 x30) x33 x36) r hr)⟩
end laws_toView
end Go.Pi
end
