/- The law FnExactBehind returns true at every input, and leaves its arguments as they were; no condition. Text 4 of 5. -/
import Derived.Test.YtbddnebkegaaaaaGreatVbC
import Derived.Shelf.RegionOpenPlain
import Derived.WalkKit
import Derived.Deep.RegionLaw
import Derived.Lib.Walk
import Derived.Lib.SliceRun
import Derived.Laws.CopyRow
import Derived.RowKit
import Derived.Lib.Overlaps
import Derived.Lib.AppendZerosOnto
import Derived.Laws.NewBlocks
import Derived.Laws.Externs
import Derived.ChangeArms
import Derived.DataReads
import Derived.ChangeOld
section
set_option linter.unusedVariables false
set_option maxRecDepth 100000
namespace Go.Pi
def TSchema.p (m : M) : List Pat := [.sl m .int]
abbrev TSchema.c : Type := (List Int) × Unit
def TSchema.of : TSchema.c → TSchema := fun (x0, _) => ⟨x0⟩
def TSchema.to (s : TSchema) : TSchema.c := (s.cols, ())
def TRow.p (m : M) : List Pat := [.i .i64, .sl m .int]
abbrev TRow.c : Type := Int × (List Int) × Unit
def TRow.of : TRow.c → TRow := fun (x0, x1, _) => ⟨x0, x1⟩
def TRow.to (s : TRow) : TRow.c := (s.id_, s.cells, ())
def TStore.p (m : M) : List Pat := [.sl m .int, .i .i64, .sl m .s_lRow]
def TStore.q1 (m : M) : List Pat := [.sl m .int, .i .i64, .sl m .s_iRow]
abbrev TStore.c : Type := (List Int) × Int × (List (List TRow)) × Unit
def TStore.of : TStore.c → TStore := fun (x0, x1, x2, _) => ⟨⟨x0⟩, x1, x2⟩
def TStore.to (s : TStore) : TStore.c := (s.schema.cols, s.version, s.tables, ())
def TChange.p (m : M) : List Pat := [.i .i64, .b, .b, .i .i64, .sl m .int, .i .i64, .sl m .int]
abbrev TChange.c : Type := Int × Bool × Bool × Int × (List Int) × Int × (List Int) × Unit
def TChange.of : TChange.c → TChange := fun (x0, x1, x2, x3, x4, x5, x6, _) => ⟨x0, x1, x2, ⟨x3, x4⟩, ⟨x5, x6⟩⟩
def TChange.to (s : TChange) : TChange.c := (s.table, s.had, s.has, s.old.id_, s.old.cells, s.new.id_, s.new.cells, ())
def TRecord.p (m : M) : List Pat := [.sl m .int, .i .i64, .sl m .s_lRow, .sl m .s_lChange]
def TRecord.q1 (m : M) : List Pat := [.sl m .int, .i .i64, .sl m .s_iRow, .sl m .s_iChange]
abbrev TRecord.c : Type := (List Int) × Int × (List (List TRow)) × (List (List TChange)) × Unit
def TRecord.of : TRecord.c → TRecord := fun (x0, x1, x2, x3, _) => ⟨⟨⟨x0⟩, x1, x2⟩, x3⟩
def TRecord.to (s : TRecord) : TRecord.c := (s.first.schema.cols, s.first.version, s.first.tables, s.steps, ())
def TCond.p (m : M) : List Pat := [.i .i64, .i .i64, .i .i64]
abbrev TCond.c : Type := Int × Int × Int × Unit
def TCond.of : TCond.c → TCond := fun (x0, x1, x2, _) => ⟨x0, x1, x2⟩
def TCond.to (s : TCond) : TCond.c := (s.col, s.op, s.v, ())
def TQuery.p (m : M) : List Pat := [.i .i64, .sl m .iCond, .i .i64, .b, .i .i64, .sl m .int, .b, .i .i64, .i .i64]
def TQuery.q1 (m : M) : List Pat := [.i .i64, .sl m .lCond, .i .i64, .b, .i .i64, .sl m .int, .b, .i .i64, .i .i64]
abbrev TQuery.c : Type := Int × (List TCond) × Int × Bool × Int × (List Int) × Bool × Int × Int × Unit
def TQuery.of : TQuery.c → TQuery := fun (x0, x1, x2, x3, x4, x5, x6, x7, x8, _) => ⟨x0, x1, x2, x3, x4, x5, x6, x7, x8⟩
def TQuery.to (s : TQuery) : TQuery.c := (s.table, s.where_, s.order, s.down, s.first, s.show_, s.kids, s.kidTable, s.kidCol, ())
def TKid.p (m : M) : List Pat := [.i .i64, .i .i64]
abbrev TKid.c : Type := Int × Int × Unit
def TKid.of : TKid.c → TKid := fun (x0, x1, _) => ⟨x0, x1⟩
def TKid.to (s : TKid) : TKid.c := (s.id_, s.n_, ())
def TView.p (m : M) : List Pat := [.i .i64, .sl m .iCond, .i .i64, .b, .i .i64, .sl m .int, .b, .i .i64, .i .i64, .sl m .iRow, .sl m .iKid]
def TView.q1 (m : M) : List Pat := [.i .i64, .sl m .lCond, .i .i64, .b, .i .i64, .sl m .int, .b, .i .i64, .i .i64, .sl m .lRow, .sl m .lKid]
abbrev TView.c : Type := Int × (List TCond) × Int × Bool × Int × (List Int) × Bool × Int × Int × (List TRow) × (List TKid) × Unit
def TView.of : TView.c → TView := fun (x0, x1, x2, x3, x4, x5, x6, x7, x8, x9, x10, _) => ⟨⟨x0, x1, x2, x3, x4, x5, x6, x7, x8⟩, x9, x10⟩
def TView.to (s : TView) : TView.c := (s.q.table, s.q.where_, s.q.order, s.q.down, s.q.first, s.q.show_, s.q.kids, s.q.kidTable, s.q.kidCol, s.rows, s.kids, ())
def TSess.p (m : M) : List Pat := [.i .i64, .sl m .iCond, .i .i64, .b, .i .i64, .sl m .int, .b, .i .i64, .i .i64, .sl m .iRow, .sl m .iKid, .i .i64, .i .i64, .sl m .iCond, .i .i64, .b, .i .i64, .sl m .int, .b, .i .i64, .i .i64, .sl m .iRow, .sl m .iKid, .i .i64, .b]
def TSess.q1 (m : M) : List Pat := [.i .i64, .sl m .lCond, .i .i64, .b, .i .i64, .sl m .int, .b, .i .i64, .i .i64, .sl m .lRow, .sl m .lKid, .i .i64, .i .i64, .sl m .lCond, .i .i64, .b, .i .i64, .sl m .int, .b, .i .i64, .i .i64, .sl m .lRow, .sl m .lKid, .i .i64, .b]
abbrev TSess.c : Type := Int × (List TCond) × Int × Bool × Int × (List Int) × Bool × Int × Int × (List TRow) × (List TKid) × Int × Int × (List TCond) × Int × Bool × Int × (List Int) × Bool × Int × Int × (List TRow) × (List TKid) × Int × Bool × Unit
def TSess.of : TSess.c → TSess := fun (x0, x1, x2, x3, x4, x5, x6, x7, x8, x9, x10, x11, x12, x13, x14, x15, x16, x17, x18, x19, x20, x21, x22, x23, x24, _) => ⟨⟨⟨x0, x1, x2, x3, x4, x5, x6, x7, x8⟩, x9, x10⟩, x11, ⟨⟨x12, x13, x14, x15, x16, x17, x18, x19, x20⟩, x21, x22⟩, x23, x24⟩
def TSess.to (s : TSess) : TSess.c := (s.view.q.table, s.view.q.where_, s.view.q.order, s.view.q.down, s.view.q.first, s.view.q.show_, s.view.q.kids, s.view.q.kidTable, s.view.q.kidCol, s.view.rows, s.view.kids, s.version, s.last.q.table, s.last.q.where_, s.last.q.order, s.last.q.down, s.last.q.first, s.last.q.show_, s.last.q.kids, s.last.q.kidTable, s.last.q.kidCol, s.last.rows, s.last.kids, s.lastVersion, s.began, ())
def TLine.p (m : M) : List Pat := [.s, .i .i64]
abbrev TLine.c : Type := Bs × Int × Unit
def TLine.of : TLine.c → TLine := fun (x0, x1, _) => ⟨x0, x1⟩
def TLine.to (s : TLine) : TLine.c := (s.wait, s.gone, ())
def TSeat.p (m : M) : List Pat := [.i .i64, .sl m .iCond, .i .i64, .b, .i .i64, .sl m .int, .b, .i .i64, .i .i64, .sl m .iRow, .sl m .iKid, .i .i64, .i .i64, .sl m .iCond, .i .i64, .b, .i .i64, .sl m .int, .b, .i .i64, .i .i64, .sl m .iRow, .sl m .iKid, .i .i64, .b, .s, .i .i64, .s, .s, .b]
def TSeat.q1 (m : M) : List Pat := [.i .i64, .sl m .lCond, .i .i64, .b, .i .i64, .sl m .int, .b, .i .i64, .i .i64, .sl m .lRow, .sl m .lKid, .i .i64, .i .i64, .sl m .lCond, .i .i64, .b, .i .i64, .sl m .int, .b, .i .i64, .i .i64, .sl m .lRow, .sl m .lKid, .i .i64, .b, .s, .i .i64, .s, .s, .b]
abbrev TSeat.c : Type := Int × (List TCond) × Int × Bool × Int × (List Int) × Bool × Int × Int × (List TRow) × (List TKid) × Int × Int × (List TCond) × Int × Bool × Int × (List Int) × Bool × Int × Int × (List TRow) × (List TKid) × Int × Bool × Bs × Int × Bs × Bs × Bool × Unit
def TSeat.of : TSeat.c → TSeat := fun (x0, x1, x2, x3, x4, x5, x6, x7, x8, x9, x10, x11, x12, x13, x14, x15, x16, x17, x18, x19, x20, x21, x22, x23, x24, x25, x26, x27, x28, x29, _) => ⟨⟨⟨⟨x0, x1, x2, x3, x4, x5, x6, x7, x8⟩, x9, x10⟩, x11, ⟨⟨x12, x13, x14, x15, x16, x17, x18, x19, x20⟩, x21, x22⟩, x23, x24⟩, ⟨x25, x26⟩, x27, x28, x29⟩
def TSeat.to (s : TSeat) : TSeat.c := (s.sess.view.q.table, s.sess.view.q.where_, s.sess.view.q.order, s.sess.view.q.down, s.sess.view.q.first, s.sess.view.q.show_, s.sess.view.q.kids, s.sess.view.q.kidTable, s.sess.view.q.kidCol, s.sess.view.rows, s.sess.view.kids, s.sess.version, s.sess.last.q.table, s.sess.last.q.where_, s.sess.last.q.order, s.sess.last.q.down, s.sess.last.q.first, s.sess.last.q.show_, s.sess.last.q.kids, s.sess.last.q.kidTable, s.sess.last.q.kidCol, s.sess.last.rows, s.sess.last.kids, s.sess.lastVersion, s.sess.began, s.line.wait, s.line.gone, s.sent, s.came, s.gone, ())
def TServer.p (m : M) : List Pat := [.sl m .int, .i .i64, .sl m .s_lRow, .sl m .s_lChange, .sl m .lSeat]
def TServer.q1 (m : M) : List Pat := [.sl m .int, .i .i64, .sl m .s_iRow, .sl m .s_iChange, .sl m .iSeat]
abbrev TServer.c : Type := (List Int) × Int × (List (List TRow)) × (List (List TChange)) × (List TSeat) × Unit
def TServer.of : TServer.c → TServer := fun (x0, x1, x2, x3, x4, _) => ⟨⟨⟨⟨x0⟩, x1, x2⟩, x3⟩, x4⟩
def TServer.to (s : TServer) : TServer.c := (s.record.first.schema.cols, s.record.first.version, s.record.first.tables, s.record.steps, s.seats, ())

def laws_szIntS.d : FD Int := ⟨77, 12, 1, [.sl .v .int, .i .i64], [.i .i64], fun (a0, _) => a0, fun r => (r, ()), [.v, .v], [.v], [.k], [.tmp 4], [], [], [], []⟩
def laws_szIntS.F (n : Nat) : Pat.Ts laws_szIntS.d.ps → Option Int := fun (a0, a1, _) => laws_szIntS n a0 a1

def laws_szSchema.d : FD Int := ⟨42, 12, 1, [.ag [.sl .v .int], .i .i64], [.i .i64], fun (a0, _) => a0, fun r => (r, ()), [.ag [.v], .v], [.v], [.k], [.tmp 4], [], [], [], []⟩
def laws_szSchema.F (n : Nat) : Pat.Ts laws_szSchema.d.ps → Option Int := fun (a0, a1, _) => laws_szSchema n (TSchema.of a0) a1

def laws_szRow.d : FD Int := ⟨112, 12, 1, [.ag (TRow.p .v), .i .i64], [.i .i64], fun (a0, _) => a0, fun r => (r, ()), [.ag [.v, .v], .v], [.v], [.k], [.tmp 4], [], [], [], []⟩
def laws_szRow.F (n : Nat) : Pat.Ts laws_szRow.d.ps → Option Int := fun (a0, a1, _) => laws_szRow n (TRow.of a0) a1

def laws_szRowS.p7 : OD := ⟨[(0, .view .lRow), (1, .k), (5, .k)], [.sl .v .lRow, .i .i64, .i .i64], [.ext]⟩
def laws_szRowS.o0 : OD := ⟨[(1, .k)], [.i .i64], [.ext]⟩
def laws_szRowS.d : FD Int := ⟨78, 27, 1, [.sl .v .lRow, .i .i64], [.i .i64], fun (a0, _) => a0, fun r => (r, ()), [.v, .v], [.v], [.k], [.tmp 4], [], [(7, laws_szRowS.p7)], [], [(0, laws_szRowS.o0)]⟩
def laws_szRowS.F (n : Nat) : Pat.Ts laws_szRowS.d.ps → Option Int := fun (a0, a1, _) => laws_szRowS n a0 a1

def laws_szRowSS.p7 : OD := ⟨[(0, .view .s_lRow), (1, .k), (5, .k)], [.sl .v .s_lRow, .i .i64, .i .i64], [.ext]⟩
def laws_szRowSS.o0 : OD := ⟨[(1, .k)], [.i .i64], [.ext]⟩
def laws_szRowSS.d : FD Int := ⟨43, 27, 1, [.sl .v .s_lRow, .i .i64], [.i .i64], fun (a0, _) => a0, fun r => (r, ()), [.v, .v], [.v], [.k], [.tmp 4], [], [(7, laws_szRowSS.p7)], [], [(0, laws_szRowSS.o0)]⟩
def laws_szRowSS.F (n : Nat) : Pat.Ts laws_szRowSS.d.ps → Option Int := fun (a0, a1, _) => laws_szRowSS n a0 a1

def laws_szStore.d : FD Int := ⟨26, 18, 1, [.ag (TStore.p .v), .i .i64], [.i .i64], fun (a0, _) => a0, fun r => (r, ()), [.ag [.v, .v, .v], .v], [.v], [.k], [.tmp 4], [], [], [], []⟩
def laws_szStore.F (n : Nat) : Pat.Ts laws_szStore.d.ps → Option Int := fun (a0, a1, _) => laws_szStore n (TStore.of a0) a1

def laws_szChange.d : FD Int := ⟨79, 18, 1, [.ag (TChange.p .v), .i .i64], [.i .i64], fun (a0, _) => a0, fun r => (r, ()), [.ag [.v, .v, .v, .v, .v, .v, .v], .v], [.v], [.k], [.tmp 4], [], [], [], []⟩
def laws_szChange.F (n : Nat) : Pat.Ts laws_szChange.d.ps → Option Int := fun (a0, a1, _) => laws_szChange n (TChange.of a0) a1

def laws_szChangeS.p7 : OD := ⟨[(0, .view .lChange), (1, .k), (5, .k)], [.sl .v .lChange, .i .i64, .i .i64], [.ext]⟩
def laws_szChangeS.o0 : OD := ⟨[(1, .k)], [.i .i64], [.ext]⟩
def laws_szChangeS.d : FD Int := ⟨44, 27, 1, [.sl .v .lChange, .i .i64], [.i .i64], fun (a0, _) => a0, fun r => (r, ()), [.v, .v], [.v], [.k], [.tmp 4], [], [(7, laws_szChangeS.p7)], [], [(0, laws_szChangeS.o0)]⟩
def laws_szChangeS.F (n : Nat) : Pat.Ts laws_szChangeS.d.ps → Option Int := fun (a0, a1, _) => laws_szChangeS n a0 a1

def laws_szChangeSS.p7 : OD := ⟨[(0, .view .s_lChange), (1, .k), (5, .k)], [.sl .v .s_lChange, .i .i64, .i .i64], [.ext]⟩
def laws_szChangeSS.o0 : OD := ⟨[(1, .k)], [.i .i64], [.ext]⟩
def laws_szChangeSS.d : FD Int := ⟨27, 27, 1, [.sl .v .s_lChange, .i .i64], [.i .i64], fun (a0, _) => a0, fun r => (r, ()), [.v, .v], [.v], [.k], [.tmp 4], [], [(7, laws_szChangeSS.p7)], [], [(0, laws_szChangeSS.o0)]⟩
def laws_szChangeSS.F (n : Nat) : Pat.Ts laws_szChangeSS.d.ps → Option Int := fun (a0, a1, _) => laws_szChangeSS n a0 a1

def laws_szRecord.d : FD Int := ⟨12, 18, 1, [.ag (TRecord.p .v), .i .i64], [.i .i64], fun (a0, _) => a0, fun r => (r, ()), [.ag [.v, .v, .v, .v], .v], [.v], [.k], [.tmp 4], [], [], [], []⟩
def laws_szRecord.F (n : Nat) : Pat.Ts laws_szRecord.d.ps → Option Int := fun (a0, a1, _) => laws_szRecord n (TRecord.of a0) a1

def laws_szCondS.d : FD Int := ⟨133, 12, 1, [.sl .v .lCond, .i .i64], [.i .i64], fun (a0, _) => a0, fun r => (r, ()), [.v, .v], [.v], [.k], [.tmp 4], [], [], [], []⟩
def laws_szCondS.F (n : Nat) : Pat.Ts laws_szCondS.d.ps → Option Int := fun (a0, a1, _) => laws_szCondS n a0 a1

def laws_szQuery.d : FD Int := ⟨113, 18, 1, [.ag (TQuery.q1 .v), .i .i64], [.i .i64], fun (a0, _) => a0, fun r => (r, ()), [.ag [.v, .v, .v, .v, .v, .v, .v, .v, .v], .v], [.v], [.k], [.tmp 4], [], [], [], []⟩
def laws_szQuery.F (n : Nat) : Pat.Ts laws_szQuery.d.ps → Option Int := fun (a0, a1, _) => laws_szQuery n (TQuery.of a0) a1

def laws_szKidS.d : FD Int := ⟨114, 12, 1, [.sl .v .lKid, .i .i64], [.i .i64], fun (a0, _) => a0, fun r => (r, ()), [.v, .v], [.v], [.k], [.tmp 4], [], [], [], []⟩
def laws_szKidS.F (n : Nat) : Pat.Ts laws_szKidS.d.ps → Option Int := fun (a0, a1, _) => laws_szKidS n a0 a1

def laws_szView.d : FD Int := ⟨80, 24, 1, [.ag (TView.q1 .v), .i .i64], [.i .i64], fun (a0, _) => a0, fun r => (r, ()), [.ag [.v, .v, .v, .v, .v, .v, .v, .v, .v, .v, .v], .v], [.v], [.k], [.tmp 4], [], [], [], []⟩
def laws_szView.F (n : Nat) : Pat.Ts laws_szView.d.ps → Option Int := fun (a0, a1, _) => laws_szView n (TView.of a0) a1

def laws_szSess.d : FD Int := ⟨45, 18, 1, [.ag (TSess.q1 .v), .i .i64], [.i .i64], fun (a0, _) => a0, fun r => (r, ()), [.ag [.v, .v, .v, .v, .v, .v, .v, .v, .v, .v, .v, .v, .v, .v, .v, .v, .v, .v, .v, .v, .v, .v, .v, .v, .v], .v], [.v], [.k], [.tmp 4], [], [], [], []⟩
def laws_szSess.F (n : Nat) : Pat.Ts laws_szSess.d.ps → Option Int := fun (a0, a1, _) => laws_szSess n (TSess.of a0) a1

def laws_szLine.d : FD Int := ⟨46, 13, 1, [.ag (TLine.p .v), .i .i64], [.i .i64], fun (a0, _) => a0, fun r => (r, ()), [.ag [.v, .v], .v], [.v], [.k], [.tmp 4], [], [], [], []⟩
def laws_szLine.F (n : Nat) : Pat.Ts laws_szLine.d.ps → Option Int := fun (a0, a1, _) => laws_szLine n (TLine.of a0) a1

def laws_szSeat.d : FD Int := ⟨28, 32, 1, [.ag (TSeat.q1 .v), .i .i64], [.i .i64], fun (a0, _) => a0, fun r => (r, ()), [.ag [.v, .v, .v, .v, .v, .v, .v, .v, .v, .v, .v, .v, .v, .v, .v, .v, .v, .v, .v, .v, .v, .v, .v, .v, .v, .v, .v, .v, .v, .v], .v], [.v], [.k], [.tmp 4], [], [], [], []⟩
def laws_szSeat.F (n : Nat) : Pat.Ts laws_szSeat.d.ps → Option Int := fun (a0, a1, _) => laws_szSeat n (TSeat.of a0) a1

def laws_szSeatS.p7 : OD := ⟨[(0, .view .lSeat), (1, .k), (5, .k)], [.sl .v .lSeat, .i .i64, .i .i64], [.ext]⟩
def laws_szSeatS.o0 : OD := ⟨[(1, .k)], [.i .i64], [.ext]⟩
def laws_szSeatS.d : FD Int := ⟨13, 27, 1, [.sl .v .lSeat, .i .i64], [.i .i64], fun (a0, _) => a0, fun r => (r, ()), [.v, .v], [.v], [.k], [.tmp 4], [], [(7, laws_szSeatS.p7)], [], [(0, laws_szSeatS.o0)]⟩
def laws_szSeatS.F (n : Nat) : Pat.Ts laws_szSeatS.d.ps → Option Int := fun (a0, a1, _) => laws_szSeatS n a0 a1

def laws_szServer.d : FD Int := ⟨5, 18, 1, [.ag (TServer.p .v), .i .i64], [.i .i64], fun (a0, _) => a0, fun r => (r, ()), [.ag [.v, .v, .v, .v, .v], .v], [.v], [.k], [.tmp 4], [], [], [], []⟩
def laws_szServer.F (n : Nat) : Pat.Ts laws_szServer.d.ps → Option Int := fun (a0, a1, _) => laws_szServer n (TServer.of a0) a1

def laws_toIntS.p4 : OD := ⟨[(0, .view .int), (3, .own .d .int), (4, .k)], [.sl .v .int, .rt 1, .i .i64], [.ext, .arr .d .int 2]⟩
def laws_toIntS.o0 : OD := ⟨[(3, .own .d .int)], [.rt 1], [.ext, .arr .d .int 2]⟩
def laws_toIntS.d : FD (List Int) := ⟨88, 22, 1, [.sl .v .int], [.sl .d .int], fun (a0, _) => a0, fun r => (r, ()), [.v], [.o], [.own .d .int], [.tmp 2], [], [(4, laws_toIntS.p4)], [], [(0, laws_toIntS.o0)]⟩
def laws_toIntS.F (n : Nat) : Pat.Ts laws_toIntS.d.ps → Option (List Int) := fun (a0, _) => laws_toIntS n a0

def laws_toSchema.d : FD TSchema := ⟨60, 9, 1, [.ag [.sl .v .int]], [.ag [.sl .d .int]], fun (a0, _) => (TSchema.of a0), fun r => (TSchema.to r, ()), [.ag [.v]], [.ag [.o]], [.ag [.own .d .int]], [.cell 2 36], [], [], [], []⟩
def laws_toSchema.F (n : Nat) : Pat.Ts laws_toSchema.d.ps → Option TSchema := fun (a0, _) => laws_toSchema n (TSchema.of a0)

def laws_toRow.d : FD TRow := ⟨116, 12, 1, [.ag (TRow.p .v)], [.ag (TRow.p .d)], fun (a0, _) => (TRow.of a0), fun r => (TRow.to r, ()), [.ag [.v, .v]], [.ag [.v, .o]], [.ag [.k, .own .d .int]], [.cell 2 112], [], [], [], []⟩
def laws_toRow.F (n : Nat) : Pat.Ts laws_toRow.d.ps → Option TRow := fun (a0, _) => laws_toRow n (TRow.of a0)

def laws_toRowS.p4 : OD := ⟨[(0, .view .lRow), (3, .own .d .iRow), (4, .k)], [.sl .v .lRow, .rt 1, .i .i64], [.ext, .arr .d .iRow 2]⟩
def laws_toRowS.o0 : OD := ⟨[(3, .own .d .iRow)], [.rt 1], [.ext, .arr .d .iRow 2]⟩
def laws_toRowS.d : FD (List TRow) := ⟨89, 23, 1, [.sl .v .lRow], [.sl .d .iRow], fun (a0, _) => a0, fun r => (r, ()), [.v], [.o], [.own .d .iRow], [.tmp 2], [], [(4, laws_toRowS.p4)], [], [(0, laws_toRowS.o0)]⟩
def laws_toRowS.F (n : Nat) : Pat.Ts laws_toRowS.d.ps → Option (List TRow) := fun (a0, _) => laws_toRowS n a0

def laws_toRowSS.p4 : OD := ⟨[(0, .view .s_lRow), (3, .own .d .s_iRow), (4, .k)], [.sl .v .s_lRow, .rt 1, .i .i64], [.ext, .arr .d .s_iRow 2]⟩
def laws_toRowSS.o0 : OD := ⟨[(3, .own .d .s_iRow)], [.rt 1], [.ext, .arr .d .s_iRow 2]⟩
def laws_toRowSS.d : FD (List (List TRow)) := ⟨61, 23, 1, [.sl .v .s_lRow], [.sl .d .s_iRow], fun (a0, _) => a0, fun r => (r, ()), [.v], [.o], [.own .d .s_iRow], [.tmp 2], [], [(4, laws_toRowSS.p4)], [], [(0, laws_toRowSS.o0)]⟩
def laws_toRowSS.F (n : Nat) : Pat.Ts laws_toRowSS.d.ps → Option (List (List TRow)) := fun (a0, _) => laws_toRowSS n a0

def laws_toStore.d : FD TStore := ⟨34, 16, 1, [.ag (TStore.p .v)], [.ag (TStore.q1 .d)], fun (a0, _) => (TStore.of a0), fun r => (TStore.to r, ()), [.ag [.v, .v, .v]], [.ag [.o, .v, .o]], [.ag [.own .d .int, .k, .own .d .s_iRow]], [.cell 2 39], [], [], [], []⟩
def laws_toStore.F (n : Nat) : Pat.Ts laws_toStore.d.ps → Option TStore := fun (a0, _) => laws_toStore n (TStore.of a0)

def laws_toChange.d : FD TChange := ⟨90, 22, 1, [.ag (TChange.p .v)], [.ag (TChange.p .d)], fun (a0, _) => (TChange.of a0), fun r => (TChange.to r, ()), [.ag [.v, .v, .v, .v, .v, .v, .v]], [.ag [.v, .v, .v, .v, .o, .v, .o]], [.ag [.k, .k, .k, .k, .own .d .int, .k, .own .d .int]], [.cell 2 114], [], [], [], []⟩
def laws_toChange.F (n : Nat) : Pat.Ts laws_toChange.d.ps → Option TChange := fun (a0, _) => laws_toChange n (TChange.of a0)

def laws_toChangeS.p4 : OD := ⟨[(0, .view .lChange), (3, .own .d .iChange), (4, .k)], [.sl .v .lChange, .rt 1, .i .i64], [.ext, .arr .d .iChange 2]⟩
def laws_toChangeS.o0 : OD := ⟨[(3, .own .d .iChange)], [.rt 1], [.ext, .arr .d .iChange 2]⟩
def laws_toChangeS.d : FD (List TChange) := ⟨62, 23, 1, [.sl .v .lChange], [.sl .d .iChange], fun (a0, _) => a0, fun r => (r, ()), [.v], [.o], [.own .d .iChange], [.tmp 2], [], [(4, laws_toChangeS.p4)], [], [(0, laws_toChangeS.o0)]⟩
def laws_toChangeS.F (n : Nat) : Pat.Ts laws_toChangeS.d.ps → Option (List TChange) := fun (a0, _) => laws_toChangeS n a0

def laws_toChangeSS.p4 : OD := ⟨[(0, .view .s_lChange), (3, .own .d .s_iChange), (4, .k)], [.sl .v .s_lChange, .rt 1, .i .i64], [.ext, .arr .d .s_iChange 2]⟩
def laws_toChangeSS.o0 : OD := ⟨[(3, .own .d .s_iChange)], [.rt 1], [.ext, .arr .d .s_iChange 2]⟩
def laws_toChangeSS.d : FD (List (List TChange)) := ⟨35, 23, 1, [.sl .v .s_lChange], [.sl .d .s_iChange], fun (a0, _) => a0, fun r => (r, ()), [.v], [.o], [.own .d .s_iChange], [.tmp 2], [], [(4, laws_toChangeSS.p4)], [], [(0, laws_toChangeSS.o0)]⟩
def laws_toChangeSS.F (n : Nat) : Pat.Ts laws_toChangeSS.d.ps → Option (List (List TChange)) := fun (a0, _) => laws_toChangeSS n a0

def laws_toRecord.d : FD TRecord := ⟨18, 13, 1, [.ag (TRecord.p .v)], [.ag (TRecord.q1 .d)], fun (a0, _) => (TRecord.of a0), fun r => (TRecord.to r, ()), [.ag [.v, .v, .v, .v]], [.ag [.o, .v, .o, .o]], [.ag [.own .d .int, .k, .own .d .s_iRow, .own .d .s_iChange]], [.cell 2 42], [], [], [], []⟩
def laws_toRecord.F (n : Nat) : Pat.Ts laws_toRecord.d.ps → Option TRecord := fun (a0, _) => laws_toRecord n (TRecord.of a0)

def laws_toCond.d : FD TCond := ⟨141, 14, 1, [.ag (TCond.p .v)], [.ag (TCond.p .v)], fun (a0, _) => (TCond.of a0), fun r => (TCond.to r, ()), [.ag [.v, .v, .v]], [.ag [.v, .v, .v]], [.ag [.k, .k, .k]], [.cell 2 153], [], [], [], []⟩
def laws_toCond.F (n : Nat) : Pat.Ts laws_toCond.d.ps → Option TCond := fun (a0, _) => laws_toCond n (TCond.of a0)

def laws_toCondS.p4 : OD := ⟨[(0, .view .lCond), (3, .own .d .iCond), (4, .k)], [.sl .v .lCond, .rt 1, .i .i64], [.ext, .arr .d .iCond 2]⟩
def laws_toCondS.o0 : OD := ⟨[(3, .own .d .iCond)], [.rt 1], [.ext, .arr .d .iCond 2]⟩
def laws_toCondS.d : FD (List TCond) := ⟨134, 23, 1, [.sl .v .lCond], [.sl .d .iCond], fun (a0, _) => a0, fun r => (r, ()), [.v], [.o], [.own .d .iCond], [.tmp 2], [], [(4, laws_toCondS.p4)], [], [(0, laws_toCondS.o0)]⟩
def laws_toCondS.F (n : Nat) : Pat.Ts laws_toCondS.d.ps → Option (List TCond) := fun (a0, _) => laws_toCondS n a0

def laws_toQuery.d : FD TQuery := ⟨117, 34, 1, [.ag (TQuery.q1 .v)], [.ag (TQuery.p .d)], fun (a0, _) => (TQuery.of a0), fun r => (TQuery.to r, ()), [.ag [.v, .v, .v, .v, .v, .v, .v, .v, .v]], [.ag [.v, .o, .v, .v, .v, .o, .v, .v, .v]], [.ag [.k, .own .d .iCond, .k, .k, .k, .own .d .int, .k, .k, .k]], [.cell 2 56], [], [], [], []⟩
def laws_toQuery.F (n : Nat) : Pat.Ts laws_toQuery.d.ps → Option TQuery := fun (a0, _) => laws_toQuery n (TQuery.of a0)

def laws_toKid.d : FD TKid := ⟨135, 11, 1, [.ag (TKid.p .v)], [.ag (TKid.p .v)], fun (a0, _) => (TKid.of a0), fun r => (TKid.to r, ()), [.ag [.v, .v]], [.ag [.v, .v]], [.ag [.k, .k]], [.cell 2 125], [], [], [], []⟩
def laws_toKid.F (n : Nat) : Pat.Ts laws_toKid.d.ps → Option TKid := fun (a0, _) => laws_toKid n (TKid.of a0)

def laws_toKidS.p4 : OD := ⟨[(0, .view .lKid), (3, .own .d .iKid), (4, .k)], [.sl .v .lKid, .rt 1, .i .i64], [.ext, .arr .d .iKid 2]⟩
def laws_toKidS.o0 : OD := ⟨[(3, .own .d .iKid)], [.rt 1], [.ext, .arr .d .iKid 2]⟩
def laws_toKidS.d : FD (List TKid) := ⟨118, 23, 1, [.sl .v .lKid], [.sl .d .iKid], fun (a0, _) => a0, fun r => (r, ()), [.v], [.o], [.own .d .iKid], [.tmp 2], [], [(4, laws_toKidS.p4)], [], [(0, laws_toKidS.o0)]⟩
def laws_toKidS.F (n : Nat) : Pat.Ts laws_toKidS.d.ps → Option (List TKid) := fun (a0, _) => laws_toKidS n a0

def laws_toView.d : FD TView := ⟨91, 17, 1, [.ag (TView.q1 .v)], [.ag (TView.p .d)], fun (a0, _) => (TView.of a0), fun r => (TView.to r, ()), [.ag [.v, .v, .v, .v, .v, .v, .v, .v, .v, .v, .v]], [.ag [.v, .o, .v, .v, .v, .o, .v, .v, .v, .o, .o]], [.ag [.k, .own .d .iCond, .k, .k, .k, .own .d .int, .k, .k, .k, .own .d .iRow, .own .d .iKid]], [.cell 2 60], [], [], [], []⟩
def laws_toView.F (n : Nat) : Pat.Ts laws_toView.d.ps → Option TView := fun (a0, _) => laws_toView n (TView.of a0)

def laws_toSess.d : FD TSess := ⟨63, 22, 1, [.ag (TSess.q1 .v)], [.ag (TSess.p .d)], fun (a0, _) => (TSess.of a0), fun r => (TSess.to r, ()), [.ag [.v, .v, .v, .v, .v, .v, .v, .v, .v, .v, .v, .v, .v, .v, .v, .v, .v, .v, .v, .v, .v, .v, .v, .v, .v]], [.ag [.v, .o, .v, .v, .v, .o, .v, .v, .v, .o, .o, .v, .v, .o, .v, .v, .v, .o, .v, .v, .v, .o, .o, .v, .v]], [.ag [.k, .own .d .iCond, .k, .k, .k, .own .d .int, .k, .k, .k, .own .d .iRow, .own .d .iKid, .k, .k, .own .d .iCond, .k, .k, .k, .own .d .int, .k, .k, .k, .own .d .iRow, .own .d .iKid, .k, .k]], [.cell 2 62], [], [], [], []⟩
def laws_toSess.F (n : Nat) : Pat.Ts laws_toSess.d.ps → Option TSess := fun (a0, _) => laws_toSess n (TSess.of a0)

def laws_toLine.d : FD TLine := ⟨64, 11, 1, [.ag (TLine.p .v)], [.ag (TLine.p .v)], fun (a0, _) => (TLine.of a0), fun r => (TLine.to r, ()), [.ag [.v, .v]], [.ag [.v, .v]], [.ag [.k, .k]], [.cell 2 64], [], [], [], []⟩
def laws_toLine.F (n : Nat) : Pat.Ts laws_toLine.d.ps → Option TLine := fun (a0, _) => laws_toLine n (TLine.of a0)

def laws_toSeat.d : FD TSeat := ⟨36, 22, 1, [.ag (TSeat.q1 .v)], [.ag (TSeat.p .d)], fun (a0, _) => (TSeat.of a0), fun r => (TSeat.to r, ()), [.ag [.v, .v, .v, .v, .v, .v, .v, .v, .v, .v, .v, .v, .v, .v, .v, .v, .v, .v, .v, .v, .v, .v, .v, .v, .v, .v, .v, .v, .v, .v]], [.ag [.v, .o, .v, .v, .v, .o, .v, .v, .v, .o, .o, .v, .v, .o, .v, .v, .v, .o, .v, .v, .v, .o, .o, .v, .v, .v, .v, .v, .v, .v]], [.ag [.k, .own .d .iCond, .k, .k, .k, .own .d .int, .k, .k, .k, .own .d .iRow, .own .d .iKid, .k, .k, .own .d .iCond, .k, .k, .k, .own .d .int, .k, .k, .k, .own .d .iRow, .own .d .iKid, .k, .k, .k, .k, .k, .k, .k]], [.cell 2 66], [], [], [], []⟩
def laws_toSeat.F (n : Nat) : Pat.Ts laws_toSeat.d.ps → Option TSeat := fun (a0, _) => laws_toSeat n (TSeat.of a0)

def laws_toSeatS.p4 : OD := ⟨[(0, .view .lSeat), (3, .own .d .iSeat), (4, .k)], [.sl .v .lSeat, .rt 1, .i .i64], [.ext, .arr .d .iSeat 2]⟩
def laws_toSeatS.o0 : OD := ⟨[(3, .own .d .iSeat)], [.rt 1], [.ext, .arr .d .iSeat 2]⟩
def laws_toSeatS.d : FD (List TSeat) := ⟨19, 23, 1, [.sl .v .lSeat], [.sl .d .iSeat], fun (a0, _) => a0, fun r => (r, ()), [.v], [.o], [.own .d .iSeat], [.tmp 2], [], [(4, laws_toSeatS.p4)], [], [(0, laws_toSeatS.o0)]⟩
def laws_toSeatS.F (n : Nat) : Pat.Ts laws_toSeatS.d.ps → Option (List TSeat) := fun (a0, _) => laws_toSeatS n a0

def laws_toServer.d : FD TServer := ⟨7, 13, 1, [.ag (TServer.p .v)], [.ag (TServer.q1 .d)], fun (a0, _) => (TServer.of a0), fun r => (TServer.to r, ()), [.ag [.v, .v, .v, .v, .v]], [.ag [.o, .v, .o, .o, .o]], [.ag [.own .d .int, .k, .own .d .s_iRow, .own .d .s_iChange, .own .d .iSeat]], [.cell 2 45], [], [], [], []⟩
def laws_toServer.F (n : Nat) : Pat.Ts laws_toServer.d.ps → Option TServer := fun (a0, _) => laws_toServer n (TServer.of a0)

def spec_l1In.d : FD Bool := ⟨16, 15, 1, (TCond.p .v), [.b], fun (a0, _) => a0, fun r => (r, ()), [.v, .v, .v], [.v], [.k], [.tmp 6], [], [], [], []⟩
def spec_l1In.F (n : Nat) : Pat.Ts spec_l1In.d.ps → Option Bool := fun (a0, a1, a2, _) => spec_l1In n a0 a1 a2

def spec_SchemaOk.p3 : OD := ⟨[(1, .box [.view .int]), (3, .k)], [.pb 1 0, .i .i64], [.ext, .box [.sl .v .int]]⟩
def spec_SchemaOk.o0 : OD := ⟨[(1, .box [.view .int])], [.pb 1 0], [.ext, .box [.sl .v .int]]⟩
def spec_SchemaOk.d : FD Bool := ⟨50, 22, 1, [.ag [.sl .v .int]], [.b], fun (a0, _) => a0, fun r => (r, ()), [.ag [.v]], [.v], [.k], [.tmp 2], [], [(3, spec_SchemaOk.p3)], [], [(0, spec_SchemaOk.o0)]⟩
def spec_SchemaOk.F (n : Nat) : Pat.Ts spec_SchemaOk.d.ps → Option Bool := fun (a0, _) => spec_SchemaOk n (TSchema.of a0)

def spec_RowOk.p6 : OD := ⟨[(5, .box [.k, .view .int]), (7, .k)], [.pb 1 0, .i .i64], [.ext, .box (TRow.p .v)]⟩
def spec_RowOk.o0 : OD := ⟨[], [], [.ext]⟩
def spec_RowOk.d : FD Bool := ⟨53, 51, 1, [.ag [.sl .v .int], .i .i64, .ag (TRow.p .v)], [.b], fun (a0, _) => a0, fun r => (r, ()), [.ag [.v], .v, .ag [.v, .v]], [.v], [.k], [.tmp 6], [], [(6, spec_RowOk.p6)], [], [(0, spec_RowOk.o0)]⟩
def spec_RowOk.F (n : Nat) : Pat.Ts spec_RowOk.d.ps → Option Bool := fun (a0, a1, a2, _) => spec_RowOk n (TSchema.of a0) a1 (TRow.of a2)

def spec_RowsOk.p3 : OD := ⟨[(1, .k), (2, .view .iRow), (3, .box [.view .int]), (7, .k)], [.i .i64, .sl .v .iRow, .pb 1 0, .i .i64], [.ext, .box [.sl .v .int]]⟩
def spec_RowsOk.o0 : OD := ⟨[(1, .k), (2, .view .iRow), (3, .box [.view .int])], [.i .i64, .sl .v .iRow, .pb 1 0], [.ext, .box [.sl .v .int]]⟩
def spec_RowsOk.d : FD Bool := ⟨51, 55, 1, [.ag [.sl .v .int], .i .i64, .sl .v .iRow], [.b], fun (a0, _) => a0, fun r => (r, ()), [.ag [.v], .v, .v], [.v], [.k], [.tmp 6], [], [(3, spec_RowsOk.p3)], [], [(0, spec_RowsOk.o0)]⟩
def spec_RowsOk.F (n : Nat) : Pat.Ts spec_RowsOk.d.ps → Option Bool := fun (a0, a1, a2, _) => spec_RowsOk n (TSchema.of a0) a1 a2

def spec_StoreOk.p6 : OD := ⟨[(1, .box [.view .int, .k, .view .s_iRow]), (3, .k)], [.pb 1 0, .i .i64], [.ext, .box (TStore.q1 .v)]⟩
def spec_StoreOk.o0 : OD := ⟨[], [], [.ext]⟩
def spec_StoreOk.d : FD Bool := ⟨30, 41, 1, [.ag (TStore.q1 .v)], [.b], fun (a0, _) => a0, fun r => (r, ()), [.ag [.v, .v, .v]], [.v], [.k], [.tmp 2], [], [(6, spec_StoreOk.p6)], [], [(0, spec_StoreOk.o0)]⟩
def spec_StoreOk.F (n : Nat) : Pat.Ts spec_StoreOk.d.ps → Option Bool := fun (a0, _) => spec_StoreOk n (TStore.of a0)

def spec_l7Schema.d : FD TSchema := ⟨81, 8, 1, [.ag [.sl .v .int]], [.ag [.sl .d .int]], fun (a0, _) => (TSchema.of a0), fun r => (TSchema.to r, ()), [.ag [.v]], [.ag [.o]], [.ag [.own .d .int]], [.cell 2 36], [], [], [], []⟩
def spec_l7Schema.F (n : Nat) : Pat.Ts spec_l7Schema.d.ps → Option TSchema := fun (a0, _) => spec_l7Schema n (TSchema.of a0)

def spec_l6Copy.d : FD TRow := ⟨115, 10, 1, [.ag (TRow.p .v)], [.ag (TRow.p .d)], fun (a0, _) => (TRow.of a0), fun r => (TRow.to r, ()), [.ag [.v, .v]], [.ag [.v, .o]], [.ag [.k, .own .d .int]], [.cell 2 112], [], [], [], []⟩
def spec_l6Copy.F (n : Nat) : Pat.Ts spec_l6Copy.d.ps → Option TRow := fun (a0, _) => spec_l6Copy n (TRow.of a0)

def spec_l6Rows.p4 : OD := ⟨[(0, .view .iRow), (3, .own .d .iRow), (4, .k)], [.sl .v .iRow, .rt 1, .i .i64], [.ext, .arr .d .iRow 2]⟩
def spec_l6Rows.o0 : OD := ⟨[(3, .own .d .iRow)], [.rt 1], [.ext, .arr .d .iRow 2]⟩
def spec_l6Rows.d : FD (List TRow) := ⟨82, 21, 1, [.sl .v .iRow], [.sl .d .iRow], fun (a0, _) => a0, fun r => (r, ()), [.v], [.o], [.own .d .iRow], [.tmp 2], [], [(4, spec_l6Rows.p4)], [], [(0, spec_l6Rows.o0)]⟩
def spec_l6Rows.F (n : Nat) : Pat.Ts spec_l6Rows.d.ps → Option (List TRow) := fun (a0, _) => spec_l6Rows n a0

def spec_l7Copy.p4 : OD := ⟨[(1, .box [.view .int, .k, .view .s_iRow]), (2, .box [.k, .k, .k]), (3, .box [.own .d .int, .k, .own .d .s_iRow]), (4, .k)], [.pb 1 0, .pb 2 0, .pb 3 0, .i .i64], [.ext, .box (TStore.q1 .v), .box [.nils, .i .i64, .nils], .box [.rt 4, .i .i64, .rt 5], .arr .d .int 2, .arr .d .s_iRow 2]⟩
def spec_l7Copy.o0 : OD := ⟨[(2, .box [.k, .k, .k]), (3, .box [.own .d .int, .k, .own .d .s_iRow])], [.pb 1 0, .pb 2 0], [.ext, .box [.nils, .i .i64, .nils], .box [.rt 3, .i .i64, .rt 4], .arr .d .int 2, .arr .d .s_iRow 2]⟩
def spec_l7Copy.d : FD TStore := ⟨47, 30, 1, [.ag (TStore.q1 .v)], [.ag (TStore.q1 .d)], fun (a0, _) => (TStore.of a0), fun r => (TStore.to r, ()), [.ag [.v, .v, .v]], [.ag [.o, .v, .o]], [.ag [.own .d .int, .k, .own .d .s_iRow]], [.cell 2 39], [], [(4, spec_l7Copy.p4)], [], [(0, spec_l7Copy.o0)]⟩
def spec_l7Copy.F (n : Nat) : Pat.Ts spec_l7Copy.d.ps → Option TStore := fun (a0, _) => spec_l7Copy n (TStore.of a0)

def spec_l8Zero.d : FD Bool := ⟨48, 12, 1, [.ag (TRow.p .v)], [.b], fun (a0, _) => a0, fun r => (r, ()), [.ag [.v, .v]], [.v], [.k], [.tmp 2], [], [], [], []⟩
def spec_l8Zero.F (n : Nat) : Pat.Ts spec_l8Zero.d.ps → Option Bool := fun (a0, _) => spec_l8Zero n (TRow.of a0)

def spec_RowAt.p3 : OD := ⟨[(0, .view .iRow), (1, .k), (5, .k)], [.sl .v .iRow, .i .i64, .i .i64], [.ext]⟩
def spec_RowAt.o0 : OD := ⟨[], [], [.ext]⟩
def spec_RowAt.d : FD Int := ⟨55, 20, 1, [.sl .v .iRow, .i .i64], [.i .i64], fun (a0, _) => a0, fun r => (r, ()), [.v, .v], [.v], [.k], [.tmp 4], [], [(3, spec_RowAt.p3)], [], [(0, spec_RowAt.o0)]⟩
def spec_RowAt.F (n : Nat) : Pat.Ts spec_RowAt.d.ps → Option Int := fun (a0, a1, _) => spec_RowAt n a0 a1

def spec_RowSame.p6 : OD := ⟨[(2, .box [.k, .view .int]), (3, .box [.k, .view .int]), (5, .k)], [.pb 1 0, .pb 2 0, .i .i64], [.ext, .box (TRow.p .v), .box (TRow.p .v)]⟩
def spec_RowSame.o0 : OD := ⟨[], [], [.ext]⟩
def spec_RowSame.d : FD Bool := ⟨57, 38, 1, [.ag (TRow.p .v), .ag (TRow.p .v)], [.b], fun (a0, _) => a0, fun r => (r, ()), [.ag [.v, .v], .ag [.v, .v]], [.v], [.k], [.tmp 4], [], [(6, spec_RowSame.p6)], [], [(0, spec_RowSame.o0)]⟩
def spec_RowSame.F (n : Nat) : Pat.Ts spec_RowSame.d.ps → Option Bool := fun (a0, a1, _) => spec_RowSame n (TRow.of a0) (TRow.of a1)

def spec_l7There.d : FD Bool := ⟨83, 37, 1, [.ag (TStore.q1 .v), .i .i64, .ag (TRow.p .v)], [.b], fun (a0, _) => a0, fun r => (r, ()), [.ag [.v, .v, .v], .v, .ag [.v, .v]], [.v], [.k], [.tmp 6], [], [], [], []⟩
def spec_l7There.F (n : Nat) : Pat.Ts spec_l7There.d.ps → Option Bool := fun (a0, a1, a2, _) => spec_l7There n (TStore.of a0) a1 (TRow.of a2)

def spec_RowDrop.p5 : OD := ⟨[(0, .view .iRow), (5, .k), (6, .own .d .iRow), (7, .k)], [.sl .v .iRow, .i .i64, .rt 1, .i .i64], [.ext, .arr .d .iRow 2]⟩
def spec_RowDrop.o0 : OD := ⟨[(6, .own .d .iRow)], [.rt 1], [.ext, .arr .d .iRow 2]⟩
def spec_RowDrop.d : FD (List TRow) := ⟨84, 30, 1, [.sl .v .iRow, .i .i64], [.sl .d .iRow], fun (a0, _) => a0, fun r => (r, ()), [.v, .v], [.o], [.own .d .iRow], [.tmp 4], [], [(5, spec_RowDrop.p5)], [], [(0, spec_RowDrop.o0)]⟩
def spec_RowDrop.F (n : Nat) : Pat.Ts spec_RowDrop.d.ps → Option (List TRow) := fun (a0, a1, _) => spec_RowDrop n a0 a1

def spec_RowPut.p6 : OD := ⟨[(3, .box [.k, .view .int]), (5, .own .d .iRow), (6, .k), (7, .k)], [.pb 1 0, .rt 2, .i .i64, .i .i64], [.ext, .box (TRow.p .v), .arr .d .iRow 2]⟩
def spec_RowPut.o0 : OD := ⟨[(3, .box [.k, .view .int]), (5, .own .d .iRow), (6, .k)], [.pb 1 0, .rt 2, .i .i64], [.ext, .box (TRow.p .v), .arr .d .iRow 2]⟩
def spec_RowPut.d : FD (List TRow) := ⟨85, 55, 1, [.sl .v .iRow, .ag (TRow.p .v)], [.sl .s .iRow], fun (a0, _) => a0, fun r => (r, ()), [.v, .ag [.v, .v]], [.o], [.own .s .iRow], [.tmp 4], [], [(6, spec_RowPut.p6)], [], [(0, spec_RowPut.o0)]⟩
def spec_RowPut.F (n : Nat) : Pat.Ts spec_RowPut.d.ps → Option (List TRow) := fun (a0, a1, _) => spec_RowPut n a0 (TRow.of a1)

def spec_l7Turn.d : FD (TStore × Bool) := ⟨49, 62, 3, [.ag [.sl .d .int, .i .i64, .sl .s .s_iRow], .ag (TChange.p .v)], [.ag [.sl .d .int, .i .i64, .sl .s .s_iRow], .b], fun (a0, a1, _) => ((TStore.of a0), a1), fun (a0, a1) => (TStore.to a0, a1, ()), [.ag [.o, .v, .o], .ag [.v, .v, .v, .v, .v, .v, .v]], [.ag [.o, .v, .o], .v], [.ag [.own .d .int, .k, .own .s .s_iRow], .k], [.cell 4 39, .tmp 5], [], [], [], []⟩
def spec_l7Turn.F (n : Nat) : Pat.Ts spec_l7Turn.d.ps → Option (TStore × Bool) := fun (a0, a1, _) => spec_l7Turn n (TStore.of a0) (TChange.of a1)

def spec_Forward.p7 : OD := ⟨[(1, .view .iChange), (2, .box [.view .int, .k, .view .s_iRow]), (4, .box [.k, .k, .k]), (6, .box [.own .d .int, .k, .own .s .s_iRow]), (7, .k)], [.sl .v .iChange, .pb 1 0, .pb 2 0, .pb 3 0, .i .i64], [.ext, .box (TStore.q1 .v), .box [.nils, .i .i64, .nils], .box [.rt 4, .i .i64, .rt 5], .arr .d .int 2, .arr .s .s_iRow 2]⟩
def spec_Forward.o0 : OD := ⟨[(2, .box [.view .int, .k, .view .s_iRow]), (4, .box [.k, .k, .k]), (6, .box [.own .d .int, .k, .own .s .s_iRow])], [.pb 1 0, .pb 2 0, .pb 3 0], [.ext, .box (TStore.q1 .v), .box [.nils, .i .i64, .nils], .box [.rt 4, .i .i64, .rt 5], .arr .d .int 2, .arr .s .s_iRow 2]⟩
def spec_Forward.d : FD (TStore × Bool) := ⟨29, 96, 1, [.ag (TStore.q1 .v), .sl .v .iChange], [.ag [.sl .d .int, .i .i64, .sl .s .s_iRow], .b], fun (a0, a1, _) => ((TStore.of a0), a1), fun (a0, a1) => (TStore.to a0, a1, ()), [.ag [.v, .v, .v], .v], [.ag [.o, .v, .o], .v], [.ag [.own .d .int, .k, .own .s .s_iRow], .k], [.cell 4 39, .tmp 5], [], [(7, spec_Forward.p7)], [], [(0, spec_Forward.o0)]⟩
def spec_Forward.F (n : Nat) : Pat.Ts spec_Forward.d.ps → Option (TStore × Bool) := fun (a0, a1, _) => spec_Forward n (TStore.of a0) a1

def spec_RecordOk.p4 : OD := ⟨[(1, .box [.view .int, .k, .view .s_iRow, .view .s_iChange]), (3, .box [.view .int, .k, .view .s_iRow]), (4, .k)], [.pb 1 0, .pb 2 0, .i .i64], [.ext, .box (TRecord.q1 .v), .box (TStore.q1 .v)]⟩
def spec_RecordOk.o0 : OD := ⟨[(1, .box [.view .int, .k, .view .s_iRow, .view .s_iChange]), (3, .box [.view .int, .k, .view .s_iRow])], [.pb 1 0, .pb 2 0], [.ext, .box (TRecord.q1 .v), .box (TStore.q1 .v)]⟩
def spec_RecordOk.d : FD Bool := ⟨14, 37, 1, [.ag (TRecord.q1 .v)], [.b], fun (a0, _) => a0, fun r => (r, ()), [.ag [.v, .v, .v, .v]], [.v], [.k], [.tmp 2], [], [(4, spec_RecordOk.p4)], [], [(0, spec_RecordOk.o0)]⟩
def spec_RecordOk.F (n : Nat) : Pat.Ts spec_RecordOk.d.ps → Option Bool := fun (a0, _) => spec_RecordOk n (TRecord.of a0)

def spec_QueryOk.p7 : OD := ⟨[(2, .box [.view .int]), (3, .box [.k, .view .iCond, .k, .k, .k, .view .int, .k, .k, .k]), (5, .k), (6, .k)], [.pb 1 0, .pb 2 0, .i .i64, .i .i64], [.ext, .box [.sl .v .int], .box (TQuery.p .v)]⟩
def spec_QueryOk.p16 : OD := ⟨[(2, .box [.view .int]), (3, .box [.k, .view .iCond, .k, .k, .k, .view .int, .k, .k, .k]), (5, .k), (8, .k)], [.pb 1 0, .pb 2 0, .i .i64, .i .i64], [.ext, .box [.sl .v .int], .box (TQuery.p .v)]⟩
def spec_QueryOk.o0 : OD := ⟨[(2, .box [.view .int]), (3, .box [.k, .view .iCond, .k, .k, .k, .view .int, .k, .k, .k]), (5, .k)], [.pb 1 0, .pb 2 0, .i .i64], [.ext, .box [.sl .v .int], .box (TQuery.p .v)]⟩
def spec_QueryOk.o2 : OD := ⟨[(2, .box [.view .int]), (3, .box [.k, .view .iCond, .k, .k, .k, .view .int, .k, .k, .k]), (5, .k)], [.pb 1 0, .pb 2 0, .i .i64], [.ext, .box [.sl .v .int], .box (TQuery.p .v)]⟩
def spec_QueryOk.d : FD Bool := ⟨52, 148, 1, [.ag [.sl .v .int], .ag (TQuery.p .v)], [.b], fun (a0, _) => a0, fun r => (r, ()), [.ag [.v], .ag [.v, .v, .v, .v, .v, .v, .v, .v, .v]], [.v], [.k], [.tmp 4], [], [(7, spec_QueryOk.p7), (16, spec_QueryOk.p16)], [], [(0, spec_QueryOk.o0), (2, spec_QueryOk.o2)]⟩
def spec_QueryOk.F (n : Nat) : Pat.Ts spec_QueryOk.d.ps → Option Bool := fun (a0, a1, _) => spec_QueryOk n (TSchema.of a0) (TQuery.of a1)

def spec_l9Holds.d : FD Bool := ⟨86, 46, 1, [.ag (TCond.p .v), .ag (TRow.p .v)], [.b], fun (a0, _) => a0, fun r => (r, ()), [.ag [.v, .v, .v], .ag [.v, .v]], [.v], [.k], [.tmp 4], [], [], [], []⟩
def spec_l9Holds.F (n : Nat) : Pat.Ts spec_l9Holds.d.ps → Option Bool := fun (a0, a1, _) => spec_l9Holds n (TCond.of a0) (TRow.of a1)

def spec_Matches.p3 : OD := ⟨[(2, .box [.k, .view .iCond, .k, .k, .k, .view .int, .k, .k, .k]), (3, .box [.k, .view .int]), (5, .k)], [.pb 1 0, .pb 2 0, .i .i64], [.ext, .box (TQuery.p .v), .box (TRow.p .v)]⟩
def spec_Matches.o0 : OD := ⟨[], [], [.ext]⟩
def spec_Matches.d : FD Bool := ⟨54, 21, 1, [.ag (TQuery.p .v), .ag (TRow.p .v)], [.b], fun (a0, _) => a0, fun r => (r, ()), [.ag [.v, .v, .v, .v, .v, .v, .v, .v, .v], .ag [.v, .v]], [.v], [.k], [.tmp 4], [], [(3, spec_Matches.p3)], [], [(0, spec_Matches.o0)]⟩
def spec_Matches.F (n : Nat) : Pat.Ts spec_Matches.d.ps → Option Bool := fun (a0, a1, _) => spec_Matches n (TQuery.of a0) (TRow.of a1)

def spec_l9Cell.d : FD Int := ⟨87, 17, 1, [.ag (TRow.p .v), .i .i64], [.i .i64], fun (a0, _) => a0, fun r => (r, ()), [.ag [.v, .v], .v], [.v], [.k], [.tmp 4], [], [], [], []⟩
def spec_l9Cell.F (n : Nat) : Pat.Ts spec_l9Cell.d.ps → Option Int := fun (a0, a1, _) => spec_l9Cell n (TRow.of a0) a1

def spec_Ahead.d : FD Bool := ⟨56, 36, 1, [.ag (TQuery.p .v), .ag (TRow.p .v), .ag (TRow.p .v)], [.b], fun (a0, _) => a0, fun r => (r, ()), [.ag [.v, .v, .v, .v, .v, .v, .v, .v, .v], .ag [.v, .v], .ag [.v, .v]], [.v], [.k], [.tmp 6], [], [], [], []⟩
def spec_Ahead.F (n : Nat) : Pat.Ts spec_Ahead.d.ps → Option Bool := fun (a0, a1, a2, _) => spec_Ahead n (TQuery.of a0) (TRow.of a1) (TRow.of a2)

def spec_ViewOk.p6 : OD := ⟨[(2, .box [.view .int]), (3, .box [.k, .view .iCond, .k, .k, .k, .view .int, .k, .k, .k, .view .iRow, .view .iKid]), (5, .k)], [.pb 1 0, .pb 2 0, .i .i64], [.ext, .box [.sl .v .int], .box (TView.p .v)]⟩
def spec_ViewOk.p15 : OD := ⟨[(3, .box [.k, .view .iCond, .k, .k, .k, .view .int, .k, .k, .k, .view .iRow, .view .iKid]), (7, .k)], [.pb 1 0, .i .i64], [.ext, .box (TView.p .v)]⟩
def spec_ViewOk.o0 : OD := ⟨[(3, .box [.k, .view .iCond, .k, .k, .k, .view .int, .k, .k, .k, .view .iRow, .view .iKid])], [.pb 1 0], [.ext, .box (TView.p .v)]⟩
def spec_ViewOk.o2 : OD := ⟨[(3, .box [.k, .view .iCond, .k, .k, .k, .view .int, .k, .k, .k, .view .iRow, .view .iKid])], [.pb 1 0], [.ext, .box (TView.p .v)]⟩
def spec_ViewOk.d : FD Bool := ⟨31, 115, 1, [.ag [.sl .v .int], .ag (TView.p .v)], [.b], fun (a0, _) => a0, fun r => (r, ()), [.ag [.v], .ag [.v, .v, .v, .v, .v, .v, .v, .v, .v, .v, .v]], [.v], [.k], [.tmp 4], [], [(6, spec_ViewOk.p6), (15, spec_ViewOk.p15)], [], [(0, spec_ViewOk.o0), (2, spec_ViewOk.o2)]⟩
def spec_ViewOk.F (n : Nat) : Pat.Ts spec_ViewOk.d.ps → Option Bool := fun (a0, a1, _) => spec_ViewOk n (TSchema.of a0) (TView.of a1)

def spec_l9Conds.p3 : OD := ⟨[(0, .view .iCond), (1, .view .iCond), (5, .k)], [.sl .v .iCond, .sl .v .iCond, .i .i64], [.ext]⟩
def spec_l9Conds.o0 : OD := ⟨[(0, .view .iCond), (1, .view .iCond)], [.sl .v .iCond, .sl .v .iCond], [.ext]⟩
def spec_l9Conds.d : FD Bool := ⟨58, 32, 1, [.sl .v .iCond, .sl .v .iCond], [.b], fun (a0, _) => a0, fun r => (r, ()), [.v, .v], [.v], [.k], [.tmp 4], [], [(3, spec_l9Conds.p3)], [], [(0, spec_l9Conds.o0)]⟩
def spec_l9Conds.F (n : Nat) : Pat.Ts spec_l9Conds.d.ps → Option Bool := fun (a0, a1, _) => spec_l9Conds n a0 a1

def spec_l9Ints.p3 : OD := ⟨[(0, .view .int), (1, .view .int), (5, .k)], [.sl .v .int, .sl .v .int, .i .i64], [.ext]⟩
def spec_l9Ints.o0 : OD := ⟨[(0, .view .int), (1, .view .int)], [.sl .v .int, .sl .v .int], [.ext]⟩
def spec_l9Ints.d : FD Bool := ⟨59, 32, 1, [.sl .v .int, .sl .v .int], [.b], fun (a0, _) => a0, fun r => (r, ()), [.v, .v], [.v], [.k], [.tmp 4], [], [(3, spec_l9Ints.p3)], [], [(0, spec_l9Ints.o0)]⟩
def spec_l9Ints.F (n : Nat) : Pat.Ts spec_l9Ints.d.ps → Option Bool := fun (a0, a1, _) => spec_l9Ints n a0 a1

def spec_QuerySame.d : FD Bool := ⟨33, 66, 1, [.ag (TQuery.p .v), .ag (TQuery.p .v)], [.b], fun (a0, _) => a0, fun r => (r, ()), [.ag [.v, .v, .v, .v, .v, .v, .v, .v, .v], .ag [.v, .v, .v, .v, .v, .v, .v, .v, .v]], [.v], [.k], [.tmp 4], [], [], [], []⟩
def spec_QuerySame.F (n : Nat) : Pat.Ts spec_QuerySame.d.ps → Option Bool := fun (a0, a1, _) => spec_QuerySame n (TQuery.of a0) (TQuery.of a1)

def spec_ViewSame.p6 : OD := ⟨[(2, .box [.k, .view .iCond, .k, .k, .k, .view .int, .k, .k, .k, .view .iRow, .view .iKid]), (3, .box [.k, .view .iCond, .k, .k, .k, .view .int, .k, .k, .k, .view .iRow, .view .iKid]), (5, .k)], [.pb 1 0, .pb 2 0, .i .i64], [.ext, .box (TView.p .v), .box (TView.p .v)]⟩
def spec_ViewSame.p14 : OD := ⟨[(2, .box [.k, .view .iCond, .k, .k, .k, .view .int, .k, .k, .k, .view .iRow, .view .iKid]), (3, .box [.k, .view .iCond, .k, .k, .k, .view .int, .k, .k, .k, .view .iRow, .view .iKid]), (6, .k)], [.pb 1 0, .pb 2 0, .i .i64], [.ext, .box (TView.p .v), .box (TView.p .v)]⟩
def spec_ViewSame.o0 : OD := ⟨[(2, .box [.k, .view .iCond, .k, .k, .k, .view .int, .k, .k, .k, .view .iRow, .view .iKid]), (3, .box [.k, .view .iCond, .k, .k, .k, .view .int, .k, .k, .k, .view .iRow, .view .iKid])], [.pb 1 0, .pb 2 0], [.ext, .box (TView.p .v), .box (TView.p .v)]⟩
def spec_ViewSame.o2 : OD := ⟨[], [], [.ext]⟩
def spec_ViewSame.d : FD Bool := ⟨32, 68, 1, [.ag (TView.p .v), .ag (TView.p .v)], [.b], fun (a0, _) => a0, fun r => (r, ()), [.ag [.v, .v, .v, .v, .v, .v, .v, .v, .v, .v, .v], .ag [.v, .v, .v, .v, .v, .v, .v, .v, .v, .v, .v]], [.v], [.k], [.tmp 4], [], [(6, spec_ViewSame.p6), (14, spec_ViewSame.p14)], [], [(0, spec_ViewSame.o0), (2, spec_ViewSame.o2)]⟩
def spec_ViewSame.F (n : Nat) : Pat.Ts spec_ViewSame.d.ps → Option Bool := fun (a0, a1, _) => spec_ViewSame n (TView.of a0) (TView.of a1)

def spec_SessOk.d : FD Bool := ⟨15, 48, 1, [.ag [.sl .v .int], .ag (TSess.p .v)], [.b], fun (a0, _) => a0, fun r => (r, ()), [.ag [.v], .ag [.v, .v, .v, .v, .v, .v, .v, .v, .v, .v, .v, .v, .v, .v, .v, .v, .v, .v, .v, .v, .v, .v, .v, .v, .v]], [.v], [.k], [.tmp 4], [], [], [], []⟩
def spec_SessOk.F (n : Nat) : Pat.Ts spec_SessOk.d.ps → Option Bool := fun (a0, a1, _) => spec_SessOk n (TSchema.of a0) (TSess.of a1)

def spec_Last.d : FD Int := ⟨17, 13, 1, [.ag (TRecord.q1 .v)], [.i .i64], fun (a0, _) => a0, fun r => (r, ()), [.ag [.v, .v, .v, .v]], [.v], [.k], [.tmp 2], [], [], [], []⟩
def spec_Last.F (n : Nat) : Pat.Ts spec_Last.d.ps → Option Int := fun (a0, _) => spec_Last n (TRecord.of a0)

def spec_ServerOk.p6 : OD := ⟨[(1, .box [.view .int, .k, .view .s_iRow, .view .s_iChange, .view .iSeat]), (3, .k)], [.pb 1 0, .i .i64], [.ext, .box (TServer.q1 .v)]⟩
def spec_ServerOk.o0 : OD := ⟨[], [], [.ext]⟩
def spec_ServerOk.d : FD Bool := ⟨6, 74, 1, [.ag (TServer.q1 .v)], [.b], fun (a0, _) => a0, fun r => (r, ()), [.ag [.v, .v, .v, .v, .v]], [.v], [.k], [.tmp 2], [], [(6, spec_ServerOk.p6)], [], [(0, spec_ServerOk.o0)]⟩
def spec_ServerOk.F (n : Nat) : Pat.Ts spec_ServerOk.d.ps → Option Bool := fun (a0, _) => spec_ServerOk n (TServer.of a0)

def spec_Behind.d : FD Int := ⟨10, 28, 1, [.ag (TServer.q1 .v), .i .i64], [.i .i64], fun (a0, _) => a0, fun r => (r, ()), [.ag [.v, .v, .v, .v, .v], .v], [.v], [.k], [.tmp 4], [], [], [], []⟩
def spec_Behind.F (n : Nat) : Pat.Ts spec_Behind.d.ps → Option Int := fun (a0, a1, _) => spec_Behind n (TServer.of a0) a1

def impl_copyInts.d : FD (List Int) := ⟨92, 6, 1, [.sl .v .int], [.sl .d .int], fun (a0, _) => a0, fun r => (r, ()), [.v], [.o], [.own .d .int], [.tmp 2], [], [], [], []⟩
def impl_copyInts.F (n : Nat) : Pat.Ts impl_copyInts.d.ps → Option (List Int) := fun (a0, _) => impl_copyInts n a0

def impl_copyRow.d : FD TRow := ⟨119, 9, 1, [.ag (TRow.p .v)], [.ag (TRow.p .d)], fun (a0, _) => (TRow.of a0), fun r => (TRow.to r, ()), [.ag [.v, .v]], [.ag [.v, .o]], [.ag [.k, .own .d .int]], [.cell 2 112], [], [], [], []⟩
def impl_copyRow.F (n : Nat) : Pat.Ts impl_copyRow.d.ps → Option TRow := fun (a0, _) => impl_copyRow n (TRow.of a0)

def impl_copyRows.p4 : OD := ⟨[(3, .own .d .iRow), (7, .view .iRow), (8, .k), (9, .k)], [.rt 1, .sl .v .iRow, .i .i64, .i .i64], [.ext, .arr .d .iRow 2]⟩
def impl_copyRows.o0 : OD := ⟨[(3, .own .d .iRow)], [.rt 1], [.ext, .arr .d .iRow 2]⟩
def impl_copyRows.d : FD (List TRow) := ⟨93, 20, 1, [.sl .v .iRow], [.sl .d .iRow], fun (a0, _) => a0, fun r => (r, ()), [.v], [.o], [.own .d .iRow], [.tmp 2], [], [(4, impl_copyRows.p4)], [], [(0, impl_copyRows.o0)]⟩
def impl_copyRows.F (n : Nat) : Pat.Ts impl_copyRows.d.ps → Option (List TRow) := fun (a0, _) => impl_copyRows n a0

def impl_copyStore.p4 : OD := ⟨[(2, .box [.k, .k, .k]), (3, .box [.own .d .int, .k, .own .d .s_iRow]), (15, .view .s_iRow), (16, .k), (17, .k)], [.pb 1 0, .pb 2 0, .sl .v .s_iRow, .i .i64, .i .i64], [.ext, .box [.nils, .i .i64, .nils], .box [.rt 3, .i .i64, .rt 4], .arr .d .int 2, .arr .d .s_iRow 2]⟩
def impl_copyStore.o0 : OD := ⟨[(2, .box [.k, .k, .k]), (3, .box [.own .d .int, .k, .own .d .s_iRow])], [.pb 1 0, .pb 2 0], [.ext, .box [.nils, .i .i64, .nils], .box [.rt 3, .i .i64, .rt 4], .arr .d .int 2, .arr .d .s_iRow 2]⟩
def impl_copyStore.d : FD TStore := ⟨65, 30, 1, [.ag (TStore.q1 .v)], [.ag (TStore.q1 .d)], fun (a0, _) => (TStore.of a0), fun r => (TStore.to r, ()), [.ag [.v, .v, .v]], [.ag [.o, .v, .o]], [.ag [.own .d .int, .k, .own .d .s_iRow]], [.cell 2 39], [], [(4, impl_copyStore.p4)], [], [(0, impl_copyStore.o0)]⟩
def impl_copyStore.F (n : Nat) : Pat.Ts impl_copyStore.d.ps → Option TStore := fun (a0, _) => impl_copyStore n (TStore.of a0)

def impl_within.d : FD Bool := ⟨24, 15, 1, (TCond.p .v), [.b], fun (a0, _) => a0, fun r => (r, ()), [.v, .v, .v], [.v], [.k], [.tmp 6], [], [], [], []⟩
def impl_within.F (n : Nat) : Pat.Ts impl_within.d.ps → Option Bool := fun (a0, a1, a2, _) => impl_within n a0 a1 a2

def impl_SchemaOk.p3 : OD := ⟨[(1, .box [.view .int]), (6, .view .int), (7, .k), (8, .k)], [.pb 1 0, .sl .v .int, .i .i64, .i .i64], [.ext, .box [.sl .v .int]]⟩
def impl_SchemaOk.o0 : OD := ⟨[(1, .box [.view .int])], [.pb 1 0], [.ext, .box [.sl .v .int]]⟩
def impl_SchemaOk.d : FD Bool := ⟨94, 20, 1, [.ag [.sl .v .int]], [.b], fun (a0, _) => a0, fun r => (r, ()), [.ag [.v]], [.v], [.k], [.tmp 2], [], [(3, impl_SchemaOk.p3)], [], [(0, impl_SchemaOk.o0)]⟩
def impl_SchemaOk.F (n : Nat) : Pat.Ts impl_SchemaOk.d.ps → Option Bool := fun (a0, _) => impl_SchemaOk n (TSchema.of a0)

def impl_isVersion.d : FD Bool := ⟨69, 5, 1, [.i .i64], [.b], fun (a0, _) => a0, fun r => (r, ()), [.v], [.v], [.k], [.tmp 2], [], [], [], []⟩
def impl_isVersion.F (n : Nat) : Pat.Ts impl_isVersion.d.ps → Option Bool := fun (a0, _) => impl_isVersion n a0

def impl_isNum.d : FD Bool := ⟨124, 5, 1, [.i .i64], [.b], fun (a0, _) => a0, fun r => (r, ()), [.v], [.v], [.k], [.tmp 2], [], [], [], []⟩
def impl_isNum.F (n : Nat) : Pat.Ts impl_isNum.d.ps → Option Bool := fun (a0, _) => impl_isNum n a0

def impl_hasTable.d : FD Bool := ⟨120, 11, 1, [.ag [.sl .v .int], .i .i64], [.b], fun (a0, _) => a0, fun r => (r, ()), [.ag [.v], .v], [.v], [.k], [.tmp 4], [], [], [], []⟩
def impl_hasTable.F (n : Nat) : Pat.Ts impl_hasTable.d.ps → Option Bool := fun (a0, a1, _) => impl_hasTable n (TSchema.of a0) a1

def impl_RowOk.p3 : OD := ⟨[(1, .k), (3, .box [.view .int]), (5, .box [.k, .view .int]), (10, .view .int), (11, .k), (12, .k)], [.i .i64, .pb 1 0, .pb 2 0, .sl .v .int, .i .i64, .i .i64], [.ext, .box [.sl .v .int], .box (TRow.p .v)]⟩
def impl_RowOk.o0 : OD := ⟨[(1, .k), (3, .box [.view .int]), (5, .box [.k, .view .int])], [.i .i64, .pb 1 0, .pb 2 0], [.ext, .box [.sl .v .int], .box (TRow.p .v)]⟩
def impl_RowOk.d : FD Bool := ⟨99, 43, 1, [.ag [.sl .v .int], .i .i64, .ag (TRow.p .v)], [.b], fun (a0, _) => a0, fun r => (r, ()), [.ag [.v], .v, .ag [.v, .v]], [.v], [.k], [.tmp 6], [], [(3, impl_RowOk.p3)], [], [(0, impl_RowOk.o0)]⟩
def impl_RowOk.F (n : Nat) : Pat.Ts impl_RowOk.d.ps → Option Bool := fun (a0, a1, a2, _) => impl_RowOk n (TSchema.of a0) a1 (TRow.of a2)

def impl_RowsOk.p3 : OD := ⟨[(1, .k), (2, .view .iRow), (3, .box [.view .int]), (9, .view .iRow), (10, .k), (11, .k)], [.i .i64, .sl .v .iRow, .pb 1 0, .sl .v .iRow, .i .i64, .i .i64], [.ext, .box [.sl .v .int]]⟩
def impl_RowsOk.o0 : OD := ⟨[(1, .k), (2, .view .iRow), (3, .box [.view .int])], [.i .i64, .sl .v .iRow, .pb 1 0], [.ext, .box [.sl .v .int]]⟩
def impl_RowsOk.d : FD Bool := ⟨95, 49, 1, [.ag [.sl .v .int], .i .i64, .sl .v .iRow], [.b], fun (a0, _) => a0, fun r => (r, ()), [.ag [.v], .v, .v], [.v], [.k], [.tmp 6], [], [(3, impl_RowsOk.p3)], [], [(0, impl_RowsOk.o0)]⟩
def impl_RowsOk.F (n : Nat) : Pat.Ts impl_RowsOk.d.ps → Option Bool := fun (a0, a1, a2, _) => impl_RowsOk n (TSchema.of a0) a1 a2

def impl_StoreOk.p6 : OD := ⟨[(1, .box [.view .int, .k, .view .s_iRow]), (26, .view .s_iRow), (27, .k), (28, .k)], [.pb 1 0, .sl .v .s_iRow, .i .i64, .i .i64], [.ext, .box (TStore.q1 .v)]⟩
def impl_StoreOk.o0 : OD := ⟨[], [], [.ext]⟩
def impl_StoreOk.d : FD Bool := ⟨66, 40, 1, [.ag (TStore.q1 .v)], [.b], fun (a0, _) => a0, fun r => (r, ()), [.ag [.v, .v, .v]], [.v], [.k], [.tmp 2], [], [(6, impl_StoreOk.p6)], [], [(0, impl_StoreOk.o0)]⟩
def impl_StoreOk.F (n : Nat) : Pat.Ts impl_StoreOk.d.ps → Option Bool := fun (a0, _) => impl_StoreOk n (TStore.of a0)

def impl_noRow.d : FD Bool := ⟨121, 12, 1, [.ag (TRow.p .v)], [.b], fun (a0, _) => a0, fun r => (r, ()), [.ag [.v, .v]], [.v], [.k], [.tmp 2], [], [], [], []⟩
def impl_noRow.F (n : Nat) : Pat.Ts impl_noRow.d.ps → Option Bool := fun (a0, _) => impl_noRow n (TRow.of a0)

def impl_changeFits.d : FD Bool := ⟨96, 65, 1, [.ag [.sl .v .int], .ag (TChange.p .v)], [.b], fun (a0, _) => a0, fun r => (r, ()), [.ag [.v], .ag [.v, .v, .v, .v, .v, .v, .v]], [.v], [.k], [.tmp 4], [], [], [], []⟩
def impl_changeFits.F (n : Nat) : Pat.Ts impl_changeFits.d.ps → Option Bool := fun (a0, a1, _) => impl_changeFits n (TSchema.of a0) (TChange.of a1)

def impl_RowAt_f1.d : FD Bool := ⟨129, 8, 1, [.ag (TRow.p .v), .pc [.i .i64] 0], [.b], fun (a0, _) => a0, fun r => (r, ()), [.ag [.v, .v], .v], [.v], [.k], [.tmp 3], [], [], [], []⟩
def impl_RowAt_f1.F (n : Nat) : Pat.Ts impl_RowAt_f1.d.ps → Option Bool := fun (a0, (a1, _), _) => impl_RowAt_f1 n (TRow.of a0) a1

def slices_IndexFunc_Row_impl_RowAt_f1.p3 : OD := ⟨[(0, .view .iRow), (1, .k), (7, .k), (8, .k)], [.sl .v .iRow, .clo 129 [.pc [.i .i64] 0], .i .i64, .i .i64], [.ext]⟩
def slices_IndexFunc_Row_impl_RowAt_f1.o0 : OD := ⟨[], [], [.ext]⟩
def slices_IndexFunc_Row_impl_RowAt_f1.d : FD Int := ⟨128, 19, 1, [.sl .v .iRow, .clo 129 [.pc [.i .i64] 0]], [.i .i64], fun (a0, _) => a0, fun r => (r, ()), [.v, .v], [.v], [.k], [.tmp 4], [], [(3, slices_IndexFunc_Row_impl_RowAt_f1.p3)], [], [(0, slices_IndexFunc_Row_impl_RowAt_f1.o0)]⟩
def slices_IndexFunc_Row_impl_RowAt_f1.F (n : Nat) : Pat.Ts slices_IndexFunc_Row_impl_RowAt_f1.d.ps → Option Int := fun (a0, ((a1, _), _), _) => slices_IndexFunc_Row_impl_RowAt_f1 n a0 a1

def impl_RowAt.d : FD Int := ⟨102, 8, 1, [.sl .v .iRow, .i .i64], [.i .i64], fun (a0, _) => a0, fun r => (r, ()), [.v, .v], [.v], [.k], [.tmp 4], [], [], [], []⟩
def impl_RowAt.F (n : Nat) : Pat.Ts impl_RowAt.d.ps → Option Int := fun (a0, a1, _) => impl_RowAt n a0 a1

def slices_Equal_int.p6 : OD := ⟨[(0, .view .int), (1, .view .int), (12, .k), (13, .k)], [.sl .v .int, .sl .v .int, .i .i64, .i .i64], [.ext]⟩
def slices_Equal_int.o0 : OD := ⟨[], [], [.ext]⟩
def slices_Equal_int.d : FD Bool := ⟨107, 26, 1, [.sl .v .int, .sl .v .int], [.b], fun (a0, _) => a0, fun r => (r, ()), [.v, .v], [.v], [.k], [.tmp 4], [], [(6, slices_Equal_int.p6)], [], [(0, slices_Equal_int.o0)]⟩
def slices_Equal_int.F (n : Nat) : Pat.Ts slices_Equal_int.d.ps → Option Bool := fun (a0, a1, _) => slices_Equal_int n a0 a1

def impl_RowSame.d : FD Bool := ⟨104, 17, 1, [.ag (TRow.p .v), .ag (TRow.p .v)], [.b], fun (a0, _) => a0, fun r => (r, ()), [.ag [.v, .v], .ag [.v, .v]], [.v], [.k], [.tmp 4], [], [], [], []⟩
def impl_RowSame.F (n : Nat) : Pat.Ts impl_RowSame.d.ps → Option Bool := fun (a0, a1, _) => impl_RowSame n (TRow.of a0) (TRow.of a1)

def slices_Delete_Row.d : FD (List TRow) := ⟨136, 33, 1, [.sl .d .iRow, .i .i64, .i .i64], [.sl .d .iRow], fun (a0, _) => a0, fun r => (r, ()), [.o, .v, .v], [], [], [.tmp 6], [], [], [], []⟩
def slices_Delete_Row.F (n : Nat) : Pat.Ts slices_Delete_Row.d.ps → Option (List TRow) := fun (a0, a1, a2, _) => slices_Delete_Row n a0 a1 a2

def impl_RowDrop.d : FD (List TRow) := ⟨122, 20, 1, [.sl .v .iRow, .i .i64], [.sl .d .iRow], fun (a0, _) => a0, fun r => (r, ()), [.v, .v], [.o], [.own .d .iRow], [.tmp 4], [], [], [], []⟩
def impl_RowDrop.F (n : Nat) : Pat.Ts impl_RowDrop.d.ps → Option (List TRow) := fun (a0, a1, _) => impl_RowDrop n a0 a1

def impl_RowPut_f1.d : FD Bool := ⟨137, 9, 1, [.ag (TRow.p .v), .pc (TRow.p .v) 0], [.b], fun (a0, _) => a0, fun r => (r, ()), [.ag [.v, .v], .v], [.v], [.k], [.tmp 3], [], [], [], []⟩
def impl_RowPut_f1.F (n : Nat) : Pat.Ts impl_RowPut_f1.d.ps → Option Bool := fun (a0, (a1, a2, _), _) => impl_RowPut_f1 n (TRow.of a0) a1 a2

def slices_IndexFunc_Row_impl_RowPut_f1.p3 : OD := ⟨[(0, .view .iRow), (1, .k), (7, .k), (8, .k)], [.sl .v .iRow, .clo 137 [.pc (TRow.p .v) 0], .i .i64, .i .i64], [.ext]⟩
def slices_IndexFunc_Row_impl_RowPut_f1.o0 : OD := ⟨[], [], [.ext]⟩
def slices_IndexFunc_Row_impl_RowPut_f1.d : FD Int := ⟨128, 19, 1, [.sl .v .iRow, .clo 137 [.pc (TRow.p .v) 0]], [.i .i64], fun (a0, _) => a0, fun r => (r, ()), [.v, .v], [.v], [.k], [.tmp 4], [], [(3, slices_IndexFunc_Row_impl_RowPut_f1.p3)], [], [(0, slices_IndexFunc_Row_impl_RowPut_f1.o0)]⟩
def slices_IndexFunc_Row_impl_RowPut_f1.F (n : Nat) : Pat.Ts slices_IndexFunc_Row_impl_RowPut_f1.d.ps → Option Int := fun (a0, ((a1, a2, _), _), _) => slices_IndexFunc_Row_impl_RowPut_f1 n a0 a1 a2

def slices_Insert_Row.d : FD (List TRow) := ⟨138, 95, 1, [.sl .d .iRow, .i .i64, .sl .d .iRow], [.sl .d .iRow], fun (a0, _) => a0, fun r => (r, ()), [.o, .v, .o], [], [], [.tmp 6], [], [], [], []⟩
def slices_Insert_Row.F (n : Nat) : Pat.Ts slices_Insert_Row.d.ps → Option (List TRow) := fun (a0, a1, a2, _) => slices_Insert_Row n a0 a1 a2

def impl_RowPut.d : FD (List TRow) := ⟨123, 34, 1, [.sl .v .iRow, .ag (TRow.p .v)], [.sl .d .iRow], fun (a0, _) => a0, fun r => (r, ()), [.v, .ag [.v, .v]], [.o], [.own .d .iRow], [.tmp 4], [], [], [], []⟩
def impl_RowPut.F (n : Nat) : Pat.Ts impl_RowPut.d.ps → Option (List TRow) := fun (a0, a1, _) => impl_RowPut n a0 (TRow.of a1)

def impl_swapped.d : FD (TStore × Bool) := ⟨97, 69, 1, [.ag (TStore.q1 .v), .i .i64, .b, .ag (TRow.p .v), .b, .ag (TRow.p .v)], [.ag [.sl .d .int, .i .i64, .sl .s .s_iRow], .b], fun (a0, a1, _) => ((TStore.of a0), a1), fun (a0, a1) => (TStore.to a0, a1, ()), [.ag [.v, .v, .v], .v, .v, .ag [.v, .v], .v, .ag [.v, .v]], [.ag [.o, .v, .o], .v], [.ag [.own .d .int, .k, .own .s .s_iRow], .k], [.cell 12 39, .tmp 13], [], [], [], []⟩
def impl_swapped.F (n : Nat) : Pat.Ts impl_swapped.d.ps → Option (TStore × Bool) := fun (a0, a1, a2, a3, a4, a5, _) => impl_swapped n (TStore.of a0) a1 a2 (TRow.of a3) a4 (TRow.of a5)

def impl_Forward.p7 : OD := ⟨[(2, .box [.view .int, .k, .view .s_iRow]), (4, .box [.k, .k, .k]), (6, .box [.own .d .int, .k, .own .s .s_iRow]), (28, .view .iChange), (29, .k), (30, .k)], [.pb 1 0, .pb 2 0, .pb 3 0, .sl .v .iChange, .i .i64, .i .i64], [.ext, .box (TStore.q1 .v), .box [.nils, .i .i64, .nils], .box [.rt 4, .i .i64, .rt 5], .arr .d .int 2, .arr .s .s_iRow 2]⟩
def impl_Forward.o0 : OD := ⟨[(4, .box [.k, .k, .k]), (6, .box [.own .d .int, .k, .own .s .s_iRow])], [.pb 1 0, .pb 2 0], [.ext, .box [.nils, .i .i64, .nils], .box [.rt 3, .i .i64, .rt 4], .arr .d .int 2, .arr .s .s_iRow 2]⟩
def impl_Forward.d : FD (TStore × Bool) := ⟨67, 65, 1, [.ag (TStore.q1 .v), .sl .v .iChange], [.ag [.sl .d .int, .i .i64, .sl .s .s_iRow], .b], fun (a0, a1, _) => ((TStore.of a0), a1), fun (a0, a1) => (TStore.to a0, a1, ()), [.ag [.v, .v, .v], .v], [.ag [.o, .v, .o], .v], [.ag [.own .d .int, .k, .own .s .s_iRow], .k], [.cell 4 39, .tmp 5], [], [(7, impl_Forward.p7)], [], [(0, impl_Forward.o0)]⟩
def impl_Forward.F (n : Nat) : Pat.Ts impl_Forward.d.ps → Option (TStore × Bool) := fun (a0, a1, _) => impl_Forward n (TStore.of a0) a1

def impl_after.p7 : OD := ⟨[(4, .box [.k, .k, .k]), (6, .box [.own .d .int, .k, .own .s .s_iRow]), (21, .view .s_iChange), (22, .k), (23, .k)], [.pb 1 0, .pb 2 0, .sl .v .s_iChange, .i .i64, .i .i64], [.ext, .box [.nils, .i .i64, .nils], .box [.rt 3, .i .i64, .rt 4], .arr .d .int 2, .arr .s .s_iRow 2]⟩
def impl_after.o0 : OD := ⟨[(4, .box [.k, .k, .k]), (6, .box [.own .d .int, .k, .own .s .s_iRow])], [.pb 1 0, .pb 2 0], [.ext, .box [.nils, .i .i64, .nils], .box [.rt 3, .i .i64, .rt 4], .arr .d .int 2, .arr .s .s_iRow 2]⟩
def impl_after.d : FD (TStore × Bool) := ⟨37, 39, 1, [.ag (TRecord.q1 .v), .i .i64], [.ag [.sl .d .int, .i .i64, .sl .s .s_iRow], .b], fun (a0, a1, _) => ((TStore.of a0), a1), fun (a0, a1) => (TStore.to a0, a1, ()), [.ag [.v, .v, .v, .v], .v], [.ag [.o, .v, .o], .v], [.ag [.own .d .int, .k, .own .s .s_iRow], .k], [.cell 4 39, .tmp 5], [], [(7, impl_after.p7)], [], [(0, impl_after.o0)]⟩
def impl_after.F (n : Nat) : Pat.Ts impl_after.d.ps → Option (TStore × Bool) := fun (a0, a1, _) => impl_after n (TRecord.of a0) a1

def impl_RecordOk.d : FD Bool := ⟨20, 18, 1, [.ag (TRecord.q1 .v)], [.b], fun (a0, _) => a0, fun r => (r, ()), [.ag [.v, .v, .v, .v]], [.v], [.k], [.tmp 2], [], [], [], []⟩
def impl_RecordOk.F (n : Nat) : Pat.Ts impl_RecordOk.d.ps → Option Bool := fun (a0, _) => impl_RecordOk n (TRecord.of a0)

def impl_kidsFit.d : FD Bool := ⟨125, 32, 1, [.ag [.sl .v .int], .ag (TQuery.p .v)], [.b], fun (a0, _) => a0, fun r => (r, ()), [.ag [.v], .ag [.v, .v, .v, .v, .v, .v, .v, .v, .v]], [.v], [.k], [.tmp 4], [], [], [], []⟩
def impl_kidsFit.F (n : Nat) : Pat.Ts impl_kidsFit.d.ps → Option Bool := fun (a0, a1, _) => impl_kidsFit n (TSchema.of a0) (TQuery.of a1)

def impl_QueryOk.p7 : OD := ⟨[(2, .box [.view .int]), (3, .box [.k, .view .iCond, .k, .k, .k, .view .int, .k, .k, .k]), (5, .k), (28, .view .iCond), (29, .k), (30, .k)], [.pb 1 0, .pb 2 0, .i .i64, .sl .v .iCond, .i .i64, .i .i64], [.ext, .box [.sl .v .int], .box (TQuery.p .v)]⟩
def impl_QueryOk.p16 : OD := ⟨[(2, .box [.view .int]), (3, .box [.k, .view .iCond, .k, .k, .k, .view .int, .k, .k, .k]), (5, .k), (54, .view .int), (55, .k), (56, .k)], [.pb 1 0, .pb 2 0, .i .i64, .sl .v .int, .i .i64, .i .i64], [.ext, .box [.sl .v .int], .box (TQuery.p .v)]⟩
def impl_QueryOk.o0 : OD := ⟨[(2, .box [.view .int]), (3, .box [.k, .view .iCond, .k, .k, .k, .view .int, .k, .k, .k]), (5, .k)], [.pb 1 0, .pb 2 0, .i .i64], [.ext, .box [.sl .v .int], .box (TQuery.p .v)]⟩
def impl_QueryOk.o2 : OD := ⟨[(2, .box [.view .int]), (3, .box [.k, .view .iCond, .k, .k, .k, .view .int, .k, .k, .k]), (5, .k)], [.pb 1 0, .pb 2 0, .i .i64], [.ext, .box [.sl .v .int], .box (TQuery.p .v)]⟩
def impl_QueryOk.d : FD Bool := ⟨98, 112, 1, [.ag [.sl .v .int], .ag (TQuery.p .v)], [.b], fun (a0, _) => a0, fun r => (r, ()), [.ag [.v], .ag [.v, .v, .v, .v, .v, .v, .v, .v, .v]], [.v], [.k], [.tmp 4], [], [(7, impl_QueryOk.p7), (16, impl_QueryOk.p16)], [], [(0, impl_QueryOk.o0), (2, impl_QueryOk.o2)]⟩
def impl_QueryOk.F (n : Nat) : Pat.Ts impl_QueryOk.d.ps → Option Bool := fun (a0, a1, _) => impl_QueryOk n (TSchema.of a0) (TQuery.of a1)

def impl_holds.d : FD Bool := ⟨126, 49, 1, [.ag (TCond.p .v), .ag (TRow.p .v)], [.b], fun (a0, _) => a0, fun r => (r, ()), [.ag [.v, .v, .v], .ag [.v, .v]], [.v], [.k], [.tmp 4], [], [], [], []⟩
def impl_holds.F (n : Nat) : Pat.Ts impl_holds.d.ps → Option Bool := fun (a0, a1, _) => impl_holds n (TCond.of a0) (TRow.of a1)

def impl_Matches.p3 : OD := ⟨[(3, .box [.k, .view .int]), (8, .view .iCond), (9, .k), (10, .k)], [.pb 1 0, .sl .v .iCond, .i .i64, .i .i64], [.ext, .box (TRow.p .v)]⟩
def impl_Matches.o0 : OD := ⟨[], [], [.ext]⟩
def impl_Matches.d : FD Bool := ⟨100, 19, 1, [.ag (TQuery.p .v), .ag (TRow.p .v)], [.b], fun (a0, _) => a0, fun r => (r, ()), [.ag [.v, .v, .v, .v, .v, .v, .v, .v, .v], .ag [.v, .v]], [.v], [.k], [.tmp 4], [], [(3, impl_Matches.p3)], [], [(0, impl_Matches.o0)]⟩
def impl_Matches.F (n : Nat) : Pat.Ts impl_Matches.d.ps → Option Bool := fun (a0, a1, _) => impl_Matches n (TQuery.of a0) (TRow.of a1)

def impl_cellOf.d : FD Int := ⟨127, 17, 1, [.ag (TRow.p .v), .i .i64], [.i .i64], fun (a0, _) => a0, fun r => (r, ()), [.ag [.v, .v], .v], [.v], [.k], [.tmp 4], [], [], [], []⟩
def impl_cellOf.F (n : Nat) : Pat.Ts impl_cellOf.d.ps → Option Int := fun (a0, a1, _) => impl_cellOf n (TRow.of a0) a1

def impl_Ahead.d : FD Bool := ⟨101, 45, 1, [.ag (TQuery.p .v), .ag (TRow.p .v), .ag (TRow.p .v)], [.b], fun (a0, _) => a0, fun r => (r, ()), [.ag [.v, .v, .v, .v, .v, .v, .v, .v, .v], .ag [.v, .v], .ag [.v, .v]], [.v], [.k], [.tmp 6], [], [], [], []⟩
def impl_Ahead.F (n : Nat) : Pat.Ts impl_Ahead.d.ps → Option Bool := fun (a0, a1, a2, _) => impl_Ahead n (TQuery.of a0) (TRow.of a1) (TRow.of a2)

def impl_ViewOk.p6 : OD := ⟨[(2, .box [.view .int]), (3, .box [.k, .view .iCond, .k, .k, .k, .view .int, .k, .k, .k, .view .iRow, .view .iKid]), (33, .view .iRow), (34, .k), (35, .k)], [.pb 1 0, .pb 2 0, .sl .v .iRow, .i .i64, .i .i64], [.ext, .box [.sl .v .int], .box (TView.p .v)]⟩
def impl_ViewOk.p15 : OD := ⟨[(3, .box [.k, .view .iCond, .k, .k, .k, .view .int, .k, .k, .k, .view .iRow, .view .iKid]), (82, .view .iKid), (83, .k), (84, .k)], [.pb 1 0, .sl .v .iKid, .i .i64, .i .i64], [.ext, .box (TView.p .v)]⟩
def impl_ViewOk.o0 : OD := ⟨[(3, .box [.k, .view .iCond, .k, .k, .k, .view .int, .k, .k, .k, .view .iRow, .view .iKid])], [.pb 1 0], [.ext, .box (TView.p .v)]⟩
def impl_ViewOk.o2 : OD := ⟨[], [], [.ext]⟩
def impl_ViewOk.d : FD Bool := ⟨68, 110, 1, [.ag [.sl .v .int], .ag (TView.p .v)], [.b], fun (a0, _) => a0, fun r => (r, ()), [.ag [.v], .ag [.v, .v, .v, .v, .v, .v, .v, .v, .v, .v, .v]], [.v], [.k], [.tmp 4], [], [(6, impl_ViewOk.p6), (15, impl_ViewOk.p15)], [], [(0, impl_ViewOk.o0), (2, impl_ViewOk.o2)]⟩
def impl_ViewOk.F (n : Nat) : Pat.Ts impl_ViewOk.d.ps → Option Bool := fun (a0, a1, _) => impl_ViewOk n (TSchema.of a0) (TView.of a1)

def slices_Equal_Cond.p6 : OD := ⟨[(0, .view .iCond), (1, .view .iCond), (12, .k), (13, .k)], [.sl .v .iCond, .sl .v .iCond, .i .i64, .i .i64], [.ext]⟩
def slices_Equal_Cond.o0 : OD := ⟨[], [], [.ext]⟩
def slices_Equal_Cond.d : FD Bool := ⟨106, 26, 1, [.sl .v .iCond, .sl .v .iCond], [.b], fun (a0, _) => a0, fun r => (r, ()), [.v, .v], [.v], [.k], [.tmp 4], [], [(6, slices_Equal_Cond.p6)], [], [(0, slices_Equal_Cond.o0)]⟩
def slices_Equal_Cond.F (n : Nat) : Pat.Ts slices_Equal_Cond.d.ps → Option Bool := fun (a0, a1, _) => slices_Equal_Cond n a0 a1

def impl_QuerySame.d : FD Bool := ⟨71, 70, 1, [.ag (TQuery.p .v), .ag (TQuery.p .v)], [.b], fun (a0, _) => a0, fun r => (r, ()), [.ag [.v, .v, .v, .v, .v, .v, .v, .v, .v], .ag [.v, .v, .v, .v, .v, .v, .v, .v, .v]], [.v], [.k], [.tmp 4], [], [], [], []⟩
def impl_QuerySame.F (n : Nat) : Pat.Ts impl_QuerySame.d.ps → Option Bool := fun (a0, a1, _) => impl_QuerySame n (TQuery.of a0) (TQuery.of a1)

def slices_EqualFunc_Row_impl_RowSame.p6 : OD := ⟨[(1, .view .iRow), (2, .k), (15, .view .iRow), (16, .k), (17, .k)], [.sl .v .iRow, .clo 104 [], .sl .v .iRow, .i .i64, .i .i64], [.ext]⟩
def slices_EqualFunc_Row_impl_RowSame.o0 : OD := ⟨[], [], [.ext]⟩
def slices_EqualFunc_Row_impl_RowSame.d : FD Bool := ⟨103, 32, 1, [.sl .v .iRow, .sl .v .iRow, .clo 104 []], [.b], fun (a0, _) => a0, fun r => (r, ()), [.v, .v, .v], [.v], [.k], [.tmp 6], [], [(6, slices_EqualFunc_Row_impl_RowSame.p6)], [], [(0, slices_EqualFunc_Row_impl_RowSame.o0)]⟩
def slices_EqualFunc_Row_impl_RowSame.F (n : Nat) : Pat.Ts slices_EqualFunc_Row_impl_RowSame.d.ps → Option Bool := fun (a0, a1, _, _) => slices_EqualFunc_Row_impl_RowSame n a0 a1

def slices_Equal_Kid.p6 : OD := ⟨[(0, .view .iKid), (1, .view .iKid), (12, .k), (13, .k)], [.sl .v .iKid, .sl .v .iKid, .i .i64, .i .i64], [.ext]⟩
def slices_Equal_Kid.o0 : OD := ⟨[], [], [.ext]⟩
def slices_Equal_Kid.d : FD Bool := ⟨105, 26, 1, [.sl .v .iKid, .sl .v .iKid], [.b], fun (a0, _) => a0, fun r => (r, ()), [.v, .v], [.v], [.k], [.tmp 4], [], [(6, slices_Equal_Kid.p6)], [], [(0, slices_Equal_Kid.o0)]⟩
def slices_Equal_Kid.F (n : Nat) : Pat.Ts slices_Equal_Kid.d.ps → Option Bool := fun (a0, a1, _) => slices_Equal_Kid n a0 a1

def impl_ViewSame.d : FD Bool := ⟨70, 24, 1, [.ag (TView.p .v), .ag (TView.p .v)], [.b], fun (a0, _) => a0, fun r => (r, ()), [.ag [.v, .v, .v, .v, .v, .v, .v, .v, .v, .v, .v], .ag [.v, .v, .v, .v, .v, .v, .v, .v, .v, .v, .v]], [.v], [.k], [.tmp 4], [], [], [], []⟩
def impl_ViewSame.F (n : Nat) : Pat.Ts impl_ViewSame.d.ps → Option Bool := fun (a0, a1, _) => impl_ViewSame n (TView.of a0) (TView.of a1)

def impl_SessOk.d : FD Bool := ⟨38, 48, 1, [.ag [.sl .v .int], .ag (TSess.p .v)], [.b], fun (a0, _) => a0, fun r => (r, ()), [.ag [.v], .ag [.v, .v, .v, .v, .v, .v, .v, .v, .v, .v, .v, .v, .v, .v, .v, .v, .v, .v, .v, .v, .v, .v, .v, .v, .v]], [.v], [.k], [.tmp 4], [], [], [], []⟩
def impl_SessOk.F (n : Nat) : Pat.Ts impl_SessOk.d.ps → Option Bool := fun (a0, a1, _) => impl_SessOk n (TSchema.of a0) (TSess.of a1)

def impl_seatOk.d : FD Bool := ⟨21, 58, 1, [.ag (TRecord.q1 .v), .ag (TSeat.p .v)], [.b], fun (a0, _) => a0, fun r => (r, ()), [.ag [.v, .v, .v, .v], .ag [.v, .v, .v, .v, .v, .v, .v, .v, .v, .v, .v, .v, .v, .v, .v, .v, .v, .v, .v, .v, .v, .v, .v, .v, .v, .v, .v, .v, .v, .v]], [.v], [.k], [.tmp 4], [], [], [], []⟩
def impl_seatOk.F (n : Nat) : Pat.Ts impl_seatOk.d.ps → Option Bool := fun (a0, a1, _) => impl_seatOk n (TRecord.of a0) (TSeat.of a1)

def impl_ServerOk.p6 : OD := ⟨[(1, .box [.view .int, .k, .view .s_iRow, .view .s_iChange, .view .iSeat]), (16, .view .iSeat), (17, .k), (18, .k)], [.pb 1 0, .sl .v .iSeat, .i .i64, .i .i64], [.ext, .box (TServer.q1 .v)]⟩
def impl_ServerOk.o0 : OD := ⟨[], [], [.ext]⟩
def impl_ServerOk.d : FD Bool := ⟨8, 28, 1, [.ag (TServer.q1 .v)], [.b], fun (a0, _) => a0, fun r => (r, ()), [.ag [.v, .v, .v, .v, .v]], [.v], [.k], [.tmp 2], [], [(6, impl_ServerOk.p6)], [], [(0, impl_ServerOk.o0)]⟩
def impl_ServerOk.F (n : Nat) : Pat.Ts impl_ServerOk.d.ps → Option Bool := fun (a0, _) => impl_ServerOk n (TServer.of a0)

def impl_Last.d : FD Int := ⟨25, 13, 1, [.ag (TRecord.q1 .v)], [.i .i64], fun (a0, _) => a0, fun r => (r, ()), [.ag [.v, .v, .v, .v]], [.v], [.k], [.tmp 2], [], [], [], []⟩
def impl_Last.F (n : Nat) : Pat.Ts impl_Last.d.ps → Option Int := fun (a0, _) => impl_Last n (TRecord.of a0)

def impl_Behind.d : FD Int := ⟨11, 28, 1, [.ag (TServer.q1 .v), .i .i64], [.i .i64], fun (a0, _) => a0, fun r => (r, ()), [.ag [.v, .v, .v, .v, .v], .v], [.v], [.k], [.tmp 4], [], [], [], []⟩
def impl_Behind.F (n : Nat) : Pat.Ts impl_Behind.d.ps → Option Int := fun (a0, a1, _) => impl_Behind n (TServer.of a0) a1

def laws_eqIntS.p6 : OD := ⟨[(0, .view .int), (1, .view .int), (5, .k)], [.sl .v .int, .sl .v .int, .i .i64], [.ext]⟩
def laws_eqIntS.o0 : OD := ⟨[], [], [.ext]⟩
def laws_eqIntS.d : FD Bool := ⟨108, 26, 1, [.sl .v .int, .sl .v .int], [.b], fun (a0, _) => a0, fun r => (r, ()), [.v, .v], [.v], [.k], [.tmp 4], [], [(6, laws_eqIntS.p6)], [], [(0, laws_eqIntS.o0)]⟩
def laws_eqIntS.F (n : Nat) : Pat.Ts laws_eqIntS.d.ps → Option Bool := fun (a0, a1, _) => laws_eqIntS n a0 a1

def laws_eqSchema.d : FD Bool := ⟨72, 11, 1, [.ag [.sl .v .int], .ag [.sl .v .int]], [.b], fun (a0, _) => a0, fun r => (r, ()), [.ag [.v], .ag [.v]], [.v], [.k], [.tmp 4], [], [], [], []⟩
def laws_eqSchema.F (n : Nat) : Pat.Ts laws_eqSchema.d.ps → Option Bool := fun (a0, a1, _) => laws_eqSchema n (TSchema.of a0) (TSchema.of a1)

def laws_eqRow.d : FD Bool := ⟨130, 16, 1, [.ag (TRow.p .v), .ag (TRow.p .v)], [.b], fun (a0, _) => a0, fun r => (r, ()), [.ag [.v, .v], .ag [.v, .v]], [.v], [.k], [.tmp 4], [], [], [], []⟩
def laws_eqRow.F (n : Nat) : Pat.Ts laws_eqRow.d.ps → Option Bool := fun (a0, a1, _) => laws_eqRow n (TRow.of a0) (TRow.of a1)

def laws_eqRowS.p6 : OD := ⟨[(0, .view .iRow), (1, .view .iRow), (5, .k)], [.sl .v .iRow, .sl .v .iRow, .i .i64], [.ext]⟩
def laws_eqRowS.o0 : OD := ⟨[], [], [.ext]⟩
def laws_eqRowS.d : FD Bool := ⟨109, 27, 1, [.sl .v .iRow, .sl .v .iRow], [.b], fun (a0, _) => a0, fun r => (r, ()), [.v, .v], [.v], [.k], [.tmp 4], [], [(6, laws_eqRowS.p6)], [], [(0, laws_eqRowS.o0)]⟩
def laws_eqRowS.F (n : Nat) : Pat.Ts laws_eqRowS.d.ps → Option Bool := fun (a0, a1, _) => laws_eqRowS n a0 a1

def laws_eqRowSS.p6 : OD := ⟨[(0, .view .s_iRow), (1, .view .s_iRow), (5, .k)], [.sl .v .s_iRow, .sl .v .s_iRow, .i .i64], [.ext]⟩
def laws_eqRowSS.o0 : OD := ⟨[], [], [.ext]⟩
def laws_eqRowSS.d : FD Bool := ⟨73, 27, 1, [.sl .v .s_iRow, .sl .v .s_iRow], [.b], fun (a0, _) => a0, fun r => (r, ()), [.v, .v], [.v], [.k], [.tmp 4], [], [(6, laws_eqRowSS.p6)], [], [(0, laws_eqRowSS.o0)]⟩
def laws_eqRowSS.F (n : Nat) : Pat.Ts laws_eqRowSS.d.ps → Option Bool := fun (a0, a1, _) => laws_eqRowSS n a0 a1

def laws_eqStore.d : FD Bool := ⟨39, 22, 1, [.ag (TStore.q1 .v), .ag (TStore.q1 .v)], [.b], fun (a0, _) => a0, fun r => (r, ()), [.ag [.v, .v, .v], .ag [.v, .v, .v]], [.v], [.k], [.tmp 4], [], [], [], []⟩
def laws_eqStore.F (n : Nat) : Pat.Ts laws_eqStore.d.ps → Option Bool := fun (a0, a1, _) => laws_eqStore n (TStore.of a0) (TStore.of a1)

def laws_eqChange.d : FD Bool := ⟨110, 32, 1, [.ag (TChange.p .v), .ag (TChange.p .v)], [.b], fun (a0, _) => a0, fun r => (r, ()), [.ag [.v, .v, .v, .v, .v, .v, .v], .ag [.v, .v, .v, .v, .v, .v, .v]], [.v], [.k], [.tmp 4], [], [], [], []⟩
def laws_eqChange.F (n : Nat) : Pat.Ts laws_eqChange.d.ps → Option Bool := fun (a0, a1, _) => laws_eqChange n (TChange.of a0) (TChange.of a1)

def laws_eqChangeS.p6 : OD := ⟨[(0, .view .iChange), (1, .view .iChange), (5, .k)], [.sl .v .iChange, .sl .v .iChange, .i .i64], [.ext]⟩
def laws_eqChangeS.o0 : OD := ⟨[], [], [.ext]⟩
def laws_eqChangeS.d : FD Bool := ⟨74, 27, 1, [.sl .v .iChange, .sl .v .iChange], [.b], fun (a0, _) => a0, fun r => (r, ()), [.v, .v], [.v], [.k], [.tmp 4], [], [(6, laws_eqChangeS.p6)], [], [(0, laws_eqChangeS.o0)]⟩
def laws_eqChangeS.F (n : Nat) : Pat.Ts laws_eqChangeS.d.ps → Option Bool := fun (a0, a1, _) => laws_eqChangeS n a0 a1

def laws_eqChangeSS.p6 : OD := ⟨[(0, .view .s_iChange), (1, .view .s_iChange), (5, .k)], [.sl .v .s_iChange, .sl .v .s_iChange, .i .i64], [.ext]⟩
def laws_eqChangeSS.o0 : OD := ⟨[], [], [.ext]⟩
def laws_eqChangeSS.d : FD Bool := ⟨40, 27, 1, [.sl .v .s_iChange, .sl .v .s_iChange], [.b], fun (a0, _) => a0, fun r => (r, ()), [.v, .v], [.v], [.k], [.tmp 4], [], [(6, laws_eqChangeSS.p6)], [], [(0, laws_eqChangeSS.o0)]⟩
def laws_eqChangeSS.F (n : Nat) : Pat.Ts laws_eqChangeSS.d.ps → Option Bool := fun (a0, a1, _) => laws_eqChangeSS n a0 a1

def laws_eqRecord.d : FD Bool := ⟨22, 17, 1, [.ag (TRecord.q1 .v), .ag (TRecord.q1 .v)], [.b], fun (a0, _) => a0, fun r => (r, ()), [.ag [.v, .v, .v, .v], .ag [.v, .v, .v, .v]], [.v], [.k], [.tmp 4], [], [], [], []⟩
def laws_eqRecord.F (n : Nat) : Pat.Ts laws_eqRecord.d.ps → Option Bool := fun (a0, a1, _) => laws_eqRecord n (TRecord.of a0) (TRecord.of a1)

def laws_eqCond.d : FD Bool := ⟨144, 20, 1, [.ag (TCond.p .v), .ag (TCond.p .v)], [.b], fun (a0, _) => a0, fun r => (r, ()), [.ag [.v, .v, .v], .ag [.v, .v, .v]], [.v], [.k], [.tmp 4], [], [], [], []⟩
def laws_eqCond.F (n : Nat) : Pat.Ts laws_eqCond.d.ps → Option Bool := fun (a0, a1, _) => laws_eqCond n (TCond.of a0) (TCond.of a1)

def laws_eqCondS.p6 : OD := ⟨[(0, .view .iCond), (1, .view .iCond), (5, .k)], [.sl .v .iCond, .sl .v .iCond, .i .i64], [.ext]⟩
def laws_eqCondS.o0 : OD := ⟨[], [], [.ext]⟩
def laws_eqCondS.d : FD Bool := ⟨139, 27, 1, [.sl .v .iCond, .sl .v .iCond], [.b], fun (a0, _) => a0, fun r => (r, ()), [.v, .v], [.v], [.k], [.tmp 4], [], [(6, laws_eqCondS.p6)], [], [(0, laws_eqCondS.o0)]⟩
def laws_eqCondS.F (n : Nat) : Pat.Ts laws_eqCondS.d.ps → Option Bool := fun (a0, a1, _) => laws_eqCondS n a0 a1

def laws_eqQuery.d : FD Bool := ⟨131, 52, 1, [.ag (TQuery.p .v), .ag (TQuery.p .v)], [.b], fun (a0, _) => a0, fun r => (r, ()), [.ag [.v, .v, .v, .v, .v, .v, .v, .v, .v], .ag [.v, .v, .v, .v, .v, .v, .v, .v, .v]], [.v], [.k], [.tmp 4], [], [], [], []⟩
def laws_eqQuery.F (n : Nat) : Pat.Ts laws_eqQuery.d.ps → Option Bool := fun (a0, a1, _) => laws_eqQuery n (TQuery.of a0) (TQuery.of a1)

def laws_eqKid.d : FD Bool := ⟨140, 15, 1, [.ag (TKid.p .v), .ag (TKid.p .v)], [.b], fun (a0, _) => a0, fun r => (r, ()), [.ag [.v, .v], .ag [.v, .v]], [.v], [.k], [.tmp 4], [], [], [], []⟩
def laws_eqKid.F (n : Nat) : Pat.Ts laws_eqKid.d.ps → Option Bool := fun (a0, a1, _) => laws_eqKid n (TKid.of a0) (TKid.of a1)

def laws_eqKidS.p6 : OD := ⟨[(0, .view .iKid), (1, .view .iKid), (5, .k)], [.sl .v .iKid, .sl .v .iKid, .i .i64], [.ext]⟩
def laws_eqKidS.o0 : OD := ⟨[], [], [.ext]⟩
def laws_eqKidS.d : FD Bool := ⟨132, 27, 1, [.sl .v .iKid, .sl .v .iKid], [.b], fun (a0, _) => a0, fun r => (r, ()), [.v, .v], [.v], [.k], [.tmp 4], [], [(6, laws_eqKidS.p6)], [], [(0, laws_eqKidS.o0)]⟩
def laws_eqKidS.F (n : Nat) : Pat.Ts laws_eqKidS.d.ps → Option Bool := fun (a0, a1, _) => laws_eqKidS n a0 a1

def laws_eqView.d : FD Bool := ⟨111, 23, 1, [.ag (TView.p .v), .ag (TView.p .v)], [.b], fun (a0, _) => a0, fun r => (r, ()), [.ag [.v, .v, .v, .v, .v, .v, .v, .v, .v, .v, .v], .ag [.v, .v, .v, .v, .v, .v, .v, .v, .v, .v, .v]], [.v], [.k], [.tmp 4], [], [], [], []⟩
def laws_eqView.F (n : Nat) : Pat.Ts laws_eqView.d.ps → Option Bool := fun (a0, a1, _) => laws_eqView n (TView.of a0) (TView.of a1)

def laws_eqSess.d : FD Bool := ⟨75, 32, 1, [.ag (TSess.p .v), .ag (TSess.p .v)], [.b], fun (a0, _) => a0, fun r => (r, ()), [.ag [.v, .v, .v, .v, .v, .v, .v, .v, .v, .v, .v, .v, .v, .v, .v, .v, .v, .v, .v, .v, .v, .v, .v, .v, .v], .ag [.v, .v, .v, .v, .v, .v, .v, .v, .v, .v, .v, .v, .v, .v, .v, .v, .v, .v, .v, .v, .v, .v, .v, .v, .v]], [.v], [.k], [.tmp 4], [], [], [], []⟩
def laws_eqSess.F (n : Nat) : Pat.Ts laws_eqSess.d.ps → Option Bool := fun (a0, a1, _) => laws_eqSess n (TSess.of a0) (TSess.of a1)

def laws_eqLine.d : FD Bool := ⟨76, 15, 1, [.ag (TLine.p .v), .ag (TLine.p .v)], [.b], fun (a0, _) => a0, fun r => (r, ()), [.ag [.v, .v], .ag [.v, .v]], [.v], [.k], [.tmp 4], [], [], [], []⟩
def laws_eqLine.F (n : Nat) : Pat.Ts laws_eqLine.d.ps → Option Bool := fun (a0, a1, _) => laws_eqLine n (TLine.of a0) (TLine.of a1)

def laws_eqSeat.d : FD Bool := ⟨41, 32, 1, [.ag (TSeat.p .v), .ag (TSeat.p .v)], [.b], fun (a0, _) => a0, fun r => (r, ()), [.ag [.v, .v, .v, .v, .v, .v, .v, .v, .v, .v, .v, .v, .v, .v, .v, .v, .v, .v, .v, .v, .v, .v, .v, .v, .v, .v, .v, .v, .v, .v], .ag [.v, .v, .v, .v, .v, .v, .v, .v, .v, .v, .v, .v, .v, .v, .v, .v, .v, .v, .v, .v, .v, .v, .v, .v, .v, .v, .v, .v, .v, .v]], [.v], [.k], [.tmp 4], [], [], [], []⟩
def laws_eqSeat.F (n : Nat) : Pat.Ts laws_eqSeat.d.ps → Option Bool := fun (a0, a1, _) => laws_eqSeat n (TSeat.of a0) (TSeat.of a1)

def laws_eqSeatS.p6 : OD := ⟨[(0, .view .iSeat), (1, .view .iSeat), (5, .k)], [.sl .v .iSeat, .sl .v .iSeat, .i .i64], [.ext]⟩
def laws_eqSeatS.o0 : OD := ⟨[], [], [.ext]⟩
def laws_eqSeatS.d : FD Bool := ⟨23, 27, 1, [.sl .v .iSeat, .sl .v .iSeat], [.b], fun (a0, _) => a0, fun r => (r, ()), [.v, .v], [.v], [.k], [.tmp 4], [], [(6, laws_eqSeatS.p6)], [], [(0, laws_eqSeatS.o0)]⟩
def laws_eqSeatS.F (n : Nat) : Pat.Ts laws_eqSeatS.d.ps → Option Bool := fun (a0, a1, _) => laws_eqSeatS n a0 a1

def laws_eqServer.d : FD Bool := ⟨9, 17, 1, [.ag (TServer.q1 .v), .ag (TServer.q1 .v)], [.b], fun (a0, _) => a0, fun r => (r, ()), [.ag [.v, .v, .v, .v, .v], .ag [.v, .v, .v, .v, .v]], [.v], [.k], [.tmp 4], [], [], [], []⟩
def laws_eqServer.F (n : Nat) : Pat.Ts laws_eqServer.d.ps → Option Bool := fun (a0, a1, _) => laws_eqServer n (TServer.of a0) (TServer.of a1)

def laws_FnExactBehind.d : FD Bool := ⟨4, 31, 1, [.ag (TServer.p .v), .i .i64], [.b], fun (a0, _) => a0, fun r => (r, ()), [.ag [.v, .v, .v, .v, .v], .v], [.v], [.k], [.tmp 4], [], [], [], []⟩
def laws_FnExactBehind.F (n : Nat) : Pat.Ts laws_FnExactBehind.d.ps → Option Bool := fun (a0, a1, _) => laws_FnExactBehind n (TServer.of a0) a1

def KL (n : Nat) : List (Nat × Hd) := [
  (4, ⟨fun _ => laws_FnExactBehind.d.K (laws_FnExactBehind.F n)⟩),
  (5, ⟨fun _ => laws_szServer.d.K (laws_szServer.F n)⟩),
  (6, ⟨fun _ => spec_ServerOk.d.K (spec_ServerOk.F n)⟩),
  (7, ⟨fun _ => laws_toServer.d.K (laws_toServer.F n)⟩),
  (8, ⟨fun _ => impl_ServerOk.d.K (impl_ServerOk.F n)⟩),
  (9, ⟨fun _ => laws_eqServer.d.K (laws_eqServer.F n)⟩),
  (10, ⟨fun _ => spec_Behind.d.K (spec_Behind.F n)⟩),
  (11, ⟨fun _ => impl_Behind.d.K (impl_Behind.F n)⟩),
  (12, ⟨fun _ => laws_szRecord.d.K (laws_szRecord.F n)⟩),
  (13, ⟨fun _ => laws_szSeatS.d.K (laws_szSeatS.F n)⟩),
  (14, ⟨fun _ => spec_RecordOk.d.K (spec_RecordOk.F n)⟩),
  (15, ⟨fun _ => spec_SessOk.d.K (spec_SessOk.F n)⟩),
  (16, ⟨fun _ => spec_l1In.d.K (spec_l1In.F n)⟩),
  (17, ⟨fun _ => spec_Last.d.K (spec_Last.F n)⟩),
  (18, ⟨fun _ => laws_toRecord.d.K (laws_toRecord.F n)⟩),
  (19, ⟨fun _ => laws_toSeatS.d.K (laws_toSeatS.F n)⟩),
  (20, ⟨fun _ => impl_RecordOk.d.K (impl_RecordOk.F n)⟩),
  (21, ⟨fun _ => impl_seatOk.d.K (impl_seatOk.F n)⟩),
  (22, ⟨fun _ => laws_eqRecord.d.K (laws_eqRecord.F n)⟩),
  (23, ⟨fun _ => laws_eqSeatS.d.K (laws_eqSeatS.F n)⟩),
  (24, ⟨fun _ => impl_within.d.K (impl_within.F n)⟩),
  (25, ⟨fun _ => impl_Last.d.K (impl_Last.F n)⟩),
  (26, ⟨fun _ => laws_szStore.d.K (laws_szStore.F n)⟩),
  (27, ⟨fun _ => laws_szChangeSS.d.K (laws_szChangeSS.F n)⟩),
  (28, ⟨fun _ => laws_szSeat.d.K (laws_szSeat.F n)⟩),
  (29, ⟨fun _ => spec_Forward.d.K (spec_Forward.F n)⟩),
  (30, ⟨fun _ => spec_StoreOk.d.K (spec_StoreOk.F n)⟩),
  (31, ⟨fun _ => spec_ViewOk.d.K (spec_ViewOk.F n)⟩),
  (32, ⟨fun _ => spec_ViewSame.d.K (spec_ViewSame.F n)⟩),
  (33, ⟨fun _ => spec_QuerySame.d.K (spec_QuerySame.F n)⟩),
  (34, ⟨fun _ => laws_toStore.d.K (laws_toStore.F n)⟩),
  (35, ⟨fun _ => laws_toChangeSS.d.K (laws_toChangeSS.F n)⟩),
  (36, ⟨fun _ => laws_toSeat.d.K (laws_toSeat.F n)⟩),
  (37, ⟨fun _ => impl_after.d.K (impl_after.F n)⟩),
  (38, ⟨fun _ => impl_SessOk.d.K (impl_SessOk.F n)⟩),
  (39, ⟨fun _ => laws_eqStore.d.K (laws_eqStore.F n)⟩),
  (40, ⟨fun _ => laws_eqChangeSS.d.K (laws_eqChangeSS.F n)⟩),
  (41, ⟨fun _ => laws_eqSeat.d.K (laws_eqSeat.F n)⟩),
  (42, ⟨fun _ => laws_szSchema.d.K (laws_szSchema.F n)⟩),
  (43, ⟨fun _ => laws_szRowSS.d.K (laws_szRowSS.F n)⟩),
  (44, ⟨fun _ => laws_szChangeS.d.K (laws_szChangeS.F n)⟩),
  (45, ⟨fun _ => laws_szSess.d.K (laws_szSess.F n)⟩),
  (46, ⟨fun _ => laws_szLine.d.K (laws_szLine.F n)⟩),
  (47, ⟨fun _ => spec_l7Copy.d.K (spec_l7Copy.F n)⟩),
  (48, ⟨fun _ => spec_l8Zero.d.K (spec_l8Zero.F n)⟩),
  (49, ⟨fun _ => spec_l7Turn.d.K (spec_l7Turn.F n)⟩),
  (50, ⟨fun _ => spec_SchemaOk.d.K (spec_SchemaOk.F n)⟩),
  (51, ⟨fun _ => spec_RowsOk.d.K (spec_RowsOk.F n)⟩),
  (52, ⟨fun _ => spec_QueryOk.d.K (spec_QueryOk.F n)⟩),
  (53, ⟨fun _ => spec_RowOk.d.K (spec_RowOk.F n)⟩),
  (54, ⟨fun _ => spec_Matches.d.K (spec_Matches.F n)⟩),
  (55, ⟨fun _ => spec_RowAt.d.K (spec_RowAt.F n)⟩),
  (56, ⟨fun _ => spec_Ahead.d.K (spec_Ahead.F n)⟩),
  (57, ⟨fun _ => spec_RowSame.d.K (spec_RowSame.F n)⟩),
  (58, ⟨fun _ => spec_l9Conds.d.K (spec_l9Conds.F n)⟩),
  (59, ⟨fun _ => spec_l9Ints.d.K (spec_l9Ints.F n)⟩),
  (60, ⟨fun _ => laws_toSchema.d.K (laws_toSchema.F n)⟩),
  (61, ⟨fun _ => laws_toRowSS.d.K (laws_toRowSS.F n)⟩),
  (62, ⟨fun _ => laws_toChangeS.d.K (laws_toChangeS.F n)⟩),
  (63, ⟨fun _ => laws_toSess.d.K (laws_toSess.F n)⟩),
  (64, ⟨fun _ => laws_toLine.d.K (laws_toLine.F n)⟩),
  (65, ⟨fun _ => impl_copyStore.d.K (impl_copyStore.F n)⟩),
  (66, ⟨fun _ => impl_StoreOk.d.K (impl_StoreOk.F n)⟩),
  (67, ⟨fun _ => impl_Forward.d.K (impl_Forward.F n)⟩),
  (68, ⟨fun _ => impl_ViewOk.d.K (impl_ViewOk.F n)⟩),
  (69, ⟨fun _ => impl_isVersion.d.K (impl_isVersion.F n)⟩),
  (70, ⟨fun _ => impl_ViewSame.d.K (impl_ViewSame.F n)⟩),
  (71, ⟨fun _ => impl_QuerySame.d.K (impl_QuerySame.F n)⟩),
  (72, ⟨fun _ => laws_eqSchema.d.K (laws_eqSchema.F n)⟩),
  (73, ⟨fun _ => laws_eqRowSS.d.K (laws_eqRowSS.F n)⟩),
  (74, ⟨fun _ => laws_eqChangeS.d.K (laws_eqChangeS.F n)⟩),
  (75, ⟨fun _ => laws_eqSess.d.K (laws_eqSess.F n)⟩),
  (76, ⟨fun _ => laws_eqLine.d.K (laws_eqLine.F n)⟩),
  (77, ⟨fun _ => laws_szIntS.d.K (laws_szIntS.F n)⟩),
  (78, ⟨fun _ => laws_szRowS.d.K (laws_szRowS.F n)⟩),
  (79, ⟨fun _ => laws_szChange.d.K (laws_szChange.F n)⟩),
  (80, ⟨fun _ => laws_szView.d.K (laws_szView.F n)⟩),
  (81, ⟨fun _ => spec_l7Schema.d.K (spec_l7Schema.F n)⟩),
  (82, ⟨fun _ => spec_l6Rows.d.K (spec_l6Rows.F n)⟩),
  (83, ⟨fun _ => spec_l7There.d.K (spec_l7There.F n)⟩),
  (84, ⟨fun _ => spec_RowDrop.d.K (spec_RowDrop.F n)⟩),
  (85, ⟨fun _ => spec_RowPut.d.K (spec_RowPut.F n)⟩),
  (86, ⟨fun _ => spec_l9Holds.d.K (spec_l9Holds.F n)⟩),
  (87, ⟨fun _ => spec_l9Cell.d.K (spec_l9Cell.F n)⟩),
  (88, ⟨fun _ => laws_toIntS.d.K (laws_toIntS.F n)⟩),
  (89, ⟨fun _ => laws_toRowS.d.K (laws_toRowS.F n)⟩),
  (90, ⟨fun _ => laws_toChange.d.K (laws_toChange.F n)⟩),
  (91, ⟨fun _ => laws_toView.d.K (laws_toView.F n)⟩),
  (92, ⟨fun _ => impl_copyInts.d.K (impl_copyInts.F n)⟩),
  (93, ⟨fun _ => impl_copyRows.d.K (impl_copyRows.F n)⟩),
  (94, ⟨fun _ => impl_SchemaOk.d.K (impl_SchemaOk.F n)⟩),
  (95, ⟨fun _ => impl_RowsOk.d.K (impl_RowsOk.F n)⟩),
  (96, ⟨fun _ => impl_changeFits.d.K (impl_changeFits.F n)⟩),
  (97, ⟨fun _ => impl_swapped.d.K (impl_swapped.F n)⟩),
  (98, ⟨fun _ => impl_QueryOk.d.K (impl_QueryOk.F n)⟩),
  (99, ⟨fun _ => impl_RowOk.d.K (impl_RowOk.F n)⟩),
  (100, ⟨fun _ => impl_Matches.d.K (impl_Matches.F n)⟩),
  (101, ⟨fun _ => impl_Ahead.d.K (impl_Ahead.F n)⟩),
  (102, ⟨fun _ => impl_RowAt.d.K (impl_RowAt.F n)⟩),
  (103, ⟨fun _ => slices_EqualFunc_Row_impl_RowSame.d.K (slices_EqualFunc_Row_impl_RowSame.F n)⟩),
  (104, ⟨fun _ => impl_RowSame.d.K (impl_RowSame.F n)⟩),
  (105, ⟨fun _ => slices_Equal_Kid.d.K (slices_Equal_Kid.F n)⟩),
  (106, ⟨fun _ => slices_Equal_Cond.d.K (slices_Equal_Cond.F n)⟩),
  (107, ⟨fun _ => slices_Equal_int.d.K (slices_Equal_int.F n)⟩),
  (108, ⟨fun _ => laws_eqIntS.d.K (laws_eqIntS.F n)⟩),
  (109, ⟨fun _ => laws_eqRowS.d.K (laws_eqRowS.F n)⟩),
  (110, ⟨fun _ => laws_eqChange.d.K (laws_eqChange.F n)⟩),
  (111, ⟨fun _ => laws_eqView.d.K (laws_eqView.F n)⟩),
  (112, ⟨fun _ => laws_szRow.d.K (laws_szRow.F n)⟩),
  (113, ⟨fun _ => laws_szQuery.d.K (laws_szQuery.F n)⟩),
  (114, ⟨fun _ => laws_szKidS.d.K (laws_szKidS.F n)⟩),
  (115, ⟨fun _ => spec_l6Copy.d.K (spec_l6Copy.F n)⟩),
  (116, ⟨fun _ => laws_toRow.d.K (laws_toRow.F n)⟩),
  (117, ⟨fun _ => laws_toQuery.d.K (laws_toQuery.F n)⟩),
  (118, ⟨fun _ => laws_toKidS.d.K (laws_toKidS.F n)⟩),
  (119, ⟨fun _ => impl_copyRow.d.K (impl_copyRow.F n)⟩),
  (120, ⟨fun _ => impl_hasTable.d.K (impl_hasTable.F n)⟩),
  (121, ⟨fun _ => impl_noRow.d.K (impl_noRow.F n)⟩),
  (122, ⟨fun _ => impl_RowDrop.d.K (impl_RowDrop.F n)⟩),
  (123, ⟨fun _ => impl_RowPut.d.K (impl_RowPut.F n)⟩),
  (124, ⟨fun _ => impl_isNum.d.K (impl_isNum.F n)⟩),
  (125, ⟨fun _ => impl_kidsFit.d.K (impl_kidsFit.F n)⟩),
  (126, ⟨fun _ => impl_holds.d.K (impl_holds.F n)⟩),
  (127, ⟨fun _ => impl_cellOf.d.K (impl_cellOf.F n)⟩),
  (128, ⟨fun _ avs κ => cond (Nat.beq (selClo 1 avs) 129) (slices_IndexFunc_Row_impl_RowAt_f1.d.K (slices_IndexFunc_Row_impl_RowAt_f1.F n) avs κ) (cond (Nat.beq (selClo 1 avs) 137) (slices_IndexFunc_Row_impl_RowPut_f1.d.K (slices_IndexFunc_Row_impl_RowPut_f1.F n) avs κ) (none))⟩),
  (129, ⟨fun _ => impl_RowAt_f1.d.K (impl_RowAt_f1.F n)⟩),
  (130, ⟨fun _ => laws_eqRow.d.K (laws_eqRow.F n)⟩),
  (131, ⟨fun _ => laws_eqQuery.d.K (laws_eqQuery.F n)⟩),
  (132, ⟨fun _ => laws_eqKidS.d.K (laws_eqKidS.F n)⟩),
  (133, ⟨fun _ => laws_szCondS.d.K (laws_szCondS.F n)⟩),
  (134, ⟨fun _ => laws_toCondS.d.K (laws_toCondS.F n)⟩),
  (135, ⟨fun _ => laws_toKid.d.K (laws_toKid.F n)⟩),
  (136, ⟨fun _ => slices_Delete_Row.d.K (slices_Delete_Row.F n)⟩),
  (137, ⟨fun _ => impl_RowPut_f1.d.K (impl_RowPut_f1.F n)⟩),
  (138, ⟨fun _ => slices_Insert_Row.d.K (slices_Insert_Row.F n)⟩),
  (139, ⟨fun _ => laws_eqCondS.d.K (laws_eqCondS.F n)⟩),
  (140, ⟨fun _ => laws_eqKid.d.K (laws_eqKid.F n)⟩),
  (141, ⟨fun _ => laws_toCond.d.K (laws_toCond.F n)⟩),
  (144, ⟨fun _ => laws_eqCond.d.K (laws_eqCond.F n)⟩)]
def sigL : List (Nat × List PS) := [
  (4, laws_FnExactBehind.d.sig),
  (5, laws_szServer.d.sig),
  (6, spec_ServerOk.d.sig),
  (7, laws_toServer.d.sig),
  (8, impl_ServerOk.d.sig),
  (9, laws_eqServer.d.sig),
  (10, spec_Behind.d.sig),
  (11, impl_Behind.d.sig),
  (12, laws_szRecord.d.sig),
  (13, laws_szSeatS.d.sig),
  (14, spec_RecordOk.d.sig),
  (15, spec_SessOk.d.sig),
  (16, spec_l1In.d.sig),
  (17, spec_Last.d.sig),
  (18, laws_toRecord.d.sig),
  (19, laws_toSeatS.d.sig),
  (20, impl_RecordOk.d.sig),
  (21, impl_seatOk.d.sig),
  (22, laws_eqRecord.d.sig),
  (23, laws_eqSeatS.d.sig),
  (24, impl_within.d.sig),
  (25, impl_Last.d.sig),
  (26, laws_szStore.d.sig),
  (27, laws_szChangeSS.d.sig),
  (28, laws_szSeat.d.sig),
  (29, spec_Forward.d.sig),
  (30, spec_StoreOk.d.sig),
  (31, spec_ViewOk.d.sig),
  (32, spec_ViewSame.d.sig),
  (33, spec_QuerySame.d.sig),
  (34, laws_toStore.d.sig),
  (35, laws_toChangeSS.d.sig),
  (36, laws_toSeat.d.sig),
  (37, impl_after.d.sig),
  (38, impl_SessOk.d.sig),
  (39, laws_eqStore.d.sig),
  (40, laws_eqChangeSS.d.sig),
  (41, laws_eqSeat.d.sig),
  (42, laws_szSchema.d.sig),
  (43, laws_szRowSS.d.sig),
  (44, laws_szChangeS.d.sig),
  (45, laws_szSess.d.sig),
  (46, laws_szLine.d.sig),
  (47, spec_l7Copy.d.sig),
  (48, spec_l8Zero.d.sig),
  (49, spec_l7Turn.d.sig),
  (50, spec_SchemaOk.d.sig),
  (51, spec_RowsOk.d.sig),
  (52, spec_QueryOk.d.sig),
  (53, spec_RowOk.d.sig),
  (54, spec_Matches.d.sig),
  (55, spec_RowAt.d.sig),
  (56, spec_Ahead.d.sig),
  (57, spec_RowSame.d.sig),
  (58, spec_l9Conds.d.sig),
  (59, spec_l9Ints.d.sig),
  (60, laws_toSchema.d.sig),
  (61, laws_toRowSS.d.sig),
  (62, laws_toChangeS.d.sig),
  (63, laws_toSess.d.sig),
  (64, laws_toLine.d.sig),
  (65, impl_copyStore.d.sig),
  (66, impl_StoreOk.d.sig),
  (67, impl_Forward.d.sig),
  (68, impl_ViewOk.d.sig),
  (69, impl_isVersion.d.sig),
  (70, impl_ViewSame.d.sig),
  (71, impl_QuerySame.d.sig),
  (72, laws_eqSchema.d.sig),
  (73, laws_eqRowSS.d.sig),
  (74, laws_eqChangeS.d.sig),
  (75, laws_eqSess.d.sig),
  (76, laws_eqLine.d.sig),
  (77, laws_szIntS.d.sig),
  (78, laws_szRowS.d.sig),
  (79, laws_szChange.d.sig),
  (80, laws_szView.d.sig),
  (81, spec_l7Schema.d.sig),
  (82, spec_l6Rows.d.sig),
  (83, spec_l7There.d.sig),
  (84, spec_RowDrop.d.sig),
  (85, spec_RowPut.d.sig),
  (86, spec_l9Holds.d.sig),
  (87, spec_l9Cell.d.sig),
  (88, laws_toIntS.d.sig),
  (89, laws_toRowS.d.sig),
  (90, laws_toChange.d.sig),
  (91, laws_toView.d.sig),
  (92, impl_copyInts.d.sig),
  (93, impl_copyRows.d.sig),
  (94, impl_SchemaOk.d.sig),
  (95, impl_RowsOk.d.sig),
  (96, impl_changeFits.d.sig),
  (97, impl_swapped.d.sig),
  (98, impl_QueryOk.d.sig),
  (99, impl_RowOk.d.sig),
  (100, impl_Matches.d.sig),
  (101, impl_Ahead.d.sig),
  (102, impl_RowAt.d.sig),
  (103, slices_EqualFunc_Row_impl_RowSame.d.sig),
  (104, impl_RowSame.d.sig),
  (105, slices_Equal_Kid.d.sig),
  (106, slices_Equal_Cond.d.sig),
  (107, slices_Equal_int.d.sig),
  (108, laws_eqIntS.d.sig),
  (109, laws_eqRowS.d.sig),
  (110, laws_eqChange.d.sig),
  (111, laws_eqView.d.sig),
  (112, laws_szRow.d.sig),
  (113, laws_szQuery.d.sig),
  (114, laws_szKidS.d.sig),
  (115, spec_l6Copy.d.sig),
  (116, laws_toRow.d.sig),
  (117, laws_toQuery.d.sig),
  (118, laws_toKidS.d.sig),
  (119, impl_copyRow.d.sig),
  (120, impl_hasTable.d.sig),
  (121, impl_noRow.d.sig),
  (122, impl_RowDrop.d.sig),
  (123, impl_RowPut.d.sig),
  (124, impl_isNum.d.sig),
  (125, impl_kidsFit.d.sig),
  (126, impl_holds.d.sig),
  (127, impl_cellOf.d.sig),
  (128, slices_IndexFunc_Row_impl_RowAt_f1.d.sig),
  (129, impl_RowAt_f1.d.sig),
  (130, laws_eqRow.d.sig),
  (131, laws_eqQuery.d.sig),
  (132, laws_eqKidS.d.sig),
  (133, laws_szCondS.d.sig),
  (134, laws_toCondS.d.sig),
  (135, laws_toKid.d.sig),
  (136, slices_Delete_Row.d.sig),
  (137, impl_RowPut_f1.d.sig),
  (138, slices_Insert_Row.d.sig),
  (139, laws_eqCondS.d.sig),
  (140, laws_eqKid.d.sig),
  (141, laws_toCond.d.sig),
  (144, laws_eqCond.d.sig)]
def fzL : List Nat := [29, 37, 49, 67, 85, 97]
def cx (n nt : Nat) : Cx := ⟨nt, tt, fun f => look2 sigL f, KH (KL n), fun f => fzL.any (Nat.beq f)⟩
end Go.Pi
end
section
set_option linter.unusedVariables false
set_option maxRecDepth 100000
namespace Go.Pi
open Go.Proofs
noncomputable def laws_szIntS.fs (n : Nat) : laws_szIntS.d.Fs := ()
theorem laws_szIntS.ok (n : Nat) : CxOk E (cx n laws_szIntS.d.nt) → KPar (cx n laws_szIntS.d.nt) → laws_szIntS.d.Ok E (laws_szIntS.F (n + 1)) :=
  FD.ok (fs := laws_szIntS.fs n) mixedOk Tryz.func77 (by kernel_rfl) (by kernel_rfl) (by kernel_rfl) (by kernel_rfl) (fun _ => by kernel_rfl) (by kernel_rfl) (fun x => by kernel_rfl) (.nil)
noncomputable def laws_szSchema.fs (n : Nat) : laws_szSchema.d.Fs := ()
theorem laws_szSchema.ok (n : Nat) : CxOk E (cx n laws_szSchema.d.nt) → KPar (cx n laws_szSchema.d.nt) → laws_szSchema.d.Ok E (laws_szSchema.F (n + 1)) :=
  FD.ok (fs := laws_szSchema.fs n) mixedOk Tryz.func42 (by kernel_rfl) (by kernel_rfl) (by kernel_rfl) (by kernel_rfl) (fun _ => by kernel_rfl) (by kernel_rfl) (fun x => by kernel_rfl) (.nil)
noncomputable def laws_szRow.fs (n : Nat) : laws_szRow.d.Fs := ()
theorem laws_szRow.ok (n : Nat) : CxOk E (cx n laws_szRow.d.nt) → KPar (cx n laws_szRow.d.nt) → laws_szRow.d.Ok E (laws_szRow.F (n + 1)) :=
  FD.ok (fs := laws_szRow.fs n) mixedOk Tryz.func112 (by kernel_rfl) (by kernel_rfl) (by kernel_rfl) (by kernel_rfl) (fun _ => by kernel_rfl) (by kernel_rfl) (fun x => by kernel_rfl) (.nil)
noncomputable def laws_szRowS.fs (n : Nat) : laws_szRowS.d.Fs := (fun _ κe => laws_szRowS.loop7 n (laws_szRowS.o0.k (κe 0)) n, ())
theorem laws_szRowS.r7 (n : Nat) : laws_szRowS.d.Round (laws_szRowS.fs n) (cx n laws_szRowS.d.nt) (bodyOf Tryz.f78) 7 laws_szRowS.p7 (fun κe => laws_szRowS.step7 n (laws_szRowS.o0.k (κe 0))) := fun κ κe x y => by kernel_rfl
theorem laws_szRowS.ok (n : Nat) : CxOk E (cx n laws_szRowS.d.nt) → KPar (cx n laws_szRowS.d.nt) → laws_szRowS.d.Ok E (laws_szRowS.F (n + 1)) :=
  FD.ok (fs := laws_szRowS.fs n) mixedOk Tryz.func78 (by kernel_rfl) (by kernel_rfl) (by kernel_rfl) (by kernel_rfl) (fun _ => by kernel_rfl) (by kernel_rfl) (fun x => by kernel_rfl) (.cons (FD.lp n (laws_szRowS.r7 n) (by kernel_rfl) fun _ _ => by kernel_rfl) (.nil))
noncomputable def laws_szRowSS.fs (n : Nat) : laws_szRowSS.d.Fs := (fun _ κe => laws_szRowSS.loop7 n (laws_szRowSS.o0.k (κe 0)) n, ())
theorem laws_szRowSS.r7 (n : Nat) : laws_szRowSS.d.Round (laws_szRowSS.fs n) (cx n laws_szRowSS.d.nt) (bodyOf Tryz.f43) 7 laws_szRowSS.p7 (fun κe => laws_szRowSS.step7 n (laws_szRowSS.o0.k (κe 0))) := fun κ κe x y => by kernel_rfl
theorem laws_szRowSS.ok (n : Nat) : CxOk E (cx n laws_szRowSS.d.nt) → KPar (cx n laws_szRowSS.d.nt) → laws_szRowSS.d.Ok E (laws_szRowSS.F (n + 1)) :=
  FD.ok (fs := laws_szRowSS.fs n) mixedOk Tryz.func43 (by kernel_rfl) (by kernel_rfl) (by kernel_rfl) (by kernel_rfl) (fun _ => by kernel_rfl) (by kernel_rfl) (fun x => by kernel_rfl) (.cons (FD.lp n (laws_szRowSS.r7 n) (by kernel_rfl) fun _ _ => by kernel_rfl) (.nil))
noncomputable def laws_szStore.fs (n : Nat) : laws_szStore.d.Fs := ()
theorem laws_szStore.ok (n : Nat) : CxOk E (cx n laws_szStore.d.nt) → KPar (cx n laws_szStore.d.nt) → laws_szStore.d.Ok E (laws_szStore.F (n + 1)) :=
  FD.ok (fs := laws_szStore.fs n) mixedOk Tryz.func26 (by kernel_rfl) (by kernel_rfl) (by kernel_rfl) (by kernel_rfl) (fun _ => by kernel_rfl) (by kernel_rfl) (fun x => by kernel_rfl) (.nil)
noncomputable def laws_szChange.fs (n : Nat) : laws_szChange.d.Fs := ()
theorem laws_szChange.ok (n : Nat) : CxOk E (cx n laws_szChange.d.nt) → KPar (cx n laws_szChange.d.nt) → laws_szChange.d.Ok E (laws_szChange.F (n + 1)) :=
  FD.ok (fs := laws_szChange.fs n) mixedOk Tryz.func79 (by kernel_rfl) (by kernel_rfl) (by kernel_rfl) (by kernel_rfl) (fun _ => by kernel_rfl) (by kernel_rfl) (fun x => by kernel_rfl) (.nil)
noncomputable def laws_szChangeS.fs (n : Nat) : laws_szChangeS.d.Fs := (fun _ κe => laws_szChangeS.loop7 n (laws_szChangeS.o0.k (κe 0)) n, ())
theorem laws_szChangeS.r7 (n : Nat) : laws_szChangeS.d.Round (laws_szChangeS.fs n) (cx n laws_szChangeS.d.nt) (bodyOf Tryz.f44) 7 laws_szChangeS.p7 (fun κe => laws_szChangeS.step7 n (laws_szChangeS.o0.k (κe 0))) := fun κ κe x y => by kernel_rfl
theorem laws_szChangeS.ok (n : Nat) : CxOk E (cx n laws_szChangeS.d.nt) → KPar (cx n laws_szChangeS.d.nt) → laws_szChangeS.d.Ok E (laws_szChangeS.F (n + 1)) :=
  FD.ok (fs := laws_szChangeS.fs n) mixedOk Tryz.func44 (by kernel_rfl) (by kernel_rfl) (by kernel_rfl) (by kernel_rfl) (fun _ => by kernel_rfl) (by kernel_rfl) (fun x => by kernel_rfl) (.cons (FD.lp n (laws_szChangeS.r7 n) (by kernel_rfl) fun _ _ => by kernel_rfl) (.nil))
noncomputable def laws_szChangeSS.fs (n : Nat) : laws_szChangeSS.d.Fs := (fun _ κe => laws_szChangeSS.loop7 n (laws_szChangeSS.o0.k (κe 0)) n, ())
theorem laws_szChangeSS.r7 (n : Nat) : laws_szChangeSS.d.Round (laws_szChangeSS.fs n) (cx n laws_szChangeSS.d.nt) (bodyOf Tryz.f27) 7 laws_szChangeSS.p7 (fun κe => laws_szChangeSS.step7 n (laws_szChangeSS.o0.k (κe 0))) := fun κ κe x y => by kernel_rfl
theorem laws_szChangeSS.ok (n : Nat) : CxOk E (cx n laws_szChangeSS.d.nt) → KPar (cx n laws_szChangeSS.d.nt) → laws_szChangeSS.d.Ok E (laws_szChangeSS.F (n + 1)) :=
  FD.ok (fs := laws_szChangeSS.fs n) mixedOk Tryz.func27 (by kernel_rfl) (by kernel_rfl) (by kernel_rfl) (by kernel_rfl) (fun _ => by kernel_rfl) (by kernel_rfl) (fun x => by kernel_rfl) (.cons (FD.lp n (laws_szChangeSS.r7 n) (by kernel_rfl) fun _ _ => by kernel_rfl) (.nil))
noncomputable def laws_szRecord.fs (n : Nat) : laws_szRecord.d.Fs := ()
theorem laws_szRecord.ok (n : Nat) : CxOk E (cx n laws_szRecord.d.nt) → KPar (cx n laws_szRecord.d.nt) → laws_szRecord.d.Ok E (laws_szRecord.F (n + 1)) :=
  FD.ok (fs := laws_szRecord.fs n) mixedOk Tryz.func12 (by kernel_rfl) (by kernel_rfl) (by kernel_rfl) (by kernel_rfl) (fun _ => by kernel_rfl) (by kernel_rfl) (fun x => by kernel_rfl) (.nil)
noncomputable def laws_szCondS.fs (n : Nat) : laws_szCondS.d.Fs := ()
theorem laws_szCondS.ok (n : Nat) : CxOk E (cx n laws_szCondS.d.nt) → KPar (cx n laws_szCondS.d.nt) → laws_szCondS.d.Ok E (laws_szCondS.F (n + 1)) :=
  FD.ok (fs := laws_szCondS.fs n) mixedOk Tryz.func133 (by kernel_rfl) (by kernel_rfl) (by kernel_rfl) (by kernel_rfl) (fun _ => by kernel_rfl) (by kernel_rfl) (fun x => by kernel_rfl) (.nil)
noncomputable def laws_szQuery.fs (n : Nat) : laws_szQuery.d.Fs := ()
theorem laws_szQuery.ok (n : Nat) : CxOk E (cx n laws_szQuery.d.nt) → KPar (cx n laws_szQuery.d.nt) → laws_szQuery.d.Ok E (laws_szQuery.F (n + 1)) :=
  FD.ok (fs := laws_szQuery.fs n) mixedOk Tryz.func113 (by kernel_rfl) (by kernel_rfl) (by kernel_rfl) (by kernel_rfl) (fun _ => by kernel_rfl) (by kernel_rfl) (fun x => by kernel_rfl) (.nil)
noncomputable def laws_szKidS.fs (n : Nat) : laws_szKidS.d.Fs := ()
theorem laws_szKidS.ok (n : Nat) : CxOk E (cx n laws_szKidS.d.nt) → KPar (cx n laws_szKidS.d.nt) → laws_szKidS.d.Ok E (laws_szKidS.F (n + 1)) :=
  FD.ok (fs := laws_szKidS.fs n) mixedOk Tryz.func114 (by kernel_rfl) (by kernel_rfl) (by kernel_rfl) (by kernel_rfl) (fun _ => by kernel_rfl) (by kernel_rfl) (fun x => by kernel_rfl) (.nil)
noncomputable def laws_szView.fs (n : Nat) : laws_szView.d.Fs := ()
theorem laws_szView.ok (n : Nat) : CxOk E (cx n laws_szView.d.nt) → KPar (cx n laws_szView.d.nt) → laws_szView.d.Ok E (laws_szView.F (n + 1)) :=
  FD.ok (fs := laws_szView.fs n) mixedOk Tryz.func80 (by kernel_rfl) (by kernel_rfl) (by kernel_rfl) (by kernel_rfl) (fun _ => by kernel_rfl) (by kernel_rfl) (fun x => by kernel_rfl) (.nil)
noncomputable def laws_szSess.fs (n : Nat) : laws_szSess.d.Fs := ()
theorem laws_szSess.ok (n : Nat) : CxOk E (cx n laws_szSess.d.nt) → KPar (cx n laws_szSess.d.nt) → laws_szSess.d.Ok E (laws_szSess.F (n + 1)) :=
  FD.ok (fs := laws_szSess.fs n) mixedOk Tryz.func45 (by kernel_rfl) (by kernel_rfl) (by kernel_rfl) (by kernel_rfl) (fun _ => by kernel_rfl) (by kernel_rfl) (fun x => by kernel_rfl) (.nil)
noncomputable def laws_szLine.fs (n : Nat) : laws_szLine.d.Fs := ()
theorem laws_szLine.ok (n : Nat) : CxOk E (cx n laws_szLine.d.nt) → KPar (cx n laws_szLine.d.nt) → laws_szLine.d.Ok E (laws_szLine.F (n + 1)) :=
  FD.ok (fs := laws_szLine.fs n) mixedOk Tryz.func46 (by kernel_rfl) (by kernel_rfl) (by kernel_rfl) (by kernel_rfl) (fun _ => by kernel_rfl) (by kernel_rfl) (fun x => by kernel_rfl) (.nil)
noncomputable def laws_szSeat.fs (n : Nat) : laws_szSeat.d.Fs := ()
theorem laws_szSeat.ok (n : Nat) : CxOk E (cx n laws_szSeat.d.nt) → KPar (cx n laws_szSeat.d.nt) → laws_szSeat.d.Ok E (laws_szSeat.F (n + 1)) :=
  FD.ok (fs := laws_szSeat.fs n) mixedOk Tryz.func28 (by kernel_rfl) (by kernel_rfl) (by kernel_rfl) (by kernel_rfl) (fun _ => by kernel_rfl) (by kernel_rfl) (fun x => by kernel_rfl) (.nil)
noncomputable def laws_szSeatS.fs (n : Nat) : laws_szSeatS.d.Fs := (fun _ κe => laws_szSeatS.loop7 n (laws_szSeatS.o0.k (κe 0)) n, ())
theorem laws_szSeatS.r7 (n : Nat) : laws_szSeatS.d.Round (laws_szSeatS.fs n) (cx n laws_szSeatS.d.nt) (bodyOf Tryz.f13) 7 laws_szSeatS.p7 (fun κe => laws_szSeatS.step7 n (laws_szSeatS.o0.k (κe 0))) := fun κ κe x y => by kernel_rfl
theorem laws_szSeatS.ok (n : Nat) : CxOk E (cx n laws_szSeatS.d.nt) → KPar (cx n laws_szSeatS.d.nt) → laws_szSeatS.d.Ok E (laws_szSeatS.F (n + 1)) :=
  FD.ok (fs := laws_szSeatS.fs n) mixedOk Tryz.func13 (by kernel_rfl) (by kernel_rfl) (by kernel_rfl) (by kernel_rfl) (fun _ => by kernel_rfl) (by kernel_rfl) (fun x => by kernel_rfl) (.cons (FD.lp n (laws_szSeatS.r7 n) (by kernel_rfl) fun _ _ => by kernel_rfl) (.nil))
noncomputable def laws_szServer.fs (n : Nat) : laws_szServer.d.Fs := ()
theorem laws_szServer.ok (n : Nat) : CxOk E (cx n laws_szServer.d.nt) → KPar (cx n laws_szServer.d.nt) → laws_szServer.d.Ok E (laws_szServer.F (n + 1)) :=
  FD.ok (fs := laws_szServer.fs n) mixedOk Tryz.func5 (by kernel_rfl) (by kernel_rfl) (by kernel_rfl) (by kernel_rfl) (fun _ => by kernel_rfl) (by kernel_rfl) (fun x => by kernel_rfl) (.nil)
noncomputable def laws_toIntS.fs (n : Nat) : laws_toIntS.d.Fs := (fun _ κe => laws_toIntS.loop4 n (laws_toIntS.o0.k (κe 0)) n, ())
theorem laws_toIntS.r4 (n : Nat) : laws_toIntS.d.Round (laws_toIntS.fs n) (cx n laws_toIntS.d.nt) (bodyOf Tryz.f88) 4 laws_toIntS.p4 (fun κe => laws_toIntS.step4 n (laws_toIntS.o0.k (κe 0))) := fun κ κe x y => by kernel_rfl
theorem laws_toIntS.ok (n : Nat) : CxOk E (cx n laws_toIntS.d.nt) → KPar (cx n laws_toIntS.d.nt) → laws_toIntS.d.Ok E (laws_toIntS.F (n + 1)) :=
  FD.ok (fs := laws_toIntS.fs n) mixedOk Tryz.func88 (by kernel_rfl) (by kernel_rfl) (by kernel_rfl) (by kernel_rfl) (fun _ => by kernel_rfl) (by kernel_rfl) (fun x => by kernel_rfl) (.cons (FD.lp n (laws_toIntS.r4 n) (by kernel_rfl) fun _ _ => by kernel_rfl) (.nil))
noncomputable def laws_toSchema.fs (n : Nat) : laws_toSchema.d.Fs := ()
theorem laws_toSchema.ok (n : Nat) : CxOk E (cx n laws_toSchema.d.nt) → KPar (cx n laws_toSchema.d.nt) → laws_toSchema.d.Ok E (laws_toSchema.F (n + 1)) :=
  FD.ok (fs := laws_toSchema.fs n) mixedOk Tryz.func60 (by kernel_rfl) (by kernel_rfl) (by kernel_rfl) (by kernel_rfl) (fun _ => by kernel_rfl) (by kernel_rfl) (fun x => by kernel_rfl) (.nil)
noncomputable def laws_toRow.fs (n : Nat) : laws_toRow.d.Fs := ()
theorem laws_toRow.ok (n : Nat) : CxOk E (cx n laws_toRow.d.nt) → KPar (cx n laws_toRow.d.nt) → laws_toRow.d.Ok E (laws_toRow.F (n + 1)) :=
  FD.ok (fs := laws_toRow.fs n) mixedOk Tryz.func116 (by kernel_rfl) (by kernel_rfl) (by kernel_rfl) (by kernel_rfl) (fun _ => by kernel_rfl) (by kernel_rfl) (fun x => by kernel_rfl) (.nil)
noncomputable def laws_toRowS.fs (n : Nat) : laws_toRowS.d.Fs := (fun _ κe => laws_toRowS.loop4 n (laws_toRowS.o0.k (κe 0)) n, ())
theorem laws_toRowS.r4 (n : Nat) : laws_toRowS.d.Round (laws_toRowS.fs n) (cx n laws_toRowS.d.nt) (bodyOf Tryz.f89) 4 laws_toRowS.p4 (fun κe => laws_toRowS.step4 n (laws_toRowS.o0.k (κe 0))) := fun κ κe x y => by kernel_rfl
theorem laws_toRowS.ok (n : Nat) : CxOk E (cx n laws_toRowS.d.nt) → KPar (cx n laws_toRowS.d.nt) → laws_toRowS.d.Ok E (laws_toRowS.F (n + 1)) :=
  FD.ok (fs := laws_toRowS.fs n) mixedOk Tryz.func89 (by kernel_rfl) (by kernel_rfl) (by kernel_rfl) (by kernel_rfl) (fun _ => by kernel_rfl) (by kernel_rfl) (fun x => by kernel_rfl) (.cons (FD.lp n (laws_toRowS.r4 n) (by kernel_rfl) fun _ _ => by kernel_rfl) (.nil))
noncomputable def laws_toRowSS.fs (n : Nat) : laws_toRowSS.d.Fs := (fun _ κe => laws_toRowSS.loop4 n (laws_toRowSS.o0.k (κe 0)) n, ())
theorem laws_toRowSS.r4 (n : Nat) : laws_toRowSS.d.Round (laws_toRowSS.fs n) (cx n laws_toRowSS.d.nt) (bodyOf Tryz.f61) 4 laws_toRowSS.p4 (fun κe => laws_toRowSS.step4 n (laws_toRowSS.o0.k (κe 0))) := fun κ κe x y => by kernel_rfl
theorem laws_toRowSS.ok (n : Nat) : CxOk E (cx n laws_toRowSS.d.nt) → KPar (cx n laws_toRowSS.d.nt) → laws_toRowSS.d.Ok E (laws_toRowSS.F (n + 1)) :=
  FD.ok (fs := laws_toRowSS.fs n) mixedOk Tryz.func61 (by kernel_rfl) (by kernel_rfl) (by kernel_rfl) (by kernel_rfl) (fun _ => by kernel_rfl) (by kernel_rfl) (fun x => by kernel_rfl) (.cons (FD.lp n (laws_toRowSS.r4 n) (by kernel_rfl) fun _ _ => by kernel_rfl) (.nil))
noncomputable def laws_toStore.fs (n : Nat) : laws_toStore.d.Fs := ()
theorem laws_toStore.ok (n : Nat) : CxOk E (cx n laws_toStore.d.nt) → KPar (cx n laws_toStore.d.nt) → laws_toStore.d.Ok E (laws_toStore.F (n + 1)) :=
  FD.ok (fs := laws_toStore.fs n) mixedOk Tryz.func34 (by kernel_rfl) (by kernel_rfl) (by kernel_rfl) (by kernel_rfl) (fun _ => by kernel_rfl) (by kernel_rfl) (fun x => by kernel_rfl) (.nil)
noncomputable def laws_toChange.fs (n : Nat) : laws_toChange.d.Fs := ()
theorem laws_toChange.ok (n : Nat) : CxOk E (cx n laws_toChange.d.nt) → KPar (cx n laws_toChange.d.nt) → laws_toChange.d.Ok E (laws_toChange.F (n + 1)) :=
  FD.ok (fs := laws_toChange.fs n) mixedOk Tryz.func90 (by kernel_rfl) (by kernel_rfl) (by kernel_rfl) (by kernel_rfl) (fun _ => by kernel_rfl) (by kernel_rfl) (fun x => by kernel_rfl) (.nil)
noncomputable def laws_toChangeS.fs (n : Nat) : laws_toChangeS.d.Fs := (fun _ κe => laws_toChangeS.loop4 n (laws_toChangeS.o0.k (κe 0)) n, ())
theorem laws_toChangeS.r4 (n : Nat) : laws_toChangeS.d.Round (laws_toChangeS.fs n) (cx n laws_toChangeS.d.nt) (bodyOf Tryz.f62) 4 laws_toChangeS.p4 (fun κe => laws_toChangeS.step4 n (laws_toChangeS.o0.k (κe 0))) := fun κ κe x y => by kernel_rfl
theorem laws_toChangeS.ok (n : Nat) : CxOk E (cx n laws_toChangeS.d.nt) → KPar (cx n laws_toChangeS.d.nt) → laws_toChangeS.d.Ok E (laws_toChangeS.F (n + 1)) :=
  FD.ok (fs := laws_toChangeS.fs n) mixedOk Tryz.func62 (by kernel_rfl) (by kernel_rfl) (by kernel_rfl) (by kernel_rfl) (fun _ => by kernel_rfl) (by kernel_rfl) (fun x => by kernel_rfl) (.cons (FD.lp n (laws_toChangeS.r4 n) (by kernel_rfl) fun _ _ => by kernel_rfl) (.nil))
noncomputable def laws_toChangeSS.fs (n : Nat) : laws_toChangeSS.d.Fs := (fun _ κe => laws_toChangeSS.loop4 n (laws_toChangeSS.o0.k (κe 0)) n, ())
theorem laws_toChangeSS.r4 (n : Nat) : laws_toChangeSS.d.Round (laws_toChangeSS.fs n) (cx n laws_toChangeSS.d.nt) (bodyOf Tryz.f35) 4 laws_toChangeSS.p4 (fun κe => laws_toChangeSS.step4 n (laws_toChangeSS.o0.k (κe 0))) := fun κ κe x y => by kernel_rfl
theorem laws_toChangeSS.ok (n : Nat) : CxOk E (cx n laws_toChangeSS.d.nt) → KPar (cx n laws_toChangeSS.d.nt) → laws_toChangeSS.d.Ok E (laws_toChangeSS.F (n + 1)) :=
  FD.ok (fs := laws_toChangeSS.fs n) mixedOk Tryz.func35 (by kernel_rfl) (by kernel_rfl) (by kernel_rfl) (by kernel_rfl) (fun _ => by kernel_rfl) (by kernel_rfl) (fun x => by kernel_rfl) (.cons (FD.lp n (laws_toChangeSS.r4 n) (by kernel_rfl) fun _ _ => by kernel_rfl) (.nil))
noncomputable def laws_toRecord.fs (n : Nat) : laws_toRecord.d.Fs := ()
theorem laws_toRecord.ok (n : Nat) : CxOk E (cx n laws_toRecord.d.nt) → KPar (cx n laws_toRecord.d.nt) → laws_toRecord.d.Ok E (laws_toRecord.F (n + 1)) :=
  FD.ok (fs := laws_toRecord.fs n) mixedOk Tryz.func18 (by kernel_rfl) (by kernel_rfl) (by kernel_rfl) (by kernel_rfl) (fun _ => by kernel_rfl) (by kernel_rfl) (fun x => by kernel_rfl) (.nil)
noncomputable def laws_toCond.fs (n : Nat) : laws_toCond.d.Fs := ()
theorem laws_toCond.ok (n : Nat) : CxOk E (cx n laws_toCond.d.nt) → KPar (cx n laws_toCond.d.nt) → laws_toCond.d.Ok E (laws_toCond.F (n + 1)) :=
  FD.ok (fs := laws_toCond.fs n) mixedOk Tryz.func141 (by kernel_rfl) (by kernel_rfl) (by kernel_rfl) (by kernel_rfl) (fun _ => by kernel_rfl) (by kernel_rfl) (fun x => by kernel_rfl) (.nil)
noncomputable def laws_toCondS.fs (n : Nat) : laws_toCondS.d.Fs := (fun _ κe => laws_toCondS.loop4 n (laws_toCondS.o0.k (κe 0)) n, ())
theorem laws_toCondS.r4 (n : Nat) : laws_toCondS.d.Round (laws_toCondS.fs n) (cx n laws_toCondS.d.nt) (bodyOf Tryz.f134) 4 laws_toCondS.p4 (fun κe => laws_toCondS.step4 n (laws_toCondS.o0.k (κe 0))) := fun κ κe x y => by kernel_rfl
theorem laws_toCondS.ok (n : Nat) : CxOk E (cx n laws_toCondS.d.nt) → KPar (cx n laws_toCondS.d.nt) → laws_toCondS.d.Ok E (laws_toCondS.F (n + 1)) :=
  FD.ok (fs := laws_toCondS.fs n) mixedOk Tryz.func134 (by kernel_rfl) (by kernel_rfl) (by kernel_rfl) (by kernel_rfl) (fun _ => by kernel_rfl) (by kernel_rfl) (fun x => by kernel_rfl) (.cons (FD.lp n (laws_toCondS.r4 n) (by kernel_rfl) fun _ _ => by kernel_rfl) (.nil))
noncomputable def laws_toQuery.fs (n : Nat) : laws_toQuery.d.Fs := ()
theorem laws_toQuery.ok (n : Nat) : CxOk E (cx n laws_toQuery.d.nt) → KPar (cx n laws_toQuery.d.nt) → laws_toQuery.d.Ok E (laws_toQuery.F (n + 1)) :=
  FD.ok (fs := laws_toQuery.fs n) mixedOk Tryz.func117 (by kernel_rfl) (by kernel_rfl) (by kernel_rfl) (by kernel_rfl) (fun _ => by kernel_rfl) (by kernel_rfl) (fun x => by kernel_rfl) (.nil)
noncomputable def laws_toKid.fs (n : Nat) : laws_toKid.d.Fs := ()
theorem laws_toKid.ok (n : Nat) : CxOk E (cx n laws_toKid.d.nt) → KPar (cx n laws_toKid.d.nt) → laws_toKid.d.Ok E (laws_toKid.F (n + 1)) :=
  FD.ok (fs := laws_toKid.fs n) mixedOk Tryz.func135 (by kernel_rfl) (by kernel_rfl) (by kernel_rfl) (by kernel_rfl) (fun _ => by kernel_rfl) (by kernel_rfl) (fun x => by kernel_rfl) (.nil)
noncomputable def laws_toKidS.fs (n : Nat) : laws_toKidS.d.Fs := (fun _ κe => laws_toKidS.loop4 n (laws_toKidS.o0.k (κe 0)) n, ())
theorem laws_toKidS.r4 (n : Nat) : laws_toKidS.d.Round (laws_toKidS.fs n) (cx n laws_toKidS.d.nt) (bodyOf Tryz.f118) 4 laws_toKidS.p4 (fun κe => laws_toKidS.step4 n (laws_toKidS.o0.k (κe 0))) := fun κ κe x y => by kernel_rfl
theorem laws_toKidS.ok (n : Nat) : CxOk E (cx n laws_toKidS.d.nt) → KPar (cx n laws_toKidS.d.nt) → laws_toKidS.d.Ok E (laws_toKidS.F (n + 1)) :=
  FD.ok (fs := laws_toKidS.fs n) mixedOk Tryz.func118 (by kernel_rfl) (by kernel_rfl) (by kernel_rfl) (by kernel_rfl) (fun _ => by kernel_rfl) (by kernel_rfl) (fun x => by kernel_rfl) (.cons (FD.lp n (laws_toKidS.r4 n) (by kernel_rfl) fun _ _ => by kernel_rfl) (.nil))
noncomputable def laws_toView.fs (n : Nat) : laws_toView.d.Fs := ()
theorem laws_toView.ok (n : Nat) : CxOk E (cx n laws_toView.d.nt) → KPar (cx n laws_toView.d.nt) → laws_toView.d.Ok E (laws_toView.F (n + 1)) :=
  FD.ok (fs := laws_toView.fs n) mixedOk Tryz.func91 (by kernel_rfl) (by kernel_rfl) (by kernel_rfl) (by kernel_rfl) (fun _ => by kernel_rfl) (by kernel_rfl) (fun x => by kernel_rfl) (.nil)
noncomputable def laws_toSess.fs (n : Nat) : laws_toSess.d.Fs := ()
theorem laws_toSess.ok (n : Nat) : CxOk E (cx n laws_toSess.d.nt) → KPar (cx n laws_toSess.d.nt) → laws_toSess.d.Ok E (laws_toSess.F (n + 1)) :=
  FD.ok (fs := laws_toSess.fs n) mixedOk Tryz.func63 (by kernel_rfl) (by kernel_rfl) (by kernel_rfl) (by kernel_rfl) (fun _ => by kernel_rfl) (by kernel_rfl) (fun x => by kernel_rfl) (.nil)
noncomputable def laws_toLine.fs (n : Nat) : laws_toLine.d.Fs := ()
theorem laws_toLine.ok (n : Nat) : CxOk E (cx n laws_toLine.d.nt) → KPar (cx n laws_toLine.d.nt) → laws_toLine.d.Ok E (laws_toLine.F (n + 1)) :=
  FD.ok (fs := laws_toLine.fs n) mixedOk Tryz.func64 (by kernel_rfl) (by kernel_rfl) (by kernel_rfl) (by kernel_rfl) (fun _ => by kernel_rfl) (by kernel_rfl) (fun x => by kernel_rfl) (.nil)
noncomputable def laws_toSeat.fs (n : Nat) : laws_toSeat.d.Fs := ()
theorem laws_toSeat.ok (n : Nat) : CxOk E (cx n laws_toSeat.d.nt) → KPar (cx n laws_toSeat.d.nt) → laws_toSeat.d.Ok E (laws_toSeat.F (n + 1)) :=
  FD.ok (fs := laws_toSeat.fs n) mixedOk Tryz.func36 (by kernel_rfl) (by kernel_rfl) (by kernel_rfl) (by kernel_rfl) (fun _ => by kernel_rfl) (by kernel_rfl) (fun x => by kernel_rfl) (.nil)
noncomputable def laws_toSeatS.fs (n : Nat) : laws_toSeatS.d.Fs := (fun _ κe => laws_toSeatS.loop4 n (laws_toSeatS.o0.k (κe 0)) n, ())
theorem laws_toSeatS.r4 (n : Nat) : laws_toSeatS.d.Round (laws_toSeatS.fs n) (cx n laws_toSeatS.d.nt) (bodyOf Tryz.f19) 4 laws_toSeatS.p4 (fun κe => laws_toSeatS.step4 n (laws_toSeatS.o0.k (κe 0))) := fun κ κe x y => by kernel_rfl
theorem laws_toSeatS.ok (n : Nat) : CxOk E (cx n laws_toSeatS.d.nt) → KPar (cx n laws_toSeatS.d.nt) → laws_toSeatS.d.Ok E (laws_toSeatS.F (n + 1)) :=
  FD.ok (fs := laws_toSeatS.fs n) mixedOk Tryz.func19 (by kernel_rfl) (by kernel_rfl) (by kernel_rfl) (by kernel_rfl) (fun _ => by kernel_rfl) (by kernel_rfl) (fun x => by kernel_rfl) (.cons (FD.lp n (laws_toSeatS.r4 n) (by kernel_rfl) fun _ _ => by kernel_rfl) (.nil))
noncomputable def laws_toServer.fs (n : Nat) : laws_toServer.d.Fs := ()
theorem laws_toServer.ok (n : Nat) : CxOk E (cx n laws_toServer.d.nt) → KPar (cx n laws_toServer.d.nt) → laws_toServer.d.Ok E (laws_toServer.F (n + 1)) :=
  FD.ok (fs := laws_toServer.fs n) mixedOk Tryz.func7 (by kernel_rfl) (by kernel_rfl) (by kernel_rfl) (by kernel_rfl) (fun _ => by kernel_rfl) (by kernel_rfl) (fun x => by kernel_rfl) (.nil)
noncomputable def spec_l1In.fs (n : Nat) : spec_l1In.d.Fs := ()
theorem spec_l1In.ok (n : Nat) : CxOk E (cx n spec_l1In.d.nt) → KPar (cx n spec_l1In.d.nt) → spec_l1In.d.Ok E (spec_l1In.F (n + 1)) :=
  FD.ok (fs := spec_l1In.fs n) mixedOk Tryz.func16 (by kernel_rfl) (by kernel_rfl) (by kernel_rfl) (by kernel_rfl) (fun _ => by kernel_rfl) (by kernel_rfl) (fun x => by kernel_rfl) (.nil)
noncomputable def spec_SchemaOk.fs (n : Nat) : spec_SchemaOk.d.Fs := (fun _ κe => spec_SchemaOk.loop3 n (spec_SchemaOk.o0.k (κe 0)) n, ())
theorem spec_SchemaOk.r3 (n : Nat) : spec_SchemaOk.d.Round (spec_SchemaOk.fs n) (cx n spec_SchemaOk.d.nt) (bodyOf Tryz.f50) 3 spec_SchemaOk.p3 (fun κe => spec_SchemaOk.step3 n (spec_SchemaOk.o0.k (κe 0))) := fun κ κe x y => by kernel_rfl
theorem spec_SchemaOk.ok (n : Nat) : CxOk E (cx n spec_SchemaOk.d.nt) → KPar (cx n spec_SchemaOk.d.nt) → spec_SchemaOk.d.Ok E (spec_SchemaOk.F (n + 1)) :=
  FD.ok (fs := spec_SchemaOk.fs n) mixedOk Tryz.func50 (by kernel_rfl) (by kernel_rfl) (by kernel_rfl) (by kernel_rfl) (fun _ => by kernel_rfl) (by kernel_rfl) (fun x => by kernel_rfl) (.cons (FD.lp n (spec_SchemaOk.r3 n) (by kernel_rfl) fun _ _ => by kernel_rfl) (.nil))
noncomputable def spec_RowOk.fs (n : Nat) : spec_RowOk.d.Fs := (fun _ κe => spec_RowOk.loop6 n (spec_RowOk.o0.k (κe 0)) n, ())
theorem spec_RowOk.r6 (n : Nat) : spec_RowOk.d.Round (spec_RowOk.fs n) (cx n spec_RowOk.d.nt) (bodyOf Tryz.f53) 6 spec_RowOk.p6 (fun κe => spec_RowOk.step6 n (spec_RowOk.o0.k (κe 0))) := fun κ κe x y => by kernel_rfl
theorem spec_RowOk.ok (n : Nat) : CxOk E (cx n spec_RowOk.d.nt) → KPar (cx n spec_RowOk.d.nt) → spec_RowOk.d.Ok E (spec_RowOk.F (n + 1)) :=
  FD.ok (fs := spec_RowOk.fs n) mixedOk Tryz.func53 (by kernel_rfl) (by kernel_rfl) (by kernel_rfl) (by kernel_rfl) (fun _ => by kernel_rfl) (by kernel_rfl) (fun x => by kernel_rfl) (.cons (FD.lp n (spec_RowOk.r6 n) (by kernel_rfl) fun _ _ => by kernel_rfl) (.nil))
noncomputable def spec_RowsOk.fs (n : Nat) : spec_RowsOk.d.Fs := (fun _ κe => spec_RowsOk.loop3 n (spec_RowsOk.o0.k (κe 0)) n, ())
theorem spec_RowsOk.r3 (n : Nat) : spec_RowsOk.d.Round (spec_RowsOk.fs n) (cx n spec_RowsOk.d.nt) (bodyOf Tryz.f51) 3 spec_RowsOk.p3 (fun κe => spec_RowsOk.step3 n (spec_RowsOk.o0.k (κe 0))) := fun κ κe x y => by kernel_rfl
theorem spec_RowsOk.ok (n : Nat) : CxOk E (cx n spec_RowsOk.d.nt) → KPar (cx n spec_RowsOk.d.nt) → spec_RowsOk.d.Ok E (spec_RowsOk.F (n + 1)) :=
  FD.ok (fs := spec_RowsOk.fs n) mixedOk Tryz.func51 (by kernel_rfl) (by kernel_rfl) (by kernel_rfl) (by kernel_rfl) (fun _ => by kernel_rfl) (by kernel_rfl) (fun x => by kernel_rfl) (.cons (FD.lp n (spec_RowsOk.r3 n) (by kernel_rfl) fun _ _ => by kernel_rfl) (.nil))
noncomputable def spec_StoreOk.fs (n : Nat) : spec_StoreOk.d.Fs := (fun _ κe => spec_StoreOk.loop6 n (spec_StoreOk.o0.k (κe 0)) n, ())
theorem spec_StoreOk.r6 (n : Nat) : spec_StoreOk.d.Round (spec_StoreOk.fs n) (cx n spec_StoreOk.d.nt) (bodyOf Tryz.f30) 6 spec_StoreOk.p6 (fun κe => spec_StoreOk.step6 n (spec_StoreOk.o0.k (κe 0))) := fun κ κe x y => by kernel_rfl
theorem spec_StoreOk.ok (n : Nat) : CxOk E (cx n spec_StoreOk.d.nt) → KPar (cx n spec_StoreOk.d.nt) → spec_StoreOk.d.Ok E (spec_StoreOk.F (n + 1)) :=
  FD.ok (fs := spec_StoreOk.fs n) mixedOk Tryz.func30 (by kernel_rfl) (by kernel_rfl) (by kernel_rfl) (by kernel_rfl) (fun _ => by kernel_rfl) (by kernel_rfl) (fun x => by kernel_rfl) (.cons (FD.lp n (spec_StoreOk.r6 n) (by kernel_rfl) fun _ _ => by kernel_rfl) (.nil))
noncomputable def spec_l7Schema.fs (n : Nat) : spec_l7Schema.d.Fs := ()
theorem spec_l7Schema.ok (n : Nat) : CxOk E (cx n spec_l7Schema.d.nt) → KPar (cx n spec_l7Schema.d.nt) → spec_l7Schema.d.Ok E (spec_l7Schema.F (n + 1)) :=
  FD.ok (fs := spec_l7Schema.fs n) mixedOk Tryz.func81 (by kernel_rfl) (by kernel_rfl) (by kernel_rfl) (by kernel_rfl) (fun _ => by kernel_rfl) (by kernel_rfl) (fun x => by kernel_rfl) (.nil)
noncomputable def spec_l6Copy.fs (n : Nat) : spec_l6Copy.d.Fs := ()
theorem spec_l6Copy.ok (n : Nat) : CxOk E (cx n spec_l6Copy.d.nt) → KPar (cx n spec_l6Copy.d.nt) → spec_l6Copy.d.Ok E (spec_l6Copy.F (n + 1)) :=
  FD.ok (fs := spec_l6Copy.fs n) mixedOk Tryz.func115 (by kernel_rfl) (by kernel_rfl) (by kernel_rfl) (by kernel_rfl) (fun _ => by kernel_rfl) (by kernel_rfl) (fun x => by kernel_rfl) (.nil)
noncomputable def spec_l6Rows.fs (n : Nat) : spec_l6Rows.d.Fs := (fun _ κe => spec_l6Rows.loop4 n (spec_l6Rows.o0.k (κe 0)) n, ())
theorem spec_l6Rows.r4 (n : Nat) : spec_l6Rows.d.Round (spec_l6Rows.fs n) (cx n spec_l6Rows.d.nt) (bodyOf Tryz.f82) 4 spec_l6Rows.p4 (fun κe => spec_l6Rows.step4 n (spec_l6Rows.o0.k (κe 0))) := fun κ κe x y => by kernel_rfl
theorem spec_l6Rows.ok (n : Nat) : CxOk E (cx n spec_l6Rows.d.nt) → KPar (cx n spec_l6Rows.d.nt) → spec_l6Rows.d.Ok E (spec_l6Rows.F (n + 1)) :=
  FD.ok (fs := spec_l6Rows.fs n) mixedOk Tryz.func82 (by kernel_rfl) (by kernel_rfl) (by kernel_rfl) (by kernel_rfl) (fun _ => by kernel_rfl) (by kernel_rfl) (fun x => by kernel_rfl) (.cons (FD.lp n (spec_l6Rows.r4 n) (by kernel_rfl) fun _ _ => by kernel_rfl) (.nil))
noncomputable def spec_l7Copy.fs (n : Nat) : spec_l7Copy.d.Fs := (fun _ κe => spec_l7Copy.loop4 n (spec_l7Copy.o0.k (κe 0)) n, ())
theorem spec_l7Copy.r4 (n : Nat) : spec_l7Copy.d.Round (spec_l7Copy.fs n) (cx n spec_l7Copy.d.nt) (bodyOf Tryz.f47) 4 spec_l7Copy.p4 (fun κe => spec_l7Copy.step4 n (spec_l7Copy.o0.k (κe 0))) := fun κ κe x y => by kernel_rfl
theorem spec_l7Copy.ok (n : Nat) : CxOk E (cx n spec_l7Copy.d.nt) → KPar (cx n spec_l7Copy.d.nt) → spec_l7Copy.d.Ok E (spec_l7Copy.F (n + 1)) :=
  FD.ok (fs := spec_l7Copy.fs n) mixedOk Tryz.func47 (by kernel_rfl) (by kernel_rfl) (by kernel_rfl) (by kernel_rfl) (fun _ => by kernel_rfl) (by kernel_rfl) (fun x => by kernel_rfl) (.cons (FD.lp n (spec_l7Copy.r4 n) (by kernel_rfl) fun _ _ => by kernel_rfl) (.nil))
noncomputable def spec_l8Zero.fs (n : Nat) : spec_l8Zero.d.Fs := ()
theorem spec_l8Zero.ok (n : Nat) : CxOk E (cx n spec_l8Zero.d.nt) → KPar (cx n spec_l8Zero.d.nt) → spec_l8Zero.d.Ok E (spec_l8Zero.F (n + 1)) :=
  FD.ok (fs := spec_l8Zero.fs n) mixedOk Tryz.func48 (by kernel_rfl) (by kernel_rfl) (by kernel_rfl) (by kernel_rfl) (fun _ => by kernel_rfl) (by kernel_rfl) (fun x => by kernel_rfl) (.nil)
noncomputable def spec_RowAt.fs (n : Nat) : spec_RowAt.d.Fs := (fun _ κe => spec_RowAt.loop3 n (spec_RowAt.o0.k (κe 0)) n, ())
theorem spec_RowAt.r3 (n : Nat) : spec_RowAt.d.Round (spec_RowAt.fs n) (cx n spec_RowAt.d.nt) (bodyOf Tryz.f55) 3 spec_RowAt.p3 (fun κe => spec_RowAt.step3 n (spec_RowAt.o0.k (κe 0))) := fun κ κe x y => by kernel_rfl
theorem spec_RowAt.ok (n : Nat) : CxOk E (cx n spec_RowAt.d.nt) → KPar (cx n spec_RowAt.d.nt) → spec_RowAt.d.Ok E (spec_RowAt.F (n + 1)) :=
  FD.ok (fs := spec_RowAt.fs n) mixedOk Tryz.func55 (by kernel_rfl) (by kernel_rfl) (by kernel_rfl) (by kernel_rfl) (fun _ => by kernel_rfl) (by kernel_rfl) (fun x => by kernel_rfl) (.cons (FD.lp n (spec_RowAt.r3 n) (by kernel_rfl) fun _ _ => by kernel_rfl) (.nil))
noncomputable def spec_RowSame.fs (n : Nat) : spec_RowSame.d.Fs := (fun _ κe => spec_RowSame.loop6 n (spec_RowSame.o0.k (κe 0)) n, ())
theorem spec_RowSame.r6 (n : Nat) : spec_RowSame.d.Round (spec_RowSame.fs n) (cx n spec_RowSame.d.nt) (bodyOf Tryz.f57) 6 spec_RowSame.p6 (fun κe => spec_RowSame.step6 n (spec_RowSame.o0.k (κe 0))) := fun κ κe x y => by kernel_rfl
theorem spec_RowSame.ok (n : Nat) : CxOk E (cx n spec_RowSame.d.nt) → KPar (cx n spec_RowSame.d.nt) → spec_RowSame.d.Ok E (spec_RowSame.F (n + 1)) :=
  FD.ok (fs := spec_RowSame.fs n) mixedOk Tryz.func57 (by kernel_rfl) (by kernel_rfl) (by kernel_rfl) (by kernel_rfl) (fun _ => by kernel_rfl) (by kernel_rfl) (fun x => by kernel_rfl) (.cons (FD.lp n (spec_RowSame.r6 n) (by kernel_rfl) fun _ _ => by kernel_rfl) (.nil))
noncomputable def spec_l7There.fs (n : Nat) : spec_l7There.d.Fs := ()
theorem spec_l7There.ok (n : Nat) : CxOk E (cx n spec_l7There.d.nt) → KPar (cx n spec_l7There.d.nt) → spec_l7There.d.Ok E (spec_l7There.F (n + 1)) :=
  FD.ok (fs := spec_l7There.fs n) mixedOk Tryz.func83 (by kernel_rfl) (by kernel_rfl) (by kernel_rfl) (by kernel_rfl) (fun _ => by kernel_rfl) (by kernel_rfl) (fun x => by kernel_rfl) (.nil)
noncomputable def spec_RowDrop.fs (n : Nat) : spec_RowDrop.d.Fs := (fun _ κe => spec_RowDrop.loop5 n (spec_RowDrop.o0.k (κe 0)) n, ())
theorem spec_RowDrop.r5 (n : Nat) : spec_RowDrop.d.Round (spec_RowDrop.fs n) (cx n spec_RowDrop.d.nt) (bodyOf Tryz.f84) 5 spec_RowDrop.p5 (fun κe => spec_RowDrop.step5 n (spec_RowDrop.o0.k (κe 0))) := fun κ κe x y => by kernel_rfl
theorem spec_RowDrop.ok (n : Nat) : CxOk E (cx n spec_RowDrop.d.nt) → KPar (cx n spec_RowDrop.d.nt) → spec_RowDrop.d.Ok E (spec_RowDrop.F (n + 1)) :=
  FD.ok (fs := spec_RowDrop.fs n) mixedOk Tryz.func84 (by kernel_rfl) (by kernel_rfl) (by kernel_rfl) (by kernel_rfl) (fun _ => by kernel_rfl) (by kernel_rfl) (fun x => by kernel_rfl) (.cons (FD.lp n (spec_RowDrop.r5 n) (by kernel_rfl) fun _ _ => by kernel_rfl) (.nil))
noncomputable def spec_RowPut.fs (n : Nat) : spec_RowPut.d.Fs := (fun _ κe => spec_RowPut.loop6 n (spec_RowPut.o0.k (κe 0)) n, ())
theorem spec_RowPut.r6 (n : Nat) : spec_RowPut.d.Round (spec_RowPut.fs n) (cx n spec_RowPut.d.nt) (bodyOf Tryz.f85) 6 spec_RowPut.p6 (fun κe => spec_RowPut.step6 n (spec_RowPut.o0.k (κe 0))) := fun κ κe x y => by kernel_rfl
theorem spec_RowPut.ok (n : Nat) : CxOk E (cx n spec_RowPut.d.nt) → KPar (cx n spec_RowPut.d.nt) → spec_RowPut.d.Ok E (spec_RowPut.F (n + 1)) :=
  FD.ok (fs := spec_RowPut.fs n) mixedOk Tryz.func85 (by kernel_rfl) (by kernel_rfl) (by kernel_rfl) (by kernel_rfl) (fun _ => by kernel_rfl) (by kernel_rfl) (fun x => by kernel_rfl) (.cons (FD.lp n (spec_RowPut.r6 n) (by kernel_rfl) fun _ _ => by kernel_rfl) (.nil))
noncomputable def spec_l7Turn.fs (n : Nat) : spec_l7Turn.d.Fs := ()
theorem spec_l7Turn.ok (n : Nat) : CxOk E (cx n spec_l7Turn.d.nt) → KPar (cx n spec_l7Turn.d.nt) → spec_l7Turn.d.Ok E (spec_l7Turn.F (n + 1)) :=
  FD.ok (fs := spec_l7Turn.fs n) mixedOk Tryz.func49 (by kernel_rfl) (by kernel_rfl) (by kernel_rfl) (by kernel_rfl) (fun _ => by kernel_rfl) (by kernel_rfl) (fun x => by kernel_rfl) (.nil)
noncomputable def spec_Forward.fs (n : Nat) : spec_Forward.d.Fs := (fun _ κe => spec_Forward.loop7 n (spec_Forward.o0.k (κe 0)) n, ())
theorem spec_Forward.r7 (n : Nat) : spec_Forward.d.Round (spec_Forward.fs n) (cx n spec_Forward.d.nt) (bodyOf Tryz.f29) 7 spec_Forward.p7 (fun κe => spec_Forward.step7 n (spec_Forward.o0.k (κe 0))) := fun κ κe x y => by kernel_rfl
theorem spec_Forward.ok (n : Nat) : CxOk E (cx n spec_Forward.d.nt) → KPar (cx n spec_Forward.d.nt) → spec_Forward.d.Ok E (spec_Forward.F (n + 1)) :=
  FD.ok (fs := spec_Forward.fs n) mixedOk Tryz.func29 (by kernel_rfl) (by kernel_rfl) (by kernel_rfl) (by kernel_rfl) (fun _ => by kernel_rfl) (by kernel_rfl) (fun x => by kernel_rfl) (.cons (FD.lp n (spec_Forward.r7 n) (by kernel_rfl) fun _ _ => by kernel_rfl) (.nil))
noncomputable def spec_RecordOk.fs (n : Nat) : spec_RecordOk.d.Fs := (fun _ κe => spec_RecordOk.loop4 n (spec_RecordOk.o0.k (κe 0)) n, ())
theorem spec_RecordOk.r4 (n : Nat) : spec_RecordOk.d.Round (spec_RecordOk.fs n) (cx n spec_RecordOk.d.nt) (bodyOf Tryz.f14) 4 spec_RecordOk.p4 (fun κe => spec_RecordOk.step4 n (spec_RecordOk.o0.k (κe 0))) := fun κ κe x y => by kernel_rfl
theorem spec_RecordOk.ok (n : Nat) : CxOk E (cx n spec_RecordOk.d.nt) → KPar (cx n spec_RecordOk.d.nt) → spec_RecordOk.d.Ok E (spec_RecordOk.F (n + 1)) :=
  FD.ok (fs := spec_RecordOk.fs n) mixedOk Tryz.func14 (by kernel_rfl) (by kernel_rfl) (by kernel_rfl) (by kernel_rfl) (fun _ => by kernel_rfl) (by kernel_rfl) (fun x => by kernel_rfl) (.cons (FD.lp n (spec_RecordOk.r4 n) (by kernel_rfl) fun _ _ => by kernel_rfl) (.nil))
noncomputable def spec_QueryOk.fs (n : Nat) : spec_QueryOk.d.Fs := (fun _ κe => spec_QueryOk.loop7 n (spec_QueryOk.o0.k (κe 0)) n, fun _ κe => spec_QueryOk.loop16 n (spec_QueryOk.o2.k (κe 2)) n, ())
theorem spec_QueryOk.r16 (n : Nat) : spec_QueryOk.d.Round (spec_QueryOk.fs n) (cx n spec_QueryOk.d.nt) (bodyOf Tryz.f52) 16 spec_QueryOk.p16 (fun κe => spec_QueryOk.step16 n (spec_QueryOk.o2.k (κe 2))) := fun κ κe x y => by kernel_rfl
theorem spec_QueryOk.r7 (n : Nat) : spec_QueryOk.d.Round (spec_QueryOk.fs n) (cx n spec_QueryOk.d.nt) (bodyOf Tryz.f52) 7 spec_QueryOk.p7 (fun κe => spec_QueryOk.step7 n (spec_QueryOk.o0.k (κe 0))) := fun κ κe x y => by kernel_rfl
theorem spec_QueryOk.ok (n : Nat) : CxOk E (cx n spec_QueryOk.d.nt) → KPar (cx n spec_QueryOk.d.nt) → spec_QueryOk.d.Ok E (spec_QueryOk.F (n + 1)) :=
  FD.ok (fs := spec_QueryOk.fs n) mixedOk Tryz.func52 (by kernel_rfl) (by kernel_rfl) (by kernel_rfl) (by kernel_rfl) (fun _ => by kernel_rfl) (by kernel_rfl) (fun x => by kernel_rfl) (.cons (FD.lp n (spec_QueryOk.r7 n) (by kernel_rfl) fun _ _ => by kernel_rfl) (.cons (FD.lp n (spec_QueryOk.r16 n) (by kernel_rfl) fun _ _ => by kernel_rfl) (.nil)))
noncomputable def spec_l9Holds.fs (n : Nat) : spec_l9Holds.d.Fs := ()
theorem spec_l9Holds.ok (n : Nat) : CxOk E (cx n spec_l9Holds.d.nt) → KPar (cx n spec_l9Holds.d.nt) → spec_l9Holds.d.Ok E (spec_l9Holds.F (n + 1)) :=
  FD.ok (fs := spec_l9Holds.fs n) mixedOk Tryz.func86 (by kernel_rfl) (by kernel_rfl) (by kernel_rfl) (by kernel_rfl) (fun _ => by kernel_rfl) (by kernel_rfl) (fun x => by kernel_rfl) (.nil)
noncomputable def spec_Matches.fs (n : Nat) : spec_Matches.d.Fs := (fun _ κe => spec_Matches.loop3 n (spec_Matches.o0.k (κe 0)) n, ())
theorem spec_Matches.r3 (n : Nat) : spec_Matches.d.Round (spec_Matches.fs n) (cx n spec_Matches.d.nt) (bodyOf Tryz.f54) 3 spec_Matches.p3 (fun κe => spec_Matches.step3 n (spec_Matches.o0.k (κe 0))) := fun κ κe x y => by kernel_rfl
theorem spec_Matches.ok (n : Nat) : CxOk E (cx n spec_Matches.d.nt) → KPar (cx n spec_Matches.d.nt) → spec_Matches.d.Ok E (spec_Matches.F (n + 1)) :=
  FD.ok (fs := spec_Matches.fs n) mixedOk Tryz.func54 (by kernel_rfl) (by kernel_rfl) (by kernel_rfl) (by kernel_rfl) (fun _ => by kernel_rfl) (by kernel_rfl) (fun x => by kernel_rfl) (.cons (FD.lp n (spec_Matches.r3 n) (by kernel_rfl) fun _ _ => by kernel_rfl) (.nil))
noncomputable def spec_l9Cell.fs (n : Nat) : spec_l9Cell.d.Fs := ()
theorem spec_l9Cell.ok (n : Nat) : CxOk E (cx n spec_l9Cell.d.nt) → KPar (cx n spec_l9Cell.d.nt) → spec_l9Cell.d.Ok E (spec_l9Cell.F (n + 1)) :=
  FD.ok (fs := spec_l9Cell.fs n) mixedOk Tryz.func87 (by kernel_rfl) (by kernel_rfl) (by kernel_rfl) (by kernel_rfl) (fun _ => by kernel_rfl) (by kernel_rfl) (fun x => by kernel_rfl) (.nil)
noncomputable def spec_Ahead.fs (n : Nat) : spec_Ahead.d.Fs := ()
theorem spec_Ahead.ok (n : Nat) : CxOk E (cx n spec_Ahead.d.nt) → KPar (cx n spec_Ahead.d.nt) → spec_Ahead.d.Ok E (spec_Ahead.F (n + 1)) :=
  FD.ok (fs := spec_Ahead.fs n) mixedOk Tryz.func56 (by kernel_rfl) (by kernel_rfl) (by kernel_rfl) (by kernel_rfl) (fun _ => by kernel_rfl) (by kernel_rfl) (fun x => by kernel_rfl) (.nil)
noncomputable def spec_ViewOk.fs (n : Nat) : spec_ViewOk.d.Fs := (fun _ κe => spec_ViewOk.loop6 n (spec_ViewOk.o0.k (κe 0)) n, fun _ κe => spec_ViewOk.loop15 n (spec_ViewOk.o2.k (κe 2)) n, ())
theorem spec_ViewOk.r15 (n : Nat) : spec_ViewOk.d.Round (spec_ViewOk.fs n) (cx n spec_ViewOk.d.nt) (bodyOf Tryz.f31) 15 spec_ViewOk.p15 (fun κe => spec_ViewOk.step15 n (spec_ViewOk.o2.k (κe 2))) := fun κ κe x y => by kernel_rfl
theorem spec_ViewOk.r6 (n : Nat) : spec_ViewOk.d.Round (spec_ViewOk.fs n) (cx n spec_ViewOk.d.nt) (bodyOf Tryz.f31) 6 spec_ViewOk.p6 (fun κe => spec_ViewOk.step6 n (spec_ViewOk.o0.k (κe 0))) := fun κ κe x y => by kernel_rfl
theorem spec_ViewOk.ok (n : Nat) : CxOk E (cx n spec_ViewOk.d.nt) → KPar (cx n spec_ViewOk.d.nt) → spec_ViewOk.d.Ok E (spec_ViewOk.F (n + 1)) :=
  FD.ok (fs := spec_ViewOk.fs n) mixedOk Tryz.func31 (by kernel_rfl) (by kernel_rfl) (by kernel_rfl) (by kernel_rfl) (fun _ => by kernel_rfl) (by kernel_rfl) (fun x => by kernel_rfl) (.cons (FD.lp n (spec_ViewOk.r6 n) (by kernel_rfl) fun _ _ => by kernel_rfl) (.cons (FD.lp n (spec_ViewOk.r15 n) (by kernel_rfl) fun _ _ => by kernel_rfl) (.nil)))
noncomputable def spec_l9Conds.fs (n : Nat) : spec_l9Conds.d.Fs := (fun _ κe => spec_l9Conds.loop3 n (spec_l9Conds.o0.k (κe 0)) n, ())
theorem spec_l9Conds.r3 (n : Nat) : spec_l9Conds.d.Round (spec_l9Conds.fs n) (cx n spec_l9Conds.d.nt) (bodyOf Tryz.f58) 3 spec_l9Conds.p3 (fun κe => spec_l9Conds.step3 n (spec_l9Conds.o0.k (κe 0))) := fun κ κe x y => by kernel_rfl
theorem spec_l9Conds.ok (n : Nat) : CxOk E (cx n spec_l9Conds.d.nt) → KPar (cx n spec_l9Conds.d.nt) → spec_l9Conds.d.Ok E (spec_l9Conds.F (n + 1)) :=
  FD.ok (fs := spec_l9Conds.fs n) mixedOk Tryz.func58 (by kernel_rfl) (by kernel_rfl) (by kernel_rfl) (by kernel_rfl) (fun _ => by kernel_rfl) (by kernel_rfl) (fun x => by kernel_rfl) (.cons (FD.lp n (spec_l9Conds.r3 n) (by kernel_rfl) fun _ _ => by kernel_rfl) (.nil))
noncomputable def spec_l9Ints.fs (n : Nat) : spec_l9Ints.d.Fs := (fun _ κe => spec_l9Ints.loop3 n (spec_l9Ints.o0.k (κe 0)) n, ())
theorem spec_l9Ints.r3 (n : Nat) : spec_l9Ints.d.Round (spec_l9Ints.fs n) (cx n spec_l9Ints.d.nt) (bodyOf Tryz.f59) 3 spec_l9Ints.p3 (fun κe => spec_l9Ints.step3 n (spec_l9Ints.o0.k (κe 0))) := fun κ κe x y => by kernel_rfl
theorem spec_l9Ints.ok (n : Nat) : CxOk E (cx n spec_l9Ints.d.nt) → KPar (cx n spec_l9Ints.d.nt) → spec_l9Ints.d.Ok E (spec_l9Ints.F (n + 1)) :=
  FD.ok (fs := spec_l9Ints.fs n) mixedOk Tryz.func59 (by kernel_rfl) (by kernel_rfl) (by kernel_rfl) (by kernel_rfl) (fun _ => by kernel_rfl) (by kernel_rfl) (fun x => by kernel_rfl) (.cons (FD.lp n (spec_l9Ints.r3 n) (by kernel_rfl) fun _ _ => by kernel_rfl) (.nil))
noncomputable def spec_QuerySame.fs (n : Nat) : spec_QuerySame.d.Fs := ()
theorem spec_QuerySame.ok (n : Nat) : CxOk E (cx n spec_QuerySame.d.nt) → KPar (cx n spec_QuerySame.d.nt) → spec_QuerySame.d.Ok E (spec_QuerySame.F (n + 1)) :=
  FD.ok (fs := spec_QuerySame.fs n) mixedOk Tryz.func33 (by kernel_rfl) (by kernel_rfl) (by kernel_rfl) (by kernel_rfl) (fun _ => by kernel_rfl) (by kernel_rfl) (fun x => by kernel_rfl) (.nil)
noncomputable def spec_ViewSame.fs (n : Nat) : spec_ViewSame.d.Fs := (fun _ κe => spec_ViewSame.loop6 n (spec_ViewSame.o0.k (κe 0)) n, fun _ κe => spec_ViewSame.loop14 n (spec_ViewSame.o2.k (κe 2)) n, ())
theorem spec_ViewSame.r14 (n : Nat) : spec_ViewSame.d.Round (spec_ViewSame.fs n) (cx n spec_ViewSame.d.nt) (bodyOf Tryz.f32) 14 spec_ViewSame.p14 (fun κe => spec_ViewSame.step14 n (spec_ViewSame.o2.k (κe 2))) := fun κ κe x y => by kernel_rfl
theorem spec_ViewSame.r6 (n : Nat) : spec_ViewSame.d.Round (spec_ViewSame.fs n) (cx n spec_ViewSame.d.nt) (bodyOf Tryz.f32) 6 spec_ViewSame.p6 (fun κe => spec_ViewSame.step6 n (spec_ViewSame.o0.k (κe 0))) := fun κ κe x y => by kernel_rfl
theorem spec_ViewSame.ok (n : Nat) : CxOk E (cx n spec_ViewSame.d.nt) → KPar (cx n spec_ViewSame.d.nt) → spec_ViewSame.d.Ok E (spec_ViewSame.F (n + 1)) :=
  FD.ok (fs := spec_ViewSame.fs n) mixedOk Tryz.func32 (by kernel_rfl) (by kernel_rfl) (by kernel_rfl) (by kernel_rfl) (fun _ => by kernel_rfl) (by kernel_rfl) (fun x => by kernel_rfl) (.cons (FD.lp n (spec_ViewSame.r6 n) (by kernel_rfl) fun _ _ => by kernel_rfl) (.cons (FD.lp n (spec_ViewSame.r14 n) (by kernel_rfl) fun _ _ => by kernel_rfl) (.nil)))
noncomputable def spec_SessOk.fs (n : Nat) : spec_SessOk.d.Fs := ()
theorem spec_SessOk.ok (n : Nat) : CxOk E (cx n spec_SessOk.d.nt) → KPar (cx n spec_SessOk.d.nt) → spec_SessOk.d.Ok E (spec_SessOk.F (n + 1)) :=
  FD.ok (fs := spec_SessOk.fs n) mixedOk Tryz.func15 (by kernel_rfl) (by kernel_rfl) (by kernel_rfl) (by kernel_rfl) (fun _ => by kernel_rfl) (by kernel_rfl) (fun x => by kernel_rfl) (.nil)
noncomputable def spec_Last.fs (n : Nat) : spec_Last.d.Fs := ()
theorem spec_Last.ok (n : Nat) : CxOk E (cx n spec_Last.d.nt) → KPar (cx n spec_Last.d.nt) → spec_Last.d.Ok E (spec_Last.F (n + 1)) :=
  FD.ok (fs := spec_Last.fs n) mixedOk Tryz.func17 (by kernel_rfl) (by kernel_rfl) (by kernel_rfl) (by kernel_rfl) (fun _ => by kernel_rfl) (by kernel_rfl) (fun x => by kernel_rfl) (.nil)
noncomputable def spec_ServerOk.fs (n : Nat) : spec_ServerOk.d.Fs := (fun _ κe => spec_ServerOk.loop6 n (spec_ServerOk.o0.k (κe 0)) n, ())
theorem spec_ServerOk.r6 (n : Nat) : spec_ServerOk.d.Round (spec_ServerOk.fs n) (cx n spec_ServerOk.d.nt) (bodyOf Tryz.f6) 6 spec_ServerOk.p6 (fun κe => spec_ServerOk.step6 n (spec_ServerOk.o0.k (κe 0))) := fun κ κe x y => by kernel_rfl
theorem spec_ServerOk.ok (n : Nat) : CxOk E (cx n spec_ServerOk.d.nt) → KPar (cx n spec_ServerOk.d.nt) → spec_ServerOk.d.Ok E (spec_ServerOk.F (n + 1)) :=
  FD.ok (fs := spec_ServerOk.fs n) mixedOk Tryz.func6 (by kernel_rfl) (by kernel_rfl) (by kernel_rfl) (by kernel_rfl) (fun _ => by kernel_rfl) (by kernel_rfl) (fun x => by kernel_rfl) (.cons (FD.lp n (spec_ServerOk.r6 n) (by kernel_rfl) fun _ _ => by kernel_rfl) (.nil))
noncomputable def spec_Behind.fs (n : Nat) : spec_Behind.d.Fs := ()
theorem spec_Behind.ok (n : Nat) : CxOk E (cx n spec_Behind.d.nt) → KPar (cx n spec_Behind.d.nt) → spec_Behind.d.Ok E (spec_Behind.F (n + 1)) :=
  FD.ok (fs := spec_Behind.fs n) mixedOk Tryz.func10 (by kernel_rfl) (by kernel_rfl) (by kernel_rfl) (by kernel_rfl) (fun _ => by kernel_rfl) (by kernel_rfl) (fun x => by kernel_rfl) (.nil)
noncomputable def impl_copyInts.fs (n : Nat) : impl_copyInts.d.Fs := ()
theorem impl_copyInts.ok (n : Nat) : CxOk E (cx n impl_copyInts.d.nt) → KPar (cx n impl_copyInts.d.nt) → impl_copyInts.d.Ok E (impl_copyInts.F (n + 1)) :=
  FD.ok (fs := impl_copyInts.fs n) mixedOk Tryz.func92 (by kernel_rfl) (by kernel_rfl) (by kernel_rfl) (by kernel_rfl) (fun _ => by kernel_rfl) (by kernel_rfl) (fun x => by kernel_rfl) (.nil)
noncomputable def impl_copyRow.fs (n : Nat) : impl_copyRow.d.Fs := ()
theorem impl_copyRow.ok (n : Nat) : CxOk E (cx n impl_copyRow.d.nt) → KPar (cx n impl_copyRow.d.nt) → impl_copyRow.d.Ok E (impl_copyRow.F (n + 1)) :=
  FD.ok (fs := impl_copyRow.fs n) mixedOk Tryz.func119 (by kernel_rfl) (by kernel_rfl) (by kernel_rfl) (by kernel_rfl) (fun _ => by kernel_rfl) (by kernel_rfl) (fun x => by kernel_rfl) (.nil)
noncomputable def impl_copyRows.fs (n : Nat) : impl_copyRows.d.Fs := (fun _ κe => impl_copyRows.loop4 n (impl_copyRows.o0.k (κe 0)) n, ())
theorem impl_copyRows.r4 (n : Nat) : impl_copyRows.d.Round (impl_copyRows.fs n) (cx n impl_copyRows.d.nt) (bodyOf Tryz.f93) 4 impl_copyRows.p4 (fun κe => impl_copyRows.step4 n (impl_copyRows.o0.k (κe 0))) := fun κ κe x y => by kernel_rfl
theorem impl_copyRows.ok (n : Nat) : CxOk E (cx n impl_copyRows.d.nt) → KPar (cx n impl_copyRows.d.nt) → impl_copyRows.d.Ok E (impl_copyRows.F (n + 1)) :=
  FD.ok (fs := impl_copyRows.fs n) mixedOk Tryz.func93 (by kernel_rfl) (by kernel_rfl) (by kernel_rfl) (by kernel_rfl) (fun _ => by kernel_rfl) (by kernel_rfl) (fun x => by kernel_rfl) (.cons (FD.lp n (impl_copyRows.r4 n) (by kernel_rfl) fun _ _ => by kernel_rfl) (.nil))
noncomputable def impl_copyStore.fs (n : Nat) : impl_copyStore.d.Fs := (fun _ κe => impl_copyStore.loop4 n (impl_copyStore.o0.k (κe 0)) n, ())
theorem impl_copyStore.r4 (n : Nat) : impl_copyStore.d.Round (impl_copyStore.fs n) (cx n impl_copyStore.d.nt) (bodyOf Tryz.f65) 4 impl_copyStore.p4 (fun κe => impl_copyStore.step4 n (impl_copyStore.o0.k (κe 0))) := fun κ κe x y => by kernel_rfl
theorem impl_copyStore.ok (n : Nat) : CxOk E (cx n impl_copyStore.d.nt) → KPar (cx n impl_copyStore.d.nt) → impl_copyStore.d.Ok E (impl_copyStore.F (n + 1)) :=
  FD.ok (fs := impl_copyStore.fs n) mixedOk Tryz.func65 (by kernel_rfl) (by kernel_rfl) (by kernel_rfl) (by kernel_rfl) (fun _ => by kernel_rfl) (by kernel_rfl) (fun x => by kernel_rfl) (.cons (FD.lp n (impl_copyStore.r4 n) (by kernel_rfl) fun _ _ => by kernel_rfl) (.nil))
noncomputable def impl_within.fs (n : Nat) : impl_within.d.Fs := ()
theorem impl_within.ok (n : Nat) : CxOk E (cx n impl_within.d.nt) → KPar (cx n impl_within.d.nt) → impl_within.d.Ok E (impl_within.F (n + 1)) :=
  FD.ok (fs := impl_within.fs n) mixedOk Tryz.func24 (by kernel_rfl) (by kernel_rfl) (by kernel_rfl) (by kernel_rfl) (fun _ => by kernel_rfl) (by kernel_rfl) (fun x => by kernel_rfl) (.nil)
noncomputable def impl_SchemaOk.fs (n : Nat) : impl_SchemaOk.d.Fs := (fun _ κe => impl_SchemaOk.loop3 n (impl_SchemaOk.o0.k (κe 0)) n, ())
theorem impl_SchemaOk.r3 (n : Nat) : impl_SchemaOk.d.Round (impl_SchemaOk.fs n) (cx n impl_SchemaOk.d.nt) (bodyOf Tryz.f94) 3 impl_SchemaOk.p3 (fun κe => impl_SchemaOk.step3 n (impl_SchemaOk.o0.k (κe 0))) := fun κ κe x y => by kernel_rfl
theorem impl_SchemaOk.ok (n : Nat) : CxOk E (cx n impl_SchemaOk.d.nt) → KPar (cx n impl_SchemaOk.d.nt) → impl_SchemaOk.d.Ok E (impl_SchemaOk.F (n + 1)) :=
  FD.ok (fs := impl_SchemaOk.fs n) mixedOk Tryz.func94 (by kernel_rfl) (by kernel_rfl) (by kernel_rfl) (by kernel_rfl) (fun _ => by kernel_rfl) (by kernel_rfl) (fun x => by kernel_rfl) (.cons (FD.lp n (impl_SchemaOk.r3 n) (by kernel_rfl) fun _ _ => by kernel_rfl) (.nil))
noncomputable def impl_isVersion.fs (n : Nat) : impl_isVersion.d.Fs := ()
theorem impl_isVersion.ok (n : Nat) : CxOk E (cx n impl_isVersion.d.nt) → KPar (cx n impl_isVersion.d.nt) → impl_isVersion.d.Ok E (impl_isVersion.F (n + 1)) :=
  FD.ok (fs := impl_isVersion.fs n) mixedOk Tryz.func69 (by kernel_rfl) (by kernel_rfl) (by kernel_rfl) (by kernel_rfl) (fun _ => by kernel_rfl) (by kernel_rfl) (fun x => by kernel_rfl) (.nil)
noncomputable def impl_isNum.fs (n : Nat) : impl_isNum.d.Fs := ()
theorem impl_isNum.ok (n : Nat) : CxOk E (cx n impl_isNum.d.nt) → KPar (cx n impl_isNum.d.nt) → impl_isNum.d.Ok E (impl_isNum.F (n + 1)) :=
  FD.ok (fs := impl_isNum.fs n) mixedOk Tryz.func124 (by kernel_rfl) (by kernel_rfl) (by kernel_rfl) (by kernel_rfl) (fun _ => by kernel_rfl) (by kernel_rfl) (fun x => by kernel_rfl) (.nil)
noncomputable def impl_hasTable.fs (n : Nat) : impl_hasTable.d.Fs := ()
theorem impl_hasTable.ok (n : Nat) : CxOk E (cx n impl_hasTable.d.nt) → KPar (cx n impl_hasTable.d.nt) → impl_hasTable.d.Ok E (impl_hasTable.F (n + 1)) :=
  FD.ok (fs := impl_hasTable.fs n) mixedOk Tryz.func120 (by kernel_rfl) (by kernel_rfl) (by kernel_rfl) (by kernel_rfl) (fun _ => by kernel_rfl) (by kernel_rfl) (fun x => by kernel_rfl) (.nil)
noncomputable def impl_RowOk.fs (n : Nat) : impl_RowOk.d.Fs := (fun _ κe => impl_RowOk.loop3 n (impl_RowOk.o0.k (κe 0)) n, ())
theorem impl_RowOk.r3 (n : Nat) : impl_RowOk.d.Round (impl_RowOk.fs n) (cx n impl_RowOk.d.nt) (bodyOf Tryz.f99) 3 impl_RowOk.p3 (fun κe => impl_RowOk.step3 n (impl_RowOk.o0.k (κe 0))) := fun κ κe x y => by kernel_rfl
theorem impl_RowOk.ok (n : Nat) : CxOk E (cx n impl_RowOk.d.nt) → KPar (cx n impl_RowOk.d.nt) → impl_RowOk.d.Ok E (impl_RowOk.F (n + 1)) :=
  FD.ok (fs := impl_RowOk.fs n) mixedOk Tryz.func99 (by kernel_rfl) (by kernel_rfl) (by kernel_rfl) (by kernel_rfl) (fun _ => by kernel_rfl) (by kernel_rfl) (fun x => by kernel_rfl) (.cons (FD.lp n (impl_RowOk.r3 n) (by kernel_rfl) fun _ _ => by kernel_rfl) (.nil))
noncomputable def impl_RowsOk.fs (n : Nat) : impl_RowsOk.d.Fs := (fun _ κe => impl_RowsOk.loop3 n (impl_RowsOk.o0.k (κe 0)) n, ())
theorem impl_RowsOk.r3 (n : Nat) : impl_RowsOk.d.Round (impl_RowsOk.fs n) (cx n impl_RowsOk.d.nt) (bodyOf Tryz.f95) 3 impl_RowsOk.p3 (fun κe => impl_RowsOk.step3 n (impl_RowsOk.o0.k (κe 0))) := fun κ κe x y => by kernel_rfl
theorem impl_RowsOk.ok (n : Nat) : CxOk E (cx n impl_RowsOk.d.nt) → KPar (cx n impl_RowsOk.d.nt) → impl_RowsOk.d.Ok E (impl_RowsOk.F (n + 1)) :=
  FD.ok (fs := impl_RowsOk.fs n) mixedOk Tryz.func95 (by kernel_rfl) (by kernel_rfl) (by kernel_rfl) (by kernel_rfl) (fun _ => by kernel_rfl) (by kernel_rfl) (fun x => by kernel_rfl) (.cons (FD.lp n (impl_RowsOk.r3 n) (by kernel_rfl) fun _ _ => by kernel_rfl) (.nil))
noncomputable def impl_StoreOk.fs (n : Nat) : impl_StoreOk.d.Fs := (fun _ κe => impl_StoreOk.loop6 n (impl_StoreOk.o0.k (κe 0)) n, ())
theorem impl_StoreOk.r6 (n : Nat) : impl_StoreOk.d.Round (impl_StoreOk.fs n) (cx n impl_StoreOk.d.nt) (bodyOf Tryz.f66) 6 impl_StoreOk.p6 (fun κe => impl_StoreOk.step6 n (impl_StoreOk.o0.k (κe 0))) := fun κ κe x y => by kernel_rfl
theorem impl_StoreOk.ok (n : Nat) : CxOk E (cx n impl_StoreOk.d.nt) → KPar (cx n impl_StoreOk.d.nt) → impl_StoreOk.d.Ok E (impl_StoreOk.F (n + 1)) :=
  FD.ok (fs := impl_StoreOk.fs n) mixedOk Tryz.func66 (by kernel_rfl) (by kernel_rfl) (by kernel_rfl) (by kernel_rfl) (fun _ => by kernel_rfl) (by kernel_rfl) (fun x => by kernel_rfl) (.cons (FD.lp n (impl_StoreOk.r6 n) (by kernel_rfl) fun _ _ => by kernel_rfl) (.nil))
noncomputable def impl_noRow.fs (n : Nat) : impl_noRow.d.Fs := ()
theorem impl_noRow.ok (n : Nat) : CxOk E (cx n impl_noRow.d.nt) → KPar (cx n impl_noRow.d.nt) → impl_noRow.d.Ok E (impl_noRow.F (n + 1)) :=
  FD.ok (fs := impl_noRow.fs n) mixedOk Tryz.func121 (by kernel_rfl) (by kernel_rfl) (by kernel_rfl) (by kernel_rfl) (fun _ => by kernel_rfl) (by kernel_rfl) (fun x => by kernel_rfl) (.nil)
noncomputable def impl_changeFits.fs (n : Nat) : impl_changeFits.d.Fs := ()
theorem impl_changeFits.ok (n : Nat) : CxOk E (cx n impl_changeFits.d.nt) → KPar (cx n impl_changeFits.d.nt) → impl_changeFits.d.Ok E (impl_changeFits.F (n + 1)) :=
  FD.ok (fs := impl_changeFits.fs n) mixedOk Tryz.func96 (by kernel_rfl) (by kernel_rfl) (by kernel_rfl) (by kernel_rfl) (fun _ => by kernel_rfl) (by kernel_rfl) (fun x => by kernel_rfl) (.nil)
noncomputable def impl_RowAt_f1.fs (n : Nat) : impl_RowAt_f1.d.Fs := ()
theorem impl_RowAt_f1.ok (n : Nat) : CxOk E (cx n impl_RowAt_f1.d.nt) → KPar (cx n impl_RowAt_f1.d.nt) → impl_RowAt_f1.d.Ok E (impl_RowAt_f1.F (n + 1)) :=
  FD.ok (fs := impl_RowAt_f1.fs n) mixedOk Tryz.func129 (by kernel_rfl) (by kernel_rfl) (by kernel_rfl) (by kernel_rfl) (fun _ => by kernel_rfl) (by kernel_rfl) (fun x => by kernel_rfl) (.nil)
noncomputable def slices_IndexFunc_Row_impl_RowAt_f1.fs (n : Nat) : slices_IndexFunc_Row_impl_RowAt_f1.d.Fs := (fun _ κe => slices_IndexFunc_Row_impl_RowAt_f1.loop3 n (slices_IndexFunc_Row_impl_RowAt_f1.o0.k (κe 0)) n, ())
theorem slices_IndexFunc_Row_impl_RowAt_f1.r3 (n : Nat) : slices_IndexFunc_Row_impl_RowAt_f1.d.Round (slices_IndexFunc_Row_impl_RowAt_f1.fs n) (cx n slices_IndexFunc_Row_impl_RowAt_f1.d.nt) (bodyOf Tryz.f128) 3 slices_IndexFunc_Row_impl_RowAt_f1.p3 (fun κe => slices_IndexFunc_Row_impl_RowAt_f1.step3 n (slices_IndexFunc_Row_impl_RowAt_f1.o0.k (κe 0))) := fun κ κe x y => by kernel_rfl
theorem slices_IndexFunc_Row_impl_RowAt_f1.ok (n : Nat) : CxOk E (cx n slices_IndexFunc_Row_impl_RowAt_f1.d.nt) → KPar (cx n slices_IndexFunc_Row_impl_RowAt_f1.d.nt) → slices_IndexFunc_Row_impl_RowAt_f1.d.Ok E (slices_IndexFunc_Row_impl_RowAt_f1.F (n + 1)) :=
  FD.ok (fs := slices_IndexFunc_Row_impl_RowAt_f1.fs n) mixedOk Tryz.func128 (by kernel_rfl) (by kernel_rfl) (by kernel_rfl) (by kernel_rfl) (fun _ => by kernel_rfl) (by kernel_rfl) (fun x => by kernel_rfl) (.cons (FD.lp n (slices_IndexFunc_Row_impl_RowAt_f1.r3 n) (by kernel_rfl) fun _ _ => by kernel_rfl) (.nil))
noncomputable def impl_RowAt.fs (n : Nat) : impl_RowAt.d.Fs := ()
theorem impl_RowAt.ok (n : Nat) : CxOk E (cx n impl_RowAt.d.nt) → KPar (cx n impl_RowAt.d.nt) → impl_RowAt.d.Ok E (impl_RowAt.F (n + 1)) :=
  FD.ok (fs := impl_RowAt.fs n) mixedOk Tryz.func102 (by kernel_rfl) (by kernel_rfl) (by kernel_rfl) (by kernel_rfl) (fun _ => by kernel_rfl) (by kernel_rfl) (fun x => by kernel_rfl) (.nil)
noncomputable def slices_Equal_int.fs (n : Nat) : slices_Equal_int.d.Fs := (fun _ κe => slices_Equal_int.loop6 n (slices_Equal_int.o0.k (κe 0)) n, ())
theorem slices_Equal_int.r6 (n : Nat) : slices_Equal_int.d.Round (slices_Equal_int.fs n) (cx n slices_Equal_int.d.nt) (bodyOf Tryz.f107) 6 slices_Equal_int.p6 (fun κe => slices_Equal_int.step6 n (slices_Equal_int.o0.k (κe 0))) := fun κ κe x y => by kernel_rfl
theorem slices_Equal_int.ok (n : Nat) : CxOk E (cx n slices_Equal_int.d.nt) → KPar (cx n slices_Equal_int.d.nt) → slices_Equal_int.d.Ok E (slices_Equal_int.F (n + 1)) :=
  FD.ok (fs := slices_Equal_int.fs n) mixedOk Tryz.func107 (by kernel_rfl) (by kernel_rfl) (by kernel_rfl) (by kernel_rfl) (fun _ => by kernel_rfl) (by kernel_rfl) (fun x => by kernel_rfl) (.cons (FD.lp n (slices_Equal_int.r6 n) (by kernel_rfl) fun _ _ => by kernel_rfl) (.nil))
noncomputable def impl_RowSame.fs (n : Nat) : impl_RowSame.d.Fs := ()
theorem impl_RowSame.ok (n : Nat) : CxOk E (cx n impl_RowSame.d.nt) → KPar (cx n impl_RowSame.d.nt) → impl_RowSame.d.Ok E (impl_RowSame.F (n + 1)) :=
  FD.ok (fs := impl_RowSame.fs n) mixedOk Tryz.func104 (by kernel_rfl) (by kernel_rfl) (by kernel_rfl) (by kernel_rfl) (fun _ => by kernel_rfl) (by kernel_rfl) (fun x => by kernel_rfl) (.nil)
noncomputable def impl_RowDrop.fs (n : Nat) : impl_RowDrop.d.Fs := ()
theorem impl_RowDrop.ok (n : Nat) : CxOk E (cx n impl_RowDrop.d.nt) → KPar (cx n impl_RowDrop.d.nt) → impl_RowDrop.d.Ok E (impl_RowDrop.F (n + 1)) :=
  FD.ok (fs := impl_RowDrop.fs n) mixedOk Tryz.func122 (by kernel_rfl) (by kernel_rfl) (by kernel_rfl) (by kernel_rfl) (fun _ => by kernel_rfl) (by kernel_rfl) (fun x => by kernel_rfl) (.nil)
noncomputable def impl_RowPut_f1.fs (n : Nat) : impl_RowPut_f1.d.Fs := ()
theorem impl_RowPut_f1.ok (n : Nat) : CxOk E (cx n impl_RowPut_f1.d.nt) → KPar (cx n impl_RowPut_f1.d.nt) → impl_RowPut_f1.d.Ok E (impl_RowPut_f1.F (n + 1)) :=
  FD.ok (fs := impl_RowPut_f1.fs n) mixedOk Tryz.func137 (by kernel_rfl) (by kernel_rfl) (by kernel_rfl) (by kernel_rfl) (fun _ => by kernel_rfl) (by kernel_rfl) (fun x => by kernel_rfl) (.nil)
noncomputable def slices_IndexFunc_Row_impl_RowPut_f1.fs (n : Nat) : slices_IndexFunc_Row_impl_RowPut_f1.d.Fs := (fun _ κe => slices_IndexFunc_Row_impl_RowPut_f1.loop3 n (slices_IndexFunc_Row_impl_RowPut_f1.o0.k (κe 0)) n, ())
theorem slices_IndexFunc_Row_impl_RowPut_f1.r3 (n : Nat) : slices_IndexFunc_Row_impl_RowPut_f1.d.Round (slices_IndexFunc_Row_impl_RowPut_f1.fs n) (cx n slices_IndexFunc_Row_impl_RowPut_f1.d.nt) (bodyOf Tryz.f128) 3 slices_IndexFunc_Row_impl_RowPut_f1.p3 (fun κe => slices_IndexFunc_Row_impl_RowPut_f1.step3 n (slices_IndexFunc_Row_impl_RowPut_f1.o0.k (κe 0))) := fun κ κe x y => by kernel_rfl
theorem slices_IndexFunc_Row_impl_RowPut_f1.ok (n : Nat) : CxOk E (cx n slices_IndexFunc_Row_impl_RowPut_f1.d.nt) → KPar (cx n slices_IndexFunc_Row_impl_RowPut_f1.d.nt) → slices_IndexFunc_Row_impl_RowPut_f1.d.Ok E (slices_IndexFunc_Row_impl_RowPut_f1.F (n + 1)) :=
  FD.ok (fs := slices_IndexFunc_Row_impl_RowPut_f1.fs n) mixedOk Tryz.func128 (by kernel_rfl) (by kernel_rfl) (by kernel_rfl) (by kernel_rfl) (fun _ => by kernel_rfl) (by kernel_rfl) (fun x => by kernel_rfl) (.cons (FD.lp n (slices_IndexFunc_Row_impl_RowPut_f1.r3 n) (by kernel_rfl) fun _ _ => by kernel_rfl) (.nil))
noncomputable def impl_RowPut.fs (n : Nat) : impl_RowPut.d.Fs := ()
theorem impl_RowPut.ok (n : Nat) : CxOk E (cx n impl_RowPut.d.nt) → KPar (cx n impl_RowPut.d.nt) → impl_RowPut.d.Ok E (impl_RowPut.F (n + 1)) :=
  FD.ok (fs := impl_RowPut.fs n) mixedOk Tryz.func123 (by kernel_rfl) (by kernel_rfl) (by kernel_rfl) (by kernel_rfl) (fun _ => by kernel_rfl) (by kernel_rfl) (fun x => by kernel_rfl) (.nil)
noncomputable def impl_swapped.fs (n : Nat) : impl_swapped.d.Fs := ()
theorem impl_swapped.ok (n : Nat) : CxOk E (cx n impl_swapped.d.nt) → KPar (cx n impl_swapped.d.nt) → impl_swapped.d.Ok E (impl_swapped.F (n + 1)) :=
  FD.ok (fs := impl_swapped.fs n) mixedOk Tryz.func97 (by kernel_rfl) (by kernel_rfl) (by kernel_rfl) (by kernel_rfl) (fun _ => by kernel_rfl) (by kernel_rfl) (fun x => by kernel_rfl) (.nil)
noncomputable def impl_Forward.fs (n : Nat) : impl_Forward.d.Fs := (fun _ κe => impl_Forward.loop7 n (impl_Forward.o0.k (κe 0)) n, ())
theorem impl_Forward.r7 (n : Nat) : impl_Forward.d.Round (impl_Forward.fs n) (cx n impl_Forward.d.nt) (bodyOf Tryz.f67) 7 impl_Forward.p7 (fun κe => impl_Forward.step7 n (impl_Forward.o0.k (κe 0))) := fun κ κe x y => by kernel_rfl
theorem impl_Forward.ok (n : Nat) : CxOk E (cx n impl_Forward.d.nt) → KPar (cx n impl_Forward.d.nt) → impl_Forward.d.Ok E (impl_Forward.F (n + 1)) :=
  FD.ok (fs := impl_Forward.fs n) mixedOk Tryz.func67 (by kernel_rfl) (by kernel_rfl) (by kernel_rfl) (by kernel_rfl) (fun _ => by kernel_rfl) (by kernel_rfl) (fun x => by kernel_rfl) (.cons (FD.lp n (impl_Forward.r7 n) (by kernel_rfl) fun _ _ => by kernel_rfl) (.nil))
noncomputable def impl_after.fs (n : Nat) : impl_after.d.Fs := (fun _ κe => impl_after.loop7 n (impl_after.o0.k (κe 0)) n, ())
theorem impl_after.r7 (n : Nat) : impl_after.d.Round (impl_after.fs n) (cx n impl_after.d.nt) (bodyOf Tryz.f37) 7 impl_after.p7 (fun κe => impl_after.step7 n (impl_after.o0.k (κe 0))) := fun κ κe x y => by kernel_rfl
theorem impl_after.ok (n : Nat) : CxOk E (cx n impl_after.d.nt) → KPar (cx n impl_after.d.nt) → impl_after.d.Ok E (impl_after.F (n + 1)) :=
  FD.ok (fs := impl_after.fs n) mixedOk Tryz.func37 (by kernel_rfl) (by kernel_rfl) (by kernel_rfl) (by kernel_rfl) (fun _ => by kernel_rfl) (by kernel_rfl) (fun x => by kernel_rfl) (.cons (FD.lp n (impl_after.r7 n) (by kernel_rfl) fun _ _ => by kernel_rfl) (.nil))
noncomputable def impl_RecordOk.fs (n : Nat) : impl_RecordOk.d.Fs := ()
theorem impl_RecordOk.ok (n : Nat) : CxOk E (cx n impl_RecordOk.d.nt) → KPar (cx n impl_RecordOk.d.nt) → impl_RecordOk.d.Ok E (impl_RecordOk.F (n + 1)) :=
  FD.ok (fs := impl_RecordOk.fs n) mixedOk Tryz.func20 (by kernel_rfl) (by kernel_rfl) (by kernel_rfl) (by kernel_rfl) (fun _ => by kernel_rfl) (by kernel_rfl) (fun x => by kernel_rfl) (.nil)
noncomputable def impl_kidsFit.fs (n : Nat) : impl_kidsFit.d.Fs := ()
theorem impl_kidsFit.ok (n : Nat) : CxOk E (cx n impl_kidsFit.d.nt) → KPar (cx n impl_kidsFit.d.nt) → impl_kidsFit.d.Ok E (impl_kidsFit.F (n + 1)) :=
  FD.ok (fs := impl_kidsFit.fs n) mixedOk Tryz.func125 (by kernel_rfl) (by kernel_rfl) (by kernel_rfl) (by kernel_rfl) (fun _ => by kernel_rfl) (by kernel_rfl) (fun x => by kernel_rfl) (.nil)
end Go.Pi
end
section
set_option linter.unusedVariables false
set_option maxRecDepth 100000
namespace Go.Pi
open Go.Proofs
noncomputable def impl_QueryOk.fs (n : Nat) : impl_QueryOk.d.Fs := (fun _ κe => impl_QueryOk.loop7 n (impl_QueryOk.o0.k (κe 0)) n, fun _ κe => impl_QueryOk.loop16 n (impl_QueryOk.o2.k (κe 2)) n, ())
theorem impl_QueryOk.r16 (n : Nat) : impl_QueryOk.d.Round (impl_QueryOk.fs n) (cx n impl_QueryOk.d.nt) (bodyOf Tryz.f98) 16 impl_QueryOk.p16 (fun κe => impl_QueryOk.step16 n (impl_QueryOk.o2.k (κe 2))) := fun κ κe x y => by kernel_rfl
theorem impl_QueryOk.r7 (n : Nat) : impl_QueryOk.d.Round (impl_QueryOk.fs n) (cx n impl_QueryOk.d.nt) (bodyOf Tryz.f98) 7 impl_QueryOk.p7 (fun κe => impl_QueryOk.step7 n (impl_QueryOk.o0.k (κe 0))) := fun κ κe x y => by kernel_rfl
theorem impl_QueryOk.ok (n : Nat) : CxOk E (cx n impl_QueryOk.d.nt) → KPar (cx n impl_QueryOk.d.nt) → impl_QueryOk.d.Ok E (impl_QueryOk.F (n + 1)) :=
  FD.ok (fs := impl_QueryOk.fs n) mixedOk Tryz.func98 (by kernel_rfl) (by kernel_rfl) (by kernel_rfl) (by kernel_rfl) (fun _ => by kernel_rfl) (by kernel_rfl) (fun x => by kernel_rfl) (.cons (FD.lp n (impl_QueryOk.r7 n) (by kernel_rfl) fun _ _ => by kernel_rfl) (.cons (FD.lp n (impl_QueryOk.r16 n) (by kernel_rfl) fun _ _ => by kernel_rfl) (.nil)))
noncomputable def impl_holds.fs (n : Nat) : impl_holds.d.Fs := ()
theorem impl_holds.ok (n : Nat) : CxOk E (cx n impl_holds.d.nt) → KPar (cx n impl_holds.d.nt) → impl_holds.d.Ok E (impl_holds.F (n + 1)) :=
  FD.ok (fs := impl_holds.fs n) mixedOk Tryz.func126 (by kernel_rfl) (by kernel_rfl) (by kernel_rfl) (by kernel_rfl) (fun _ => by kernel_rfl) (by kernel_rfl) (fun x => by kernel_rfl) (.nil)
noncomputable def impl_Matches.fs (n : Nat) : impl_Matches.d.Fs := (fun _ κe => impl_Matches.loop3 n (impl_Matches.o0.k (κe 0)) n, ())
theorem impl_Matches.r3 (n : Nat) : impl_Matches.d.Round (impl_Matches.fs n) (cx n impl_Matches.d.nt) (bodyOf Tryz.f100) 3 impl_Matches.p3 (fun κe => impl_Matches.step3 n (impl_Matches.o0.k (κe 0))) := fun κ κe x y => by kernel_rfl
theorem impl_Matches.ok (n : Nat) : CxOk E (cx n impl_Matches.d.nt) → KPar (cx n impl_Matches.d.nt) → impl_Matches.d.Ok E (impl_Matches.F (n + 1)) :=
  FD.ok (fs := impl_Matches.fs n) mixedOk Tryz.func100 (by kernel_rfl) (by kernel_rfl) (by kernel_rfl) (by kernel_rfl) (fun _ => by kernel_rfl) (by kernel_rfl) (fun x => by kernel_rfl) (.cons (FD.lp n (impl_Matches.r3 n) (by kernel_rfl) fun _ _ => by kernel_rfl) (.nil))
noncomputable def impl_cellOf.fs (n : Nat) : impl_cellOf.d.Fs := ()
theorem impl_cellOf.ok (n : Nat) : CxOk E (cx n impl_cellOf.d.nt) → KPar (cx n impl_cellOf.d.nt) → impl_cellOf.d.Ok E (impl_cellOf.F (n + 1)) :=
  FD.ok (fs := impl_cellOf.fs n) mixedOk Tryz.func127 (by kernel_rfl) (by kernel_rfl) (by kernel_rfl) (by kernel_rfl) (fun _ => by kernel_rfl) (by kernel_rfl) (fun x => by kernel_rfl) (.nil)
noncomputable def impl_Ahead.fs (n : Nat) : impl_Ahead.d.Fs := ()
theorem impl_Ahead.ok (n : Nat) : CxOk E (cx n impl_Ahead.d.nt) → KPar (cx n impl_Ahead.d.nt) → impl_Ahead.d.Ok E (impl_Ahead.F (n + 1)) :=
  FD.ok (fs := impl_Ahead.fs n) mixedOk Tryz.func101 (by kernel_rfl) (by kernel_rfl) (by kernel_rfl) (by kernel_rfl) (fun _ => by kernel_rfl) (by kernel_rfl) (fun x => by kernel_rfl) (.nil)
noncomputable def impl_ViewOk.fs (n : Nat) : impl_ViewOk.d.Fs := (fun _ κe => impl_ViewOk.loop6 n (impl_ViewOk.o0.k (κe 0)) n, fun _ κe => impl_ViewOk.loop15 n (impl_ViewOk.o2.k (κe 2)) n, ())
theorem impl_ViewOk.r15 (n : Nat) : impl_ViewOk.d.Round (impl_ViewOk.fs n) (cx n impl_ViewOk.d.nt) (bodyOf Tryz.f68) 15 impl_ViewOk.p15 (fun κe => impl_ViewOk.step15 n (impl_ViewOk.o2.k (κe 2))) := fun κ κe x y => by kernel_rfl
theorem impl_ViewOk.r6 (n : Nat) : impl_ViewOk.d.Round (impl_ViewOk.fs n) (cx n impl_ViewOk.d.nt) (bodyOf Tryz.f68) 6 impl_ViewOk.p6 (fun κe => impl_ViewOk.step6 n (impl_ViewOk.o0.k (κe 0))) := fun κ κe x y => by kernel_rfl
theorem impl_ViewOk.ok (n : Nat) : CxOk E (cx n impl_ViewOk.d.nt) → KPar (cx n impl_ViewOk.d.nt) → impl_ViewOk.d.Ok E (impl_ViewOk.F (n + 1)) :=
  FD.ok (fs := impl_ViewOk.fs n) mixedOk Tryz.func68 (by kernel_rfl) (by kernel_rfl) (by kernel_rfl) (by kernel_rfl) (fun _ => by kernel_rfl) (by kernel_rfl) (fun x => by kernel_rfl) (.cons (FD.lp n (impl_ViewOk.r6 n) (by kernel_rfl) fun _ _ => by kernel_rfl) (.cons (FD.lp n (impl_ViewOk.r15 n) (by kernel_rfl) fun _ _ => by kernel_rfl) (.nil)))
noncomputable def slices_Equal_Cond.fs (n : Nat) : slices_Equal_Cond.d.Fs := (fun _ κe => slices_Equal_Cond.loop6 n (slices_Equal_Cond.o0.k (κe 0)) n, ())
theorem slices_Equal_Cond.r6 (n : Nat) : slices_Equal_Cond.d.Round (slices_Equal_Cond.fs n) (cx n slices_Equal_Cond.d.nt) (bodyOf Tryz.f106) 6 slices_Equal_Cond.p6 (fun κe => slices_Equal_Cond.step6 n (slices_Equal_Cond.o0.k (κe 0))) := fun κ κe x y => by kernel_rfl
theorem slices_Equal_Cond.ok (n : Nat) : CxOk E (cx n slices_Equal_Cond.d.nt) → KPar (cx n slices_Equal_Cond.d.nt) → slices_Equal_Cond.d.Ok E (slices_Equal_Cond.F (n + 1)) :=
  FD.ok (fs := slices_Equal_Cond.fs n) mixedOk Tryz.func106 (by kernel_rfl) (by kernel_rfl) (by kernel_rfl) (by kernel_rfl) (fun _ => by kernel_rfl) (by kernel_rfl) (fun x => by kernel_rfl) (.cons (FD.lp n (slices_Equal_Cond.r6 n) (by kernel_rfl) fun _ _ => by kernel_rfl) (.nil))
noncomputable def impl_QuerySame.fs (n : Nat) : impl_QuerySame.d.Fs := ()
theorem impl_QuerySame.ok (n : Nat) : CxOk E (cx n impl_QuerySame.d.nt) → KPar (cx n impl_QuerySame.d.nt) → impl_QuerySame.d.Ok E (impl_QuerySame.F (n + 1)) :=
  FD.ok (fs := impl_QuerySame.fs n) mixedOk Tryz.func71 (by kernel_rfl) (by kernel_rfl) (by kernel_rfl) (by kernel_rfl) (fun _ => by kernel_rfl) (by kernel_rfl) (fun x => by kernel_rfl) (.nil)
noncomputable def slices_EqualFunc_Row_impl_RowSame.fs (n : Nat) : slices_EqualFunc_Row_impl_RowSame.d.Fs := (fun _ κe => slices_EqualFunc_Row_impl_RowSame.loop6 n (slices_EqualFunc_Row_impl_RowSame.o0.k (κe 0)) n, ())
theorem slices_EqualFunc_Row_impl_RowSame.r6 (n : Nat) : slices_EqualFunc_Row_impl_RowSame.d.Round (slices_EqualFunc_Row_impl_RowSame.fs n) (cx n slices_EqualFunc_Row_impl_RowSame.d.nt) (bodyOf Tryz.f103) 6 slices_EqualFunc_Row_impl_RowSame.p6 (fun κe => slices_EqualFunc_Row_impl_RowSame.step6 n (slices_EqualFunc_Row_impl_RowSame.o0.k (κe 0))) := fun κ κe x y => by kernel_rfl
theorem slices_EqualFunc_Row_impl_RowSame.ok (n : Nat) : CxOk E (cx n slices_EqualFunc_Row_impl_RowSame.d.nt) → KPar (cx n slices_EqualFunc_Row_impl_RowSame.d.nt) → slices_EqualFunc_Row_impl_RowSame.d.Ok E (slices_EqualFunc_Row_impl_RowSame.F (n + 1)) :=
  FD.ok (fs := slices_EqualFunc_Row_impl_RowSame.fs n) mixedOk Tryz.func103 (by kernel_rfl) (by kernel_rfl) (by kernel_rfl) (by kernel_rfl) (fun _ => by kernel_rfl) (by kernel_rfl) (fun x => by kernel_rfl) (.cons (FD.lp n (slices_EqualFunc_Row_impl_RowSame.r6 n) (by kernel_rfl) fun _ _ => by kernel_rfl) (.nil))
noncomputable def slices_Equal_Kid.fs (n : Nat) : slices_Equal_Kid.d.Fs := (fun _ κe => slices_Equal_Kid.loop6 n (slices_Equal_Kid.o0.k (κe 0)) n, ())
theorem slices_Equal_Kid.r6 (n : Nat) : slices_Equal_Kid.d.Round (slices_Equal_Kid.fs n) (cx n slices_Equal_Kid.d.nt) (bodyOf Tryz.f105) 6 slices_Equal_Kid.p6 (fun κe => slices_Equal_Kid.step6 n (slices_Equal_Kid.o0.k (κe 0))) := fun κ κe x y => by kernel_rfl
theorem slices_Equal_Kid.ok (n : Nat) : CxOk E (cx n slices_Equal_Kid.d.nt) → KPar (cx n slices_Equal_Kid.d.nt) → slices_Equal_Kid.d.Ok E (slices_Equal_Kid.F (n + 1)) :=
  FD.ok (fs := slices_Equal_Kid.fs n) mixedOk Tryz.func105 (by kernel_rfl) (by kernel_rfl) (by kernel_rfl) (by kernel_rfl) (fun _ => by kernel_rfl) (by kernel_rfl) (fun x => by kernel_rfl) (.cons (FD.lp n (slices_Equal_Kid.r6 n) (by kernel_rfl) fun _ _ => by kernel_rfl) (.nil))
noncomputable def impl_ViewSame.fs (n : Nat) : impl_ViewSame.d.Fs := ()
theorem impl_ViewSame.ok (n : Nat) : CxOk E (cx n impl_ViewSame.d.nt) → KPar (cx n impl_ViewSame.d.nt) → impl_ViewSame.d.Ok E (impl_ViewSame.F (n + 1)) :=
  FD.ok (fs := impl_ViewSame.fs n) mixedOk Tryz.func70 (by kernel_rfl) (by kernel_rfl) (by kernel_rfl) (by kernel_rfl) (fun _ => by kernel_rfl) (by kernel_rfl) (fun x => by kernel_rfl) (.nil)
noncomputable def impl_SessOk.fs (n : Nat) : impl_SessOk.d.Fs := ()
theorem impl_SessOk.ok (n : Nat) : CxOk E (cx n impl_SessOk.d.nt) → KPar (cx n impl_SessOk.d.nt) → impl_SessOk.d.Ok E (impl_SessOk.F (n + 1)) :=
  FD.ok (fs := impl_SessOk.fs n) mixedOk Tryz.func38 (by kernel_rfl) (by kernel_rfl) (by kernel_rfl) (by kernel_rfl) (fun _ => by kernel_rfl) (by kernel_rfl) (fun x => by kernel_rfl) (.nil)
noncomputable def impl_seatOk.fs (n : Nat) : impl_seatOk.d.Fs := ()
theorem impl_seatOk.ok (n : Nat) : CxOk E (cx n impl_seatOk.d.nt) → KPar (cx n impl_seatOk.d.nt) → impl_seatOk.d.Ok E (impl_seatOk.F (n + 1)) :=
  FD.ok (fs := impl_seatOk.fs n) mixedOk Tryz.func21 (by kernel_rfl) (by kernel_rfl) (by kernel_rfl) (by kernel_rfl) (fun _ => by kernel_rfl) (by kernel_rfl) (fun x => by kernel_rfl) (.nil)
noncomputable def impl_ServerOk.fs (n : Nat) : impl_ServerOk.d.Fs := (fun _ κe => impl_ServerOk.loop6 n (impl_ServerOk.o0.k (κe 0)) n, ())
theorem impl_ServerOk.r6 (n : Nat) : impl_ServerOk.d.Round (impl_ServerOk.fs n) (cx n impl_ServerOk.d.nt) (bodyOf Tryz.f8) 6 impl_ServerOk.p6 (fun κe => impl_ServerOk.step6 n (impl_ServerOk.o0.k (κe 0))) := fun κ κe x y => by kernel_rfl
theorem impl_ServerOk.ok (n : Nat) : CxOk E (cx n impl_ServerOk.d.nt) → KPar (cx n impl_ServerOk.d.nt) → impl_ServerOk.d.Ok E (impl_ServerOk.F (n + 1)) :=
  FD.ok (fs := impl_ServerOk.fs n) mixedOk Tryz.func8 (by kernel_rfl) (by kernel_rfl) (by kernel_rfl) (by kernel_rfl) (fun _ => by kernel_rfl) (by kernel_rfl) (fun x => by kernel_rfl) (.cons (FD.lp n (impl_ServerOk.r6 n) (by kernel_rfl) fun _ _ => by kernel_rfl) (.nil))
noncomputable def impl_Last.fs (n : Nat) : impl_Last.d.Fs := ()
theorem impl_Last.ok (n : Nat) : CxOk E (cx n impl_Last.d.nt) → KPar (cx n impl_Last.d.nt) → impl_Last.d.Ok E (impl_Last.F (n + 1)) :=
  FD.ok (fs := impl_Last.fs n) mixedOk Tryz.func25 (by kernel_rfl) (by kernel_rfl) (by kernel_rfl) (by kernel_rfl) (fun _ => by kernel_rfl) (by kernel_rfl) (fun x => by kernel_rfl) (.nil)
noncomputable def impl_Behind.fs (n : Nat) : impl_Behind.d.Fs := ()
theorem impl_Behind.ok (n : Nat) : CxOk E (cx n impl_Behind.d.nt) → KPar (cx n impl_Behind.d.nt) → impl_Behind.d.Ok E (impl_Behind.F (n + 1)) :=
  FD.ok (fs := impl_Behind.fs n) mixedOk Tryz.func11 (by kernel_rfl) (by kernel_rfl) (by kernel_rfl) (by kernel_rfl) (fun _ => by kernel_rfl) (by kernel_rfl) (fun x => by kernel_rfl) (.nil)
noncomputable def laws_eqIntS.fs (n : Nat) : laws_eqIntS.d.Fs := (fun _ κe => laws_eqIntS.loop6 n (laws_eqIntS.o0.k (κe 0)) n, ())
theorem laws_eqIntS.r6 (n : Nat) : laws_eqIntS.d.Round (laws_eqIntS.fs n) (cx n laws_eqIntS.d.nt) (bodyOf Tryz.f108) 6 laws_eqIntS.p6 (fun κe => laws_eqIntS.step6 n (laws_eqIntS.o0.k (κe 0))) := fun κ κe x y => by kernel_rfl
theorem laws_eqIntS.ok (n : Nat) : CxOk E (cx n laws_eqIntS.d.nt) → KPar (cx n laws_eqIntS.d.nt) → laws_eqIntS.d.Ok E (laws_eqIntS.F (n + 1)) :=
  FD.ok (fs := laws_eqIntS.fs n) mixedOk Tryz.func108 (by kernel_rfl) (by kernel_rfl) (by kernel_rfl) (by kernel_rfl) (fun _ => by kernel_rfl) (by kernel_rfl) (fun x => by kernel_rfl) (.cons (FD.lp n (laws_eqIntS.r6 n) (by kernel_rfl) fun _ _ => by kernel_rfl) (.nil))
noncomputable def laws_eqSchema.fs (n : Nat) : laws_eqSchema.d.Fs := ()
theorem laws_eqSchema.ok (n : Nat) : CxOk E (cx n laws_eqSchema.d.nt) → KPar (cx n laws_eqSchema.d.nt) → laws_eqSchema.d.Ok E (laws_eqSchema.F (n + 1)) :=
  FD.ok (fs := laws_eqSchema.fs n) mixedOk Tryz.func72 (by kernel_rfl) (by kernel_rfl) (by kernel_rfl) (by kernel_rfl) (fun _ => by kernel_rfl) (by kernel_rfl) (fun x => by kernel_rfl) (.nil)
noncomputable def laws_eqRow.fs (n : Nat) : laws_eqRow.d.Fs := ()
theorem laws_eqRow.ok (n : Nat) : CxOk E (cx n laws_eqRow.d.nt) → KPar (cx n laws_eqRow.d.nt) → laws_eqRow.d.Ok E (laws_eqRow.F (n + 1)) :=
  FD.ok (fs := laws_eqRow.fs n) mixedOk Tryz.func130 (by kernel_rfl) (by kernel_rfl) (by kernel_rfl) (by kernel_rfl) (fun _ => by kernel_rfl) (by kernel_rfl) (fun x => by kernel_rfl) (.nil)
noncomputable def laws_eqRowS.fs (n : Nat) : laws_eqRowS.d.Fs := (fun _ κe => laws_eqRowS.loop6 n (laws_eqRowS.o0.k (κe 0)) n, ())
theorem laws_eqRowS.r6 (n : Nat) : laws_eqRowS.d.Round (laws_eqRowS.fs n) (cx n laws_eqRowS.d.nt) (bodyOf Tryz.f109) 6 laws_eqRowS.p6 (fun κe => laws_eqRowS.step6 n (laws_eqRowS.o0.k (κe 0))) := fun κ κe x y => by kernel_rfl
theorem laws_eqRowS.ok (n : Nat) : CxOk E (cx n laws_eqRowS.d.nt) → KPar (cx n laws_eqRowS.d.nt) → laws_eqRowS.d.Ok E (laws_eqRowS.F (n + 1)) :=
  FD.ok (fs := laws_eqRowS.fs n) mixedOk Tryz.func109 (by kernel_rfl) (by kernel_rfl) (by kernel_rfl) (by kernel_rfl) (fun _ => by kernel_rfl) (by kernel_rfl) (fun x => by kernel_rfl) (.cons (FD.lp n (laws_eqRowS.r6 n) (by kernel_rfl) fun _ _ => by kernel_rfl) (.nil))
noncomputable def laws_eqRowSS.fs (n : Nat) : laws_eqRowSS.d.Fs := (fun _ κe => laws_eqRowSS.loop6 n (laws_eqRowSS.o0.k (κe 0)) n, ())
theorem laws_eqRowSS.r6 (n : Nat) : laws_eqRowSS.d.Round (laws_eqRowSS.fs n) (cx n laws_eqRowSS.d.nt) (bodyOf Tryz.f73) 6 laws_eqRowSS.p6 (fun κe => laws_eqRowSS.step6 n (laws_eqRowSS.o0.k (κe 0))) := fun κ κe x y => by kernel_rfl
theorem laws_eqRowSS.ok (n : Nat) : CxOk E (cx n laws_eqRowSS.d.nt) → KPar (cx n laws_eqRowSS.d.nt) → laws_eqRowSS.d.Ok E (laws_eqRowSS.F (n + 1)) :=
  FD.ok (fs := laws_eqRowSS.fs n) mixedOk Tryz.func73 (by kernel_rfl) (by kernel_rfl) (by kernel_rfl) (by kernel_rfl) (fun _ => by kernel_rfl) (by kernel_rfl) (fun x => by kernel_rfl) (.cons (FD.lp n (laws_eqRowSS.r6 n) (by kernel_rfl) fun _ _ => by kernel_rfl) (.nil))
noncomputable def laws_eqStore.fs (n : Nat) : laws_eqStore.d.Fs := ()
theorem laws_eqStore.ok (n : Nat) : CxOk E (cx n laws_eqStore.d.nt) → KPar (cx n laws_eqStore.d.nt) → laws_eqStore.d.Ok E (laws_eqStore.F (n + 1)) :=
  FD.ok (fs := laws_eqStore.fs n) mixedOk Tryz.func39 (by kernel_rfl) (by kernel_rfl) (by kernel_rfl) (by kernel_rfl) (fun _ => by kernel_rfl) (by kernel_rfl) (fun x => by kernel_rfl) (.nil)
noncomputable def laws_eqChange.fs (n : Nat) : laws_eqChange.d.Fs := ()
theorem laws_eqChange.ok (n : Nat) : CxOk E (cx n laws_eqChange.d.nt) → KPar (cx n laws_eqChange.d.nt) → laws_eqChange.d.Ok E (laws_eqChange.F (n + 1)) :=
  FD.ok (fs := laws_eqChange.fs n) mixedOk Tryz.func110 (by kernel_rfl) (by kernel_rfl) (by kernel_rfl) (by kernel_rfl) (fun _ => by kernel_rfl) (by kernel_rfl) (fun x => by kernel_rfl) (.nil)
noncomputable def laws_eqChangeS.fs (n : Nat) : laws_eqChangeS.d.Fs := (fun _ κe => laws_eqChangeS.loop6 n (laws_eqChangeS.o0.k (κe 0)) n, ())
theorem laws_eqChangeS.r6 (n : Nat) : laws_eqChangeS.d.Round (laws_eqChangeS.fs n) (cx n laws_eqChangeS.d.nt) (bodyOf Tryz.f74) 6 laws_eqChangeS.p6 (fun κe => laws_eqChangeS.step6 n (laws_eqChangeS.o0.k (κe 0))) := fun κ κe x y => by kernel_rfl
theorem laws_eqChangeS.ok (n : Nat) : CxOk E (cx n laws_eqChangeS.d.nt) → KPar (cx n laws_eqChangeS.d.nt) → laws_eqChangeS.d.Ok E (laws_eqChangeS.F (n + 1)) :=
  FD.ok (fs := laws_eqChangeS.fs n) mixedOk Tryz.func74 (by kernel_rfl) (by kernel_rfl) (by kernel_rfl) (by kernel_rfl) (fun _ => by kernel_rfl) (by kernel_rfl) (fun x => by kernel_rfl) (.cons (FD.lp n (laws_eqChangeS.r6 n) (by kernel_rfl) fun _ _ => by kernel_rfl) (.nil))
noncomputable def laws_eqChangeSS.fs (n : Nat) : laws_eqChangeSS.d.Fs := (fun _ κe => laws_eqChangeSS.loop6 n (laws_eqChangeSS.o0.k (κe 0)) n, ())
theorem laws_eqChangeSS.r6 (n : Nat) : laws_eqChangeSS.d.Round (laws_eqChangeSS.fs n) (cx n laws_eqChangeSS.d.nt) (bodyOf Tryz.f40) 6 laws_eqChangeSS.p6 (fun κe => laws_eqChangeSS.step6 n (laws_eqChangeSS.o0.k (κe 0))) := fun κ κe x y => by kernel_rfl
theorem laws_eqChangeSS.ok (n : Nat) : CxOk E (cx n laws_eqChangeSS.d.nt) → KPar (cx n laws_eqChangeSS.d.nt) → laws_eqChangeSS.d.Ok E (laws_eqChangeSS.F (n + 1)) :=
  FD.ok (fs := laws_eqChangeSS.fs n) mixedOk Tryz.func40 (by kernel_rfl) (by kernel_rfl) (by kernel_rfl) (by kernel_rfl) (fun _ => by kernel_rfl) (by kernel_rfl) (fun x => by kernel_rfl) (.cons (FD.lp n (laws_eqChangeSS.r6 n) (by kernel_rfl) fun _ _ => by kernel_rfl) (.nil))
noncomputable def laws_eqRecord.fs (n : Nat) : laws_eqRecord.d.Fs := ()
theorem laws_eqRecord.ok (n : Nat) : CxOk E (cx n laws_eqRecord.d.nt) → KPar (cx n laws_eqRecord.d.nt) → laws_eqRecord.d.Ok E (laws_eqRecord.F (n + 1)) :=
  FD.ok (fs := laws_eqRecord.fs n) mixedOk Tryz.func22 (by kernel_rfl) (by kernel_rfl) (by kernel_rfl) (by kernel_rfl) (fun _ => by kernel_rfl) (by kernel_rfl) (fun x => by kernel_rfl) (.nil)
noncomputable def laws_eqCond.fs (n : Nat) : laws_eqCond.d.Fs := ()
theorem laws_eqCond.ok (n : Nat) : CxOk E (cx n laws_eqCond.d.nt) → KPar (cx n laws_eqCond.d.nt) → laws_eqCond.d.Ok E (laws_eqCond.F (n + 1)) :=
  FD.ok (fs := laws_eqCond.fs n) mixedOk Tryz.func144 (by kernel_rfl) (by kernel_rfl) (by kernel_rfl) (by kernel_rfl) (fun _ => by kernel_rfl) (by kernel_rfl) (fun x => by kernel_rfl) (.nil)
noncomputable def laws_eqCondS.fs (n : Nat) : laws_eqCondS.d.Fs := (fun _ κe => laws_eqCondS.loop6 n (laws_eqCondS.o0.k (κe 0)) n, ())
theorem laws_eqCondS.r6 (n : Nat) : laws_eqCondS.d.Round (laws_eqCondS.fs n) (cx n laws_eqCondS.d.nt) (bodyOf Tryz.f139) 6 laws_eqCondS.p6 (fun κe => laws_eqCondS.step6 n (laws_eqCondS.o0.k (κe 0))) := fun κ κe x y => by kernel_rfl
theorem laws_eqCondS.ok (n : Nat) : CxOk E (cx n laws_eqCondS.d.nt) → KPar (cx n laws_eqCondS.d.nt) → laws_eqCondS.d.Ok E (laws_eqCondS.F (n + 1)) :=
  FD.ok (fs := laws_eqCondS.fs n) mixedOk Tryz.func139 (by kernel_rfl) (by kernel_rfl) (by kernel_rfl) (by kernel_rfl) (fun _ => by kernel_rfl) (by kernel_rfl) (fun x => by kernel_rfl) (.cons (FD.lp n (laws_eqCondS.r6 n) (by kernel_rfl) fun _ _ => by kernel_rfl) (.nil))
noncomputable def laws_eqQuery.fs (n : Nat) : laws_eqQuery.d.Fs := ()
theorem laws_eqQuery.ok (n : Nat) : CxOk E (cx n laws_eqQuery.d.nt) → KPar (cx n laws_eqQuery.d.nt) → laws_eqQuery.d.Ok E (laws_eqQuery.F (n + 1)) :=
  FD.ok (fs := laws_eqQuery.fs n) mixedOk Tryz.func131 (by kernel_rfl) (by kernel_rfl) (by kernel_rfl) (by kernel_rfl) (fun _ => by kernel_rfl) (by kernel_rfl) (fun x => by kernel_rfl) (.nil)
noncomputable def laws_eqKid.fs (n : Nat) : laws_eqKid.d.Fs := ()
theorem laws_eqKid.ok (n : Nat) : CxOk E (cx n laws_eqKid.d.nt) → KPar (cx n laws_eqKid.d.nt) → laws_eqKid.d.Ok E (laws_eqKid.F (n + 1)) :=
  FD.ok (fs := laws_eqKid.fs n) mixedOk Tryz.func140 (by kernel_rfl) (by kernel_rfl) (by kernel_rfl) (by kernel_rfl) (fun _ => by kernel_rfl) (by kernel_rfl) (fun x => by kernel_rfl) (.nil)
noncomputable def laws_eqKidS.fs (n : Nat) : laws_eqKidS.d.Fs := (fun _ κe => laws_eqKidS.loop6 n (laws_eqKidS.o0.k (κe 0)) n, ())
theorem laws_eqKidS.r6 (n : Nat) : laws_eqKidS.d.Round (laws_eqKidS.fs n) (cx n laws_eqKidS.d.nt) (bodyOf Tryz.f132) 6 laws_eqKidS.p6 (fun κe => laws_eqKidS.step6 n (laws_eqKidS.o0.k (κe 0))) := fun κ κe x y => by kernel_rfl
theorem laws_eqKidS.ok (n : Nat) : CxOk E (cx n laws_eqKidS.d.nt) → KPar (cx n laws_eqKidS.d.nt) → laws_eqKidS.d.Ok E (laws_eqKidS.F (n + 1)) :=
  FD.ok (fs := laws_eqKidS.fs n) mixedOk Tryz.func132 (by kernel_rfl) (by kernel_rfl) (by kernel_rfl) (by kernel_rfl) (fun _ => by kernel_rfl) (by kernel_rfl) (fun x => by kernel_rfl) (.cons (FD.lp n (laws_eqKidS.r6 n) (by kernel_rfl) fun _ _ => by kernel_rfl) (.nil))
noncomputable def laws_eqView.fs (n : Nat) : laws_eqView.d.Fs := ()
theorem laws_eqView.ok (n : Nat) : CxOk E (cx n laws_eqView.d.nt) → KPar (cx n laws_eqView.d.nt) → laws_eqView.d.Ok E (laws_eqView.F (n + 1)) :=
  FD.ok (fs := laws_eqView.fs n) mixedOk Tryz.func111 (by kernel_rfl) (by kernel_rfl) (by kernel_rfl) (by kernel_rfl) (fun _ => by kernel_rfl) (by kernel_rfl) (fun x => by kernel_rfl) (.nil)
noncomputable def laws_eqSess.fs (n : Nat) : laws_eqSess.d.Fs := ()
theorem laws_eqSess.ok (n : Nat) : CxOk E (cx n laws_eqSess.d.nt) → KPar (cx n laws_eqSess.d.nt) → laws_eqSess.d.Ok E (laws_eqSess.F (n + 1)) :=
  FD.ok (fs := laws_eqSess.fs n) mixedOk Tryz.func75 (by kernel_rfl) (by kernel_rfl) (by kernel_rfl) (by kernel_rfl) (fun _ => by kernel_rfl) (by kernel_rfl) (fun x => by kernel_rfl) (.nil)
noncomputable def laws_eqLine.fs (n : Nat) : laws_eqLine.d.Fs := ()
theorem laws_eqLine.ok (n : Nat) : CxOk E (cx n laws_eqLine.d.nt) → KPar (cx n laws_eqLine.d.nt) → laws_eqLine.d.Ok E (laws_eqLine.F (n + 1)) :=
  FD.ok (fs := laws_eqLine.fs n) mixedOk Tryz.func76 (by kernel_rfl) (by kernel_rfl) (by kernel_rfl) (by kernel_rfl) (fun _ => by kernel_rfl) (by kernel_rfl) (fun x => by kernel_rfl) (.nil)
noncomputable def laws_eqSeat.fs (n : Nat) : laws_eqSeat.d.Fs := ()
theorem laws_eqSeat.ok (n : Nat) : CxOk E (cx n laws_eqSeat.d.nt) → KPar (cx n laws_eqSeat.d.nt) → laws_eqSeat.d.Ok E (laws_eqSeat.F (n + 1)) :=
  FD.ok (fs := laws_eqSeat.fs n) mixedOk Tryz.func41 (by kernel_rfl) (by kernel_rfl) (by kernel_rfl) (by kernel_rfl) (fun _ => by kernel_rfl) (by kernel_rfl) (fun x => by kernel_rfl) (.nil)
noncomputable def laws_eqSeatS.fs (n : Nat) : laws_eqSeatS.d.Fs := (fun _ κe => laws_eqSeatS.loop6 n (laws_eqSeatS.o0.k (κe 0)) n, ())
theorem laws_eqSeatS.r6 (n : Nat) : laws_eqSeatS.d.Round (laws_eqSeatS.fs n) (cx n laws_eqSeatS.d.nt) (bodyOf Tryz.f23) 6 laws_eqSeatS.p6 (fun κe => laws_eqSeatS.step6 n (laws_eqSeatS.o0.k (κe 0))) := fun κ κe x y => by kernel_rfl
theorem laws_eqSeatS.ok (n : Nat) : CxOk E (cx n laws_eqSeatS.d.nt) → KPar (cx n laws_eqSeatS.d.nt) → laws_eqSeatS.d.Ok E (laws_eqSeatS.F (n + 1)) :=
  FD.ok (fs := laws_eqSeatS.fs n) mixedOk Tryz.func23 (by kernel_rfl) (by kernel_rfl) (by kernel_rfl) (by kernel_rfl) (fun _ => by kernel_rfl) (by kernel_rfl) (fun x => by kernel_rfl) (.cons (FD.lp n (laws_eqSeatS.r6 n) (by kernel_rfl) fun _ _ => by kernel_rfl) (.nil))
noncomputable def laws_eqServer.fs (n : Nat) : laws_eqServer.d.Fs := ()
theorem laws_eqServer.ok (n : Nat) : CxOk E (cx n laws_eqServer.d.nt) → KPar (cx n laws_eqServer.d.nt) → laws_eqServer.d.Ok E (laws_eqServer.F (n + 1)) :=
  FD.ok (fs := laws_eqServer.fs n) mixedOk Tryz.func9 (by kernel_rfl) (by kernel_rfl) (by kernel_rfl) (by kernel_rfl) (fun _ => by kernel_rfl) (by kernel_rfl) (fun x => by kernel_rfl) (.nil)
noncomputable def laws_FnExactBehind.fs (n : Nat) : laws_FnExactBehind.d.Fs := ()
theorem laws_FnExactBehind.ok (n : Nat) : CxOk E (cx n laws_FnExactBehind.d.nt) → KPar (cx n laws_FnExactBehind.d.nt) → laws_FnExactBehind.d.Ok E (laws_FnExactBehind.F (n + 1)) :=
  FD.ok (fs := laws_FnExactBehind.fs n) mixedOk Tryz.func4 (by kernel_rfl) (by kernel_rfl) (by kernel_rfl) (by kernel_rfl) (fun _ => by kernel_rfl) (by kernel_rfl) (fun x => by kernel_rfl) (.nil)
end Go.Pi
end
section
set_option linter.unusedVariables false
namespace Go.Pi
/-- what an insertion makes of two rows -/
def InsM (P : Program) (f : FuncId) (e : TypeId) (K B : Nat) : Prop :=
  ∀ (w : World) (S : Value) (n : Nat) (vals : List Value) (U : Value) (m : Nat) (us : List Value) (i : Nat), w.ownsRow 0 e K S n vals → w.ownsRow 0 e K U m us → (∀ b, own1 S b ≠ 0 → own1 U b = 0) → i ≤ n →
    (∀ v ∈ vals, v.oneCell' = true) → (∀ v ∈ us, v.oneCell' = true) → (n + m) * B ≤ 140737488355328 →
    Calls P f (List.toArray [S, .int .i64 i, U]) w fun e' w' => ∃ R, e' = .returned R ∧ w'.ownsRow 0 e K R (n + m) (vals.take (i * K) ++ us ++ vals.drop (i * K)) ∧ GrewC w w' (fun b => own1 S b ≠ 0) ∧
      ∀ b, own1 R b ≠ 0 → (w.heap.size ≤ b ∨ own1 S b ≠ 0) ∧ b < w'.heap.size
/-- what a deletion makes of a row -/
def DelM (P : Program) (f : FuncId) (e : TypeId) (K : Nat) : Prop :=
  ∀ (w : World) (S : Value) (n : Nat) (vals : List Value) (i j : Nat), w.ownsRow 0 e K S n vals → i ≤ j → j ≤ n → (∀ v ∈ vals, v.oneCell' = true) →
    Calls P f (List.toArray [S, .int .i64 i, .int .i64 j]) w fun e' w' => ∃ R, e' = .returned R ∧ w'.ownsRow 0 e K R (n - (j - i)) (vals.take (i * K) ++ vals.drop (j * K)) ∧ GrewC w w' (fun b => own1 S b ≠ 0) ∧
      ∀ b, own1 R b ≠ 0 → (w.heap.size ≤ b ∨ own1 S b ≠ 0) ∧ b < w'.heap.size
def M.both : M → M → M
  | .d, .d => .d
  | _, _ => .s
variable [Coding]
open Coding
variable {E : Env} {w w' : World} {F F' : Nat → Prop}
theorem RL.own_inv {m t xs v l vs φ} (hm : m ≠ .v) (h : RL E w F (.sl m t xs :: l) (v :: vs) φ) : ∃ vals φ₁ φ₂, w.ownsRow 0 (E.eid t) t.width v xs.length vals ∧ RL E w F (encRows m.sub t xs) vals φ₁ ∧ (∀ b, own1 v b ≠ 0 → F b) ∧ RL E w F l vs φ₂ ∧ ∀ b, φ b = own1 v b + φ₁ b + φ₂ b := by
  cases h with
  | scal _ _ _ _ _ h => exact h.elim
  | view => exact absurd rfl hm
  | own m t xs v vals φ₁ l vs φ₂ φ h1 h2 h3 h4 h5 h6 => exact ⟨vals, φ₁, φ₂, h2, h3, h4, h5, h6⟩
theorem RL.len_inv {a l Vs φ} (h : RL E w F (a :: l) Vs φ) : ∃ v vs, Vs = v :: vs := by
  obtain ⟨v, vs, _, _, h, _⟩ := RL.uncons h
  exact ⟨v, vs, h⟩
/-- a row that came out of one that was handed over, and what lies in it -/
theorem row_back [CodingOk] {φ : Nat → Nat} (h1 : ∀ b, φ b ≤ 1) (low : ∀ b, φ b ≠ 0 → F b ∧ b < w.heap.size) {S : Value} (hSF : ∀ b, own1 S b ≠ 0 → F b) {t : TC} {zs : List (El t)} {vals : List Value} {ψ : Nat → Nat}
    (hz : RL E w F (encRows .d t zs) vals ψ) (eφ : ∀ b, own1 S b + ψ b ≤ φ b) {R : Value} (hR : w'.ownsRow 0 (E.eid t) t.width R zs.length vals) (hg : GrewC w w' (fun b => own1 S b ≠ 0))
    (hRb : ∀ b, own1 R b ≠ 0 → (w.heap.size ≤ b ∨ own1 S b ≠ 0) ∧ b < w'.heap.size) :
    ∃ φ', RL E w' (fun b => (F b ∧ φ b = 0) ∨ φ' b ≠ 0) [.sl .d t zs] [R] φ' ∧ (∀ b, φ' b ≤ 1) ∧ (∀ b, φ' b ≠ 0 → φ b ≠ 0 ∨ w.heap.size ≤ b) ∧
      w'.os = w.os ∧ w'.tape = w.tape ∧ w'.output = w.output ∧ w.heap.size ≤ w'.heap.size ∧ ∀ b, b < w.heap.size → φ b = 0 → w'.heap[b]? = w.heap[b]? := by
  have key : ∀ b, own1 R b ≠ 0 → own1 S b ≠ 0 ∨ w.heap.size ≤ b := fun b hb => (hRb b hb).1.symm
  have elt : ∀ b, ψ b ≠ 0 → own1 R b = 0 ∧ own1 S b = 0 := fun b hb => by
    have q1 := eφ b; have q2 := h1 b
    have s0 : own1 S b = 0 := by omega
    refine ⟨Classical.byContradiction fun hr => ?_, s0⟩
    rcases key b hr with hs | hs
    · exact hs s0
    · have := (low b (by omega)).2; omega
  refine ⟨fun b => own1 R b + ψ b, ?_, fun b => ?_, fun b hb => ?_, hg.os, hg.tape, hg.output, hg.size, fun b hb h0 => hg.heap b hb fun hc => hc (by have := eφ b; omega)⟩
  · refine .own .d t zs R vals ψ [] _ (fun _ => 0) _ (by decide) hR ?_ (fun b hb => .inr (by show own1 R b + _ ≠ 0; omega)) (.nil _ fun _ => rfl) (fun b => rfl)
    refine hz.frame hg.size (fun b hb => ⟨hg.heap b (hz.low b hb).2 fun hc => hc (elt b hb).2, .inr (by show own1 R b + ψ b ≠ 0; omega)⟩) fun b hb hn => ⟨hg.heap b hb fun hc => hn (hSF b hc), fun hc => ?_⟩
    rcases hc with ⟨hf, -⟩ | hc
    · exact hn hf
    · have hc : own1 R b + ψ b ≠ 0 := hc
      by_cases hr0 : own1 R b = 0
      · exact hn (hz.low b (by omega)).1
      · rcases key b hr0 with hs | hs
        · exact hn (hSF b hs)
        · omega
  · show own1 R b + ψ b ≤ 1
    have q1 := eφ b; have q2 := h1 b; have := own1_le R b
    by_cases h0 : ψ b = 0
    · omega
    · have := elt b h0; omega
  · have hb : own1 R b + ψ b ≠ 0 := hb
    by_cases h0 : ψ b = 0
    · rcases key b (by omega) with hs | hs
      · exact .inl (by have := eφ b; omega)
      · exact .inr hs
    · exact .inl (by have := eφ b; omega)
/-- the same of a row whose elements are seen from then on -/
theorem row_back_s [CodingOk] {φ : Nat → Nat} (h1 : ∀ b, φ b ≤ 1) (low : ∀ b, φ b ≠ 0 → F b ∧ b < w.heap.size) {S : Value} (hSF : ∀ b, own1 S b ≠ 0 → F b) {t : TC} {zs : List (El t)} {L : List AV} {vals : List Value} {ψ : Nat → Nat}
    (hz : RL E w F L vals ψ) (hL : L.map AV.asView = encRows .v t zs) (eφ : ∀ b, own1 S b + ψ b ≤ φ b) {R : Value} (hR : w'.ownsRow 0 (E.eid t) t.width R zs.length vals) (hg : GrewC w w' (fun b => own1 S b ≠ 0))
    (hRb : ∀ b, own1 R b ≠ 0 → (w.heap.size ≤ b ∨ own1 S b ≠ 0) ∧ b < w'.heap.size) :
    ∃ φ', RL E w' (fun b => (F b ∧ φ b = 0) ∨ φ' b ≠ 0) [.sl .s t zs] [R] φ' ∧ (∀ b, φ' b ≤ 1) ∧ (∀ b, φ' b ≠ 0 → φ b ≠ 0 ∨ w.heap.size ≤ b) ∧
      w'.os = w.os ∧ w'.tape = w.tape ∧ w'.output = w.output ∧ w.heap.size ≤ w'.heap.size ∧ ∀ b, b < w.heap.size → φ b = 0 → w'.heap[b]? = w.heap[b]? := by
  have key : ∀ b, own1 R b ≠ 0 → own1 S b ≠ 0 ∨ w.heap.size ≤ b := fun b hb => (hRb b hb).1.symm
  have hv := hz.seen (F' := fun b => F b ∧ ψ b = 0) (fun b hb hc => hb hc.2) (fun b _ hn hc => hn hc.1)
  rw [hL] at hv
  refine ⟨own1 R, ?_, own1_le R, fun b hb => ?_, hg.os, hg.tape, hg.output, hg.size, fun b hb h0 => hg.heap b hb fun hc => hc (by have := eφ b; omega)⟩
  · refine .own .s t zs R vals (fun _ => 0) [] _ (fun _ => 0) _ (by decide) hR ?_ (fun b hb => .inr hb) (.nil _ fun _ => rfl) (fun b => rfl)
    refine hv.frame hg.size (fun b hb => absurd rfl hb) fun b hb hn => ⟨hg.heap b hb fun hc => hn ⟨hSF b hc, by have := eφ b; have := h1 b; omega⟩, fun hc => ?_⟩
    rcases hc with ⟨hf, h0⟩ | hc
    · exact hn ⟨hf, by have := eφ b; omega⟩
    · rcases key b hc with hs | hs
      · exact hn ⟨hSF b hs, by have := eφ b; have := h1 b; omega⟩
      · omega
  · rcases key b hb with hs | hs
    · exact .inl (by have := eφ b; omega)
    · exact .inr hs
theorem RL.int_inv {k n l v vs φ} (h : RL E w F (.i k n :: l) (v :: vs) φ) : v = .int k n ∧ RL E w F l vs φ := by
  cases h with
  | scal _ _ _ _ _ h1 h2 => exact ⟨h1, h2⟩
theorem codedD [CodingOk] {m : M} {t : TC} (zs : List (El t)) : ∀ a ∈ encRows m t zs, ∃ m, a.coded m := fun a ha => ⟨m, rows_coded a ha⟩
theorem ins_callOk [CodingOk] {f : FuncId} {t : TC} {m1 m2 : M} (hm1 : m1 ≠ .v) (hm2 : m2 ≠ .v) (h : InsM E.P f (E.eid t) t.width t.bytes) {xs ys : List (El t)} {i : Nat} (hi : i ≤ xs.length) (hb : (xs.length + ys.length) * t.bytes ≤ 140737488355328) :
    CallOk E f [.sl m1 t xs, .i .i64 i, .sl m2 t ys] (.sl (M.both m1 m2) t (xs.take i ++ ys ++ xs.drop i)) [] [.o, .v, .o] := by
  intro w F Vs φ hrl h1 hlow
  have low : ∀ b, φ b ≠ 0 → F b ∧ b < w.heap.size := hrl.low
  obtain ⟨S, _, rfl⟩ := hrl.len_inv
  replace hrl := hrl.own_inv hm1
  obtain ⟨vals, φx, φ2, hS, hx, hSF, hrl, e1⟩ := hrl
  obtain ⟨I, _, rfl⟩ := hrl.len_inv
  replace hrl := hrl.int_inv
  obtain ⟨rfl, hrl⟩ := hrl
  obtain ⟨U, _, rfl⟩ := hrl.len_inv
  replace hrl := hrl.own_inv hm2
  obtain ⟨us, φy, φ4, hU, hy, hUF, hrl, e3⟩ := hrl
  obtain ⟨rfl, e4⟩ := RL.nil_inv hrl
  have eφ : ∀ b, φ b = own1 S b + φx b + (own1 U b + φy b) := fun b => by rw [e1, e3, e4]; omega
  refine (h w S xs.length vals U ys.length us i hS hU (fun b hb => by have := h1 b; have := eφ b; omega) hi (hx.one (codedD _)) (hy.one (codedD _)) hb).mono ?_
  rintro e' w' ⟨R, rfl, hR, hg, hRb⟩
  have hx' : RL E w F (encRows m1.sub t (xs.take i) ++ encRows m1.sub t (xs.drop i)) vals φx := by rw [← encRows_append, List.take_append_drop]; exact hx
  obtain ⟨va, vb, φa, φb, rfl, ha, hb', e6⟩ := hx'.split
  have hla : va.length = i * t.width := by rw [← ha.length, encRows_length, List.length_take, Nat.min_eq_left hi]
  rw [← hla, List.take_left, List.drop_left] at hR
  have hz : RL E w F (encRows m1.sub t (xs.take i) ++ encRows m2.sub t ys ++ encRows m1.sub t (xs.drop i)) (va ++ us ++ vb) (fun b => φa b + φy b + φb b) :=
    (ha.append hy (ψ := fun b => φa b + φy b) (fun b => rfl)).append hb' (fun b => rfl)
  have hl : (xs.take i ++ ys ++ xs.drop i).length = xs.length + ys.length := by simp; omega
  have he : ∀ b, own1 S b + (φa b + φy b + φb b) ≤ φ b := fun b => by have := eφ b; have := e6 b; omega
  by_cases hd : m1 = .d ∧ m2 = .d
  · obtain ⟨rfl, rfl⟩ := hd
    have hz' : RL E w F (encRows .d t (xs.take i ++ ys ++ xs.drop i)) (va ++ us ++ vb) (fun b => φa b + φy b + φb b) := by
      rw [encRows_append, encRows_append]; exact hz
    obtain ⟨φ', k1, k2⟩ := row_back (S := S) (R := R) h1 low hSF hz' he (by rw [hl]; exact hR) hg hRb
    exact ⟨R, φ', rfl, k1, k2⟩
  · have hb2 : M.both m1 m2 = .s := by cases m1 <;> cases m2 <;> first | rfl | exact absurd rfl hm1 | exact absurd rfl hm2 | exact absurd ⟨rfl, rfl⟩ hd
    rw [hb2]
    obtain ⟨φ', k1, k2⟩ := row_back_s (S := S) (R := R) (t := t) (zs := xs.take i ++ ys ++ xs.drop i) h1 low hSF hz (by rw [List.map_append, List.map_append, asView_rows, asView_rows, asView_rows, encRows_append, encRows_append]) he (by rw [hl]; exact hR) hg hRb
    exact ⟨R, φ', rfl, k1, k2⟩
theorem del_callOk [CodingOk] {f : FuncId} {t : TC} {m : M} (hm0 : m ≠ .v) (h : DelM E.P f (E.eid t) t.width) {xs : List (El t)} {i j : Nat} (hij : i ≤ j) (hj : j ≤ xs.length) :
    CallOk E f [.sl m t xs, .i .i64 i, .i .i64 j] (.sl (M.both m m) t (xs.take i ++ xs.drop j)) [] [.o, .v, .v] := by
  intro w F Vs φ hrl h1 hlow
  have low : ∀ b, φ b ≠ 0 → F b ∧ b < w.heap.size := hrl.low
  obtain ⟨S, _, rfl⟩ := hrl.len_inv
  replace hrl := hrl.own_inv hm0
  obtain ⟨vals, φx, φ2, hS, hx, hSF, hrl, e1⟩ := hrl
  obtain ⟨I, _, rfl⟩ := hrl.len_inv
  replace hrl := hrl.int_inv
  obtain ⟨rfl, hrl⟩ := hrl
  obtain ⟨J, _, rfl⟩ := hrl.len_inv
  replace hrl := hrl.int_inv
  obtain ⟨rfl, hrl⟩ := hrl
  obtain ⟨rfl, e4⟩ := RL.nil_inv hrl
  have eφ : ∀ b, φ b = own1 S b + φx b := fun b => by rw [e1, e4]; omega
  refine (h w S xs.length vals i j hS hij hj (hx.one (codedD _))).mono ?_
  rintro e' w' ⟨R, rfl, hR, hg, hRb⟩
  have hx' : RL E w F (encRows m.sub t (xs.take i) ++ (encRows m.sub t ((xs.drop i).take (j - i)) ++ encRows m.sub t (xs.drop j))) vals φx := by
    rw [← encRows_append, ← encRows_append]
    have : xs.drop j = (xs.drop i).drop (j - i) := by rw [List.drop_drop]; congr 1; omega
    rw [this, List.take_append_drop, List.take_append_drop]; exact hx
  obtain ⟨va, vc, φa, φc, rfl, ha, hc, e6⟩ := hx'.split
  obtain ⟨vm, vb, φm, φb, rfl, hm, hb', e7⟩ := hc.split
  have hla : va.length = i * t.width := by rw [← ha.length, encRows_length, List.length_take, Nat.min_eq_left (by omega)]
  have hlm : vm.length = (j - i) * t.width := by rw [← hm.length, encRows_length, List.length_take, List.length_drop, Nat.min_eq_left (by omega)]
  have hlj : (va ++ vm).length = j * t.width := by rw [List.length_append, hla, hlm, ← Nat.add_mul]; congr 1; omega
  rw [← hla, List.take_left, ← hlj, ← List.append_assoc, List.drop_left] at hR
  have hz : RL E w F (encRows m.sub t (xs.take i) ++ encRows m.sub t (xs.drop j)) (va ++ vb) (fun b => φa b + φb b) := ha.append hb' (fun b => rfl)
  have hl : (xs.take i ++ xs.drop j).length = xs.length - (j - i) := by simp; omega
  have he : ∀ b, own1 S b + (φa b + φb b) ≤ φ b := fun b => by have := eφ b; have := e6 b; have := e7 b; omega
  cases m with
  | v => exact absurd rfl hm0
  | d =>
    have hz' : RL E w F (encRows .d t (xs.take i ++ xs.drop j)) (va ++ vb) (fun b => φa b + φb b) := by
      rw [encRows_append]; exact hz
    obtain ⟨φ', k1, k2⟩ := row_back (S := S) (R := R) h1 low hSF hz' he (by rw [hl]; exact hR) hg hRb
    exact ⟨R, φ', rfl, k1, k2⟩
  | s =>
    obtain ⟨φ', k1, k2⟩ := row_back_s (S := S) (R := R) (t := t) (zs := xs.take i ++ xs.drop j) h1 low hSF hz (by rw [List.map_append, asView_rows, asView_rows, encRows_append]) he (by rw [hl]; exact hR) hg hRb
    exact ⟨R, φ', rfl, k1, k2⟩
theorem nDel_ok [CodingOk] {f : FuncId} {t : TC} {m : M} (hm0 : m ≠ .v) (h : DelM E.P f (E.eid t) t.width) {xs r : List (El t)} {i j : Int} (hr : nDelete xs i j = some r) :
    CallOk E f [.sl m t xs, .i .i64 i, .i .i64 j] (.sl (M.both m m) t r) [] [.o, .v, .v] := by
  unfold nDelete at hr
  by_cases hc : 0 ≤ i ∧ i ≤ j ∧ j ≤ (xs.length : Int)
  · obtain ⟨h1, h2, h3⟩ := hc
    obtain ⟨i, rfl⟩ := Int.eq_ofNat_of_zero_le h1
    obtain ⟨j, rfl⟩ := Int.eq_ofNat_of_zero_le (Int.le_trans h1 h2)
    simp only [h1, h2, h3, decide_true, Bool.and_true, cond_true, Option.some.injEq] at hr
    subst hr
    exact del_callOk hm0 h (by omega) (by omega)
  · have : (decide (0 ≤ i) && (decide (i ≤ j) && decide (j ≤ (xs.length : Int)))) = false := by
      rw [Bool.eq_false_iff]; intro h; simp only [Bool.and_eq_true, decide_eq_true_eq] at h; exact hc h
    rw [this] at hr; cases hr
theorem nIns_ok [CodingOk] {f : FuncId} {t : TC} {m1 m2 : M} (hm1 : m1 ≠ .v) (hm2 : m2 ≠ .v) (h : InsM E.P f (E.eid t) t.width t.bytes) {xs ys r : List (El t)} {i : Int} (hr : nInsert t.bytes xs i ys = some r) :
    CallOk E f [.sl m1 t xs, .i .i64 i, .sl m2 t ys] (.sl (M.both m1 m2) t r) [] [.o, .v, .o] := by
  unfold nInsert at hr
  by_cases hc : 0 ≤ i ∧ i ≤ (xs.length : Int)
  · obtain ⟨h1, h2⟩ := hc
    obtain ⟨i, rfl⟩ := Int.eq_ofNat_of_zero_le h1
    by_cases hb : (xs.length + ys.length) * t.bytes ≤ 140737488355328
    · simp only [h1, h2, hb, decide_true, Bool.and_true, cond_true, Option.some.injEq] at hr
      subst hr
      exact ins_callOk hm1 hm2 h (by omega) hb
    · simp [h1, h2, hb] at hr
  · have : (decide (0 ≤ i) && decide (i ≤ (xs.length : Int))) = false := by
      rw [Bool.eq_false_iff]; intro h; simp only [Bool.and_eq_true, decide_eq_true_eq] at h; exact hc h
    rw [this] at hr; cases hr
end Go.Pi
end
section
set_option linter.unusedVariables false
set_option linter.unusedSimpArgs false
namespace Go.Proofs
open Go.Shelf Go.RowKit Go.Lib Go.Pi
section
variable {P : Program}
theorem step_append_runI {ops : Array Oper} {o : Oper} {a : Act} {w : World} {K : Act → World → Prop} {Q : Exit → Act → World → Prop} {E : Prop}
    (hg : o.guard = none) (d x : Operand) (dT sT : TypeId) (hop : o.op = Op.call { callee := Callee.builtin Builtin.append, args := #[d, x], argTypes := #[dT, sT] })
    (v u : Value) (hd : a.eval d = v) (hx : a.eval x = u) {v' : Value} {w' : World} (hr : (Builtin.append_ #[dT, sT] o.type #[v, u]).run P w = .ok v' w') (hK : K (a.put o.dst v') w') :
    if Region.wanted o (yielded ops a.tmps) = true then Oper.wp P o a w K Q else E := by
  have hw : Region.wanted o (yielded ops a.tmps) = true := by simp [Region.wanted, hg]
  rw [if_pos hw]
  unfold Oper.wp
  simp [execOp, hop, resolve, invoke, builtin, hd, hx, hr, Result.andThen]
  exact hK
theorem wpList_clear_runI (w : World) {ops : Array Oper} {rest : List Oper} {o : Oper} {a : Act} {Q : Exit → Act → World → Prop} (hgd : o.guard = none) (d : Operand) (t : TypeId)
    (ho : o.op = .call { callee := .builtin .clear, args := #[d], argTypes := #[t] }) (v : Value) (hd : a.eval d = v) {v' : Value} {w' : World}
    (hr : (Builtin.clear_ #[t] o.type #[v]).run P w = .ok v' w') (h : wpList P ops Q rest (a.put o.dst v') w') : wpList P ops Q (o :: rest) a w :=
  wpList_plain hgd fun _ hK => by
    unfold Oper.wp execOp
    simp only [ho, resolve, invoke, builtin, Sem.run_bind, Sem.run_pure, Result.andThen_ok, List.map_toArray, List.map_cons, List.map_nil, hd, hr]
    exact hK _ _ h
theorem run_clear_k (w : World) (t e ty : TypeId) (z : Value) (ht : P.underlying t = some (.slice e)) (hv : ∀ w, (zeroValue e).run P w = .ok z w) (g o n c : Nat) (hn : 0 < n) (cur : Array Value) (T : TypeId) (hg : w.heap[g]? = some (.cells cur T (0, 0)))
    (hfit : o + (Builtin.zeroCells z.cells n).toList.length ≤ cur.size) (h1 : ∀ v ∈ (Builtin.zeroCells z.cells n).toList, v.oneCell' = true) :
    (Builtin.clear_ #[t] ty #[.slice (some ⟨g, o, none⟩) n c]).run P w = .ok (.tuple #[]) (w.setRow g (cur.toList.take o ++ (Builtin.zeroCells z.cells n).toList ++ cur.toList.drop (o + (Builtin.zeroCells z.cells n).toList.length)).toArray) := by
  have hst := run_storeCells_at P g o T (Builtin.zeroCells z.cells n).toList 0 cur w hg (by simpa using hfit) h1
  obtain ⟨m, rfl⟩ : ∃ m, n = m + 1 := ⟨n - 1, by omega⟩
  simp only [Builtin.clear_, run_underlying ht, Sem.run_bind, Result.andThen_ok, hv]
  simp only [List.getElem?_toArray, List.getElem?_cons_zero, Sem.run_bind, run_underlying ht, Result.andThen_ok, hv, hst, Nat.add_zero, Sem.run_pure]
end
theorem wpList_copy_runI (w : World) {P : Program} {ops : Array Oper} {rest : List Oper} {o : Oper} {a : Act} {Q : Exit → Act → World → Prop} (hgd : o.guard = none) (d s : Operand) (t t' : TypeId)
    (ho : o.op = .call { callee := .builtin .copy, args := #[d, s], argTypes := #[t, t'] }) (v u : Value) (hd : a.eval d = v) (hs : a.eval s = u) {v' : Value} {w' : World}
    (hr : (Builtin.copy_ #[t, t'] o.type #[v, u]).run P w = .ok v' w') (h : wpList P ops Q rest (a.put o.dst v') w') : wpList P ops Q (o :: rest) a w :=
  wpList_plain hgd fun _ hK => by
    unfold Oper.wp execOp
    simp only [ho, resolve, invoke, builtin, Sem.run_bind, Sem.run_pure, Result.andThen_ok, List.map_toArray, List.map_cons, List.map_nil, hd, hs, hr]
    exact hK _ _ h
theorem step_copy_runI {P : Program} {ops : Array Oper} {o : Oper} {a : Act} {w : World} {K : Act → World → Prop} {Q : Exit → Act → World → Prop} {E : Prop}
    (hg : o.guard = none) (d x : Operand) (dT sT : TypeId) (hop : o.op = Op.call { callee := Callee.builtin Builtin.copy, args := #[d, x], argTypes := #[dT, sT] })
    (v u : Value) (hd : a.eval d = v) (hx : a.eval x = u) {v' : Value} {w' : World} (hr : (Builtin.copy_ #[dT, sT] o.type #[v, u]).run P w = .ok v' w') (hK : K (a.put o.dst v') w') :
    if Region.wanted o (yielded ops a.tmps) = true then Oper.wp P o a w K Q else E := by
  have hw : Region.wanted o (yielded ops a.tmps) = true := by simp [Region.wanted, hg]
  rw [if_pos hw]
  unfold Oper.wp
  simp [execOp, hop, resolve, invoke, builtin, hd, hx, hr, Result.andThen]
  exact hK
theorem run_copy_rowK {P : Program} (w : World) (dT sT ty elem : TypeId) (k : Nat) (g o dLen dCap : Nat) (a : Addr) (sLen sCap : Nat) (cur : Array Value) (t : TypeId) (cs : List Value)
    (hu : P.underlying dT = some (.slice elem)) (hs : (P.info? elem).map (·.size) = some k)
    (hg : w.heap[g]? = some (.cells cur t (0, 0))) (hn : cs.length = Nat.min sLen dLen * k)
    (hsrc : ∀ j v, cs[j]? = some v → w.cell? (a.add j) = some v) (hfit : o + cs.length ≤ cur.size) (h1 : ∀ v ∈ cs, v.oneCell' = true) :
    (Builtin.copy_ #[dT, sT] ty #[.slice (some ⟨g, o, none⟩) dLen dCap, .slice (some a) sLen sCap]).run P w =
      .ok (goInt (Nat.min sLen dLen)) (w.setRow g (cur.toList.take o ++ cs ++ cur.toList.drop (o + cs.length)).toArray) := by
  have hl := run_loadCells_list (P := P) w a cs hsrc
  have hst := run_storeCells_at P g o t cs 0 cur w hg (by simpa using hfit) h1
  cases hq : P.info? elem with
  | none => simp [hq] at hs
  | some i =>
    have hi : i.size = k := by simpa [hq] using hs
    simp [Builtin.copy_, run_underlying hu, Builtin.lenOf, Builtin.firstCells, sizeOf, typeInfo, hq, hi, ← hn, hl, hst]
theorem zc_one (cs : Array Value) (h : cs.toList.all Value.oneCell' = true) (n : Nat) : ∀ v ∈ (Builtin.zeroCells cs n).toList, v.oneCell' = true := by
  intro v hv
  simp only [Builtin.zeroCells, Array.toList_map, List.mem_map, Array.toList_range, List.mem_range] at hv
  obtain ⟨x, hx, rfl⟩ := hv
  have h0 : 0 < cs.size := Nat.pos_of_mul_pos_left (by omega : 0 < n * cs.size)
  have : x % cs.size < cs.size := Nat.mod_lt _ h0
  rw [getElem!_pos cs _ this]
  exact List.all_eq_true.1 h _ (by simp)
theorem own_low {w : World} {e : TypeId} {K : Nat} {S : Value} {n : Nat} {vals : List Value} (h : w.ownsRow 0 e K S n vals) : ∀ b, own1 S b ≠ 0 → b < w.heap.size := by
  intro b hb
  rcases h.2 with ⟨rfl, _⟩ | ⟨g, cap, cur, rfl, _, hg, _⟩
  · simp [own1] at hb
  · have : g = b := by simp only [own1] at hb; exact Classical.byContradiction fun h => hb (if_neg h)
    subst this
    exact (Array.getElem?_eq_some_iff.1 hg).1
theorem drow_size (w : World) (g : Nat) (A : Array Value) : w.heap.size ≤ (w.drew.setRow g A).heap.size := by
  have : (w.drew.setRow g A).heap.size = w.drew.heap.size := by simp [World.setRow]
  rw [this]; exact Nat.le_refl _
end Go.Proofs
end
section
set_option linter.unusedVariables false
set_option linter.unusedSimpArgs false
namespace Go.Proofs
open Go.Shelf Go.RowKit Go.Lib Go.Pi
set_option maxRecDepth 1000000 in
theorem Delete136 (w : World) (g n c i j : Nat) (cur : Array Value) (hg : w.heap[g]? = some (.cells cur 112 (0, 0))) (hs : cur.size = c * 2) (hn : n ≤ c) (hc : c ≤ 9223372036854775807) (hij : i < j) (hj : j ≤ n) 
    (h1 : ∀ v ∈ cur.toList.take (n * 2), v.oneCell' = true) :
    Calls Tryz.prog 136 #[.slice (some ⟨g, 0, none⟩) n c, .int .i64 i, .int .i64 j] w fun e w' => e = .returned (.slice (some ⟨g, 0, none⟩) (n - (j - i)) c) ∧
      ∃ A, w' = w.drew.setRow g A ∧ A.size = cur.size ∧ A.toList.take ((n - (j - i)) * 2) = (cur.toList.take (n * 2)).take (i * 2) ++ (cur.toList.take (n * 2)).drop (j * 2) := by
  have hic : i ≤ c := by omega
  have hjc : j ≤ c := by omega
  obtain ⟨news, hnews⟩ : ∃ news, news = (cur.toList.take (n * 2)).drop (j * 2) := ⟨_, rfl⟩
  have hlen : news.length = (n - j) * 2 := by rw [hnews, List.length_drop, List.length_take, Array.length_toList, hs]; omega
  have hgd : w.drew.heap[g]? = some (.cells cur 112 (0, 0)) := hg
  obtain ⟨A, hA, hsrc⟩ : ∃ A : Addr, (if c = j then some (⟨g, 0, none⟩ : Addr) else some ⟨g, j * 2, none⟩) = some A ∧ Hid (∀ t u, news[t]? = some u → w.drew.cell? (A.add t) = some u) := by
    by_cases h : c = j
    · refine ⟨⟨g, 0, none⟩, by simp [h], fun t u hu => ?_⟩
      have h0 : news.length = 0 := by rw [hlen]; omega
      rw [List.length_eq_zero_iff.1 h0] at hu
      simp at hu
    · refine ⟨⟨g, j * 2, none⟩, by simp [h], fun t u hu => ?_⟩
      have ht := (List.getElem?_eq_some_iff.1 hu).1
      rw [hlen] at ht
      rw [hnews, List.getElem?_drop, List.getElem?_take_of_lt (by omega), Array.getElem?_toList] at hu
      rw [Addr.add_lit]
      simp only [World.cell?, hgd]
      exact hu
  obtain ⟨i0, hi0⟩ := Option.isSome_iff_exists.1 (show (Tryz.prog.info? 112).isSome = true by kernel_rfl)
  have hz0 : i0.size = 2 := by
    have : (Tryz.prog.info? 112).map (·.size) = some 2 := by kernel_rfl
    rw [hi0] at this
    simpa using this
  have hr1 : ∀ ty, (Builtin.append_ #[57, 57] ty #[.slice (some ⟨g, 0, none⟩) i c, .slice (some A) (n - j) (c - j)]).run Tryz.prog w.drew = .ok (.slice (some ⟨g, 0, none⟩) (i + (n - j)) c) (w.drew.setRow g (cur.toList.take (i * 2) ++ news ++ cur.toList.drop (i * 2 + news.length)).toArray) := fun ty => by
    have := run_append_room (P := Tryz.prog) w.drew 57 ty 112 i0 Tryz.underlying57 hi0 g i c cur hgd A (n - j) (c - j) news (by rw [hlen, hz0]) hsrc.out (fun u hu => h1 u (by rw [hnews] at hu; exact List.mem_of_mem_drop hu)) (by omega) (by rw [hz0, hlen, hs]; omega)
    rw [hz0] at this
    exact this
  obtain ⟨B, hB⟩ : ∃ B, B = (cur.toList.take (i * 2) ++ news ++ cur.toList.drop (i * 2 + news.length)).toArray := ⟨_, rfl⟩
  have hBs : B.size = cur.size := by rw [hB]; simp [hlen, hs]; omega
  have hBt : B.toList.take ((i + (n - j)) * 2) = (cur.toList.take (n * 2)).take (i * 2) ++ news := by
    rw [hB]
    simp only [List.toList_toArray]
    rw [List.take_append_of_le_length (by simp [hlen, hs]; omega), List.take_of_length_le (by simp [hlen, hs]; omega), List.take_take, Nat.min_eq_left (by omega)]
  have hgB : (w.drew.setRow g B).heap[g]? = some (.cells B 112 (0, 0)) := setRow_heap _ _ _ _ _ _ hgd
  obtain ⟨Z, hZ⟩ : ∃ Z, Z = (Builtin.zeroCells (Value.agg #[.int .i64 0, .slice none 0 0]).cells (n - (i + (n - j)))).toList := ⟨_, rfl⟩
  have hZl : Z.length = (n - (i + (n - j))) * 2 := by rw [hZ]; simp [Builtin.zeroCells, Value.cells]
  have hcl : ∀ ty, (Builtin.clear_ #[57] ty #[.slice (some ⟨g, (i + (n - j)) * 2, none⟩) (n - (i + (n - j))) (c - (i + (n - j)))]).run Tryz.prog (w.drew.setRow g B) = .ok (.tuple #[]) ((w.drew.setRow g B).setRow g (B.toList.take ((i + (n - j)) * 2) ++ Z ++ B.toList.drop ((i + (n - j)) * 2 + Z.length)).toArray) := fun ty => by
    rw [hZ]
    refine run_clear_k _ 57 112 ty _ Tryz.underlying57 Tryz.zeroValue112 g _ _ _ (by omega) B 112 hgB (by rw [← hZ, hZl, hBs, hs]; omega) (fun v hv => ?_)
    exact zc_one _ (by kernel_rfl) _ v hv
  rw [← hB] at hr1
  obtain ⟨Z', hZ'⟩ : ∃ Z', Z' = (B.toList.take ((i + (n - j)) * 2) ++ Z ++ B.toList.drop ((i + (n - j)) * 2 + Z.length)).toArray := ⟨_, rfl⟩
  have kZ : Hid (Z'.size = cur.size ∧ Z'.toList.take ((i + (n - j)) * 2) = (cur.toList.take (n * 2)).take (i * 2) ++ (cur.toList.take (n * 2)).drop (j * 2)) := by
    refine ⟨by rw [hZ']; simp [hZl, hBs, hs]; omega, ?_⟩
    rw [hZ', ← hnews, ← hBt]
    simp only [List.toList_toArray, List.append_assoc]
    rw [List.take_append_of_le_length (by simp [hBs, hs]; omega), List.take_take, Nat.min_self]
  rw [← hZ'] at hcl
  clear hsrc h1 hB hBs hBt hgB hZ hZl hZ' hnews hlen hgd hg
  have hw1 : ¬ ((i : Int) = (j : Int)) := by omega
  have mixed : Tryz.prog.follows .mixedOrders = true := by kernel_rfl
  go_enter Tryz.func136, Tryz.ntmps136
  go_wp2_with fail
  go_region_law_o (refine step_append_runI rfl (.tmp 22) (.tmp 25) 57 57 rfl _ _ (by simp [Act.eval, Act.put]) (by simp [Act.eval, Act.put, hA]) (hr1 _) ?_)
  go_wp2_with fail
  go_ret
  exact ⟨by rw [show n - (j - i) = i + (n - j) by omega]; rfl, Z', by rw [setRow_setRow], kZ.out.1, by rw [show n - (j - i) = i + (n - j) by omega]; exact kZ.out.2⟩
set_option maxRecDepth 1000000 in
theorem DelNone136 (w : World) (S : Value) (n i : Nat) (vals : List Value) (hS : w.ownsRow 0 112 2 S n vals) (hi : i ≤ n) :
    Calls Tryz.prog 136 #[S, .int .i64 i, .int .i64 i] w fun e w' => e = .returned S ∧ w' = w := by
  rcases hS.2 with ⟨rfl, rfl⟩ | ⟨g, c, cur, rfl, -, hg, hnc, hcm, hcs, htake⟩
  · have hi0 : i = 0 := by omega
    subst hi0
    clear hS
    go_enter Tryz.func136, Tryz.ntmps136
    go_wp2_with fail
    all_goals (go_ret; exact ⟨rfl, rfl⟩)
  · unfold maxLen at hcm
    have hic : i ≤ c := by omega
    clear hS hg hcs htake
    go_enter Tryz.func136, Tryz.ntmps136
    go_wp2_with fail
    all_goals (go_ret; exact ⟨rfl, rfl⟩)
theorem delM136 : DelM Tryz.prog 136 112 2 := by
  intro w S n vals i j hS hij hj h1
  by_cases e : i = j
  · subst e
    refine (DelNone136 w S n i vals hS hj).mono ?_
    rintro e w' ⟨rfl, rfl⟩
    refine ⟨S, rfl, by rw [Nat.sub_self, Nat.sub_zero, List.take_append_drop]; exact hS, ⟨rfl, rfl, rfl, Nat.le_refl _, fun _ _ _ => rfl⟩, fun b hb => ⟨.inr hb, own_low hS b hb⟩⟩
  · rcases hS.2 with ⟨rfl, rfl⟩ | ⟨g, c, cur, rfl, -, hg, hnc, hcm, hcs, htake⟩
    · omega
    · refine (Delete136 w g n c i j cur hg hcs hnc (by unfold maxLen at hcm; omega) (by omega) hj (by rw [htake]; exact h1)).mono ?_
      rintro e w' ⟨rfl, A, rfl, hA, ht⟩
      rw [htake] at ht
      have hgd : w.drew.heap[g]? = some (.cells cur 112 (0, 0)) := hg
      have hA2 := setRow_heap w.drew g cur A _ _ hgd
      refine ⟨_, rfl, ⟨by rw [← ht]; simp [hA, hcs]; omega, .inr ⟨g, c, A, rfl, Nat.zero_le _, hA2, by omega, hcm, by rw [hA, hcs], ht⟩⟩, ⟨rfl, rfl, rfl, drow_size w g A, fun b _ hn => ?_⟩, fun b hb => ⟨.inr hb, ?_⟩⟩
      · rw [setRow_other _ _ _ _ (fun e => hn (by subst e; simp [own1]))]; rfl
      · have : g = b := by simp only [own1] at hb; exact Classical.byContradiction fun h => hb (if_neg h)
        subst this
        exact (Array.getElem?_eq_some_iff.1 hA2).1
end Go.Proofs
namespace Go.Pi
open Go.Proofs
theorem slices_Delete_Row.ok (n : Nat) (_ : CxOk E (cx n slices_Delete_Row.d.nt)) (_ : KPar (cx n slices_Delete_Row.d.nt)) : slices_Delete_Row.d.Ok E (slices_Delete_Row.F (n + 1)) := fun _ _ h => nDel_ok (t := .iRow) (m := .d) (by decide) delM136 h
end Go.Pi
end
section
set_option linter.unusedVariables false
set_option linter.unusedSimpArgs false
namespace Go.Proofs
open Go.Shelf Go.RowKit Go.Lib Go.Pi
section
variable {P : Program}
/-- the larger row of an insertion, and what comes into it -/
theorem insGrow138 (TS TE : TypeId) (TI : TypeId) (Z : Value) (i0 : TypeInfo) (uS : P.underlying TS = some (.slice TE)) (uI : P.underlying TI = some (.int .i64)) (hi0 : P.info? TE = some i0) (hz2 : i0.zero = some Z) (hz0 : i0.size = 2) (hz1 : i0.bytes = 32) (hZK : Z.cells.size = 2)
    (w : World) (g n c i : Nat) (cur : Array Value) (hg : w.heap[g]? = some (.cells cur TE (0, 0))) (hs : cur.size = c * 2) (hnc : n ≤ c) (hi : i < n)
    (gv m vc : Nat) (curv : Array Value) (Tv : TypeId) (hgv : w.heap[gv]? = some (.cells curv Tv (0, 0))) (hmv : m * 2 ≤ curv.size) (us : List Value) (hul : us = curv.toList.take (m * 2)) (h1u : ∀ v ∈ us, v.oneCell' = true) (hm : 0 < m) (hroom : c < n + m)
    (hbig : (n + m) * 32 ≤ 140737488355328) (h1 : ∀ v ∈ cur.toList.take (n * 2), v.oneCell' = true) :
    ∃ G N W1 R1 W2 A, Hid (N = w.heap.size) ∧ n + m ≤ G ∧ G ≤ maxLen ∧
      (∀ ty, (Builtin.append_ #[TS, TI] ty #[.slice (some ⟨g, 0, none⟩) i c, .int .i64 ((n : Int) + (m : Int) - (i : Int))]).run P w = .ok (.slice (some ⟨N, 0, none⟩) (n + m) G) W1) ∧
      (∀ ty dc, (Builtin.copy_ #[TS, TS] ty #[.slice (some ⟨N, i * 2, none⟩) (n + m - i) dc, .slice (some ⟨gv, 0, none⟩) m vc]).run P W1 = .ok (goInt m) (W1.setRow N R1)) ∧
      (W1.setRow N R1).drew = W2 ∧
      (∀ ty dc sc, (Builtin.copy_ #[TS, TS] ty #[.slice (some ⟨N, (i + m) * 2, none⟩) (n + m - (i + m)) dc, .slice (some ⟨g, i * 2, none⟩) (n - i) sc]).run P W2 = .ok (goInt (n - i)) (W2.setRow N A)) ∧
      Hid (n + m ≤ G ∧ G ≤ maxLen ∧ (W2.setRow N A).heap[w.heap.size]? = some (.cells A TE (0, 0)) ∧ A.size = G * 2 ∧ A.toList.take ((n + m) * 2) = (cur.toList.take (n * 2)).take (i * 2) ++ us ++ (cur.toList.take (n * 2)).drop (i * 2) ∧ w.grownBy (W2.setRow N A) none) := by
  have hul2 : us.length = m * 2 := by rw [hul, List.length_take, Array.length_toList]; omega
  have hsz : (P.info? TE).map (·.size) = some 2 := by rw [hi0]; simp [hz0]
  have hgd : w.drew.heap[g]? = some (.cells cur TE (0, 0)) := hg
  have hgl : g < w.heap.size := (Array.getElem?_eq_some_iff.1 hg).1
  have hgvl : gv < w.heap.size := (Array.getElem?_eq_some_iff.1 hgv).1
  obtain ⟨olds, holds⟩ : ∃ olds, olds = (cur.toList.take (n * 2)).take (i * 2) := ⟨_, rfl⟩
  have hol : olds.length = i * 2 := by rw [holds]; simp [hs]; omega
  obtain ⟨G, hG⟩ : ∃ G, G = grownCap w (n + m) c TE := ⟨_, rfl⟩
  have hGn : n + m ≤ G := by rw [hG]; exact grownCap_ge w _ _ _
  have hGm : G ≤ maxLen := by rw [hG]; exact grownCap_le_maxLen w (n + m) c TE (by unfold maxLen; omega)
  obtain ⟨ROW, hROW⟩ : ∃ ROW : Array Value, ROW = olds.toArray ++ Builtin.zeroCells Z.cells (n + m - i) ++ Builtin.zeroCells Z.cells (G - (n + m)) := ⟨_, rfl⟩
  have hRl : ROW.size = G * 2 := by rw [hROW]; simp [Builtin.zeroCells, hol, hZK]; omega
  have hRt : ROW.toList.take (i * 2) = olds := by
    rw [hROW]; simp only [Array.toList_append, List.append_assoc]
    rw [List.take_append_of_le_length (by simp [hol]), List.take_of_length_le (by simp [hol])]
  have hkk : (n : Int) + (m : Int) - (i : Int) = ((n + m - i : Nat) : Int) := by omega
  have hrz : ∀ ty, (Builtin.append_ #[TS, TI] ty #[.slice (some ⟨g, 0, none⟩) i c, .int .i64 ((n : Int) + (m : Int) - (i : Int))]).run P w =
      .ok (.slice (some ⟨w.heap.size, 0, none⟩) (n + m) G) (w.drew.alloc (.cells ROW TE)) := fun ty => by
    have h := Lib.run_append_grow_zeros (P := P) w TS TI ty TE i0 _ .i64 .i64 uS uI hi0 hz2 (some ⟨g, 0, none⟩) i c olds (by
      rw [hz0]
      exact run_firstCells_some w.drew 2 i ⟨g, 0, none⟩ i c olds hol (fun j v hj => by
        have hj2 := (List.getElem?_eq_some_iff.1 hj).1
        rw [holds, List.getElem?_take_of_lt (by omega), List.getElem?_take_of_lt (by omega), Array.getElem?_toList] at hj
        rw [Addr.add_lit, Nat.zero_add]
        simp only [World.cell?, hgd]
        exact hj)) (n + m - i) (by omega) (by omega) (by omega) (by omega) (by rw [hz1]; omega) (by rw [hz1, show i + (n + m - i) = n + m by omega]; exact growslice_fits hroom hbig)
    rw [show i + (n + m - i) = n + m by omega, ← hG, ← hROW] at h
    rw [hkk]
    exact h
  obtain ⟨N, hN⟩ : ∃ N, N = w.heap.size := ⟨_, rfl⟩
  rw [← hN] at hrz
  obtain ⟨W1, hW1⟩ : ∃ W1, W1 = w.drew.alloc (.cells ROW TE) := ⟨_, rfl⟩
  rw [← hW1] at hrz
  have hN1 : W1.heap[N]? = some (.cells ROW TE (0, 0)) := by rw [hW1, hN]; exact heap_alloc_new w.drew _
  have hold : ∀ b, b < w.heap.size → W1.heap[b]? = w.heap[b]? := fun b hb => by rw [hW1]; exact heap_alloc_old w.drew _ hb
  have hgr1 : w.grownBy W1 none := by rw [hW1]; exact ⟨rfl, rfl, rfl, by simp, fun k hk _ => heap_alloc_old w.drew _ hk⟩
  obtain ⟨R1, hR1⟩ : ∃ R1, R1 = (ROW.toList.take (i * 2) ++ us ++ ROW.toList.drop (i * 2 + us.length)).toArray := ⟨_, rfl⟩
  have hR1s : R1.size = G * 2 := by rw [hR1]; simp [hul2, hRl]; omega
  have hcp1 : ∀ ty dc, (Builtin.copy_ #[TS, TS] ty #[.slice (some ⟨N, i * 2, none⟩) (n + m - i) dc, .slice (some ⟨gv, 0, none⟩) m vc]).run P W1 = .ok (goInt m) (W1.setRow N R1) := fun ty dc => by
    have := run_copy_rowK (P := P) W1 TS TS ty TE 2 N (i * 2) (n + m - i) dc ⟨gv, 0, none⟩ m vc ROW TE us uS hsz hN1 (by rw [hul2]; simp only [Nat.min_def]; split <;> omega)
      (fun j v hj => by
        have hj2 := (List.getElem?_eq_some_iff.1 hj).1
        rw [hul, List.getElem?_take_of_lt (by omega), Array.getElem?_toList] at hj
        rw [Addr.add_lit, Nat.zero_add]
        simp only [World.cell?, hold gv hgvl, hgv]
        exact hj) (by rw [hul2, hRl]; omega) h1u
    rw [this, hR1]
    congr 2
    simp only [Nat.min_def]; split <;> omega
  obtain ⟨W2, hW2⟩ : ∃ W2, W2 = (W1.setRow N R1).drew := ⟨_, rfl⟩
  have hN2 : W2.heap[N]? = some (.cells R1 TE (0, 0)) := by rw [hW2]; exact setRow_heap _ _ _ _ _ _ hN1
  have hg2 : W2.heap[g]? = some (.cells cur TE (0, 0)) := by
    rw [hW2]; show (W1.setRow N R1).heap[g]? = _
    rw [setRow_other _ _ _ _ (by omega), hold g hgl]; exact hg
  obtain ⟨mv, hmv2⟩ : ∃ mv, mv = (cur.toList.take (n * 2)).drop (i * 2) := ⟨_, rfl⟩
  have hml : mv.length = (n - i) * 2 := by rw [hmv2]; simp [hs]; omega
  obtain ⟨A, hA⟩ : ∃ A, A = (R1.toList.take ((i + m) * 2) ++ mv ++ R1.toList.drop ((i + m) * 2 + mv.length)).toArray := ⟨_, rfl⟩
  have hcp2 : ∀ ty dc sc, (Builtin.copy_ #[TS, TS] ty #[.slice (some ⟨N, (i + m) * 2, none⟩) (n + m - (i + m)) dc, .slice (some ⟨g, i * 2, none⟩) (n - i) sc]).run P W2 = .ok (goInt (n - i)) (W2.setRow N A) := fun ty dc sc => by
    have := run_copy_rowK (P := P) W2 TS TS ty TE 2 N ((i + m) * 2) (n + m - (i + m)) dc ⟨g, i * 2, none⟩ (n - i) sc R1 TE mv uS hsz hN2 (by rw [hml]; simp only [Nat.min_def]; split <;> omega)
      (fun j v hj => by
        have hj2 := (List.getElem?_eq_some_iff.1 hj).1
        rw [hmv2, List.getElem?_drop, List.getElem?_take_of_lt (by omega), Array.getElem?_toList] at hj
        rw [Addr.add_lit]
        simp only [World.cell?, hg2]
        exact hj) (by rw [hml, hR1s]; omega) (fun v hv => h1 v (by rw [hmv2] at hv; exact List.mem_of_mem_drop hv))
    rw [this, hA]
    congr 2
    simp only [Nat.min_def]; split <;> omega
  have kA : Hid (n + m ≤ G ∧ G ≤ maxLen ∧ (W2.setRow N A).heap[w.heap.size]? = some (.cells A TE (0, 0)) ∧ A.size = G * 2 ∧ A.toList.take ((n + m) * 2) = (cur.toList.take (n * 2)).take (i * 2) ++ us ++ (cur.toList.take (n * 2)).drop (i * 2) ∧ w.grownBy (W2.setRow N A) none) := by
    refine ⟨hGn, hGm, by rw [← hN]; exact setRow_heap _ _ _ _ _ _ hN2, by rw [hA]; simp [hml, hR1s]; omega, ?_, ?_⟩
    · have e1 : R1.toList.take ((i + m) * 2) = olds ++ us := by
        rw [hR1]; simp only [List.toList_toArray]
        rw [List.take_append_of_le_length (by simp [hul2, hRl]; omega), List.take_of_length_le (by simp [hul2, hRl]; omega), hRt]
      rw [hA]; simp only [List.toList_toArray]
      rw [e1, List.take_append_of_le_length (by simp [hol, hul2, hml]; omega), List.take_of_length_le (by simp [hol, hul2, hml]; omega), holds, hmv2]
    · refine ⟨by rw [hW2]; exact hgr1.os, by rw [hW2]; exact hgr1.tape, by rw [hW2]; exact hgr1.output, ?_, fun k hk hne => ?_⟩
      · have : (W2.setRow N A).heap.size = W1.heap.size := by rw [hW2]; simp [World.setRow, World.drew]
        rw [this]; exact hgr1.size
      · rw [setRow_other _ _ _ _ (by omega), hW2]
        show (W1.setRow N R1).heap[k]? = _
        rw [setRow_other _ _ _ _ (by omega)]; exact hold k hk
  exact ⟨G, N, W1, R1, W2, A, hN, hGn, hGm, hrz, hcp1, hW2.symm, hcp2, kA⟩
end
set_option maxRecDepth 1000000 in
theorem InsEnd138 (w : World) (S : Value) (n : Nat) (vals : List Value) (hS : w.ownsRow 0 112 2 S n vals) (gv m vc : Nat) (us : List Value) (hul : us.length = m * 2) (hus : ∀ j u, us[j]? = some u → w.cell? ⟨gv, j, none⟩ = some u) (h1u : ∀ v ∈ us, v.oneCell' = true) (hm : 0 < m) (hb : (n + m) * 32 ≤ 140737488355328) :
    Calls Tryz.prog 138 #[S, .int .i64 n, .slice (some ⟨gv, 0, none⟩) m vc] w fun e w' => ∃ R, e = .returned R ∧ w'.ownsRow 0 112 2 R (n + m) (vals ++ us) ∧ GrewC w w' (fun b => own1 S b ≠ 0) ∧
      ∀ b, own1 R b ≠ 0 → (w.heap.size ≤ b ∨ own1 S b ≠ 0) ∧ b < w'.heap.size := by
  obtain ⟨i0, hi0⟩ := Option.isSome_iff_exists.1 (show (Tryz.prog.info? 112).isSome = true by kernel_rfl)
  have hz0 : i0.size = 2 := by
    have : (Tryz.prog.info? 112).map (·.size) = some 2 := by kernel_rfl
    rw [hi0] at this; simpa using this
  have hz1 : i0.bytes = 32 := by
    have : (Tryz.prog.info? 112).map (·.bytes) = some 32 := by kernel_rfl
    rw [hi0] at this; simpa using this
  have hz2 : i0.zero = some (.agg #[.int .i64 0, .slice none 0 0]) := by
    have : (Tryz.prog.info? 112).bind (·.zero) = some (.agg #[.int .i64 0, .slice none 0 0]) := by kernel_rfl
    rw [hi0] at this; simpa using this
  have hz3 : ¬ ((m : Int) = 0) := by omega
  have mixed : Tryz.prog.follows .mixedOrders = true := by kernel_rfl
  have key : ∀ ty, ∃ v' w', (Builtin.append_ #[57, 57] ty #[S, .slice (some ⟨gv, 0, none⟩) m vc]).run Tryz.prog w = .ok v' w' ∧ w'.ownsRow 0 112 2 v' (n + m) (vals ++ us) ∧ GrewC w w' (fun b => own1 S b ≠ 0) ∧
      ∀ b, own1 v' b ≠ 0 → (w.heap.size ≤ b ∨ own1 S b ≠ 0) ∧ b < w'.heap.size := fun ty => by
    have := run_append_at (P := Tryz.prog) w 57 ty 112 i0 _ Tryz.underlying57 hi0 hz2 (by rw [hz0]; rfl) (by rw [hz0]; decide) S n vals (by rw [hz0]; exact hS) (.slice (some ⟨gv, 0, none⟩) m vc) m us (by rw [hz0]; exact hul) (.inl ⟨_, _, rfl, fun j u h => by rw [Addr.add_lit, Nat.zero_add]; exact hus j u h⟩) h1u (by unfold maxLen; omega) (by rw [hz1]; exact hb)
    rw [hz0] at this
    exact this
  obtain ⟨v', w', k1, k2, k3⟩ := key 57
  rcases hS.2 with ⟨rfl, rfl⟩ | ⟨g, c, cur, rfl, -, hg, hnc, hcm, hcs, htake⟩
  · clear key hS hus hz2 hi0 hz0 hz1
    go_enter Tryz.func138, Tryz.ntmps138
    go_wp2_with (at_builtin; refine Lib.wpList_append_run _ rfl _ _ 57 57 rfl _ _ rfl rfl _ _ k1 ?_)
    go_ret
    exact ⟨_, rfl, k2, k3⟩
  · clear key hS hus hz2 hg htake hcs hi0 hz0 hz1
    unfold maxLen at hcm
    go_enter Tryz.func138, Tryz.ntmps138
    go_wp2_with (at_builtin; refine Lib.wpList_append_run _ rfl _ _ 57 57 rfl _ _ rfl rfl _ _ k1 ?_)
    all_goals (go_ret; exact ⟨_, rfl, k2, k3⟩)
set_option maxRecDepth 1000000 in
theorem InsNone138 (w : World) (S : Value) (n i : Nat) (vals : List Value) (hS : w.ownsRow 0 112 2 S n vals) (U : Value) (us : List Value) (hU : w.ownsRow 0 112 2 U 0 us) (hi : i ≤ n) :
    Calls Tryz.prog 138 #[S, .int .i64 i, U] w fun e w' => e = .returned S ∧ w' = w := by
  rcases hS.2 with ⟨rfl, rfl⟩ | ⟨g, c, cur, rfl, -, hg, hnc, hcm, hcs, htake⟩
  · have hi0 : i = 0 := by omega
    subst hi0
    rcases hU.2 with ⟨rfl, -⟩ | ⟨gv, vc, curv, rfl, -, hgv, hmc, hcm, hcs, htake⟩
    · clear hS hU
      go_enter Tryz.func138, Tryz.ntmps138
      go_wp2_with fail
      go_ret
      exact ⟨rfl, rfl⟩
    · clear hS hU hgv hcs htake
      go_enter Tryz.func138, Tryz.ntmps138
      go_wp2_with fail
      go_ret
      exact ⟨rfl, rfl⟩
  · unfold maxLen at hcm
    have hic : i ≤ c := by omega
    rcases hU.2 with ⟨rfl, -⟩ | ⟨gv, vc, curv, rfl, -, hgv, hmc, hcm2, hcs2, htake2⟩
    · clear hS hU hg hcs htake
      go_enter Tryz.func138, Tryz.ntmps138
      go_wp2_with fail
      all_goals (go_ret; exact ⟨rfl, rfl⟩)
    · clear hS hU hg hcs htake hgv hcs2 htake2
      go_enter Tryz.func138, Tryz.ntmps138
      go_wp2_with fail
      all_goals (go_ret; exact ⟨rfl, rfl⟩)
set_option maxRecDepth 1000000 in
theorem InsShift138 (w : World) (g n c i : Nat) (cur : Array Value) (hg : w.heap[g]? = some (.cells cur 112 (0, 0))) (hs : cur.size = c * 2) (hc : c ≤ 9223372036854775807) (hi : i < n)
    (gv m vc : Nat) (curv : Array Value) (Tv : TypeId) (hgv : w.heap[gv]? = some (.cells curv Tv (0, 0))) (hmv : m * 2 ≤ curv.size) (hne : gv ≠ g) (us : List Value) (hul : us = curv.toList.take (m * 2)) (h1u : ∀ v ∈ us, v.oneCell' = true) (hm : 0 < m) (hroom : n + m ≤ c)
    (h1 : ∀ v ∈ cur.toList.take (n * 2), v.oneCell' = true) :
    Calls Tryz.prog 138 #[.slice (some ⟨g, 0, none⟩) n c, .int .i64 i, .slice (some ⟨gv, 0, none⟩) m vc] w fun e w' => e = .returned (.slice (some ⟨g, 0, none⟩) (n + m) c) ∧
      ∃ A, w' = w.drew.setRow g A ∧ A.size = cur.size ∧ A.toList.take ((n + m) * 2) = (cur.toList.take (n * 2)).take (i * 2) ++ us ++ (cur.toList.take (n * 2)).drop (i * 2) := by
  have hsz : (Tryz.prog.info? 112).map (·.size) = some 2 := by kernel_rfl
  have hul2 : us.length = m * 2 := by rw [hul, List.length_take, Array.length_toList]; omega
  have hov : ∀ lb cb, (callFunc 142 #[.slice (some ⟨gv, 0, none⟩) m vc, .slice (some ⟨g, (i + m) * 2, none⟩) lb cb]).run Tryz.prog w = .ok (.value (.bool false)) w := fun lb cb => by
    rw [run_callFunc_extern Tryz.func142 (by kernel_rfl) (by kernel_rfl) (by kernel_rfl) (e := Extern.SlicesOverlaps.overlaps #[57, 57] #[4]) (by kernel_rfl),
      Lib.run_overlaps_apart w 57 4 112 Tryz.underlying57 2 Tryz.sizeOf112 ⟨gv, 0, none⟩ ⟨g, (i + m) * 2, none⟩ m vc lb cb hne Tv 112 curv.size cur.size (by simp [World.shape?, hgv]) (by simp [World.shape?, hg]) (by omega) (by simp [World.frozen?, hgv]) (by simp [World.frozen?, hgv])]
    rfl
  obtain ⟨mv, hmv2⟩ : ∃ mv, mv = (cur.toList.take (n * 2)).drop (i * 2) := ⟨_, rfl⟩
  have hml : mv.length = (n - i) * 2 := by rw [hmv2]; simp [hs]; omega
  have hgd : w.drew.heap[g]? = some (.cells cur 112 (0, 0)) := hg
  obtain ⟨B, hB⟩ : ∃ B, B = (cur.toList.take ((i + m) * 2) ++ mv ++ cur.toList.drop ((i + m) * 2 + mv.length)).toArray := ⟨_, rfl⟩
  have hcp1 : ∀ ty dc sc, (Builtin.copy_ #[57, 57] ty #[.slice (some ⟨g, (i + m) * 2, none⟩) (n + m - (i + m)) dc, .slice (some ⟨g, i * 2, none⟩) (n + m - i) sc]).run Tryz.prog w.drew = .ok (goInt (n - i)) (w.drew.setRow g B) := fun ty dc sc => by
    have := run_copy_rowK (P := Tryz.prog) w.drew 57 57 ty 112 2 g ((i + m) * 2) (n + m - (i + m)) dc ⟨g, i * 2, none⟩ (n + m - i) sc cur 112 mv Tryz.underlying57 hsz hgd (by rw [hml]; simp only [Nat.min_def]; split <;> omega)
      (fun j v hj => by
        have hj2 := (List.getElem?_eq_some_iff.1 hj).1
        rw [hmv2, List.getElem?_drop, List.getElem?_take_of_lt (by omega), Array.getElem?_toList] at hj
        rw [Addr.add_lit]
        simp only [World.cell?, hgd]
        exact hj) (by rw [hml, hs]; omega) (fun v hv => h1 v (by rw [hmv2] at hv; exact List.mem_of_mem_drop hv))
    rw [this, hB]
    congr 2
    simp only [Nat.min_def]; split <;> omega
  have hBs : B.size = cur.size := by rw [hB]; simp [hml, hs]; omega
  have hgB : (w.drew.setRow g B).heap[g]? = some (.cells B 112 (0, 0)) := setRow_heap _ _ _ _ _ _ hgd
  obtain ⟨A, hA⟩ : ∃ A, A = (B.toList.take (i * 2) ++ us ++ B.toList.drop (i * 2 + us.length)).toArray := ⟨_, rfl⟩
  have hcp2 : ∀ ty dc, (Builtin.copy_ #[57, 57] ty #[.slice (some ⟨g, i * 2, none⟩) (n + m - i) dc, .slice (some ⟨gv, 0, none⟩) m vc]).run Tryz.prog (w.drew.setRow g B) = .ok (goInt m) (w.drew.setRow g A) := fun ty dc => by
    have := run_copy_rowK (P := Tryz.prog) (w.drew.setRow g B) 57 57 ty 112 2 g (i * 2) (n + m - i) dc ⟨gv, 0, none⟩ m vc B 112 us Tryz.underlying57 hsz hgB (by rw [hul2]; simp only [Nat.min_def]; split <;> omega)
      (fun j v hj => by
        have hj2 := (List.getElem?_eq_some_iff.1 hj).1
        rw [hul, List.getElem?_take_of_lt (by omega), Array.getElem?_toList] at hj
        rw [Addr.add_lit, Nat.zero_add]
        have e : (w.drew.setRow g B).heap[gv]? = some (.cells curv Tv (0, 0)) := by rw [setRow_other _ _ _ _ hne]; exact hgv
        simp only [World.cell?, e]
        exact hj) (by rw [hul2, hBs, hs]; omega) h1u
    rw [this, hA, setRow_setRow]
    congr 2
    simp only [Nat.min_def]; split <;> omega
  have kA : Hid (A.size = cur.size ∧ A.toList.take ((n + m) * 2) = (cur.toList.take (n * 2)).take (i * 2) ++ us ++ mv) := by
    have e1 : B.toList.take (i * 2) = (cur.toList.take (n * 2)).take (i * 2) := by
      rw [hB]; simp only [List.toList_toArray, List.append_assoc]
      rw [List.take_append_of_le_length (by simp [hs]; omega), List.take_take, List.take_take]
      congr 1; omega
    have e2 : (B.toList.drop (i * 2 + us.length)).take mv.length = mv := by
      rw [hB]; simp only [List.toList_toArray, List.append_assoc]
      rw [List.drop_append, List.drop_eq_nil_of_le (by simp [hul2, hs]; omega), List.nil_append, List.length_take, show i * 2 + us.length - min ((i + m) * 2) cur.toList.length = 0 by simp [hul2, hs]; omega, List.drop_zero, List.take_append_of_le_length (Nat.le_refl _), List.take_of_length_le (Nat.le_refl _)]
    refine ⟨by rw [hA]; simp [hul2, hBs, hs]; omega, ?_⟩
    rw [hA]; simp only [List.toList_toArray]
    rw [List.take_append, List.take_of_length_le (by simp [hul2, hBs, hs]; omega), e1]
    congr 1
    rw [show (n + m) * 2 - (List.take (i * 2) (List.take (n * 2) cur.toList) ++ us).length = mv.length by simp [hul2, hml, hs]; omega]
    exact e2
  rw [hmv2] at kA
  have hnc : n ≤ c := by omega
  have hic : i ≤ c := by omega
  have hz1 : ¬ ((m : Int) = 0) := by omega
  have hz2 : ¬ ((i : Int) = (n : Int)) := by omega
  have mixed : Tryz.prog.follows .mixedOrders = true := by kernel_rfl
  have hw1 : IntKind.i64.wrap ((i : Int) + (m : Int)) = (i : Int) + (m : Int) := by rw [IntKind.wrap_i64]; omega
  have hb1 : (0 : Int) ≤ (i : Int) + (m : Int) := by omega
  have hin : i ≤ n := by omega
  have htn : ((i : Int) + (m : Int)).toNat = i + m := by omega
  have hb2 : ¬ (c = i + m) := by omega
  have hb3 : (i : Int) ≤ (n : Int) + (m : Int) := by omega
  have hb4 : ¬ (c = i) := by omega
  clear hB hBs hgB hA hmv2 hml hgd hg hgv hul hul2 h1 h1u hsz hs hmv
  go_enter Tryz.func138, Tryz.ntmps138
  go_wp2_with (simp only [hov])
  go_region_law_o (refine step_copy_runI rfl _ _ 57 57 rfl _ _ (by simp [Act.eval, Act.put]) (by simp [Act.eval, Act.put]) (hcp1 _ _ _) ?_)
  go_wp2_with (at_builtin; refine wpList_copy_runI _ rfl _ _ 57 57 rfl _ _ rfl rfl (hcp2 _ _) ?_)
  go_ret
  exact ⟨rfl, A, rfl, kA.out.1, kA.out.2⟩
set_option maxRecDepth 1000000 in
theorem InsGrow138 (w : World) (g n c i : Nat) (cur : Array Value) (hg : w.heap[g]? = some (.cells cur 112 (0, 0))) (hs : cur.size = c * 2) (hnc : n ≤ c) (hi : i < n)
    (gv m vc : Nat) (curv : Array Value) (Tv : TypeId) (hgv : w.heap[gv]? = some (.cells curv Tv (0, 0))) (hmv : m * 2 ≤ curv.size) (us : List Value) (hul : us = curv.toList.take (m * 2)) (h1u : ∀ v ∈ us, v.oneCell' = true) (hm : 0 < m) (hroom : c < n + m)
    (hbig : (n + m) * 32 ≤ 140737488355328) (h1 : ∀ v ∈ cur.toList.take (n * 2), v.oneCell' = true) :
    Calls Tryz.prog 138 #[.slice (some ⟨g, 0, none⟩) n c, .int .i64 i, .slice (some ⟨gv, 0, none⟩) m vc] w fun e w' => ∃ C A, e = .returned (.slice (some ⟨w.heap.size, 0, none⟩) (n + m) C) ∧ n + m ≤ C ∧ C ≤ maxLen ∧
      w'.heap[w.heap.size]? = some (.cells A 112 (0, 0)) ∧ A.size = C * 2 ∧ A.toList.take ((n + m) * 2) = (cur.toList.take (n * 2)).take (i * 2) ++ us ++ (cur.toList.take (n * 2)).drop (i * 2) ∧ w.grownBy w' none := by
  obtain ⟨i0, hi0⟩ := Option.isSome_iff_exists.1 (show (Tryz.prog.info? 112).isSome = true by kernel_rfl)
  have hz0 : i0.size = 2 := by
    have : (Tryz.prog.info? 112).map (·.size) = some 2 := by kernel_rfl
    rw [hi0] at this; simpa using this
  have hz1 : i0.bytes = 32 := by
    have : (Tryz.prog.info? 112).map (·.bytes) = some 32 := by kernel_rfl
    rw [hi0] at this; simpa using this
  have hz2 : i0.zero = some (.agg #[.int .i64 0, .slice none 0 0]) := by
    have : (Tryz.prog.info? 112).bind (·.zero) = some (.agg #[.int .i64 0, .slice none 0 0]) := by kernel_rfl
    rw [hi0] at this; simpa using this
  obtain ⟨G, N, W1, R1, W2, A, hNN, hGn, hGm, hrz, hcp1, hW2', hcp2, kA⟩ := insGrow138 57 112 3 _ i0 Tryz.underlying57 Tryz.underlying3 hi0 hz2 hz0 hz1 rfl w g n c i cur hg hs hnc hi gv m vc curv Tv hgv hmv us hul h1u hm hroom hbig h1
  have hic : i ≤ c := by omega
  have hz3 : ¬ ((m : Int) = 0) := by omega
  have hz4 : ¬ ((i : Int) = (n : Int)) := by omega
  have hz5 : (c : Int) < (n : Int) + (m : Int) := by omega
  have mixed : Tryz.prog.follows .mixedOrders = true := by kernel_rfl
  have hG63 : G ≤ 9223372036854775807 := by unfold maxLen at hGm; omega
  have hw1 : IntKind.i64.wrap ((n : Int) + (m : Int)) = (n : Int) + (m : Int) := by rw [IntKind.wrap_i64]; omega
  have hw2 : IntKind.i64.wrap ((n : Int) + (m : Int) - (i : Int)) = (n : Int) + (m : Int) - (i : Int) := by rw [IntKind.wrap_i64]; omega
  have hw3 : IntKind.i64.wrap ((i : Int) + (m : Int)) = (i : Int) + (m : Int) := by rw [IntKind.wrap_i64]; omega
  have hb1 : (0 : Int) ≤ (i : Int) + (m : Int) := by omega
  have htn : ((i : Int) + (m : Int)).toNat = i + m := by omega
  have hGi : ¬ (G = i) := by omega
  have hGim : ¬ (G = i + m) := by omega
  have hb3 : (i : Int) ≤ (n : Int) + (m : Int) := by omega
  have hb4 : ¬ (c = i) := by omega
  have hinm : i ≤ n + m := by omega
  have himn : i + m ≤ n + m := by omega
  have hin : i ≤ n := by omega
  clear hul h1 h1u hg hgv hs hmv hz0 hz1 hz2 hi0 hbig
  go_enter Tryz.func138, Tryz.ntmps138
  go_wp2_with (at_builtin; refine Lib.wpList_append_run _ rfl _ _ 57 3 rfl _ _ rfl rfl _ _ (hrz _) ?_)
  go_region_law_o (simp only [hW2']; refine step_copy_runI rfl _ _ 57 57 rfl _ _ (by simp [Act.eval, Act.put]) (by simp [Act.eval, Act.put]) (hcp2 _ _ _) ?_)
  go_wp2_with fail
  go_ret
  exact ⟨G, A, by rw [hNN.out]; rfl, kA.out⟩
theorem insM138 : InsM Tryz.prog 138 112 2 32 := by
  intro w S n vals U m us i hS hU hdis hi h1 h1u hb
  have hvl := hS.1
  by_cases hm : m = 0
  · subst hm
    have hus : us = [] := by have := hU.1; rw [Nat.zero_mul] at this; exact List.eq_nil_of_length_eq_zero this
    subst hus
    refine (InsNone138 w S n i vals hS U [] hU hi).mono ?_
    rintro e w' ⟨rfl, rfl⟩
    refine ⟨S, rfl, by rw [List.append_nil, List.take_append_drop]; exact hS, ⟨rfl, rfl, rfl, Nat.le_refl _, fun _ _ _ => rfl⟩, fun b hb => ⟨.inr hb, own_low hS b hb⟩⟩
  · rcases hU.2 with ⟨rfl, h0⟩ | ⟨gv, vc, curv, rfl, -, hgv, hmc, hcm, hcs, htake⟩
    · exact absurd h0 hm
    · by_cases hin : i = n
      · subst hin
        rw [List.take_of_length_le (by omega), List.drop_eq_nil_of_le (by omega), List.append_nil]
        exact InsEnd138 w S i vals hS gv m vc us hU.1 (fun j u h => by have := hU.cells (g := gv) rfl j u h; rwa [Addr.add_lit, Nat.zero_add] at this) h1u (by omega) hb
      · rcases hS.2 with ⟨rfl, h0⟩ | ⟨g, c, cur, rfl, -, hg, hnc, hcm', hcs', htake'⟩
        · omega
        · have hne : gv ≠ g := fun e => by subst e; have := hdis gv (by simp [own1]); simp [own1] at this
          have hmv : m * 2 ≤ curv.size := by rw [hcs]; exact Nat.mul_le_mul_right _ hmc
          by_cases hroom : n + m ≤ c
          · refine (InsShift138 w g n c i cur hg hcs' (by unfold maxLen at hcm'; omega) (by omega) gv m vc curv 112 hgv hmv hne us htake.symm h1u (by omega) hroom (by rw [htake']; exact h1)).mono ?_
            rintro e w' ⟨rfl, A, rfl, hA, ht⟩
            rw [htake'] at ht
            have hgd : w.drew.heap[g]? = some (.cells cur 112 (0, 0)) := hg
            have hA2 := setRow_heap w.drew g cur A _ _ hgd
            refine ⟨_, rfl, ⟨by rw [← ht]; simp [hA, hcs']; omega, .inr ⟨g, c, A, rfl, Nat.zero_le _, hA2, hroom, hcm', by rw [hA, hcs'], ht⟩⟩, ⟨rfl, rfl, rfl, drow_size w g A, fun b _ hn => ?_⟩, fun b hb => ⟨.inr hb, ?_⟩⟩
            · rw [setRow_other _ _ _ _ (fun e => hn (by subst e; simp [own1]))]; rfl
            · have : g = b := by simp only [own1] at hb; exact Classical.byContradiction fun h => hb (if_neg h)
              subst this
              exact (Array.getElem?_eq_some_iff.1 hA2).1
          · refine (InsGrow138 w g n c i cur hg hcs' hnc (by omega) gv m vc curv 112 hgv hmv us htake.symm h1u (by omega) (by omega) hb (by rw [htake']; exact h1)).mono ?_
            rintro e w' ⟨C, A, rfl, hC, hCm, hN, hA, ht, hgr⟩
            rw [htake'] at ht
            refine ⟨_, rfl, ⟨by rw [← ht]; simp [hA]; omega, .inr ⟨_, C, A, rfl, Nat.zero_le _, hN, hC, hCm, hA, ht⟩⟩, ⟨hgr.os, hgr.tape, hgr.output, hgr.size, fun b hb _ => hgr.block b hb (by simp)⟩, fun b hb => ?_⟩
            have : w.heap.size = b := by simp only [own1] at hb; exact Classical.byContradiction fun h => hb (if_neg h)
            subst this
            exact ⟨.inl (Nat.le_refl _), (Array.getElem?_eq_some_iff.1 hN).1⟩
end Go.Proofs
namespace Go.Pi
open Go.Proofs
theorem slices_Insert_Row.ok (n : Nat) (_ : CxOk E (cx n slices_Insert_Row.d.nt)) (_ : KPar (cx n slices_Insert_Row.d.nt)) : slices_Insert_Row.d.Ok E (slices_Insert_Row.F (n + 1)) := fun _ _ h => nIns_ok (t := .iRow) (m1 := .d) (m2 := .d) (by decide) (by decide) insM138 h
end Go.Pi
end
section
set_option linter.unusedVariables false
set_option maxRecDepth 100000
namespace Go.Pi
open Go.Proofs
theorem kpar (n nt : Nat) : KPar (cx n nt) := KH_par (l := KL n) ⟨FD.kp, FD.kp, FD.kp, FD.kp, FD.kp, FD.kp, FD.kp, FD.kp, FD.kp, FD.kp, FD.kp, FD.kp, FD.kp, FD.kp, FD.kp, FD.kp, FD.kp, FD.kp, FD.kp, FD.kp, FD.kp, FD.kp, FD.kp, FD.kp, FD.kp, FD.kp, FD.kp, FD.kp, FD.kp, FD.kp, FD.kp, FD.kp, FD.kp, FD.kp, FD.kp, FD.kp, FD.kp, FD.kp, FD.kp, FD.kp, FD.kp, FD.kp, FD.kp, FD.kp, FD.kp, FD.kp, FD.kp, FD.kp, FD.kp, FD.kp, FD.kp, FD.kp, FD.kp, FD.kp, FD.kp, FD.kp, FD.kp, FD.kp, FD.kp, FD.kp, FD.kp, FD.kp, FD.kp, FD.kp, FD.kp, FD.kp, FD.kp, FD.kp, FD.kp, FD.kp, FD.kp, FD.kp, FD.kp, FD.kp, FD.kp, FD.kp, FD.kp, FD.kp, FD.kp, FD.kp, FD.kp, FD.kp, FD.kp, FD.kp, FD.kp, FD.kp, FD.kp, FD.kp, FD.kp, FD.kp, FD.kp, FD.kp, FD.kp, FD.kp, FD.kp, FD.kp, FD.kp, FD.kp, FD.kp, FD.kp, FD.kp, FD.kp, FD.kp, FD.kp, FD.kp, FD.kp, FD.kp, FD.kp, FD.kp, FD.kp, FD.kp, FD.kp, FD.kp, FD.kp, FD.kp, FD.kp, FD.kp, FD.kp, FD.kp, FD.kp, FD.kp, FD.kp, FD.kp, FD.kp, (by
    intro ω avs κ q h
    cases hc : Nat.beq (selClo 1 avs) 129 with
    | true =>
      obtain ⟨rv, outs, h1, h2⟩ := FD.kpar (cond_t hc h)
      exact ⟨rv, outs, h1, fun ω' κ' => (cond_is hc _ _).trans (h2 ω' κ')⟩
    | false =>
      have h := cond_f hc h
      have hc0 := hc
      clear hc
      cases hc : Nat.beq (selClo 1 avs) 137 with
      | true =>
        obtain ⟨rv, outs, h1, h2⟩ := FD.kpar (cond_t hc h)
        exact ⟨rv, outs, h1, fun ω' κ' => (cond_no hc0 _ _).trans ((cond_is hc _ _).trans (h2 ω' κ'))⟩
      | false =>
        have h := cond_f hc h
        have hc1 := hc
        clear hc
        cases h), FD.kp, FD.kp, FD.kp, FD.kp, FD.kp, FD.kp, FD.kp, FD.kp, FD.kp, FD.kp, FD.kp, FD.kp, FD.kp, FD.kp, trivial⟩
structure AllOk (n : Nat) : Prop where
  h0 : laws_szIntS.d.Ok E (laws_szIntS.F n)
  h1 : laws_szSchema.d.Ok E (laws_szSchema.F n)
  h2 : laws_szRow.d.Ok E (laws_szRow.F n)
  h3 : laws_szRowS.d.Ok E (laws_szRowS.F n)
  h4 : laws_szRowSS.d.Ok E (laws_szRowSS.F n)
  h5 : laws_szStore.d.Ok E (laws_szStore.F n)
  h6 : laws_szChange.d.Ok E (laws_szChange.F n)
  h7 : laws_szChangeS.d.Ok E (laws_szChangeS.F n)
  h8 : laws_szChangeSS.d.Ok E (laws_szChangeSS.F n)
  h9 : laws_szRecord.d.Ok E (laws_szRecord.F n)
  h10 : laws_szCondS.d.Ok E (laws_szCondS.F n)
  h11 : laws_szQuery.d.Ok E (laws_szQuery.F n)
  h12 : laws_szKidS.d.Ok E (laws_szKidS.F n)
  h13 : laws_szView.d.Ok E (laws_szView.F n)
  h14 : laws_szSess.d.Ok E (laws_szSess.F n)
  h15 : laws_szLine.d.Ok E (laws_szLine.F n)
  h16 : laws_szSeat.d.Ok E (laws_szSeat.F n)
  h17 : laws_szSeatS.d.Ok E (laws_szSeatS.F n)
  h18 : laws_szServer.d.Ok E (laws_szServer.F n)
  h19 : laws_toIntS.d.Ok E (laws_toIntS.F n)
  h20 : laws_toSchema.d.Ok E (laws_toSchema.F n)
  h21 : laws_toRow.d.Ok E (laws_toRow.F n)
  h22 : laws_toRowS.d.Ok E (laws_toRowS.F n)
  h23 : laws_toRowSS.d.Ok E (laws_toRowSS.F n)
  h24 : laws_toStore.d.Ok E (laws_toStore.F n)
  h25 : laws_toChange.d.Ok E (laws_toChange.F n)
  h26 : laws_toChangeS.d.Ok E (laws_toChangeS.F n)
  h27 : laws_toChangeSS.d.Ok E (laws_toChangeSS.F n)
  h28 : laws_toRecord.d.Ok E (laws_toRecord.F n)
  h29 : laws_toCond.d.Ok E (laws_toCond.F n)
  h30 : laws_toCondS.d.Ok E (laws_toCondS.F n)
  h31 : laws_toQuery.d.Ok E (laws_toQuery.F n)
  h32 : laws_toKid.d.Ok E (laws_toKid.F n)
  h33 : laws_toKidS.d.Ok E (laws_toKidS.F n)
  h34 : laws_toView.d.Ok E (laws_toView.F n)
  h35 : laws_toSess.d.Ok E (laws_toSess.F n)
  h36 : laws_toLine.d.Ok E (laws_toLine.F n)
  h37 : laws_toSeat.d.Ok E (laws_toSeat.F n)
  h38 : laws_toSeatS.d.Ok E (laws_toSeatS.F n)
  h39 : laws_toServer.d.Ok E (laws_toServer.F n)
  h40 : spec_l1In.d.Ok E (spec_l1In.F n)
  h41 : spec_SchemaOk.d.Ok E (spec_SchemaOk.F n)
  h42 : spec_RowOk.d.Ok E (spec_RowOk.F n)
  h43 : spec_RowsOk.d.Ok E (spec_RowsOk.F n)
  h44 : spec_StoreOk.d.Ok E (spec_StoreOk.F n)
  h45 : spec_l7Schema.d.Ok E (spec_l7Schema.F n)
  h46 : spec_l6Copy.d.Ok E (spec_l6Copy.F n)
  h47 : spec_l6Rows.d.Ok E (spec_l6Rows.F n)
  h48 : spec_l7Copy.d.Ok E (spec_l7Copy.F n)
  h49 : spec_l8Zero.d.Ok E (spec_l8Zero.F n)
  h50 : spec_RowAt.d.Ok E (spec_RowAt.F n)
  h51 : spec_RowSame.d.Ok E (spec_RowSame.F n)
  h52 : spec_l7There.d.Ok E (spec_l7There.F n)
  h53 : spec_RowDrop.d.Ok E (spec_RowDrop.F n)
  h54 : spec_RowPut.d.Ok E (spec_RowPut.F n)
  h55 : spec_l7Turn.d.Ok E (spec_l7Turn.F n)
  h56 : spec_Forward.d.Ok E (spec_Forward.F n)
  h57 : spec_RecordOk.d.Ok E (spec_RecordOk.F n)
  h58 : spec_QueryOk.d.Ok E (spec_QueryOk.F n)
  h59 : spec_l9Holds.d.Ok E (spec_l9Holds.F n)
  h60 : spec_Matches.d.Ok E (spec_Matches.F n)
  h61 : spec_l9Cell.d.Ok E (spec_l9Cell.F n)
  h62 : spec_Ahead.d.Ok E (spec_Ahead.F n)
  h63 : spec_ViewOk.d.Ok E (spec_ViewOk.F n)
  h64 : spec_l9Conds.d.Ok E (spec_l9Conds.F n)
  h65 : spec_l9Ints.d.Ok E (spec_l9Ints.F n)
  h66 : spec_QuerySame.d.Ok E (spec_QuerySame.F n)
  h67 : spec_ViewSame.d.Ok E (spec_ViewSame.F n)
  h68 : spec_SessOk.d.Ok E (spec_SessOk.F n)
  h69 : spec_Last.d.Ok E (spec_Last.F n)
  h70 : spec_ServerOk.d.Ok E (spec_ServerOk.F n)
  h71 : spec_Behind.d.Ok E (spec_Behind.F n)
  h72 : impl_copyInts.d.Ok E (impl_copyInts.F n)
  h73 : impl_copyRow.d.Ok E (impl_copyRow.F n)
  h74 : impl_copyRows.d.Ok E (impl_copyRows.F n)
  h75 : impl_copyStore.d.Ok E (impl_copyStore.F n)
  h76 : impl_within.d.Ok E (impl_within.F n)
  h77 : impl_SchemaOk.d.Ok E (impl_SchemaOk.F n)
  h78 : impl_isVersion.d.Ok E (impl_isVersion.F n)
  h79 : impl_isNum.d.Ok E (impl_isNum.F n)
  h80 : impl_hasTable.d.Ok E (impl_hasTable.F n)
  h81 : impl_RowOk.d.Ok E (impl_RowOk.F n)
  h82 : impl_RowsOk.d.Ok E (impl_RowsOk.F n)
  h83 : impl_StoreOk.d.Ok E (impl_StoreOk.F n)
  h84 : impl_noRow.d.Ok E (impl_noRow.F n)
  h85 : impl_changeFits.d.Ok E (impl_changeFits.F n)
  h86 : impl_RowAt_f1.d.Ok E (impl_RowAt_f1.F n)
  h87 : slices_IndexFunc_Row_impl_RowAt_f1.d.Ok E (slices_IndexFunc_Row_impl_RowAt_f1.F n)
  h88 : impl_RowAt.d.Ok E (impl_RowAt.F n)
  h89 : slices_Equal_int.d.Ok E (slices_Equal_int.F n)
  h90 : impl_RowSame.d.Ok E (impl_RowSame.F n)
  h91 : slices_Delete_Row.d.Ok E (slices_Delete_Row.F n)
  h92 : impl_RowDrop.d.Ok E (impl_RowDrop.F n)
  h93 : impl_RowPut_f1.d.Ok E (impl_RowPut_f1.F n)
  h94 : slices_IndexFunc_Row_impl_RowPut_f1.d.Ok E (slices_IndexFunc_Row_impl_RowPut_f1.F n)
  h95 : slices_Insert_Row.d.Ok E (slices_Insert_Row.F n)
  h96 : impl_RowPut.d.Ok E (impl_RowPut.F n)
  h97 : impl_swapped.d.Ok E (impl_swapped.F n)
  h98 : impl_Forward.d.Ok E (impl_Forward.F n)
  h99 : impl_after.d.Ok E (impl_after.F n)
  h100 : impl_RecordOk.d.Ok E (impl_RecordOk.F n)
  h101 : impl_kidsFit.d.Ok E (impl_kidsFit.F n)
  h102 : impl_QueryOk.d.Ok E (impl_QueryOk.F n)
  h103 : impl_holds.d.Ok E (impl_holds.F n)
  h104 : impl_Matches.d.Ok E (impl_Matches.F n)
  h105 : impl_cellOf.d.Ok E (impl_cellOf.F n)
  h106 : impl_Ahead.d.Ok E (impl_Ahead.F n)
  h107 : impl_ViewOk.d.Ok E (impl_ViewOk.F n)
  h108 : slices_Equal_Cond.d.Ok E (slices_Equal_Cond.F n)
  h109 : impl_QuerySame.d.Ok E (impl_QuerySame.F n)
  h110 : slices_EqualFunc_Row_impl_RowSame.d.Ok E (slices_EqualFunc_Row_impl_RowSame.F n)
  h111 : slices_Equal_Kid.d.Ok E (slices_Equal_Kid.F n)
  h112 : impl_ViewSame.d.Ok E (impl_ViewSame.F n)
  h113 : impl_SessOk.d.Ok E (impl_SessOk.F n)
  h114 : impl_seatOk.d.Ok E (impl_seatOk.F n)
  h115 : impl_ServerOk.d.Ok E (impl_ServerOk.F n)
  h116 : impl_Last.d.Ok E (impl_Last.F n)
  h117 : impl_Behind.d.Ok E (impl_Behind.F n)
  h118 : laws_eqIntS.d.Ok E (laws_eqIntS.F n)
  h119 : laws_eqSchema.d.Ok E (laws_eqSchema.F n)
  h120 : laws_eqRow.d.Ok E (laws_eqRow.F n)
  h121 : laws_eqRowS.d.Ok E (laws_eqRowS.F n)
  h122 : laws_eqRowSS.d.Ok E (laws_eqRowSS.F n)
  h123 : laws_eqStore.d.Ok E (laws_eqStore.F n)
  h124 : laws_eqChange.d.Ok E (laws_eqChange.F n)
  h125 : laws_eqChangeS.d.Ok E (laws_eqChangeS.F n)
  h126 : laws_eqChangeSS.d.Ok E (laws_eqChangeSS.F n)
  h127 : laws_eqRecord.d.Ok E (laws_eqRecord.F n)
  h128 : laws_eqCond.d.Ok E (laws_eqCond.F n)
  h129 : laws_eqCondS.d.Ok E (laws_eqCondS.F n)
  h130 : laws_eqQuery.d.Ok E (laws_eqQuery.F n)
  h131 : laws_eqKid.d.Ok E (laws_eqKid.F n)
  h132 : laws_eqKidS.d.Ok E (laws_eqKidS.F n)
  h133 : laws_eqView.d.Ok E (laws_eqView.F n)
  h134 : laws_eqSess.d.Ok E (laws_eqSess.F n)
  h135 : laws_eqLine.d.Ok E (laws_eqLine.F n)
  h136 : laws_eqSeat.d.Ok E (laws_eqSeat.F n)
  h137 : laws_eqSeatS.d.Ok E (laws_eqSeatS.F n)
  h138 : laws_eqServer.d.Ok E (laws_eqServer.F n)
  h139 : laws_FnExactBehind.d.Ok E (laws_FnExactBehind.F n)
theorem kok (n nt : Nat) (a : AllOk n) : KOk E (cx n nt) := KH_ok (l := KL n) ⟨FD.kf (d := laws_FnExactBehind.d) Tryz.func4 (by kernel_rfl) (by kernel_rfl) (by kernel_rfl) a.h139, FD.kf (d := laws_szServer.d) Tryz.func5 (by kernel_rfl) (by kernel_rfl) (by kernel_rfl) a.h18, FD.kf (d := spec_ServerOk.d) Tryz.func6 (by kernel_rfl) (by kernel_rfl) (by kernel_rfl) a.h70, FD.kf (d := laws_toServer.d) Tryz.func7 (by kernel_rfl) (by kernel_rfl) (by kernel_rfl) a.h39, FD.kf (d := impl_ServerOk.d) Tryz.func8 (by kernel_rfl) (by kernel_rfl) (by kernel_rfl) a.h115, FD.kf (d := laws_eqServer.d) Tryz.func9 (by kernel_rfl) (by kernel_rfl) (by kernel_rfl) a.h138, FD.kf (d := spec_Behind.d) Tryz.func10 (by kernel_rfl) (by kernel_rfl) (by kernel_rfl) a.h71, FD.kf (d := impl_Behind.d) Tryz.func11 (by kernel_rfl) (by kernel_rfl) (by kernel_rfl) a.h117, FD.kf (d := laws_szRecord.d) Tryz.func12 (by kernel_rfl) (by kernel_rfl) (by kernel_rfl) a.h9, FD.kf (d := laws_szSeatS.d) Tryz.func13 (by kernel_rfl) (by kernel_rfl) (by kernel_rfl) a.h17, FD.kf (d := spec_RecordOk.d) Tryz.func14 (by kernel_rfl) (by kernel_rfl) (by kernel_rfl) a.h57, FD.kf (d := spec_SessOk.d) Tryz.func15 (by kernel_rfl) (by kernel_rfl) (by kernel_rfl) a.h68, FD.kf (d := spec_l1In.d) Tryz.func16 (by kernel_rfl) (by kernel_rfl) (by kernel_rfl) a.h40, FD.kf (d := spec_Last.d) Tryz.func17 (by kernel_rfl) (by kernel_rfl) (by kernel_rfl) a.h69, FD.kf (d := laws_toRecord.d) Tryz.func18 (by kernel_rfl) (by kernel_rfl) (by kernel_rfl) a.h28, FD.kf (d := laws_toSeatS.d) Tryz.func19 (by kernel_rfl) (by kernel_rfl) (by kernel_rfl) a.h38, FD.kf (d := impl_RecordOk.d) Tryz.func20 (by kernel_rfl) (by kernel_rfl) (by kernel_rfl) a.h100, FD.kf (d := impl_seatOk.d) Tryz.func21 (by kernel_rfl) (by kernel_rfl) (by kernel_rfl) a.h114, FD.kf (d := laws_eqRecord.d) Tryz.func22 (by kernel_rfl) (by kernel_rfl) (by kernel_rfl) a.h127, FD.kf (d := laws_eqSeatS.d) Tryz.func23 (by kernel_rfl) (by kernel_rfl) (by kernel_rfl) a.h137, FD.kf (d := impl_within.d) Tryz.func24 (by kernel_rfl) (by kernel_rfl) (by kernel_rfl) a.h76, FD.kf (d := impl_Last.d) Tryz.func25 (by kernel_rfl) (by kernel_rfl) (by kernel_rfl) a.h116, FD.kf (d := laws_szStore.d) Tryz.func26 (by kernel_rfl) (by kernel_rfl) (by kernel_rfl) a.h5, FD.kf (d := laws_szChangeSS.d) Tryz.func27 (by kernel_rfl) (by kernel_rfl) (by kernel_rfl) a.h8, FD.kf (d := laws_szSeat.d) Tryz.func28 (by kernel_rfl) (by kernel_rfl) (by kernel_rfl) a.h16, FD.kf (d := spec_Forward.d) Tryz.func29 (by kernel_rfl) (by kernel_rfl) (by kernel_rfl) a.h56, FD.kf (d := spec_StoreOk.d) Tryz.func30 (by kernel_rfl) (by kernel_rfl) (by kernel_rfl) a.h44, FD.kf (d := spec_ViewOk.d) Tryz.func31 (by kernel_rfl) (by kernel_rfl) (by kernel_rfl) a.h63, FD.kf (d := spec_ViewSame.d) Tryz.func32 (by kernel_rfl) (by kernel_rfl) (by kernel_rfl) a.h67, FD.kf (d := spec_QuerySame.d) Tryz.func33 (by kernel_rfl) (by kernel_rfl) (by kernel_rfl) a.h66, FD.kf (d := laws_toStore.d) Tryz.func34 (by kernel_rfl) (by kernel_rfl) (by kernel_rfl) a.h24, FD.kf (d := laws_toChangeSS.d) Tryz.func35 (by kernel_rfl) (by kernel_rfl) (by kernel_rfl) a.h27, FD.kf (d := laws_toSeat.d) Tryz.func36 (by kernel_rfl) (by kernel_rfl) (by kernel_rfl) a.h37, FD.kf (d := impl_after.d) Tryz.func37 (by kernel_rfl) (by kernel_rfl) (by kernel_rfl) a.h99, FD.kf (d := impl_SessOk.d) Tryz.func38 (by kernel_rfl) (by kernel_rfl) (by kernel_rfl) a.h113, FD.kf (d := laws_eqStore.d) Tryz.func39 (by kernel_rfl) (by kernel_rfl) (by kernel_rfl) a.h123, FD.kf (d := laws_eqChangeSS.d) Tryz.func40 (by kernel_rfl) (by kernel_rfl) (by kernel_rfl) a.h126, FD.kf (d := laws_eqSeat.d) Tryz.func41 (by kernel_rfl) (by kernel_rfl) (by kernel_rfl) a.h136, FD.kf (d := laws_szSchema.d) Tryz.func42 (by kernel_rfl) (by kernel_rfl) (by kernel_rfl) a.h1, FD.kf (d := laws_szRowSS.d) Tryz.func43 (by kernel_rfl) (by kernel_rfl) (by kernel_rfl) a.h4, FD.kf (d := laws_szChangeS.d) Tryz.func44 (by kernel_rfl) (by kernel_rfl) (by kernel_rfl) a.h7, FD.kf (d := laws_szSess.d) Tryz.func45 (by kernel_rfl) (by kernel_rfl) (by kernel_rfl) a.h14, FD.kf (d := laws_szLine.d) Tryz.func46 (by kernel_rfl) (by kernel_rfl) (by kernel_rfl) a.h15, FD.kf (d := spec_l7Copy.d) Tryz.func47 (by kernel_rfl) (by kernel_rfl) (by kernel_rfl) a.h48, FD.kf (d := spec_l8Zero.d) Tryz.func48 (by kernel_rfl) (by kernel_rfl) (by kernel_rfl) a.h49, FD.kf (d := spec_l7Turn.d) Tryz.func49 (by kernel_rfl) (by kernel_rfl) (by kernel_rfl) a.h55, FD.kf (d := spec_SchemaOk.d) Tryz.func50 (by kernel_rfl) (by kernel_rfl) (by kernel_rfl) a.h41, FD.kf (d := spec_RowsOk.d) Tryz.func51 (by kernel_rfl) (by kernel_rfl) (by kernel_rfl) a.h43, FD.kf (d := spec_QueryOk.d) Tryz.func52 (by kernel_rfl) (by kernel_rfl) (by kernel_rfl) a.h58, FD.kf (d := spec_RowOk.d) Tryz.func53 (by kernel_rfl) (by kernel_rfl) (by kernel_rfl) a.h42, FD.kf (d := spec_Matches.d) Tryz.func54 (by kernel_rfl) (by kernel_rfl) (by kernel_rfl) a.h60, FD.kf (d := spec_RowAt.d) Tryz.func55 (by kernel_rfl) (by kernel_rfl) (by kernel_rfl) a.h50, FD.kf (d := spec_Ahead.d) Tryz.func56 (by kernel_rfl) (by kernel_rfl) (by kernel_rfl) a.h62, FD.kf (d := spec_RowSame.d) Tryz.func57 (by kernel_rfl) (by kernel_rfl) (by kernel_rfl) a.h51, FD.kf (d := spec_l9Conds.d) Tryz.func58 (by kernel_rfl) (by kernel_rfl) (by kernel_rfl) a.h64, FD.kf (d := spec_l9Ints.d) Tryz.func59 (by kernel_rfl) (by kernel_rfl) (by kernel_rfl) a.h65, FD.kf (d := laws_toSchema.d) Tryz.func60 (by kernel_rfl) (by kernel_rfl) (by kernel_rfl) a.h20, FD.kf (d := laws_toRowSS.d) Tryz.func61 (by kernel_rfl) (by kernel_rfl) (by kernel_rfl) a.h23, FD.kf (d := laws_toChangeS.d) Tryz.func62 (by kernel_rfl) (by kernel_rfl) (by kernel_rfl) a.h26, FD.kf (d := laws_toSess.d) Tryz.func63 (by kernel_rfl) (by kernel_rfl) (by kernel_rfl) a.h35, FD.kf (d := laws_toLine.d) Tryz.func64 (by kernel_rfl) (by kernel_rfl) (by kernel_rfl) a.h36, FD.kf (d := impl_copyStore.d) Tryz.func65 (by kernel_rfl) (by kernel_rfl) (by kernel_rfl) a.h75, FD.kf (d := impl_StoreOk.d) Tryz.func66 (by kernel_rfl) (by kernel_rfl) (by kernel_rfl) a.h83, FD.kf (d := impl_Forward.d) Tryz.func67 (by kernel_rfl) (by kernel_rfl) (by kernel_rfl) a.h98, FD.kf (d := impl_ViewOk.d) Tryz.func68 (by kernel_rfl) (by kernel_rfl) (by kernel_rfl) a.h107, FD.kf (d := impl_isVersion.d) Tryz.func69 (by kernel_rfl) (by kernel_rfl) (by kernel_rfl) a.h78, FD.kf (d := impl_ViewSame.d) Tryz.func70 (by kernel_rfl) (by kernel_rfl) (by kernel_rfl) a.h112, FD.kf (d := impl_QuerySame.d) Tryz.func71 (by kernel_rfl) (by kernel_rfl) (by kernel_rfl) a.h109, FD.kf (d := laws_eqSchema.d) Tryz.func72 (by kernel_rfl) (by kernel_rfl) (by kernel_rfl) a.h119, FD.kf (d := laws_eqRowSS.d) Tryz.func73 (by kernel_rfl) (by kernel_rfl) (by kernel_rfl) a.h122, FD.kf (d := laws_eqChangeS.d) Tryz.func74 (by kernel_rfl) (by kernel_rfl) (by kernel_rfl) a.h125, FD.kf (d := laws_eqSess.d) Tryz.func75 (by kernel_rfl) (by kernel_rfl) (by kernel_rfl) a.h134, FD.kf (d := laws_eqLine.d) Tryz.func76 (by kernel_rfl) (by kernel_rfl) (by kernel_rfl) a.h135, FD.kf (d := laws_szIntS.d) Tryz.func77 (by kernel_rfl) (by kernel_rfl) (by kernel_rfl) a.h0, FD.kf (d := laws_szRowS.d) Tryz.func78 (by kernel_rfl) (by kernel_rfl) (by kernel_rfl) a.h3, FD.kf (d := laws_szChange.d) Tryz.func79 (by kernel_rfl) (by kernel_rfl) (by kernel_rfl) a.h6, FD.kf (d := laws_szView.d) Tryz.func80 (by kernel_rfl) (by kernel_rfl) (by kernel_rfl) a.h13, FD.kf (d := spec_l7Schema.d) Tryz.func81 (by kernel_rfl) (by kernel_rfl) (by kernel_rfl) a.h45, FD.kf (d := spec_l6Rows.d) Tryz.func82 (by kernel_rfl) (by kernel_rfl) (by kernel_rfl) a.h47, FD.kf (d := spec_l7There.d) Tryz.func83 (by kernel_rfl) (by kernel_rfl) (by kernel_rfl) a.h52, FD.kf (d := spec_RowDrop.d) Tryz.func84 (by kernel_rfl) (by kernel_rfl) (by kernel_rfl) a.h53, FD.kf (d := spec_RowPut.d) Tryz.func85 (by kernel_rfl) (by kernel_rfl) (by kernel_rfl) a.h54, FD.kf (d := spec_l9Holds.d) Tryz.func86 (by kernel_rfl) (by kernel_rfl) (by kernel_rfl) a.h59, FD.kf (d := spec_l9Cell.d) Tryz.func87 (by kernel_rfl) (by kernel_rfl) (by kernel_rfl) a.h61, FD.kf (d := laws_toIntS.d) Tryz.func88 (by kernel_rfl) (by kernel_rfl) (by kernel_rfl) a.h19, FD.kf (d := laws_toRowS.d) Tryz.func89 (by kernel_rfl) (by kernel_rfl) (by kernel_rfl) a.h22, FD.kf (d := laws_toChange.d) Tryz.func90 (by kernel_rfl) (by kernel_rfl) (by kernel_rfl) a.h25, FD.kf (d := laws_toView.d) Tryz.func91 (by kernel_rfl) (by kernel_rfl) (by kernel_rfl) a.h34, FD.kf (d := impl_copyInts.d) Tryz.func92 (by kernel_rfl) (by kernel_rfl) (by kernel_rfl) a.h72, FD.kf (d := impl_copyRows.d) Tryz.func93 (by kernel_rfl) (by kernel_rfl) (by kernel_rfl) a.h74, FD.kf (d := impl_SchemaOk.d) Tryz.func94 (by kernel_rfl) (by kernel_rfl) (by kernel_rfl) a.h77, FD.kf (d := impl_RowsOk.d) Tryz.func95 (by kernel_rfl) (by kernel_rfl) (by kernel_rfl) a.h82, FD.kf (d := impl_changeFits.d) Tryz.func96 (by kernel_rfl) (by kernel_rfl) (by kernel_rfl) a.h85, FD.kf (d := impl_swapped.d) Tryz.func97 (by kernel_rfl) (by kernel_rfl) (by kernel_rfl) a.h97, FD.kf (d := impl_QueryOk.d) Tryz.func98 (by kernel_rfl) (by kernel_rfl) (by kernel_rfl) a.h102, FD.kf (d := impl_RowOk.d) Tryz.func99 (by kernel_rfl) (by kernel_rfl) (by kernel_rfl) a.h81, FD.kf (d := impl_Matches.d) Tryz.func100 (by kernel_rfl) (by kernel_rfl) (by kernel_rfl) a.h104, FD.kf (d := impl_Ahead.d) Tryz.func101 (by kernel_rfl) (by kernel_rfl) (by kernel_rfl) a.h106, FD.kf (d := impl_RowAt.d) Tryz.func102 (by kernel_rfl) (by kernel_rfl) (by kernel_rfl) a.h88, FD.kf (d := slices_EqualFunc_Row_impl_RowSame.d) Tryz.func103 (by kernel_rfl) (by kernel_rfl) (by kernel_rfl) a.h110, FD.kf (d := impl_RowSame.d) Tryz.func104 (by kernel_rfl) (by kernel_rfl) (by kernel_rfl) a.h90, FD.kf (d := slices_Equal_Kid.d) Tryz.func105 (by kernel_rfl) (by kernel_rfl) (by kernel_rfl) a.h111, FD.kf (d := slices_Equal_Cond.d) Tryz.func106 (by kernel_rfl) (by kernel_rfl) (by kernel_rfl) a.h108, FD.kf (d := slices_Equal_int.d) Tryz.func107 (by kernel_rfl) (by kernel_rfl) (by kernel_rfl) a.h89, FD.kf (d := laws_eqIntS.d) Tryz.func108 (by kernel_rfl) (by kernel_rfl) (by kernel_rfl) a.h118, FD.kf (d := laws_eqRowS.d) Tryz.func109 (by kernel_rfl) (by kernel_rfl) (by kernel_rfl) a.h121, FD.kf (d := laws_eqChange.d) Tryz.func110 (by kernel_rfl) (by kernel_rfl) (by kernel_rfl) a.h124, FD.kf (d := laws_eqView.d) Tryz.func111 (by kernel_rfl) (by kernel_rfl) (by kernel_rfl) a.h133, FD.kf (d := laws_szRow.d) Tryz.func112 (by kernel_rfl) (by kernel_rfl) (by kernel_rfl) a.h2, FD.kf (d := laws_szQuery.d) Tryz.func113 (by kernel_rfl) (by kernel_rfl) (by kernel_rfl) a.h11, FD.kf (d := laws_szKidS.d) Tryz.func114 (by kernel_rfl) (by kernel_rfl) (by kernel_rfl) a.h12, FD.kf (d := spec_l6Copy.d) Tryz.func115 (by kernel_rfl) (by kernel_rfl) (by kernel_rfl) a.h46, FD.kf (d := laws_toRow.d) Tryz.func116 (by kernel_rfl) (by kernel_rfl) (by kernel_rfl) a.h21, FD.kf (d := laws_toQuery.d) Tryz.func117 (by kernel_rfl) (by kernel_rfl) (by kernel_rfl) a.h31, FD.kf (d := laws_toKidS.d) Tryz.func118 (by kernel_rfl) (by kernel_rfl) (by kernel_rfl) a.h33, FD.kf (d := impl_copyRow.d) Tryz.func119 (by kernel_rfl) (by kernel_rfl) (by kernel_rfl) a.h73, FD.kf (d := impl_hasTable.d) Tryz.func120 (by kernel_rfl) (by kernel_rfl) (by kernel_rfl) a.h80, FD.kf (d := impl_noRow.d) Tryz.func121 (by kernel_rfl) (by kernel_rfl) (by kernel_rfl) a.h84, FD.kf (d := impl_RowDrop.d) Tryz.func122 (by kernel_rfl) (by kernel_rfl) (by kernel_rfl) a.h92, FD.kf (d := impl_RowPut.d) Tryz.func123 (by kernel_rfl) (by kernel_rfl) (by kernel_rfl) a.h96, FD.kf (d := impl_isNum.d) Tryz.func124 (by kernel_rfl) (by kernel_rfl) (by kernel_rfl) a.h79, FD.kf (d := impl_kidsFit.d) Tryz.func125 (by kernel_rfl) (by kernel_rfl) (by kernel_rfl) a.h101, FD.kf (d := impl_holds.d) Tryz.func126 (by kernel_rfl) (by kernel_rfl) (by kernel_rfl) a.h103, FD.kf (d := impl_cellOf.d) Tryz.func127 (by kernel_rfl) (by kernel_rfl) (by kernel_rfl) a.h105, (by
    intro ω avs κ q h
    cases hc : Nat.beq (selClo 1 avs) 129 with
    | true => exact FD.kf (d := slices_IndexFunc_Row_impl_RowAt_f1.d) Tryz.func128 (by kernel_rfl) (by kernel_rfl) (by kernel_rfl) a.h87 _ _ _ _ (cond_t hc h)
    | false =>
      have h := cond_f hc h
      cases hc : Nat.beq (selClo 1 avs) 137 with
      | true => exact FD.kf (d := slices_IndexFunc_Row_impl_RowPut_f1.d) Tryz.func128 (by kernel_rfl) (by kernel_rfl) (by kernel_rfl) a.h94 _ _ _ _ (cond_t hc h)
      | false =>
        have h := cond_f hc h
        cases h), FD.kf (d := impl_RowAt_f1.d) Tryz.func129 (by kernel_rfl) (by kernel_rfl) (by kernel_rfl) a.h86, FD.kf (d := laws_eqRow.d) Tryz.func130 (by kernel_rfl) (by kernel_rfl) (by kernel_rfl) a.h120, FD.kf (d := laws_eqQuery.d) Tryz.func131 (by kernel_rfl) (by kernel_rfl) (by kernel_rfl) a.h130, FD.kf (d := laws_eqKidS.d) Tryz.func132 (by kernel_rfl) (by kernel_rfl) (by kernel_rfl) a.h132, FD.kf (d := laws_szCondS.d) Tryz.func133 (by kernel_rfl) (by kernel_rfl) (by kernel_rfl) a.h10, FD.kf (d := laws_toCondS.d) Tryz.func134 (by kernel_rfl) (by kernel_rfl) (by kernel_rfl) a.h30, FD.kf (d := laws_toKid.d) Tryz.func135 (by kernel_rfl) (by kernel_rfl) (by kernel_rfl) a.h32, FD.kf (d := slices_Delete_Row.d) Tryz.func136 (by kernel_rfl) (by kernel_rfl) (by kernel_rfl) a.h91, FD.kf (d := impl_RowPut_f1.d) Tryz.func137 (by kernel_rfl) (by kernel_rfl) (by kernel_rfl) a.h93, FD.kf (d := slices_Insert_Row.d) Tryz.func138 (by kernel_rfl) (by kernel_rfl) (by kernel_rfl) a.h95, FD.kf (d := laws_eqCondS.d) Tryz.func139 (by kernel_rfl) (by kernel_rfl) (by kernel_rfl) a.h129, FD.kf (d := laws_eqKid.d) Tryz.func140 (by kernel_rfl) (by kernel_rfl) (by kernel_rfl) a.h131, FD.kf (d := laws_toCond.d) Tryz.func141 (by kernel_rfl) (by kernel_rfl) (by kernel_rfl) a.h29, FD.kf (d := laws_eqCond.d) Tryz.func144 (by kernel_rfl) (by kernel_rfl) (by kernel_rfl) a.h128, trivial⟩
theorem cxok (n nt : Nat) (a : AllOk n) : CxOk E (cx n nt) := ⟨ttOk, tcOk, u8Ok, kok n nt a⟩
theorem allOk : ∀ n, AllOk n
  | 0 => ⟨fun _ _ h => (by cases h), fun _ _ h => (by cases h), fun _ _ h => (by cases h), fun _ _ h => (by cases h), fun _ _ h => (by cases h), fun _ _ h => (by cases h), fun _ _ h => (by cases h), fun _ _ h => (by cases h), fun _ _ h => (by cases h), fun _ _ h => (by cases h), fun _ _ h => (by cases h), fun _ _ h => (by cases h), fun _ _ h => (by cases h), fun _ _ h => (by cases h), fun _ _ h => (by cases h), fun _ _ h => (by cases h), fun _ _ h => (by cases h), fun _ _ h => (by cases h), fun _ _ h => (by cases h), fun _ _ h => (by cases h), fun _ _ h => (by cases h), fun _ _ h => (by cases h), fun _ _ h => (by cases h), fun _ _ h => (by cases h), fun _ _ h => (by cases h), fun _ _ h => (by cases h), fun _ _ h => (by cases h), fun _ _ h => (by cases h), fun _ _ h => (by cases h), fun _ _ h => (by cases h), fun _ _ h => (by cases h), fun _ _ h => (by cases h), fun _ _ h => (by cases h), fun _ _ h => (by cases h), fun _ _ h => (by cases h), fun _ _ h => (by cases h), fun _ _ h => (by cases h), fun _ _ h => (by cases h), fun _ _ h => (by cases h), fun _ _ h => (by cases h), fun _ _ h => (by cases h), fun _ _ h => (by cases h), fun _ _ h => (by cases h), fun _ _ h => (by cases h), fun _ _ h => (by cases h), fun _ _ h => (by cases h), fun _ _ h => (by cases h), fun _ _ h => (by cases h), fun _ _ h => (by cases h), fun _ _ h => (by cases h), fun _ _ h => (by cases h), fun _ _ h => (by cases h), fun _ _ h => (by cases h), fun _ _ h => (by cases h), fun _ _ h => (by cases h), fun _ _ h => (by cases h), fun _ _ h => (by cases h), fun _ _ h => (by cases h), fun _ _ h => (by cases h), fun _ _ h => (by cases h), fun _ _ h => (by cases h), fun _ _ h => (by cases h), fun _ _ h => (by cases h), fun _ _ h => (by cases h), fun _ _ h => (by cases h), fun _ _ h => (by cases h), fun _ _ h => (by cases h), fun _ _ h => (by cases h), fun _ _ h => (by cases h), fun _ _ h => (by cases h), fun _ _ h => (by cases h), fun _ _ h => (by cases h), fun _ _ h => (by cases h), fun _ _ h => (by cases h), fun _ _ h => (by cases h), fun _ _ h => (by cases h), fun _ _ h => (by cases h), fun _ _ h => (by cases h), fun _ _ h => (by cases h), fun _ _ h => (by cases h), fun _ _ h => (by cases h), fun _ _ h => (by cases h), fun _ _ h => (by cases h), fun _ _ h => (by cases h), fun _ _ h => (by cases h), fun _ _ h => (by cases h), fun _ _ h => (by cases h), fun _ _ h => (by cases h), fun _ _ h => (by cases h), fun _ _ h => (by cases h), fun _ _ h => (by cases h), fun _ _ h => (by cases h), fun _ _ h => (by cases h), fun _ _ h => (by cases h), fun _ _ h => (by cases h), fun _ _ h => (by cases h), fun _ _ h => (by cases h), fun _ _ h => (by cases h), fun _ _ h => (by cases h), fun _ _ h => (by cases h), fun _ _ h => (by cases h), fun _ _ h => (by cases h), fun _ _ h => (by cases h), fun _ _ h => (by cases h), fun _ _ h => (by cases h), fun _ _ h => (by cases h), fun _ _ h => (by cases h), fun _ _ h => (by cases h), fun _ _ h => (by cases h), fun _ _ h => (by cases h), fun _ _ h => (by cases h), fun _ _ h => (by cases h), fun _ _ h => (by cases h), fun _ _ h => (by cases h), fun _ _ h => (by cases h), fun _ _ h => (by cases h), fun _ _ h => (by cases h), fun _ _ h => (by cases h), fun _ _ h => (by cases h), fun _ _ h => (by cases h), fun _ _ h => (by cases h), fun _ _ h => (by cases h), fun _ _ h => (by cases h), fun _ _ h => (by cases h), fun _ _ h => (by cases h), fun _ _ h => (by cases h), fun _ _ h => (by cases h), fun _ _ h => (by cases h), fun _ _ h => (by cases h), fun _ _ h => (by cases h), fun _ _ h => (by cases h), fun _ _ h => (by cases h), fun _ _ h => (by cases h), fun _ _ h => (by cases h), fun _ _ h => (by cases h), fun _ _ h => (by cases h), fun _ _ h => (by cases h), fun _ _ h => (by cases h), fun _ _ h => (by cases h), fun _ _ h => (by cases h)⟩
  | n + 1 => ⟨laws_szIntS.ok n (cxok n _ (allOk n)) (kpar n _), laws_szSchema.ok n (cxok n _ (allOk n)) (kpar n _), laws_szRow.ok n (cxok n _ (allOk n)) (kpar n _), laws_szRowS.ok n (cxok n _ (allOk n)) (kpar n _), laws_szRowSS.ok n (cxok n _ (allOk n)) (kpar n _), laws_szStore.ok n (cxok n _ (allOk n)) (kpar n _), laws_szChange.ok n (cxok n _ (allOk n)) (kpar n _), laws_szChangeS.ok n (cxok n _ (allOk n)) (kpar n _), laws_szChangeSS.ok n (cxok n _ (allOk n)) (kpar n _), laws_szRecord.ok n (cxok n _ (allOk n)) (kpar n _), laws_szCondS.ok n (cxok n _ (allOk n)) (kpar n _), laws_szQuery.ok n (cxok n _ (allOk n)) (kpar n _), laws_szKidS.ok n (cxok n _ (allOk n)) (kpar n _), laws_szView.ok n (cxok n _ (allOk n)) (kpar n _), laws_szSess.ok n (cxok n _ (allOk n)) (kpar n _), laws_szLine.ok n (cxok n _ (allOk n)) (kpar n _), laws_szSeat.ok n (cxok n _ (allOk n)) (kpar n _), laws_szSeatS.ok n (cxok n _ (allOk n)) (kpar n _), laws_szServer.ok n (cxok n _ (allOk n)) (kpar n _), laws_toIntS.ok n (cxok n _ (allOk n)) (kpar n _), laws_toSchema.ok n (cxok n _ (allOk n)) (kpar n _), laws_toRow.ok n (cxok n _ (allOk n)) (kpar n _), laws_toRowS.ok n (cxok n _ (allOk n)) (kpar n _), laws_toRowSS.ok n (cxok n _ (allOk n)) (kpar n _), laws_toStore.ok n (cxok n _ (allOk n)) (kpar n _), laws_toChange.ok n (cxok n _ (allOk n)) (kpar n _), laws_toChangeS.ok n (cxok n _ (allOk n)) (kpar n _), laws_toChangeSS.ok n (cxok n _ (allOk n)) (kpar n _), laws_toRecord.ok n (cxok n _ (allOk n)) (kpar n _), laws_toCond.ok n (cxok n _ (allOk n)) (kpar n _), laws_toCondS.ok n (cxok n _ (allOk n)) (kpar n _), laws_toQuery.ok n (cxok n _ (allOk n)) (kpar n _), laws_toKid.ok n (cxok n _ (allOk n)) (kpar n _), laws_toKidS.ok n (cxok n _ (allOk n)) (kpar n _), laws_toView.ok n (cxok n _ (allOk n)) (kpar n _), laws_toSess.ok n (cxok n _ (allOk n)) (kpar n _), laws_toLine.ok n (cxok n _ (allOk n)) (kpar n _), laws_toSeat.ok n (cxok n _ (allOk n)) (kpar n _), laws_toSeatS.ok n (cxok n _ (allOk n)) (kpar n _), laws_toServer.ok n (cxok n _ (allOk n)) (kpar n _), spec_l1In.ok n (cxok n _ (allOk n)) (kpar n _), spec_SchemaOk.ok n (cxok n _ (allOk n)) (kpar n _), spec_RowOk.ok n (cxok n _ (allOk n)) (kpar n _), spec_RowsOk.ok n (cxok n _ (allOk n)) (kpar n _), spec_StoreOk.ok n (cxok n _ (allOk n)) (kpar n _), spec_l7Schema.ok n (cxok n _ (allOk n)) (kpar n _), spec_l6Copy.ok n (cxok n _ (allOk n)) (kpar n _), spec_l6Rows.ok n (cxok n _ (allOk n)) (kpar n _), spec_l7Copy.ok n (cxok n _ (allOk n)) (kpar n _), spec_l8Zero.ok n (cxok n _ (allOk n)) (kpar n _), spec_RowAt.ok n (cxok n _ (allOk n)) (kpar n _), spec_RowSame.ok n (cxok n _ (allOk n)) (kpar n _), spec_l7There.ok n (cxok n _ (allOk n)) (kpar n _), spec_RowDrop.ok n (cxok n _ (allOk n)) (kpar n _), spec_RowPut.ok n (cxok n _ (allOk n)) (kpar n _), spec_l7Turn.ok n (cxok n _ (allOk n)) (kpar n _), spec_Forward.ok n (cxok n _ (allOk n)) (kpar n _), spec_RecordOk.ok n (cxok n _ (allOk n)) (kpar n _), spec_QueryOk.ok n (cxok n _ (allOk n)) (kpar n _), spec_l9Holds.ok n (cxok n _ (allOk n)) (kpar n _), spec_Matches.ok n (cxok n _ (allOk n)) (kpar n _), spec_l9Cell.ok n (cxok n _ (allOk n)) (kpar n _), spec_Ahead.ok n (cxok n _ (allOk n)) (kpar n _), spec_ViewOk.ok n (cxok n _ (allOk n)) (kpar n _), spec_l9Conds.ok n (cxok n _ (allOk n)) (kpar n _), spec_l9Ints.ok n (cxok n _ (allOk n)) (kpar n _), spec_QuerySame.ok n (cxok n _ (allOk n)) (kpar n _), spec_ViewSame.ok n (cxok n _ (allOk n)) (kpar n _), spec_SessOk.ok n (cxok n _ (allOk n)) (kpar n _), spec_Last.ok n (cxok n _ (allOk n)) (kpar n _), spec_ServerOk.ok n (cxok n _ (allOk n)) (kpar n _), spec_Behind.ok n (cxok n _ (allOk n)) (kpar n _), impl_copyInts.ok n (cxok n _ (allOk n)) (kpar n _), impl_copyRow.ok n (cxok n _ (allOk n)) (kpar n _), impl_copyRows.ok n (cxok n _ (allOk n)) (kpar n _), impl_copyStore.ok n (cxok n _ (allOk n)) (kpar n _), impl_within.ok n (cxok n _ (allOk n)) (kpar n _), impl_SchemaOk.ok n (cxok n _ (allOk n)) (kpar n _), impl_isVersion.ok n (cxok n _ (allOk n)) (kpar n _), impl_isNum.ok n (cxok n _ (allOk n)) (kpar n _), impl_hasTable.ok n (cxok n _ (allOk n)) (kpar n _), impl_RowOk.ok n (cxok n _ (allOk n)) (kpar n _), impl_RowsOk.ok n (cxok n _ (allOk n)) (kpar n _), impl_StoreOk.ok n (cxok n _ (allOk n)) (kpar n _), impl_noRow.ok n (cxok n _ (allOk n)) (kpar n _), impl_changeFits.ok n (cxok n _ (allOk n)) (kpar n _), impl_RowAt_f1.ok n (cxok n _ (allOk n)) (kpar n _), slices_IndexFunc_Row_impl_RowAt_f1.ok n (cxok n _ (allOk n)) (kpar n _), impl_RowAt.ok n (cxok n _ (allOk n)) (kpar n _), slices_Equal_int.ok n (cxok n _ (allOk n)) (kpar n _), impl_RowSame.ok n (cxok n _ (allOk n)) (kpar n _), slices_Delete_Row.ok n (cxok n _ (allOk n)) (kpar n _), impl_RowDrop.ok n (cxok n _ (allOk n)) (kpar n _), impl_RowPut_f1.ok n (cxok n _ (allOk n)) (kpar n _), slices_IndexFunc_Row_impl_RowPut_f1.ok n (cxok n _ (allOk n)) (kpar n _), slices_Insert_Row.ok n (cxok n _ (allOk n)) (kpar n _), impl_RowPut.ok n (cxok n _ (allOk n)) (kpar n _), impl_swapped.ok n (cxok n _ (allOk n)) (kpar n _), impl_Forward.ok n (cxok n _ (allOk n)) (kpar n _), impl_after.ok n (cxok n _ (allOk n)) (kpar n _), impl_RecordOk.ok n (cxok n _ (allOk n)) (kpar n _), impl_kidsFit.ok n (cxok n _ (allOk n)) (kpar n _), impl_QueryOk.ok n (cxok n _ (allOk n)) (kpar n _), impl_holds.ok n (cxok n _ (allOk n)) (kpar n _), impl_Matches.ok n (cxok n _ (allOk n)) (kpar n _), impl_cellOf.ok n (cxok n _ (allOk n)) (kpar n _), impl_Ahead.ok n (cxok n _ (allOk n)) (kpar n _), impl_ViewOk.ok n (cxok n _ (allOk n)) (kpar n _), slices_Equal_Cond.ok n (cxok n _ (allOk n)) (kpar n _), impl_QuerySame.ok n (cxok n _ (allOk n)) (kpar n _), slices_EqualFunc_Row_impl_RowSame.ok n (cxok n _ (allOk n)) (kpar n _), slices_Equal_Kid.ok n (cxok n _ (allOk n)) (kpar n _), impl_ViewSame.ok n (cxok n _ (allOk n)) (kpar n _), impl_SessOk.ok n (cxok n _ (allOk n)) (kpar n _), impl_seatOk.ok n (cxok n _ (allOk n)) (kpar n _), impl_ServerOk.ok n (cxok n _ (allOk n)) (kpar n _), impl_Last.ok n (cxok n _ (allOk n)) (kpar n _), impl_Behind.ok n (cxok n _ (allOk n)) (kpar n _), laws_eqIntS.ok n (cxok n _ (allOk n)) (kpar n _), laws_eqSchema.ok n (cxok n _ (allOk n)) (kpar n _), laws_eqRow.ok n (cxok n _ (allOk n)) (kpar n _), laws_eqRowS.ok n (cxok n _ (allOk n)) (kpar n _), laws_eqRowSS.ok n (cxok n _ (allOk n)) (kpar n _), laws_eqStore.ok n (cxok n _ (allOk n)) (kpar n _), laws_eqChange.ok n (cxok n _ (allOk n)) (kpar n _), laws_eqChangeS.ok n (cxok n _ (allOk n)) (kpar n _), laws_eqChangeSS.ok n (cxok n _ (allOk n)) (kpar n _), laws_eqRecord.ok n (cxok n _ (allOk n)) (kpar n _), laws_eqCond.ok n (cxok n _ (allOk n)) (kpar n _), laws_eqCondS.ok n (cxok n _ (allOk n)) (kpar n _), laws_eqQuery.ok n (cxok n _ (allOk n)) (kpar n _), laws_eqKid.ok n (cxok n _ (allOk n)) (kpar n _), laws_eqKidS.ok n (cxok n _ (allOk n)) (kpar n _), laws_eqView.ok n (cxok n _ (allOk n)) (kpar n _), laws_eqSess.ok n (cxok n _ (allOk n)) (kpar n _), laws_eqLine.ok n (cxok n _ (allOk n)) (kpar n _), laws_eqSeat.ok n (cxok n _ (allOk n)) (kpar n _), laws_eqSeatS.ok n (cxok n _ (allOk n)) (kpar n _), laws_eqServer.ok n (cxok n _ (allOk n)) (kpar n _), laws_FnExactBehind.ok n (cxok n _ (allOk n)) (kpar n _)⟩
end Go.Pi
end
section
set_option linter.unusedVariables false
namespace Go.Pi
/-! ### What a law is handed: data that anybody may read -/
inductive Kd where
  | i (k : IntKind)
  | b
  | s
  | sl (t : TC)
def kdsL (P : Program) (rec_ : TypeId → Option (List Kd)) : List Field → Nat → Option (List Kd)
  | [], _ => some []
  | f :: fs, off => cond (Nat.beq f.offset off) (match rec_ f.type with
    | some ks => cond (Nat.beq (P.cellsOf f.type) ks.length) (match kdsL P rec_ fs (off + ks.length) with
      | some r => some (ks ++ r)
      | none => none) none
    | none => none) none
def kds (P : Program) (code : TypeId → Option TC) : Nat → TypeId → Option (List Kd)
  | 0, _ => none
  | d + 1, T => match P.underlying T with
    | some (.int k) => some [.i k]
    | some .bool => some [.b]
    | some .string => some [.s]
    | some (.slice e) => match code e with
      | some t => some [.sl t]
      | none => none
    | some (.struct fs) => match kdsL P (kds P code d) fs.toList 0 with
      | some ks => cond (Nat.beq (P.cellsOf T) ks.length) (some ks) none
      | none => none
    | _ => none
/-- the lengths and ranges of what is read -/
inductive Good [Coding] : AV → Prop
  | i (k n) : (Lit.int k n).wf = true → Good (.i k n)
  | b (q) : Good (.b q)
  | s (l) : l.length ≤ maxLen → Good (.s l)
  | sl (t xs) : xs.length ≤ maxLen → (∀ x ∈ xs, ∀ c ∈ Coding.enc .v t x, Good c) → Good (.sl .v t xs)
def KindOk : Kd → AV → Prop
  | .i k, a => ∃ n, a = .i k n
  | .b, a => ∃ q, a = .b q
  | .s, a => ∃ l, a = .s l
  | .sl t, a => ∃ xs, a = .sl .v t xs
def Kinded : List Kd → List AV → Prop
  | [], [] => True
  | k :: ks, a :: l => KindOk k a ∧ Kinded ks l
  | _, _ => False
section
variable {H : Type} {enc : TypeId × Value → H} {P : Program} {w : World} {spare : Nat → Bool}
/-- a cell of a kind, whose rows are read with less -/
def CellOk (enc : TypeId × Value → H) (P : Program) (w : World) (spare : Nat → Bool) (eid : TC → TypeId) (F : Nat) : Kd → Value → Prop
  | .i k, v => ∃ n, v = .int k n ∧ (Lit.int k n).wf = true
  | .b, v => ∃ q, v = .bool q
  | .s, v => ∃ s : ByteArray, v = .string s ∧ s.size ≤ maxLen
  | .sl t, v => v = .slice none 0 0 ∨ ∃ (a : Addr) (len cap N : Nat), v = .slice (some a) len cap ∧ len ≤ cap ∧ cap ≤ maxLen ∧ N < F ∧
      ∀ i, i < len → ∃ cs x, w.cells? 0 (a.add (i * P.cellsOf (eid t))) (P.cellsOf (eid t)) = some cs ∧ DataW.trod enc P w 0 spare true N (eid t) cs = some x
def CellsOk (enc : TypeId × Value → H) (P : Program) (w : World) (spare : Nat → Bool) (eid : TC → TypeId) (F : Nat) : List Kd → List Value → Prop
  | [], [] => True
  | k :: ks, v :: vs => CellOk enc P w spare eid F k v ∧ CellsOk enc P w spare eid F ks vs
  | _, _ => False
theorem CellOk.mono {eid : TC → TypeId} {F F' : Nat} (hF : F ≤ F') {k : Kd} {v : Value} (h : CellOk enc P w spare eid F k v) : CellOk enc P w spare eid F' k v := by
  cases k with
  | sl t =>
    rcases h with h | ⟨a, len, cap, N, h1, h2, h3, h4, h5⟩
    · exact .inl h
    · exact .inr ⟨a, len, cap, N, h1, h2, h3, Nat.lt_of_lt_of_le h4 hF, h5⟩
  | _ => exact h
theorem CellsOk.mono {eid : TC → TypeId} {F F' : Nat} (hF : F ≤ F') : ∀ {ks : List Kd} {vs : List Value}, CellsOk enc P w spare eid F ks vs → CellsOk enc P w spare eid F' ks vs
  | [], [], _ => trivial
  | k :: ks, v :: vs, h => ⟨h.1.mono hF, CellsOk.mono hF h.2⟩
  | [], _ :: _, h => h.elim
  | _ :: _, [], h => h.elim
theorem CellsOk.append {eid : TC → TypeId} {F : Nat} : ∀ {ks : List Kd} {vs : List Value} {ks' : List Kd} {vs' : List Value}, CellsOk enc P w spare eid F ks vs → CellsOk enc P w spare eid F ks' vs' → CellsOk enc P w spare eid F (ks ++ ks') (vs ++ vs')
  | [], [], _, _, _, h => h
  | k :: ks, v :: vs, _, _, h, h' => ⟨h.1, CellsOk.append h.2 h'⟩
  | [], _ :: _, _, _, h, _ => h.elim
  | _ :: _, [], _, _, h, _ => h.elim
theorem fields_kds {code : TypeId → Option TC} {eid : TC → TypeId} {n : Nat} {rec_ : TypeId → Option (List Kd)} {cs : List Value} (hrec : ∀ T ks cs x, rec_ T = some ks → DataW.trod enc P w 0 spare true n T cs = some x → CellsOk enc P w spare eid n ks cs) :
    ∀ (fs : List Field) (off : Nat) (ks : List Kd), kdsL P rec_ fs off = some ks → (∀ f ∈ fs, ∃ x, DataW.trod enc P w 0 spare true n f.type ((cs.drop f.offset).take (P.cellsOf f.type)) = some x) → off + ks.length = cs.length → CellsOk enc P w spare eid n ks (cs.drop off)
  | [], off, ks, h, _, hl => by
    simp only [kdsL, Option.some.injEq] at h
    subst h
    rw [List.drop_eq_nil_of_le (by simp at hl; omega)]
    trivial
  | f :: fs, off, ks, h, hx, hl => by
    simp only [kdsL] at h
    obtain ⟨h1, h2⟩ := cond_some h
    have h1 := beq_iff.1 h1
    cases hr : rec_ f.type with
    | none => rw [hr] at h2; cases h2
    | some k1 =>
      rw [hr] at h2
      obtain ⟨h3, h4⟩ := cond_some h2
      have h3 := beq_iff.1 h3
      cases hk : kdsL P rec_ fs (off + k1.length) with
      | none => rw [hk] at h4; cases h4
      | some r =>
        rw [hk] at h4
        simp only [Option.some.injEq] at h4
        subst h4
        obtain ⟨x, hx1⟩ := hx f (List.mem_cons_self ..)
        have h5 := hrec _ _ _ _ hr hx1
        have h6 := fields_kds (code := code) hrec fs (off + k1.length) r hk (fun g hg => hx g (List.mem_cons_of_mem _ hg)) (by simp at hl; omega)
        rw [h1, h3] at h5
        have : cs.drop off = (cs.drop off).take k1.length ++ cs.drop (off + k1.length) := by rw [← List.drop_drop, List.take_append_drop]
        rw [this]
        exact h5.append h6
theorem trod_kds {code : TypeId → Option TC} {eid : TC → TypeId} (hcode : ∀ e t, code e = some t → eid t = e) : ∀ (d F : Nat) (T : TypeId) (ks : List Kd) (cs : List Value) (x : DataW H × List MemPlace), kds P code d T = some ks → DataW.trod enc P w 0 spare true F T cs = some x → CellsOk enc P w spare eid F ks cs
  | 0, F, T, ks, cs, x, hk, h => by cases hk
  | d + 1, F, T, ks, cs, x, hk, h => by
    simp only [kds] at hk
    cases hu : P.underlying T with
    | none => rw [hu] at hk; cases hk
    | some u =>
      rw [hu] at hk
      cases u <;> simp only at hk <;> (try (cases hk; done))
      case bool =>
        cases hk
        obtain ⟨q, rfl, _⟩ := DataW.trod_bool hu h
        exact ⟨⟨q, rfl⟩, trivial⟩
      case int k =>
        cases hk
        obtain ⟨n, rfl, _, hw⟩ := DataW.trod_int hu h
        exact ⟨⟨n, rfl, hw⟩, trivial⟩
      case string =>
        cases hk
        obtain ⟨s, rfl, _, hs⟩ := DataW.trod_string hu h
        exact ⟨⟨s, rfl, hs⟩, trivial⟩
      case slice e =>
        cases hc : code e with
        | none => rw [hc] at hk; cases hk
        | some t =>
          rw [hc] at hk
          cases hk
          have he := hcode e t hc
          rcases DataW.trod_slice hu h with ⟨rfl, _⟩ | ⟨a, len, cap, elems, rest, n, hF, rfl, _, _, hl, hm, hlen, hel, _, _⟩
          · exact ⟨.inl rfl, trivial⟩
          · refine ⟨.inr ⟨a, len, cap, n, rfl, hl, hm, by omega, fun i hi => ?_⟩, trivial⟩
            have h1 := hel i hi
            rw [List.getElem?_eq_getElem (by omega)] at h1
            rw [Option.bind_eq_some_iff] at h1
            obtain ⟨cs, k1, k2⟩ := h1
            exact ⟨cs, _, by rw [he]; exact k1, by rw [he]; exact k2⟩
      case struct fs =>
        obtain ⟨xs, n, hF, _, hcl, hxl, hx⟩ := DataW.trod_struct hu h
        cases hks : kdsL P (kds P code d) fs.toList 0 with
        | none => rw [hks] at hk; cases hk
        | some ks' =>
          rw [hks] at hk
          obtain ⟨h1, h2⟩ := cond_some hk
          have h1 := beq_iff.1 h1
          cases h2
          subst hF
          have := fields_kds (code := code) (eid := eid) (n := n) (cs := cs) (fun T ks cs x k1 k2 => trod_kds hcode d n T ks cs x k1 k2) fs.toList 0 ks hks (fun f hf => by
            obtain ⟨i, hi⟩ := List.getElem?_of_mem hf
            have hi' : fs[i]? = some f := by simpa using hi
            have h3 := hx i f hi'
            have hlt : i < xs.length := by rw [hxl]; exact (Array.getElem?_eq_some_iff.1 hi').1
            rw [List.getElem?_eq_getElem hlt] at h3
            exact ⟨_, h3⟩) (by omega)
          exact (this.mono (Nat.le_succ n))
end
end Go.Pi
end
section
set_option linter.unusedVariables false
namespace Go.Pi
variable [Coding]
open Coding
variable {H : Type} {enc' : TypeId × Value → H} {E : Env} {w : World} {spare : Nat → Bool}
abbrev NoF : Nat → Prop := fun _ => False
omit [Coding] in
theorem sims_kinded : ∀ {ks : List Kd} {l c : List AV}, Kinded ks l → sims .v l c → c = l
  | [], [], [], _, _ => rfl
  | k :: ks, a :: l, b :: c, h, hs => by
    have e := sims_kinded h.2 hs.2
    subst e
    have h1 := h.1
    have h2 := hs.1
    cases k <;> obtain ⟨x, rfl⟩ := h1 <;> simp only [AV.sim] at h2 <;> rw [h2]
  | [], [], _ :: _, _, h => h.elim
  | [], _ :: _, _, h, _ => h.elim
  | _ :: _, [], _, h, _ => h.elim
  | _ :: _, _ :: _, [], _, h => h.elim
/-- what is asked of the table of kinds -/
structure KindsOk (E : Env) (code : TypeId → Option TC) (kinds : TC → List Kd) (d : Nat) : Prop where
  codeOk : ∀ e t, code e = some t → E.eid t = e
  kdsOk : ∀ t, kds E.P code d (E.eid t) = some (kinds t)
  dec : ∀ t l, Kinded (kinds t) l → ∃ y, dec t l = some y
  cells : ∀ t, E.P.cellsOf (E.eid t) = t.width
theorem rows_open [CodingOk] {t : TC} {N : Nat} (hel : ∀ cs x, DataW.trod enc' E.P w 0 spare true N (E.eid t) cs = some x → ∃ y : El t, RL E w NoF (enc .v t y) cs (fun _ => 0) ∧ ∀ c ∈ enc .v t y, Good c) {b o : Nat} (hW : E.P.cellsOf (E.eid t) = t.width) :
    ∀ len, (∀ i, i < len → ∃ cs x, w.cells? 0 ((⟨b, o, none⟩ : Addr).add (i * E.P.cellsOf (E.eid t))) (E.P.cellsOf (E.eid t)) = some cs ∧ DataW.trod enc' E.P w 0 spare true N (E.eid t) cs = some x) →
    ∃ (xs : List (El t)) (vals : List Value), xs.length = len ∧ vals.length = len * t.width ∧ RL E w NoF (encRows .v t xs) vals (fun _ => 0) ∧ w.rangeAt b o vals ∧ ∀ x ∈ xs, ∀ c ∈ enc .v t x, Good c
  | 0, _ => ⟨[], [], rfl, by simp, RL.nil (fun _ => 0) fun _ => rfl, fun j v h => by simp at h, fun x hx => by cases hx⟩
  | len + 1, h => by
    obtain ⟨xs, vals, h1, h2, h3, h4, h5⟩ := rows_open hel hW len fun i hi => h i (by omega)
    obtain ⟨cs, x, k1, k2⟩ := h len (Nat.lt_succ_self _)
    obtain ⟨y, j1, j2⟩ := hel cs x k2
    obtain ⟨_, hl, hc⟩ := World.cells?_some k1
    rw [hW] at hl hc
    refine ⟨xs ++ [y], vals ++ cs, by simp [h1], by rw [List.length_append, h2, hl]; exact (Nat.succ_mul _ _).symm, ?_, fun j v hj => ?_, fun x hx => ?_⟩
    · rw [encRows_append]
      refine RL.append h3 (φ' := fun _ => 0) ?_ (fun b => rfl)
      simpa [encRows] using j1
    · by_cases hlt : j < vals.length
      · rw [List.getElem?_append_left hlt] at hj
        exact h4 j v hj
      · rw [List.getElem?_append_right (by omega)] at hj
        have hjl : j - vals.length < t.width := by rw [← hl]; exact (List.getElem?_eq_some_iff.1 hj).1
        have := hc (j - vals.length) hjl
        rw [Addr.add_mid, Addr.add_mid, hj] at this
        rw [← this]
        congr 2
        omega
    · rcases List.mem_append.1 hx with hx | hx
      · exact h5 x hx
      · rw [List.mem_singleton] at hx; subst hx; exact j2
theorem cell_open [CodingOk] {code : TypeId → Option TC} {kinds : TC → List Kd} {d : Nat} (hk : KindsOk E code kinds d) {F : Nat} (ih : ∀ N, N < F → ∀ t cs x, DataW.trod enc' E.P w 0 spare true N (E.eid t) cs = some x → ∃ y : El t, RL E w NoF (enc .v t y) cs (fun _ => 0) ∧ ∀ c ∈ enc .v t y, Good c) {k : Kd} {v : Value} (h : CellOk enc' E.P w spare E.eid F k v) :
    ∃ a, KindOk k a ∧ RL E w NoF [a] [v] (fun _ => 0) ∧ Good a := by
  cases k with
  | i k => obtain ⟨n, rfl, hw⟩ := h; exact ⟨.i k n, ⟨n, rfl⟩, .scal _ _ _ _ _ rfl (.nil _ fun _ => rfl), .i _ _ hw⟩
  | b => obtain ⟨q, rfl⟩ := h; exact ⟨.b q, ⟨q, rfl⟩, .scal _ _ _ _ _ rfl (.nil _ fun _ => rfl), .b _⟩
  | s =>
    obtain ⟨s, rfl, hs⟩ := h
    refine ⟨.s s.data.toList, ⟨_, rfl⟩, .scal _ _ _ _ _ ?_ (.nil _ fun _ => rfl), .s _ ?_⟩
    · show Value.string s = .string ⟨s.data.toList.toArray⟩
      simp
    · rw [Array.length_toList]; exact hs
  | sl t =>
    rcases h with rfl | ⟨a, len, cap, N, rfl, hl, hm, hN, hel⟩
    · exact ⟨.sl .v t [], ⟨_, rfl⟩, .view t [] none 0 0 [] (fun _ => 0) _ _ _ ⟨rfl, Nat.le_refl _⟩ (.nil _ fun _ => rfl) (fun _ => rfl) (fun hp => by omega) (.nil _ fun _ => rfl), .sl _ _ (Nat.zero_le _) (fun x hx => by cases hx)⟩
    · cases len with
      | zero => exact ⟨.sl .v t [], ⟨_, rfl⟩, .view t [] (some a) 0 cap [] (fun _ => 0) _ _ _ ⟨rfl, hl⟩ (.nil _ fun _ => rfl) (fun _ => rfl) (fun hp => by omega) (.nil _ fun _ => rfl), .sl _ _ (Nat.zero_le _) (fun x hx => by cases hx)⟩
      | succ len =>
        have hW := hk.cells t
        have hpos : 0 < t.width := CodingOk.pos t
        obtain ⟨cs0, x0, k1, _⟩ := hel 0 (Nat.succ_pos _)
        obtain ⟨_, hl0, hc0⟩ := World.cells?_some k1
        have hcell := hc0 0 (by rw [hW]; exact hpos)
        rw [List.getElem?_eq_getElem (by rw [hl0, hW]; exact hpos)] at hcell
        have ha : a.spot = none := by
          have h0 : (a.add (0 * E.P.cellsOf (E.eid t))).add 0 = a := by simp [Addr.add]
          rw [h0] at hcell
          unfold World.cell? at hcell
          split at hcell
          · cases hs : a.spot with
            | none => rfl
            | some q => simp [hs] at hcell
          · cases hcell
        obtain ⟨b, o, sp⟩ := a
        simp only at ha
        subst ha
        have hb : b < w.heap.size := World.cells?_block k1 (by rw [hW]; exact hpos) |> fun h => by simpa [Addr.add] using h
        obtain ⟨xs, vals, e1, e2, e3, e4, e5⟩ := rows_open (ih N hN t) hW (len + 1) hel
        refine ⟨.sl .v t xs, ⟨_, rfl⟩, ?_, .sl _ _ (by omega) e5⟩
        exact .view t xs (some ⟨b, o, none⟩) (len + 1) cap vals (fun _ => 0) _ _ _ ⟨e1.symm, hl⟩ e3 (fun _ => rfl) (fun _ => ⟨b, o, rfl, e4, hb, fun h => h⟩) (.nil _ fun _ => rfl)
theorem cells_open [CodingOk] {code : TypeId → Option TC} {kinds : TC → List Kd} {d : Nat} (hk : KindsOk E code kinds d) {F : Nat} (ih : ∀ N, N < F → ∀ t cs x, DataW.trod enc' E.P w 0 spare true N (E.eid t) cs = some x → ∃ y : El t, RL E w NoF (enc .v t y) cs (fun _ => 0) ∧ ∀ c ∈ enc .v t y, Good c) :
    ∀ {ks : List Kd} {vs : List Value}, CellsOk enc' E.P w spare E.eid F ks vs → ∃ l, Kinded ks l ∧ RL E w NoF l vs (fun _ => 0) ∧ ∀ c ∈ l, Good c
  | [], [], _ => ⟨[], trivial, .nil _ fun _ => rfl, fun c hc => by cases hc⟩
  | k :: ks, v :: vs, h => by
    obtain ⟨a, h1, h2, h3⟩ := cell_open hk ih h.1
    obtain ⟨l, k1, k2, k3⟩ := cells_open hk ih h.2
    refine ⟨a :: l, ⟨h1, k1⟩, RL.cons h2 k2 (fun b => rfl), fun c hc => ?_⟩
    rcases List.mem_cons.1 hc with rfl | hc
    · exact h3
    · exact k3 c hc
  | [], _ :: _, h => h.elim
  | _ :: _, [], h => h.elim
theorem el_open [CodingOk] {code : TypeId → Option TC} {kinds : TC → List Kd} {d : Nat} (hk : KindsOk E code kinds d) : ∀ (F : Nat) (t : TC) (cs : List Value) (x : DataW H × List MemPlace), DataW.trod enc' E.P w 0 spare true F (E.eid t) cs = some x →
    ∃ y : El t, RL E w NoF (enc .v t y) cs (fun _ => 0) ∧ ∀ c ∈ enc .v t y, Good c := by
  intro F
  induction F using Nat.strongRecOn with
  | _ F ih =>
    intro t cs x h
    have h1 := trod_kds hk.codeOk d F _ _ _ _ (hk.kdsOk t) h
    obtain ⟨l, h2, h3, h4⟩ := cells_open hk ih h1
    obtain ⟨y, hy⟩ := hk.dec t l h2
    have h5 := CodingOk.dec .v t l y hy
    have h6 := sims_kinded h2 h5
    exact ⟨y, by rw [h6]; exact h3, by rw [h6]; exact h4⟩
/-- an argument of any of the types -/
theorem arg_open [CodingOk] {code : TypeId → Option TC} {kinds : TC → List Kd} {d : Nat} (hk : KindsOk E code kinds d) {T : TypeId} {ks : List Kd} (hT : kds E.P code d T = some ks) {v : Value} {dd : DataW H} {ps : List MemPlace} (h : DataW.Trod enc' E.P w 0 spare true T v dd ps) :
    ∃ l, Kinded ks l ∧ RL E w NoF l v.cells.toList (fun _ => 0) ∧ ∀ c ∈ l, Good c := by
  obtain ⟨F, hF⟩ := h
  exact cells_open hk (fun N _ => el_open hk N) (trod_kds hk.codeOk d F T ks _ _ hT hF)
end Go.Pi
end
